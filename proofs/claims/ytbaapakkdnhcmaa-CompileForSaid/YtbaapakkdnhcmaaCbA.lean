/- image.Sum: its walk. Helper text. -/
import Derived.Test.YtbaapakkdnhcmaaCbWrd
import Derived.BigQuiet
import Derived.Laws.CopyOwn
namespace Go.Proofs.Ytbaapakkdnhcmaa.PWe
open Go.RowKit Go.Proofs.Ytbaapakkdnhcmaa.Kx Go.Proofs.YtbaapakkdnhcmaaW.PrintWords Go.Proofs.YtbaapakkdnhcmaaW.PrintLast Go.Proofs.YtbaapakkdnhcmaaW.PrintMore
set_option linter.unusedVariables false
set_option linter.unusedSimpArgs false

theorem crc_take {s : Nat} {l : List Int} {i : Nat} (hi : i < l.length) : crcL s (l.take (i + 1)) = crcC (crcL s (l.take i)) l[i] := by
  unfold crcL
  rw [List.take_succ_eq_append_getElem hi, List.foldl_append, List.foldl_cons, List.foldl_nil]
theorem bit_top {s : Nat} (hs : s < 65536) : s.testBit 15 = decide (32768 ≤ s) := by
  rw [Nat.testBit_eq_decide_div_mod_eq]
  exact decide_eq_decide.2 (by omega)
theorem and_top {s : Nat} (hs : s < 65536) : s &&& 32768 = if 32768 ≤ s then 32768 else 0 := by
  apply Nat.eq_of_testBit_eq
  intro i
  rw [Nat.testBit_and, show (32768 : Nat) = 2 ^ 15 from rfl, Nat.testBit_two_pow]
  have h := bit_top hs
  by_cases hi : 15 = i
  · subst hi
    rw [h]
    by_cases ht : 32768 ≤ s
    · rw [if_pos (by omega), Nat.testBit_two_pow]; simp [ht]
    · rw [if_neg (by omega)]; simp [ht]
  · split
    · rw [Nat.testBit_two_pow]; simp [hi]
    · simp [hi]
set_option maxHeartbeats 4000000 in
set_option maxRecDepth 100000 in
theorem sum_calls (gl : Nat) (A : Option Addr) (c : Nat) (l : List Int) (w : World) (hg : w.cell? ⟨gl, 0, none⟩ = some (.slice A l.length c)) (hr : Kd.C (Kd.int .u8) w A l.length l) (hb : Byts l) :
    Calls Try.prog 43 #[.slice (some ⟨gl, 0, none⟩) 1 1] w fun e w' => e = .returned (.int .u16 (crcL 65535 l : Int)) ∧ w' = w := by
  have HR := Aside0.mk hr
  have HBY := Aside0.mk hb
  have hm : l.length ≤ 9223372036854775807 := hr.2.1
  clear hr hb
  go_enter Try.func43, Try.ntmps43
  go_wp2_with fail
  go_loopw [3, 11] (fun v3 v11 wr => ∃ j : Nat, j ≤ 1 ∧ v11 = .int .i64 (j : Int) ∧ v3 = .int .u16 ((if j = 0 then 65535 else crcL 65535 l : Nat) : Int) ∧ wr = w) (fun _ v11 _ => (1 - intOf v11).toNat)
  case atStart => exact ⟨0, by omega, rfl, rfl, rfl⟩
  case round =>
    obtain ⟨j, hj, rfl, rfl, hw⟩ := hrel
    obtain rfl := hw.symm
    rcases (by omega : j = 0 ∨ j = 1) with rfl | rfl
    · go_wp2_with fail
      go_loopw [3, 17] (fun v3 v17 wr => ∃ i : Nat, i ≤ l.length ∧ v17 = .int .i64 (i : Int) ∧ v3 = .int .u16 ((crcL 65535 (l.take i) : Nat) : Int) ∧ wr = w) (fun _ v17 _ => ((l.length : Int) - intOf v17).toNat)
      case atStart => exact ⟨0, Nat.zero_le _, rfl, rfl, rfl⟩
      case round =>
        obtain ⟨i, hi, rfl, rfl, hw⟩ := hrel
        obtain rfl := hw.symm
        by_cases hlt : i < l.length
        · have m1 : decide ((i : Int) < (l.length : Int)) = true := decide_eq_true (by omega)
          have m2 : decide (i < l.length) = true := decide_eq_true hlt
          have q1 : (0 ≤ (i : Int)) = True := eq_true (by omega)
          have q2 : ((i : Int) < (l.length : Int)) = True := eq_true (by omega)
          have q3 : (i < l.length) = True := eq_true hlt
          obtain ⟨x, hx⟩ : ∃ x, l[i] = x := ⟨_, rfl⟩
          obtain ⟨ad, hA, x0⟩ := int_at HR.out hlt hlt hx
          have hbx := HBY.out x (by rw [← hx]; exact List.getElem_mem hlt)
          obtain ⟨b, hb⟩ := Int.eq_ofNat_of_zero_le hbx.1
          subst hb
          have hT := crc_take (s := 65535) hlt
          rw [hx] at hT
          obtain ⟨S, hS⟩ : ∃ S, crcL 65535 (l.take i) = S := ⟨_, rfl⟩
          have hS16 : S < 65536 := by rw [← hS]; exact crcL_lt _ _ (by omega) (fun c hc => HBY.out c (List.mem_of_mem_take hc))
          rw [hS] at hT
          rw [hS]
          subst hA
          have HT := Aside0.mk hT
          clear hT hS hx
          go_wp2_with fail
          have X : Go.bits .xor .u16 (S : Int) ((b : Int) * 256) = ((S ^^^ (b * 256) : Nat) : Int) := by
            have h := Go.u16_xor_nat S (b * 256) hS16 (by omega)
            rw [Int.natCast_mul] at h
            exact h
          rw [X]
          have hS2 : S ^^^ (b * 256) < 65536 := Nat.xor_lt_two_pow (n := 16) hS16 (by omega)
          have HN : Aside0 (crcN 8 (S ^^^ (b * 256)) = crcL 65535 (l.take (i + 1))) := ⟨by rw [HT.out]; rfl⟩
          obtain ⟨S2, hS2'⟩ : ∃ x, S ^^^ (b * 256) = x := ⟨_, rfl⟩
          rw [hS2'] at HN hS2 ⊢
          clear X hS2' HT hS16 hbx m1 m2 q1 q2 q3 x0
          go_loopw [3, 26] (fun v3 v26 wr => ∃ k s : Nat, k ≤ 8 ∧ v26 = .int .i64 (k : Int) ∧ v3 = .int .u16 (s : Int) ∧ s < 65536 ∧ crcN (8 - k) s = crcL 65535 (l.take (i + 1)) ∧ wr = w) (fun _ v26 _ => (8 - intOf v26).toNat)
          case atStart => exact ⟨0, S2, by omega, rfl, rfl, hS2, HN.out, rfl⟩
          case round =>
            clear HN hS2
            obtain ⟨k, s, hk, rfl, rfl, hs, hn, hw⟩ := hrel
            obtain rfl := hw.symm
            have HN := Aside0.mk hn
            clear hn
            by_cases hk8 : k < 8
            · have m1 : decide ((k : Int) < 8) = true := decide_eq_true (by omega)
              have m2 : decide (k < 8) = true := decide_eq_true hk8
              have HN2 : Aside0 (crcN (8 - (k + 1)) (crcB s) = crcL 65535 (l.take (i + 1))) := ⟨by
                rw [← HN.out, show 8 - k = (8 - (k + 1)) + 1 by omega]
                rfl⟩
              have Y := Go.u16_and_nat s 32768 hs (by omega)
              have e15 := and_top hs
              by_cases htop : 32768 ≤ s
              · rw [if_pos htop] at e15
                have Y2 : Go.bits .and .u16 (s : Int) 32768 = 32768 := by
                  refine Y.trans ?_
                  rw [e15]
                  rfl
                have Z : Go.bits .xor .u16 (IntKind.u16.wrap ((s : Int) * 2)) 4129 = ((crcB s : Nat) : Int) := by
                  rw [Go.IntKind.wrap_u16]
                  have h := Go.u16_xor_nat (s * 2 % 65536) 4129 (by omega) (by omega)
                  unfold crcB
                  rw [if_pos htop]
                  exact h
                clear Y e15
                go_wp2_with fail
                exact ⟨⟨k + 1, crcB s, by omega, by rw [Int.natCast_add]; rfl, by rw [← Z], crcB_lt s, HN2.out, by trivial⟩, by simp [intOf]; omega⟩
              · rw [if_neg htop] at e15
                have Y2 : Go.bits .and .u16 (s : Int) 32768 = 0 := by
                  refine Y.trans ?_
                  rw [e15]
                  rfl
                have Z : IntKind.u16.wrap ((s : Int) * 2) = ((crcB s : Nat) : Int) := by
                  rw [Go.IntKind.wrap_u16]
                  unfold crcB
                  rw [if_neg htop]
                  rfl
                clear Y e15
                go_wp2_with fail
                exact ⟨⟨k + 1, crcB s, by omega, by rw [Int.natCast_add]; rfl, by rw [← Z], crcB_lt s, HN2.out, by trivial⟩, by simp [intOf]; omega⟩
            · have m1 : decide ((k : Int) < 8) = false := decide_eq_false (by omega)
              have m2 : decide (k < 8) = false := decide_eq_false hk8
              obtain rfl : k = 8 := by omega
              have hT : s = crcL 65535 (l.take (i + 1)) := HN.out
              clear HN hk8
              go_wp2_with fail
              exact ⟨⟨i + 1, by omega, by rw [Int.natCast_add]; rfl, by rw [hT], by trivial⟩, by simp [intOf]; omega⟩
        · have m1 : decide ((i : Int) < (l.length : Int)) = false := decide_eq_false (by omega)
          have m2 : decide (i < l.length) = false := decide_eq_false hlt
          have hT : l.take i = l := List.take_of_length_le (by omega)
          rw [hT]
          clear hlt hT
          go_wp2_with fail
          exact ⟨⟨1, by omega, rfl, rfl, by trivial⟩, by simp [intOf]⟩
    · go_wp2_with fail
      go_ret
      exact ⟨rfl, rfl⟩
end Go.Proofs.Ytbaapakkdnhcmaa.PWe
namespace Go.Proofs.Ytbaapakkdnhcmaa.PWe
open Go.RowKit Go.Proofs.Ytbaapakkdnhcmaa.Kx Go.Proofs.YtbaapakkdnhcmaaW.PrintWords Go.Proofs.YtbaapakkdnhcmaaW.PrintLast Go.Proofs.YtbaapakkdnhcmaaW.PrintMore
set_option linter.unusedVariables false
set_option linter.unusedSimpArgs false

set_option maxHeartbeats 1000000 in
set_option maxRecDepth 100000 in
theorem two_calls (wb : World) (v : Value) (xs : List Int) (n : Int) (w : World) (hO : Kd.R (Kd.int .u8) 5 w wb.heap.size (fun _ => True) v xs) (hB : Below wb.heap.size wb w) (hl : xs.length ≤ 100000) :
    Calls Try.prog 42 #[v, .int .i64 n] w fun e w' => ∃ v', e = .returned v' ∧ Kd.R (Kd.int .u8) 5 w' wb.heap.size (fun _ => True) v' (xs ++ b2 n) ∧ Below wb.heap.size wb w' ∧ ∀ b, b < w.heap.size → some b ≠ v.ownBlock → w'.heap[b]? = w.heap[b]? := by
  have HO := Aside0.mk hO
  have HB := Aside0.mk hB
  obtain ⟨A, c, hv⟩ := Kd.R_slice hO
  subst hv
  have hX : IntKind.u8.wrap (n / 256) = n / 256 % 256 := Go.IntKind.wrap_u8' _
  have hY : IntKind.u8.wrap n = n % 256 := Go.IntKind.wrap_u8' _
  obtain ⟨X, hX'⟩ : ∃ x, n / 256 % 256 = x := ⟨_, rfl⟩
  obtain ⟨Y, hY'⟩ : ∃ x, n % 256 = x := ⟨_, rfl⟩
  have hb2 : b2 n = [X, Y] := by unfold b2; rw [hX', hY']
  rw [hX'] at hX
  rw [hY'] at hY
  rw [hb2]
  clear hO hB hb2 hX' hY'
  go_enter Try.func42, Try.ntmps42
  go_wp2_with (first | ((with_reducible refine gate_dst (N := 11) rfl ?_); refine litN (w := wb) (Kd.int .u8) 5 rfl (N := 11) rfl (xs := ([X, Y] : List Int)) (inner := [.int .u8 X, .int .u8 Y]) (by first | (go_simp; done) | (go_simp; rfl)) (Reps.one (show Kd.M (Kd.int .u8) _ _ _ X [.int .u8 X] from rfl) (Reps.one (show Kd.M (Kd.int .u8) _ _ _ Y [.int .u8 Y] from rfl) (Reps.none _ _))) HB (by simp) ?_; intro va Wa Ha HB_Wa K_Wa; obtain ⟨Aa, ca, ea⟩ := Kd.R_slice Ha.out; subst ea; have Ra := Aside0.mk (Kd.R_reads' Ha.out).2.2; have HOa := Aside0.mk (Kd.R_below HO.out K_Wa.out)) | ((with_reducible refine gate_builtin (b := .append) (xs := #[.tmp 5, .tmp 11]) rfl ?_); at_builtin; refine Kd.R_append_rows (Kd.int .u8) (w0 := wb) wb.heap.size rfl (.tmp 5) (.tmp 11) 23 5 (.int .u8 0) 1 rfl Try.underlying23 info5 rfl (by decide) (by decide) _ xs [X, Y] Aa _ ca (fun _ => True) (fun _ => False) rfl rfl HOa.out Ra.out (fun _ _ h => h) (fun _ h => h.elim) (fun _ _ => trivial) HB_Wa.out (below_size HB_Wa.out) (by simp; omega) ?_; intro v1 W1 h1 hb1 hg1 _; have HX := Aside0.mk (fun b (hb : b < w.heap.size) (hn : some b ≠ (Value.slice A xs.length c).ownBlock) => (hg1.block b (Nat.lt_of_lt_of_le hb (below_size K_Wa.out)) hn).trans (K_Wa.out.block b hb)); clear hg1))
  go_ret
  exact ⟨v1, rfl, h1, hb1, HX.out⟩
end Go.Proofs.Ytbaapakkdnhcmaa.PWe
namespace Go.Proofs.Ytbaapakkdnhcmaa.PWe
open Go.RowKit Go.Proofs.Ytbaapakkdnhcmaa.Kx Go.Proofs.YtbaapakkdnhcmaaW.PrintWords Go.Proofs.YtbaapakkdnhcmaaW.PrintLast Go.Proofs.YtbaapakkdnhcmaaW.PrintMore
set_option linter.unusedVariables false
set_option linter.unusedSimpArgs false

theorem w64_in (n : Int) (h : -9223372036854775808 ≤ n ∧ n ≤ 9223372036854775807) : wrap64 n = n := by unfold wrap64; omega
theorem or_i64 (a b : Nat) (ha : a < 2 ^ 62) (hb : b < 2 ^ 62) : Go.bits .or .i64 (a : Int) (b : Int) = ((a ||| b : Nat) : Int) := by
  have hx : a ||| b < 2 ^ 62 := Nat.or_lt_two_pow ha hb
  have e : ∀ n : Nat, n < 2 ^ 62 → (BitVec.ofInt 64 (n : Int)).toNat = n := fun n hn => by
    rw [BitVec.ofInt_natCast, BitVec.toNat_ofNat]
    exact Nat.mod_eq_of_lt (by omega)
  show IntKind.i64.wrap ((BitVec.ofInt 64 (a : Int) ||| BitVec.ofInt 64 (b : Int)).toNat : Int) = _
  rw [BitVec.toNat_or, e a ha, e b hb, i64_w, w64_in _ (by omega)]
theorem or_two (X Y : Nat) (hx : X < 256) (hy : Y < 256) : Go.bits .or .i64 ((X : Int) * 256) (Y : Int) = (X : Int) * 256 + (Y : Int) := by
  have h := or_i64 (X * 256) Y (by omega) (by omega)
  have h2 : X * 256 ||| Y = X * 256 + Y := by
    have := Nat.two_pow_add_eq_or_of_lt (i := 8) hy X
    rw [Nat.mul_comm X 256]
    exact this.symm
  rw [h2, Int.natCast_mul, Int.natCast_add, Int.natCast_mul] at h
  exact h
set_option maxHeartbeats 1000000 in
theorem of_calls (A : Option Addr) (c : Nat) (l : List Int) (w : World) (hr : Kd.C (Kd.int .u8) w A l.length l) (h2 : 2 ≤ l.length) (hb : Byts l) :
    Calls Try.prog 83 #[.slice A l.length c] w fun e w' => e = .returned (.int .i64 (of2 l 0)) ∧ Below w.heap.size w w' := by
  obtain ⟨x, hx⟩ : ∃ x, l[0] = x := ⟨_, rfl⟩
  obtain ⟨y, hy⟩ : ∃ y, l[1] = y := ⟨_, rfl⟩
  obtain ⟨ad, hA, x0⟩ := int_at hr (by omega) (by omega) hx
  obtain ⟨ad', hA', x1⟩ := int_at hr (by omega) (by omega) hy
  subst hA
  obtain rfl := Option.some.inj hA'
  have hbx := hb x (by rw [← hx]; exact List.getElem_mem _)
  have hby := hb y (by rw [← hy]; exact List.getElem_mem _)
  have hv : of2 l 0 = x * 256 + y := by
    unfold of2 at_
    rw [List.getD_eq_getElem?_getD, List.getD_eq_getElem?_getD, List.getElem?_eq_getElem (by omega), List.getElem?_eq_getElem (by omega)]
    rw [← hx, ← hy]; rfl
  rw [hv]
  have q2 : ((1 : Int) < (l.length : Int)) = True := eq_true (by omega)
  have q3 : (1 < l.length) = True := eq_true (by omega)
  have q4 : ((0 : Int) < (l.length : Int)) = True := eq_true (by omega)
  have q5 : (0 < l.length) = True := eq_true (by omega)
  obtain ⟨X, rfl⟩ := Int.eq_ofNat_of_zero_le hbx.1
  obtain ⟨Y, rfl⟩ := Int.eq_ofNat_of_zero_le hby.1
  obtain ⟨R, hR⟩ : ∃ R, (X : Int) * 256 + (Y : Int) = R := ⟨_, rfl⟩
  rw [hR]
  have HRR := Aside0.mk hR
  simp only [Addr.add_zero'] at x0
  have x1' : w.cell? ⟨ad.block, ad.off + 1, none⟩ = some (.int .u8 (Y : Int)) := by
    have h := add_field ad 0 1 (by omega)
    rw [Addr.add_zero'] at h
    rw [← h]
    exact x1
  have hfin := or_two X Y (by omega) (by omega)
  have HFIN := Aside0.mk hfin
  clear hv hR hx hy hr hb hfin x1
  go_enter Try.func83, Try.ntmps83
  go_wp2_with fail
  go_quiet (fail)
  go_wp2_with fail
  go_ret
  exact ⟨congrArg (fun z => Ending.returned (.int .i64 z)) (HFIN.out.trans HRR.out), below_drewN (Below.refl _ _) _⟩
end Go.Proofs.Ytbaapakkdnhcmaa.PWe
namespace Go.Proofs.Ytbaapakkdnhcmaa.PWe
open Go.RowKit Go.Proofs.Ytbaapakkdnhcmaa.Kx Go.Proofs.YtbaapakkdnhcmaaW.PrintWords Go.Proofs.YtbaapakkdnhcmaaW.PrintLast Go.Proofs.YtbaapakkdnhcmaaW.PrintMore
set_option linter.unusedVariables false
set_option linter.unusedSimpArgs false

/-- Two texts of bytes. -/
def same_ (x y : List Int) : Bool := (Go.strOfNums x).toList == (Go.strOfNums y).toList
set_option maxHeartbeats 1000000 in
theorem equal_calls (A B : Option Addr) (c d : Nat) (x y : List Int) (w : World) (hx : Kd.C (Kd.int .u8) w A x.length x) (hy : Kd.C (Kd.int .u8) w B y.length y) :
    Calls Try.prog 49 #[.slice A x.length c, .slice B y.length d] w fun e w' => e = .returned (.bool (same_ x y)) ∧ w' = w := by
  have c1 := Kd.C_string Try.underlying23 Try.underlying5 Try.underlying9 (c := c) hx
  have c2 := Kd.C_string Try.underlying23 Try.underlying5 Try.underlying9 (c := d) hy
  obtain ⟨s, hs⟩ : ∃ s, Go.strOfNums x = s := ⟨_, rfl⟩
  obtain ⟨t, ht⟩ : ∃ s, Go.strOfNums y = s := ⟨_, rfl⟩
  rw [hs] at c1
  rw [ht] at c2
  unfold same_
  rw [hs, ht]
  clear hs ht hx hy
  go_enter Try.func49, Try.ntmps49
  go_wp2_with fail
  go_ret
  exact ⟨rfl, rfl⟩
theorem same_iff {x y : List Int} (hx : Byts x) (hy : Byts y) : same_ x y = true ↔ x = y := by
  unfold same_
  rw [beq_iff_eq, Go.ByteArray.toList_eq, Go.ByteArray.toList_eq, Go.strOfNums_data, Go.strOfNums_data]
  constructor
  · intro h
    have hl : x.length = y.length := by simpa using congrArg List.length h
    apply List.ext_getElem hl
    intro i h1 h2
    have h3 := congrArg (fun l => l[i]?) h
    simp only [List.getElem?_map, List.getElem?_eq_getElem h1, List.getElem?_eq_getElem h2, Option.map_some, Option.some.injEq] at h3
    have a := hx _ (List.getElem_mem h1)
    have b := hy _ (List.getElem_mem h2)
    have h4 := congrArg UInt8.toNat h3
    simp only [UInt8.toNat_ofNat'] at h4
    omega
  · intro h
    rw [h]
theorem same_two {l : List Int} (hl : Byts l) (h2 : 2 ≤ l.length) : same_ (l.take 2) [84, 49] = decide (at_ l 0 = 84 ∧ at_ l 1 = 49) := by
  match l, h2 with
  | x :: y :: r, _ =>
    have hb : Byts [x, y] := fun c hc => hl c (by
      simp only [List.mem_cons, List.not_mem_nil, or_false] at hc ⊢
      rcases hc with h | h
      · exact .inl h
      · exact .inr (.inl h))
    have hc : Byts [84, 49] := by intro c hc; simp only [List.mem_cons, List.not_mem_nil, or_false] at hc; omega
    have h := same_iff hb hc
    show same_ [x, y] [84, 49] = decide (x = 84 ∧ y = 49)
    rw [Bool.eq_iff_iff, h, decide_eq_true_iff]
    simp
set_option maxHeartbeats 1000000 in
theorem prefix_calls (A B : Option Addr) (c d : Nat) (l : List Int) (w : World) (hx : Kd.C (Kd.int .u8) w A l.length l) (hc : l.length ≤ c) (hy : Kd.C (Kd.int .u8) w B 2 [84, 49]) (h2 : 2 ≤ l.length) (hl : Byts l) :
    Calls Try.prog 84 #[.slice A l.length c, .slice B 2 d] w fun e w' => e = .returned (.bool (decide (at_ l 0 = 84 ∧ at_ l 1 = 49))) ∧ w' = w := by
  have h := equal_calls A B c d (l.take 2) [84, 49] w (Kd.C_take hx h2) hy
  rw [same_two hl h2, show (l.take 2).length = 2 by rw [List.length_take]; omega] at h
  obtain ⟨b, hb⟩ : ∃ b, decide (at_ l 0 = 84 ∧ at_ l 1 = 49) = b := ⟨_, rfl⟩
  rw [hb] at h ⊢
  have HE := Aside0.mk h
  have m1 : decide ((2 : Int) ≤ (l.length : Int)) = true := decide_eq_true (by omega)
  have m2 : decide (2 ≤ l.length) = true := decide_eq_true h2
  have q2 : ((2 : Int) ≤ (c : Int)) = True := eq_true (by omega)
  have q3 : (2 ≤ c) = True := eq_true (by omega)
  clear h hb hx hy hl
  go_enter Try.func84, Try.ntmps84
  go_wp2_with fail
  refine HE.out.mono ?_
  rintro e w1 ⟨rfl, rfl⟩
  go_wp2_with fail
  go_ret
  exact ⟨rfl, rfl⟩
end Go.Proofs.Ytbaapakkdnhcmaa.PWe
namespace Go.Proofs.Ytbaapakkdnhcmaa.PWe
open Go.RowKit Go.Proofs.Ytbaapakkdnhcmaa.Kx Go.Proofs.YtbaapakkdnhcmaaW.PrintWords Go.Proofs.YtbaapakkdnhcmaaW.PrintLast Go.Proofs.YtbaapakkdnhcmaaW.PrintMore
set_option linter.unusedVariables false
set_option linter.unusedSimpArgs false

theorem C_block {w : World} {g : Nat} {t : TypeId} {fr : Nat × Nat} (xs : List Int) (hm : xs.length ≤ 9223372036854775807) (h : w.heap[g]? = some (.cells (xs.map (Value.int .u8)).toArray t fr)) : Kd.C (Kd.int .u8) w (some ⟨g, 0, none⟩) xs.length xs :=
  ⟨rfl, by simpa [maxLen] using hm, fun _ => ⟨⟨g, 0, none⟩, rfl, fun j p hj => ⟨[.int .u8 p], rfl, rfl, fun i u hu => by
    rcases i with _ | i
    · have hu' : Value.int .u8 p = u := Option.some.inj hu
      rw [← hu', Addr.add_lit, cell_in h]
      show (List.map (Value.int .u8) xs).toArray[0 + (j * 1 + 0)]? = _
      rw [List.getElem?_toArray, List.getElem?_map, Nat.mul_one, Nat.zero_add, Nat.add_zero, hj]
      rfl
    · cases hu⟩⟩⟩
section
variable {P : Program} {ops : Array Oper} {Q : Exit → Act → World → Prop} {S : World → Prop} {w : World} {K : Act → World → Prop} {l' : Array Bool} {oi : Oper} {a a' : Act} {fuel : Nat} {M : Option Tmp}
theorem copyE (hK : Shut (∀ a' w', S w' → (S w' → wpAnyLast P .any ops Q S [] fuel l' a' w') → K a' w')) {d s : Operand} {dT sT : TypeId} (e : TypeId) (g N c : Nat) {cur : Array Value} (hg : Aside0 (w.heap[g]? = some (.cells cur e (0, 0)))) (hcur : cur.size = N) (A : Addr) (ys : List Int) (hys : Aside0 (Kd.C (Kd.int .u8) w (some A) N ys))
    (hu : P.underlying dT = some (.slice e)) (hsz : (P.info? e).map (·.size) = some 1)
    (hS : ∀ W2, (∀ b, b ≠ g → W2.heap[b]? = w.heap[b]?) → S W2)
    (h : ∀ W2, Aside0 (W2.heap[g]? = some (.cells (ys.map (Value.int .u8)).toArray e (0, 0))) → Aside0 (∀ b, b ≠ g → W2.heap[b]? = w.heap[b]?) → Aside0 (∀ B w0, B ≤ g → Below B w0 w → Below B w0 W2) → wpAnyLast P .any ops Q S [] fuel l' a' W2)
    (ho : oi.op = .call { callee := .builtin .copy, args := #[d, s], argTypes := #[dT, sT] } := by rfl) (hd : a.eval d = .slice (some ⟨g, 0, none⟩) N N := by rfl) (hs : a.eval s = .slice (some A) N c := by rfl)
    (hw : Region.wanted oi (yielded ops a.tmps) = true := by rfl) (hN : oi.dst = M := by rfl) (ha : a.put M (.int .i64 (N : Int)) = a' := by (simp only [Act.put, List.setIfInBounds_toArray, List.set_cons_zero, List.set_cons_succ]; rfl)) :
    if Region.wanted oi (yielded ops a.tmps) = true then Oper.wp P oi a w K Q else K (a.put M undef) w := by
  rw [if_pos hw]
  have hR := Kd.reads_of_C (enc := Value.int .u8) (d := 0) (h1 := fun _ => rfl) hys.out
  have hm : ys.length = N := hR.1
  have hsrc : ∀ j u, (ys.map (Value.int .u8))[j]? = some u → w.cell? (A.add j) = some u := by
    intro j u hj
    rw [List.getElem?_map] at hj
    cases hy : ys[j]? with
    | none => rw [hy] at hj; cases hj
    | some y =>
      rw [hy] at hj
      have hj' : Value.int .u8 y = u := Option.some.inj hj
      have hlt : j < ys.length := (List.getElem?_eq_some_iff.1 hy).1
      obtain ⟨ad, hA, hc⟩ := hR.2.2 (by omega)
      obtain rfl := Option.some.inj hA
      rw [hc j (by omega), List.getD_eq_getElem?_getD, hy, ← hj']
      rfl
  have hl : (ys.map (Value.int .u8)).length = N := by rw [List.length_map, hm]
  have hr := run_copy_cells (P := P) w dT sT oi.type e g 0 N N A N c (ys.map (Value.int .u8)) hu hsz (by rw [hl]; exact (Nat.min_self N).symm) hsrc
    (fun j hj => by rw [cell_of_row w g _ cur e (0, 0) hg.out]; simp; omega) (fun j _ => blk_frozen hg.out _) (by intro u hu; simp only [List.mem_map] at hu; obtain ⟨q, _, rfl⟩ := hu; rfl)
  obtain ⟨cur', h3, h4, h5⟩ := setCells_row (ys.map (Value.int .u8)) 0 w cur hg.out (by rw [hl]; omega)
  obtain ⟨s1, s2, s3, s4⟩ := setCells_same g (ys.map (Value.int .u8)) 0 w
  have hoth : ∀ b, b ≠ g → (w.setCells g 0 (ys.map (Value.int .u8))).heap[b]? = w.heap[b]? := fun b hb => setCells_far _ _ b hb
  have hcur' : cur' = (ys.map (Value.int .u8)).toArray := by
    apply Array.toList_inj.1
    rw [h5, List.take_zero, List.nil_append, Nat.zero_add, hl, List.drop_of_length_le (by rw [Array.length_toList]; omega), List.append_nil]
  rw [hcur'] at h3
  unfold Oper.wp execOp
  simp only [ho, resolve, invoke, builtin, Sem.run_bind, Sem.run_pure, Result.andThen_ok, List.map_toArray, List.map_cons, List.map_nil, hd, hs, hr]
  rw [hl]
  show K (a.put oi.dst _) _
  rw [hN, show goInt (N : Int) = Value.int .i64 (N : Int) from rfl, ha]
  exact hK.out _ _ (hS _ hoth) fun _ => h _ ⟨h3⟩ ⟨hoth⟩ ⟨fun B w0 hB hb => ⟨s1.trans hb.os, s2.trans hb.tape, s3.trans hb.output, by rw [s4]; exact hb.size, fun k hk => (hoth k (by omega)).trans (hb.block k hk)⟩⟩
end
end Go.Proofs.Ytbaapakkdnhcmaa.PWe
