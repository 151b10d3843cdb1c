/- The reference's has, named, twice, cut, Bits, Window: walks. Helper text. -/
import Derived.Test.YtbaapakkdnhcmaaCcV
import Derived.BigQuiet
namespace Go.Proofs.Ytbaapakkdnhcmaa.PWe
open Go.RowKit Go.Proofs.Ytbaapakkdnhcmaa.Kx Go.Proofs.YtbaapakkdnhcmaaW.PrintWords Go.Proofs.YtbaapakkdnhcmaaW.PrintLast Go.Proofs.YtbaapakkdnhcmaaW.PrintMore
set_option linter.unusedVariables false
set_option linter.unusedSimpArgs false

theorem has_hit {l : List Int} {m : Int} {k : Nat} (hk : k < l.length) (h : l[k] = m) : has_ l m = true := by
  unfold has_
  rw [List.any_eq_true]
  exact ⟨l[k], List.getElem_mem hk, by rw [h]; exact beq_self_eq_true _⟩
theorem any_step {α : Type} {p : α → Bool} {l : List α} {k : Nat} (hk : k < l.length) (h0 : (l.take k).any p = false) (h : p l[k] = false) : (l.take (k + 1)).any p = false := by
  rw [List.take_add_one, List.getElem?_eq_getElem hk, List.any_append, h0]
  simp [h]
theorem any_hit {α : Type} {p : α → Bool} {l : List α} {k : Nat} (hk : k < l.length) (h : p l[k] = true) : l.any p = true := List.any_eq_true.2 ⟨_, List.getElem_mem hk, h⟩
theorem has_mem {l : List Int} {m : Int} : has_ l m = decide (m ∈ l) := by
  unfold has_
  rw [Bool.eq_iff_iff, List.any_eq_true, decide_eq_true_iff]
  constructor
  · rintro ⟨x, hx, he⟩; rw [beq_iff_eq.1 he]; exact hx
  · intro h; exact ⟨m, h, beq_self_eq_true _⟩
set_option maxHeartbeats 1000000 in
theorem rhas_calls (A : Option Addr) (c : Nat) (l : List Int) (m : Int) (w : World) (hr : Kd.C (Kd.int .i64) w A l.length l) :
    Calls Try.prog 90 #[.slice A l.length c, .int .i64 m] w fun e w' => e = .returned (.bool (has_ l m)) ∧ w' = w := by
  have HR := Aside0.mk hr
  have hm : l.length ≤ 9223372036854775807 := hr.2.1
  clear hr
  go_enter Try.func90, Try.ntmps90
  go_wp2_with fail
  go_loopw [5] (fun v5 wr => ∃ k : Nat, k ≤ l.length ∧ v5 = .int .i64 (k : Int) ∧ Aside0 (has_ (l.take k) m = false) ∧ wr = w) (fun v5 _ => ((l.length : Int) - intOf v5).toNat)
  case atStart => exact ⟨0, Nat.zero_le _, rfl, ⟨rfl⟩, rfl⟩
  case round =>
    obtain ⟨k, hk, rfl, HI, rfl⟩ := hrel
    by_cases hlt : k < l.length
    · have m1 : decide ((k : Int) < (l.length : Int)) = true := decide_eq_true (by omega)
      have m2 : decide (k < l.length) = true := decide_eq_true hlt
      have q1 : (0 ≤ (k : Int)) = True := eq_true (by omega)
      have q2 : ((k : Int) < (l.length : Int)) = True := eq_true (by omega)
      have q3 : (k < l.length) = True := eq_true hlt
      obtain ⟨x, hx⟩ : ∃ x, l[k] = x := ⟨_, rfl⟩
      obtain ⟨ad, hA, x0⟩ := int_at HR.out hlt hlt hx
      subst hA
      by_cases hp : (x == m) = true
      · have HH : Aside0 (has_ l m = true) := ⟨has_hit hlt (by rw [hx]; exact beq_iff_eq.1 hp)⟩
        clear hx HI
        go_wp2_with fail
        go_ret
        exact ⟨by rw [HH.out]; rfl, rfl⟩
      · have hq : (x == m) = false := Bool.eq_false_iff.mpr hp
        have HH : Aside0 (has_ (l.take (k + 1)) m = false) := ⟨any_step hlt HI.out (by rw [hx]; rw [beq_eq_false_iff_ne] at hq ⊢; exact Ne.symm hq)⟩
        clear hp hx HI
        go_wp2_with fail
        exact ⟨⟨k + 1, by omega, by rw [Int.natCast_add]; rfl, HH, trivial⟩, by simp [intOf]; omega⟩
    · have m1 : decide ((k : Int) < (l.length : Int)) = false := decide_eq_false (by omega)
      have m2 : decide (k < l.length) = false := decide_eq_false hlt
      have HH : Aside0 (has_ l m = false) := ⟨by have h := HI.out; rwa [List.take_of_length_le (by omega)] at h⟩
      clear hlt HI
      go_wp2_with fail
      go_ret
      exact ⟨by rw [HH.out]; rfl, rfl⟩
set_option maxHeartbeats 1000000 in
theorem rnamed_calls (A : Option Addr) (c : Nat) (l : List Int) (m : Int) (w : World) (hr : Kd.C (Kd.int .i64) w A l.length l) :
    Calls Try.prog 88 #[.slice A l.length c, .int .i64 m] w fun e w' => e = .returned (.bool (namedP l m == 0)) ∧ w' = w := by
  have HR := Aside0.mk hr
  have hm : l.length ≤ 9223372036854775807 := hr.2.1
  clear hr
  go_enter Try.func88, Try.ntmps88
  go_wp2_with fail
  go_loopw [5] (fun v5 wr => ∃ k : Nat, k ≤ l.length ∧ v5 = .int .i64 (k : Int) ∧ Aside0 ((l.take k).any (outP m) = false) ∧ wr = w) (fun v5 _ => ((l.length : Int) - intOf v5).toNat)
  case atStart => exact ⟨0, Nat.zero_le _, rfl, ⟨rfl⟩, rfl⟩
  case round =>
    obtain ⟨k, hk, rfl, HI, rfl⟩ := hrel
    by_cases hlt : k < l.length
    · have m1 : decide ((k : Int) < (l.length : Int)) = true := decide_eq_true (by omega)
      have m2 : decide (k < l.length) = true := decide_eq_true hlt
      have q1 : (0 ≤ (k : Int)) = True := eq_true (by omega)
      have q2 : ((k : Int) < (l.length : Int)) = True := eq_true (by omega)
      have q3 : (k < l.length) = True := eq_true hlt
      obtain ⟨x, hx⟩ : ∃ x, l[k] = x := ⟨_, rfl⟩
      obtain ⟨ad, hA, x0⟩ := int_at HR.out hlt hlt hx
      subst hA
      rcases (by by_cases h : x < 0; exact .inl h; exact .inr h : x < 0 ∨ ¬ x < 0) with h0 | h0
      · have n1 : decide (x < 0) = true := decide_eq_true h0
        have HH : Aside0 ((namedP l m == 0) = false) := ⟨by unfold namedP; rw [if_neg (by omega), if_pos (any_hit hlt (by rw [hx]; unfold outP; rw [n1]; rfl))]; rfl⟩
        clear hx HI h0
        go_wp2_with fail
        go_ret
        exact ⟨by rw [HH.out]; rfl, rfl⟩
      have n1 : decide (x < 0) = false := decide_eq_false h0
      rcases (by by_cases h : m ≤ x; exact .inl h; exact .inr h : m ≤ x ∨ ¬ m ≤ x) with h1 | h1
      · have n2 : decide (m ≤ x) = true := decide_eq_true h1
        have HH : Aside0 ((namedP l m == 0) = false) := ⟨by unfold namedP; rw [if_neg (by omega), if_pos (any_hit hlt (by rw [hx]; unfold outP; rw [n1, n2]; rfl))]; rfl⟩
        clear hx HI h0 h1
        go_wp2_with fail
        go_ret
        exact ⟨by rw [HH.out]; rfl, rfl⟩
      have n2 : decide (m ≤ x) = false := decide_eq_false h1
      have HH : Aside0 ((l.take (k + 1)).any (outP m) = false) := ⟨any_step hlt HI.out (by rw [hx]; unfold outP; rw [n1, n2]; rfl)⟩
      clear hx HI h0 h1
      go_wp2_with fail
      exact ⟨⟨k + 1, by omega, by rw [Int.natCast_add]; rfl, HH, trivial⟩, by simp [intOf]; omega⟩
    · have m1 : decide ((k : Int) < (l.length : Int)) = false := decide_eq_false (by omega)
      have m2 : decide (k < l.length) = false := decide_eq_false hlt
      have ha : l.any (outP m) = false := by have h := HI.out; rwa [List.take_of_length_le (by omega)] at h
      obtain ⟨b, hb⟩ : ∃ b, decide (0 < (l.length : Int)) = b := ⟨_, rfl⟩
      have hb2 : decide (0 < l.length) = b := by rw [← hb]; exact decide_eq_decide.2 (by omega)
      have HH : Aside0 ((namedP l m == 0) = b) := ⟨by
        unfold namedP
        rw [← hb]
        by_cases h : l.length = 0
        · rw [if_pos h, h]; rfl
        · rw [if_neg h, ha, decide_eq_true (by omega)]; rfl⟩
      clear hlt HI ha
      go_wp2_with fail
      go_ret
      exact ⟨by rw [HH.out]; rfl, rfl⟩
theorem twiceP_or : ∀ (l had : List Int), twiceP had l = (l.any (fun x => decide (x ∈ had)) || twiceP [] l) := by
  have key : ∀ (l had : List Int), twiceP had l = true ↔ (∃ x ∈ l, x ∈ had) ∨ ¬ l.Nodup := by
    intro l
    induction l with
    | nil => intro had; simp [twiceP]
    | cons m r ih =>
      intro had
      rw [twiceP, List.nodup_cons]
      by_cases h : m ∈ had
      · rw [if_pos h]
        exact ⟨fun _ => .inl ⟨m, List.mem_cons_self, h⟩, fun _ => rfl⟩
      · rw [if_neg h, ih]
        constructor
        · rintro (⟨x, hx, hh⟩ | hn)
          · rcases List.mem_append.1 hh with h1 | h1
            · exact .inl ⟨x, List.mem_cons_of_mem _ hx, h1⟩
            · rw [List.mem_singleton.1 h1] at hx
              exact .inr (fun hc => hc.1 hx)
          · exact .inr (fun hc => hn hc.2)
        · rintro (⟨x, hx, hh⟩ | hn)
          · rcases List.mem_cons.1 hx with rfl | hx
            · exact absurd hh h
            · exact .inl ⟨x, hx, List.mem_append_left _ hh⟩
          · by_cases hr : r.Nodup
            · exact .inl ⟨m, Classical.byContradiction fun hc => hn ⟨hc, hr⟩, List.mem_append_right _ List.mem_cons_self⟩
            · exact .inr hr
  intro l had
  rw [Bool.eq_iff_iff, key, Bool.or_eq_true, key, List.any_eq_true]
  constructor
  · rintro (⟨x, hx, hh⟩ | hn)
    · exact .inl ⟨x, hx, decide_eq_true hh⟩
    · exact .inr (.inr hn)
  · rintro (⟨x, hx, hh⟩ | ⟨x, _, hh⟩ | hn)
    · exact .inl ⟨x, hx, of_decide_eq_true hh⟩
    · cases hh
    · exact .inr hn
set_option maxHeartbeats 1000000 in
theorem rtwice_calls (A : Option Addr) (c : Nat) (l : List Int) (w : World) (hr : Kd.C (Kd.int .i64) w A l.length l) (hc : l.length ≤ c) {r : Bool} (hR : twiceP [] l = r) :
    Calls Try.prog 89 #[.slice A l.length c] w fun e w' => e = .returned (.bool r) ∧ Below w.heap.size w w' := by
  have HR := Aside0.mk hr
  have HRR := Aside0.mk hR
  have hm : l.length ≤ 9223372036854775807 := hr.2.1
  clear hr hR
  go_enter Try.func89, Try.ntmps89
  go_wp2_with fail
  go_loopw [3] (fun v3 wr => ∃ k : Nat, k ≤ l.length ∧ v3 = .int .i64 (k : Int) ∧ Aside0 (twiceP (l.take k) (l.drop k) = r) ∧ Below w.heap.size w wr) (fun v3 _ => ((l.length : Int) - intOf v3).toNat)
  case atStart => exact ⟨0, Nat.zero_le _, rfl, ⟨HRR.out⟩, Below.refl _ _⟩
  case round =>
    obtain ⟨k, hk, rfl, HI, hb⟩ := hrel
    have HBr := Aside0.mk hb
    have HRr := Aside0.mk (Kd.C_below HR.out hb)
    clear hb
    by_cases hlt : k < l.length
    · have m1 : decide ((k : Int) < (l.length : Int)) = true := decide_eq_true (by omega)
      have m2 : decide (k < l.length) = true := decide_eq_true hlt
      have q1 : (0 ≤ (k : Int)) = True := eq_true (by omega)
      have q2 : ((k : Int) < (l.length : Int)) = True := eq_true (by omega)
      have q3 : (k < l.length) = True := eq_true hlt
      have q4 : ((k : Int) ≤ (c : Int)) = True := eq_true (by omega)
      have q5 : (k ≤ c) = True := eq_true (by omega)
      obtain ⟨x, hx⟩ : ∃ x, l[k] = x := ⟨_, rfl⟩
      obtain ⟨ad, hA, x0⟩ := int_at HRr.out hlt hlt hx
      subst hA
      have HI2 : Aside0 ((if x ∈ l.take k then true else twiceP (l.take (k + 1)) (l.drop (k + 1))) = r) := ⟨by
        have h := HI.out
        rw [List.drop_eq_getElem_cons hlt, hx, twiceP] at h
        rw [List.take_add_one, List.getElem?_eq_getElem hlt, hx]
        exact h⟩
      obtain ⟨b, hbb⟩ : ∃ b, has_ (l.take k) x = b := ⟨_, rfl⟩
      have HBB := Aside0.mk hbb
      have HCL : Aside0 (∀ n, Calls Try.prog 90 #[.slice (some ad) k c, .int .i64 x] (wr.drewN n) fun e w' => e = .returned (.bool b) ∧ w' = wr.drewN n) := ⟨fun n => by
        have h := rhas_calls (some ad) c (l.take k) x (wr.drewN n) (Kd.C_below (Kd.C_take HRr.out (by omega)) (below_drewN (Below.refl _ _) n))
        rw [List.length_take, Nat.min_eq_left (by omega), hbb] at h
        exact h⟩
      clear hx HI hbb
      go_wp2_with fail
      go_quiet ((go_at_call 90; exact Calls.quiet_of_same (HCL.out _)))
      have HBn := Aside0.mk (below_drewN HBr.out nq)
      cases b
      · have HH : Aside0 (twiceP (l.take (k + 1)) (l.drop (k + 1)) = r) := ⟨by rw [← HI2.out, if_neg (by have h := HBB.out; rw [has_mem] at h; exact of_decide_eq_false h)]⟩
        go_wp2_with fail
        exact ⟨⟨k + 1, by omega, by rw [Int.natCast_add]; rfl, HH, HBn.out⟩, by simp [intOf]; omega⟩
      · have e0 : true = r := by rw [← HI2.out, if_pos (by have h := HBB.out; rw [has_mem] at h; exact of_decide_eq_true h)]
        subst e0
        go_wp2_with fail
        go_ret
        exact ⟨rfl, HBn.out⟩
    · have m1 : decide ((k : Int) < (l.length : Int)) = false := decide_eq_false (by omega)
      have m2 : decide (k < l.length) = false := decide_eq_false hlt
      have e0 : r = false := by rw [← HI.out, List.drop_eq_nil_of_le (by omega)]; rfl
      subst e0
      clear hlt HI
      go_wp2_with fail
      go_ret
      exact ⟨rfl, HBr.out⟩
end Go.Proofs.Ytbaapakkdnhcmaa.PWe
namespace Go.Proofs.Ytbaapakkdnhcmaa.PWe
open Go.RowKit Go.Proofs.Ytbaapakkdnhcmaa.Kx Go.Proofs.YtbaapakkdnhcmaaW.PrintWords Go.Proofs.YtbaapakkdnhcmaaW.PrintLast Go.Proofs.YtbaapakkdnhcmaaW.PrintMore
set_option linter.unusedVariables false
set_option linter.unusedSimpArgs false
section
attribute [local go_sem] max2_int min2_int max_two min_two
theorem rcut_calls (a m : Int) (w : World) {r : Int} (hr : mx 0 (mn a m) = r) :
    Calls Try.prog 114 #[.int .i64 a, .int .i64 m] w fun e w' => e = .returned (.int .i64 r) ∧ w' = w := by
  obtain ⟨q, hq⟩ : ∃ j : Int, mn a m = j := ⟨_, rfl⟩
  have hq_ : (if m < a then m else a) = q := hq
  rw [hq] at hr
  have hr_ : (if 0 < q then q else 0) = r := hr
  clear hr hq
  go_enter Try.func114, Try.ntmps114
  go_wp2
  go_ret
  exact ⟨rfl, rfl⟩
theorem rbitsT : rtab .any (opsOf Try.f91 3) = (true, [([], []), ([0], [0]), ([1], [1]), ([2], [2]), ([3], [3]), ([], []), ([5], [5]), ([6], [6]), ([7, 2], [7]), ([8], [8]), ([9], [9]), ([10], [10]), ([4, 11], [4, 11]), ([12, 8, 0, 1, 2, 3, 4, 5, 6, 7, 8, 9, 10, 11, 12], [12])]) := by kernel_rfl
theorem bits_parts (x : S76) (h : x.f0 = 0) : ∃ W D M : Int, mx 0 (mn x.f2 8) = W ∧ mx 0 (mn (x.f4.length : Int) 4) = D ∧ (if 0 < D - 1 then D - 1 else 0) = M ∧ (0 ≤ W ∧ W ≤ 8) ∧ (0 ≤ D ∧ D ≤ 4) ∧ (0 ≤ M ∧ M ≤ 3) ∧ bitsOf x = 10 + 8 * W + 4 * M := by
  refine ⟨_, _, _, rfl, rfl, rfl, ?_, ?_, ?_, ?_⟩
  · unfold mx mn; repeat' split <;> omega
  · unfold mx mn; repeat' split <;> omega
  · unfold mx mn; repeat' split <;> omega
  · unfold bitsOf wordsOf manyOf mx mn
    rw [if_pos h]
    repeat' split
    all_goals omega
def Wnd6 (g : Nat) (v2 v4 : Value) (W : World) : Prop := W.cell? ⟨g, 2, none⟩ = some v2 ∧ W.cell? ⟨g, 4, none⟩ = some v4
set_option maxHeartbeats 2000000 in
set_option maxRecDepth 100000 in
theorem rbits_calls (x : S76) (A4 : Option Addr) (c4 : Nat) (A5 : Option Addr) (c5 : Nat) (w : World) (hl : x.f4.length ≤ 100000) :
    Calls Try.prog 91 #[.agg (winCs x.f0 x.f1 x.f2 x.f3 A4 x.f4.length c4 A5 x.f5.length c5)] w fun e w' => e = .returned (.int .i64 (bitsOf x)) ∧ Below w.heap.size w w' := by
  have HB : Aside0 (Below w.heap.size w w) := ⟨Below.refl _ _⟩
  have BP := Aside0.mk (bits_parts x)
  have HR := Aside0.mk (show bitsOf x = bitsOf x from rfl)
  obtain ⟨r, hr⟩ : ∃ r, bitsOf x = r := ⟨_, rfl⟩
  rw [hr]
  have HR := Aside0.mk hr
  clear hr
  obtain ⟨a0, a1, a2, a3, l4, l5⟩ := x
  dsimp only at hl BP HR ⊢
  by_cases h0 : a0 = 0
  · obtain ⟨W, D, M, e1, e2, e3, hW, hD, hM, e4⟩ := BP.out h0
    have HE4 : Aside0 (r = 10 + 8 * W + 4 * M) := ⟨HR.out.symm.trans e4⟩
    subst h0
    have C1 := Aside0.mk (fun w => rcut_calls a2 8 w e1)
    have C2 := Aside0.mk (fun w => rcut_calls (l4.length : Int) 4 w e2)
    have HE3 := Aside0.mk (show (if 1 < D then D - 1 else 0) = M by rw [← e3]; by_cases h : 1 < D; rw [if_pos h, if_pos (by omega)]; rw [if_neg h, if_neg (by omega)])
    have f1 : IntKind.i64.wrap (8 * W) = 8 * W := by rw [i64_w]; unfold wrap64; omega
    have f2 : IntKind.i64.wrap (10 + 8 * W) = 10 + 8 * W := by rw [i64_w]; unfold wrap64; omega
    have f3 : IntKind.i64.wrap (D - 1) = D - 1 := by rw [i64_w]; unfold wrap64; omega
    have f5 : IntKind.i64.wrap (4 * M) = 4 * M := by rw [i64_w]; unfold wrap64; omega
    have f6 : IntKind.i64.wrap (10 + 8 * W + 4 * M) = r := by rw [HE4.out, i64_w]; unfold wrap64; omega
    clear e1 e2 e4 hW hD hM HR BP HE4
    unfold winCs
    go_enter Try.func91, Try.ntmps91
    go_wp2_with (first | ((with_reducible refine gate_dst (N := 1) rfl ?_); refine boxN (w := w) rfl (N := 1) rfl (cs := winCs 0 a1 a2 a3 A4 l4.length c4 A5 l5.length c5) (t := 93) (by first | (go_simp; done) | (go_simp; rfl)) HB ?_; intro g1 Wa Ha Lg1 HBa Ka; obtain ⟨x0, x1, x2, x3, x4, x5⟩ := win_cells Ha.out))
    clear x0 x1 x2 x3 x4 x5
    have HS : Aside0 (∀ W', Below Wa.heap.size Wa W' → Wnd6 g1 (.int .i64 a2) (.slice A4 l4.length c4) W') := ⟨fun W' h => ⟨(cell_in (blk_below Ha.out h) 2).trans rfl, (cell_in (blk_below Ha.out h) 4).trans rfl⟩⟩
    refine startD 14 rbitsT HS ⟨Below.refl _ _⟩ (fun W4 HT B4 K4 => ?_)
    refine pureD 0 (some 7) (lb 14 0x1) HT ?_
    refine pureD 5 (some 12) (lb 14 0x21) HT ?_
    refine takeD 1 (some 8) (lb 14 0x23) HT HS B4 ?_ (hy := Or.inl ⟨by rfl, by intro w' hs; unfold Wnd6 at hs; obtain ⟨s0, s1⟩ := hs; go_simp; with_reducible rfl⟩)
    refine takeD 6 (some 13) (lb 14 0x63) HT HS B4 ?_ (hy := Or.inl ⟨by rfl, by intro w' hs; unfold Wnd6 at hs; obtain ⟨s0, s1⟩ := hs; go_simp; with_reducible rfl⟩)
    refine pureD 7 (some 14) (lb 14 0xe3) HT ?_
    refine oneD 2 (some 9) (lb 14 0xe7) HT (fun K hK => ?_)
    refine callK hK HS B4 Try.func114 ((C1.out _).mono fun e W' h => ⟨h.1, by rw [h.2]; exact Below.refl _ _⟩) (fun W5 B5 K5 => ?_)
    refine pureD 3 (some 10) (lb 14 0xef) HT (v := .int .i64 (8 * W)) ?_ (hy := Or.inl ⟨by rfl, by intro w'; go_simp⟩)
    refine pureD 4 (some 11) (lb 14 0xff) HT (v := .int .i64 (10 + 8 * W)) ?_ (hy := Or.inl ⟨by rfl, by intro w'; go_simp⟩)
    refine oneD 8 (some 15) (lb 14 0x1ff) HT (fun K hK => ?_)
    refine callK hK HS B5 Try.func114 ((C2.out _).mono fun e W' h => ⟨h.1, by rw [h.2]; exact Below.refl _ _⟩) (fun W6 B6 K6 => ?_)
    refine pureD 9 (some 16) (lb 14 0x3ff) HT (v := .int .i64 (D - 1)) ?_ (hy := Or.inl ⟨by rfl, by intro w'; go_simp⟩)
    refine pureD 10 (some 17) (lb 14 0x7ff) HT (v := .int .i64 M) ?_ (hy := Or.inl ⟨by rfl, by intro w'; have e3 := HE3.out; go_simp⟩)
    refine pureD 11 (some 18) (lb 14 0xfff) HT (v := .int .i64 (4 * M)) ?_ (hy := Or.inl ⟨by rfl, by intro w'; go_simp⟩)
    refine pureD 12 (some 19) (lb 14 0x1fff) HT (v := .int .i64 r) ?_ (hy := Or.inl ⟨by rfl, by intro w'; go_simp⟩)
    refine pureD 13 (some 2) (lb 14 0x3fff) HT ?_
    refine doneD HT ?_
    clear HT
    go_wp2_with fail
    go_ret
    exact ⟨rfl, below_step HBa.out B6.out⟩
  have k0 : (a0 == 0) = false := by simpa using h0
  by_cases h1 : a0 = 1
  · subst h1
    have e1 : mx 0 (mn a1 1000) = r := by rw [← HR.out]; unfold bitsOf mx mn; rw [if_neg h0, if_pos rfl]; dsimp only; repeat' split <;> omega
    have C1 := Aside0.mk (fun w => rcut_calls a1 1000 w e1)
    clear e1 h0 HR BP k0
    unfold winCs
    go_enter Try.func91, Try.ntmps91
    go_wp2_with (first | ((with_reducible refine gate_dst (N := 1) rfl ?_); refine boxN (w := w) rfl (N := 1) rfl (cs := winCs 1 a1 a2 a3 A4 l4.length c4 A5 l5.length c5) (t := 93) (by first | (go_simp; done) | (go_simp; rfl)) HB ?_; intro g1 Wa Ha Lg1 HBa Ka; obtain ⟨x0, x1, x2, x3, x4, x5⟩ := win_cells Ha.out))
    refine (C1.out _).mono ?_
    rintro e w2 ⟨rfl, rfl⟩
    go_wp2_with fail
    go_ret
    exact ⟨rfl, HBa.out⟩
  have k1 : (a0 == 1) = false := by simpa using h1
  have hr2 : r = if a0 = 2 then 6 else 0 := by rw [← HR.out]; unfold bitsOf; rw [if_neg h0, if_neg h1]
  clear HR BP
  by_cases h2 : a0 = 2
  · rw [if_pos h2] at hr2
    subst h2 hr2
    clear h0 h1 k0 k1
    unfold winCs
    go_enter Try.func91, Try.ntmps91
    go_wp2_with (first | ((with_reducible refine gate_dst (N := 1) rfl ?_); refine boxN (w := w) rfl (N := 1) rfl (cs := winCs 2 a1 a2 a3 A4 l4.length c4 A5 l5.length c5) (t := 93) (by first | (go_simp; done) | (go_simp; rfl)) HB ?_; intro g1 Wa Ha Lg1 HBa Ka; obtain ⟨x0, x1, x2, x3, x4, x5⟩ := win_cells Ha.out))
    go_ret
    exact ⟨rfl, HBa.out⟩
  have k2 : (a0 == 2) = false := by simpa using h2
  rw [if_neg h2] at hr2
  subst hr2
  clear h0 h1 h2
  unfold winCs
  go_enter Try.func91, Try.ntmps91
  go_wp2_with (first | ((with_reducible refine gate_dst (N := 1) rfl ?_); refine boxN (w := w) rfl (N := 1) rfl (cs := winCs a0 a1 a2 a3 A4 l4.length c4 A5 l5.length c5) (t := 93) (by first | (go_simp; done) | (go_simp; rfl)) HB ?_; intro g1 Wa Ha Lg1 HBa Ka; obtain ⟨x0, x1, x2, x3, x4, x5⟩ := win_cells Ha.out))
  go_ret
  exact ⟨rfl, HBa.out⟩
end
theorem any_turn (l4 l5 : List Int) : l5.any (fun x => decide (x ∈ l4)) = l4.any (fun x => has_ l5 x) := by
  rw [Bool.eq_iff_iff, List.any_eq_true, List.any_eq_true]
  constructor
  · rintro ⟨x, hx, h⟩; exact ⟨x, of_decide_eq_true h, by rw [has_mem]; exact decide_eq_true hx⟩
  · rintro ⟨x, hx, h⟩; rw [has_mem] at h; exact ⟨x, of_decide_eq_true h, decide_eq_true hx⟩
set_option maxHeartbeats 4000000 in
set_option maxRecDepth 100000 in
theorem rwindow_calls (x : S76) (A4 : Option Addr) (c4 : Nat) (A5 : Option Addr) (c5 : Nat) (m : Int) (w : World) (hr4 : Kd.C (Kd.int .i64) w A4 x.f4.length x.f4) (hc4 : x.f4.length ≤ c4) (hr5 : Kd.C (Kd.int .i64) w A5 x.f5.length x.f5) (hc5 : x.f5.length ≤ c5) {r : Int} (hr : wndP x m = r) :
    Calls Try.prog 52 #[.agg (winCs x.f0 x.f1 x.f2 x.f3 A4 x.f4.length c4 A5 x.f5.length c5), .int .i64 m] w fun e w' => e = .returned (.int .i64 r) ∧ Below w.heap.size w w' := by
  obtain ⟨a0, a1, a2, a3, l4, l5⟩ := x
  dsimp only at hr4 hr5 hc4 hc5 ⊢
  unfold wndP at hr
  dsimp only at hr
  have H4 := Aside0.mk hr4
  have H5 := Aside0.mk hr5
  have hm4 : l4.length ≤ 9223372036854775807 := hr4.2.1
  have HB : Aside0 (Below w.heap.size w w) := ⟨Below.refl _ _⟩
  clear hr4 hr5
  by_cases h0 : a0 = 0
  · subst h0
    have hr2 : dataP a2 a3 l4 l5 m = r := by rw [← hr, if_pos rfl]
    have HR := Aside0.mk hr2
    clear hr hr2
    unfold dataP at HR
    have hsp : (r = 3 ∧ (decide (a2 < 1) = true ∨ (decide (a2 < 1) = false ∧ decide (8 < a2) = true) ∨ (decide (a2 < 1) = false ∧ decide (8 < a2) = false ∧ decide (a3 < 0) = true) ∨ (wrap64 (64 - a2) = 64 - a2 ∧ decide (a2 < 1) = false ∧ decide (8 < a2) = false ∧ decide (a3 < 0) = false ∧ decide (64 - a2 < a3) = true))) ∨ (wrap64 (64 - a2) = 64 - a2 ∧ decide (a2 < 1) = false ∧ decide (8 < a2) = false ∧ decide (a3 < 0) = false ∧ decide (64 - a2 < a3) = false) := by
      simp only [decide_eq_true_eq, decide_eq_false_iff_not]
      have h := HR.out
      have hw : (1 ≤ a2 ∧ a2 ≤ 8) → wrap64 (64 - a2) = 64 - a2 := fun h => by unfold wrap64; omega
      by_cases b1 : a2 < 1
      · rw [if_pos b1] at h; exact .inl ⟨h.symm, .inl b1⟩
      by_cases b2 : 8 < a2
      · rw [if_neg b1, if_pos b2] at h; exact .inl ⟨h.symm, .inr (.inl ⟨b1, b2⟩)⟩
      by_cases b3 : a3 < 0
      · rw [if_neg b1, if_neg b2, if_pos b3] at h; exact .inl ⟨h.symm, .inr (.inr (.inl ⟨b1, b2, b3⟩))⟩
      by_cases b4 : 64 - a2 < a3
      · rw [if_neg b1, if_neg b2, if_neg b3, if_pos b4] at h; exact .inl ⟨h.symm, .inr (.inr (.inr ⟨hw (by omega), b1, b2, b3, b4⟩))⟩
      · exact .inr ⟨hw (by omega), b1, b2, b3, b4⟩
    rcases hsp with ⟨rfl, hsp⟩ | ⟨n0, n1, n2, n3, n4⟩
    · clear HR
      rcases hsp with n1 | ⟨n1, n2⟩ | ⟨n1, n2, n3⟩ | ⟨n0, n1, n2, n3, n4⟩
      all_goals
        unfold winCs
        go_enter Try.func52, Try.ntmps52
        go_wp2_with (first | ((with_reducible refine gate_dst (N := 2) rfl ?_); refine boxN (w := w) rfl (N := 2) rfl (cs := winCs 0 a1 a2 a3 A4 l4.length c4 A5 l5.length c5) (t := 93) (by first | (go_simp; done) | (go_simp; rfl)) HB ?_; intro g1 Wa Ha Lg1 HBa Ka; obtain ⟨x0, x1, x2, x3, x4, x5⟩ := win_cells Ha.out))
        go_ret
        exact ⟨rfl, HBa.out⟩
    have HR2 : Aside0 ((if 4 < (l4.length : Int) then 2 else if namedP l4 m ≠ 0 then 2 else if twiceP [] l4 = true then 17 else if namedP l5 m ≠ 0 then 2 else if twiceP l4 l5 = true then 17 else (0 : Int)) = r) := ⟨by
      have h := HR.out
      rwa [if_neg (of_decide_eq_false n1), if_neg (of_decide_eq_false n2), if_neg (of_decide_eq_false n3), if_neg (of_decide_eq_false n4)] at h⟩
    clear HR
    by_cases h4 : 4 < (l4.length : Int)
    · have e0 : r = 2 := by rw [← HR2.out, if_pos h4]
      subst e0
      have p1 : decide (4 < (l4.length : Int)) = true := decide_eq_true h4
      have p2 : decide (4 < l4.length) = true := decide_eq_true (by omega)
      clear HR2 h4
      unfold winCs
      go_enter Try.func52, Try.ntmps52
      go_wp2_with (first | ((with_reducible refine gate_dst (N := 2) rfl ?_); refine boxN (w := w) rfl (N := 2) rfl (cs := winCs 0 a1 a2 a3 A4 l4.length c4 A5 l5.length c5) (t := 93) (by first | (go_simp; done) | (go_simp; rfl)) HB ?_; intro g1 Wa Ha Lg1 HBa Ka; obtain ⟨x0, x1, x2, x3, x4, x5⟩ := win_cells Ha.out))
      go_ret
      exact ⟨rfl, HBa.out⟩
    have p1 : decide (4 < (l4.length : Int)) = false := decide_eq_false h4
    have p2 : decide (4 < l4.length) = false := decide_eq_false (by omega)
    have HR3 : Aside0 ((if namedP l4 m ≠ 0 then 2 else if twiceP [] l4 = true then 17 else if namedP l5 m ≠ 0 then 2 else if twiceP l4 l5 = true then 17 else (0 : Int)) = r) := ⟨by have h := HR2.out; rwa [if_neg h4] at h⟩
    have hl4 : l4.length ≤ 4 := by omega
    clear HR2 h4
    unfold winCs
    go_enter Try.func52, Try.ntmps52
    go_wp2_with (first | ((with_reducible refine gate_dst (N := 2) rfl ?_); refine boxN (w := w) rfl (N := 2) rfl (cs := winCs 0 a1 a2 a3 A4 l4.length c4 A5 l5.length c5) (t := 93) (by first | (go_simp; done) | (go_simp; rfl)) HB ?_; intro g1 Wa Ha Lg1 HBa Ka; obtain ⟨x0, x1, x2, x3, x4, x5⟩ := win_cells Ha.out))
    refine (rnamed_calls A4 c4 l4 m Wa (Kd.C_below H4.out HBa.out)).mono ?_
    rintro e w2 ⟨rfl, hw2⟩
    obtain rfl := hw2.symm
    obtain ⟨b1, hb1⟩ : ∃ b, (namedP l4 m == 0) = b := ⟨_, rfl⟩
    rw [hb1]
    cases b1
    · have e0 : r = 2 := by rw [← HR3.out, if_pos (by simpa using hb1)]
      subst e0
      clear HR3 hb1
      go_wp2_with fail
      go_ret
      exact ⟨rfl, HBa.out⟩
    have HR4 : Aside0 ((if twiceP [] l4 = true then 17 else if namedP l5 m ≠ 0 then 2 else if twiceP l4 l5 = true then 17 else (0 : Int)) = r) := ⟨by have h := HR3.out; rwa [if_neg (by simpa using hb1)] at h⟩
    clear HR3 hb1
    obtain ⟨b2, hb2⟩ : ∃ b, twiceP [] l4 = b := ⟨_, rfl⟩
    go_wp2_with fail
    refine (rtwice_calls A4 c4 l4 Wa (Kd.C_below H4.out HBa.out) hc4 hb2).mono ?_
    rintro e w3 ⟨rfl, hbb⟩
    have HB3 := Aside0.mk (below_step HBa.out hbb)
    have Ha3 := Aside0.mk (blk_below Ha.out hbb)
    clear hbb x0 x1 x2 x3 x4 x5 Ha HBa Ka
    obtain ⟨x0, x1, x2, x3, x4, x5⟩ := win_cells Ha3.out
    cases b2
    rotate_left
    · have e0 : r = 17 := by rw [← HR4.out, if_pos hb2]
      subst e0
      clear HR4 hb2
      go_wp2_with fail
      go_ret
      exact ⟨rfl, HB3.out⟩
    have HR5 : Aside0 ((if namedP l5 m ≠ 0 then 2 else if twiceP l4 l5 = true then 17 else (0 : Int)) = r) := ⟨by have h := HR4.out; rwa [if_neg (by rw [hb2]; decide)] at h⟩
    clear HR4 hb2
    go_wp2_with fail
    refine (rnamed_calls A5 c5 l5 m w3 (Kd.C_below H5.out HB3.out)).mono ?_
    rintro e w2 ⟨rfl, hw2⟩
    obtain rfl := hw2.symm
    obtain ⟨b1, hb1⟩ : ∃ b, (namedP l5 m == 0) = b := ⟨_, rfl⟩
    rw [hb1]
    cases b1
    · have e0 : r = 2 := by rw [← HR5.out, if_pos (by simpa using hb1)]
      subst e0
      clear HR5 hb1
      go_wp2_with fail
      go_ret
      exact ⟨rfl, HB3.out⟩
    have HR6 : Aside0 ((if (l4.any (fun x => has_ l5 x) || twiceP [] l5) = true then 17 else (0 : Int)) = r) := ⟨by have h := HR5.out; rwa [if_neg (by simpa using hb1), twiceP_or l5 l4, any_turn] at h⟩
    clear HR5 hb1
    go_wp2_with fail
    go_loopw [5] (fun v5 wr => ∃ k : Nat, k ≤ l4.length ∧ v5 = .int .i64 (k : Int) ∧ Aside0 ((l4.take k).any (fun x => has_ l5 x) = false) ∧ Below w3.heap.size w3 wr) (fun v5 _ => ((l4.length : Int) - intOf v5).toNat)
    case atStart => exact ⟨0, Nat.zero_le _, rfl, ⟨rfl⟩, Below.refl _ _⟩
    case round =>
      obtain ⟨k, hk, rfl, HI, hbr⟩ := hrel
      have HBr := Aside0.mk (below_step HB3.out hbr)
      have Har := Aside0.mk (blk_below Ha3.out hbr)
      have H4r := Aside0.mk (Kd.C_below H4.out HBr.out)
      have H5r := Aside0.mk (Kd.C_below H5.out HBr.out)
      have HKr := Aside0.mk hbr
      clear hbr x0 x1 x2 x3 x4 x5
      obtain ⟨x0, x1, x2, x3, x4, x5⟩ := win_cells Har.out
      by_cases hlt : k < l4.length
      · have m1 : decide ((k : Int) < (l4.length : Int)) = true := decide_eq_true (by omega)
        have m2 : decide (k < l4.length) = true := decide_eq_true hlt
        have q1 : (0 ≤ (k : Int)) = True := eq_true (by omega)
        have q2 : ((k : Int) < (l4.length : Int)) = True := eq_true (by omega)
        have q3 : (k < l4.length) = True := eq_true hlt
        obtain ⟨x, hx⟩ : ∃ x, l4[k] = x := ⟨_, rfl⟩
        obtain ⟨ad, hA, y0⟩ := int_at H4r.out hlt hlt hx
        subst hA
        obtain ⟨b, hbb⟩ : ∃ b, has_ l5 x = b := ⟨_, rfl⟩
        have HCL : Aside0 (∀ n, Calls Try.prog 90 #[.slice A5 l5.length c5, .int .i64 x] (wr.drewN n) fun e w' => e = .returned (.bool b) ∧ w' = wr.drewN n) := ⟨fun n => by
          rw [← hbb]
          exact rhas_calls A5 c5 l5 x (wr.drewN n) (Kd.C_below H5r.out (below_drewN (Below.refl _ _) n))⟩
        have HX : Aside0 (has_ l5 l4[k] = b) := ⟨by rw [hx, hbb]⟩
        clear hx hbb
        go_wp2_with fail
        go_quiet ((go_at_call 90; exact Calls.quiet_of_same (HCL.out _)))
        have HBn := Aside0.mk (below_drewN HBr.out nq)
        have HKn := Aside0.mk (below_drewN HKr.out nq)
        cases b
        · have HH : Aside0 ((l4.take (k + 1)).any (fun x => has_ l5 x) = false) := ⟨any_step hlt HI.out HX.out⟩
          go_wp2_with fail
          exact ⟨⟨k + 1, by omega, by rw [Int.natCast_add]; rfl, HH, HKn.out⟩, by simp [intOf]; omega⟩
        · have e0 : r = 17 := by rw [← HR6.out, any_hit hlt HX.out]; rfl
          subst e0
          go_wp2_with fail
          go_ret
          exact ⟨rfl, HBn.out⟩
      · have m1 : decide ((k : Int) < (l4.length : Int)) = false := decide_eq_false (by omega)
        have m2 : decide (k < l4.length) = false := decide_eq_false hlt
        obtain ⟨b2, hb2⟩ : ∃ b, twiceP [] l5 = b := ⟨_, rfl⟩
        have HR7 : Aside0 ((if b2 = true then 17 else (0 : Int)) = r) := ⟨by
          have h := HI.out
          rw [List.take_of_length_le (by omega)] at h
          rw [← HR6.out, h, hb2, Bool.false_or]⟩
        clear hlt HI
        go_wp2_with fail
        refine (rtwice_calls A5 c5 l5 wr H5r.out hc5 hb2).mono ?_
        rintro e w4 ⟨rfl, hbb⟩
        have HB4 := Aside0.mk (below_step HBr.out hbb)
        clear hbb hb2
        cases b2
        · have e0 : r = 0 := by rw [← HR7.out]; rfl
          subst e0
          go_wp2_with fail
          go_ret
          exact ⟨rfl, HB4.out⟩
        · have e0 : r = 17 := by rw [← HR7.out]; rfl
          subst e0
          go_wp2_with fail
          go_ret
          exact ⟨rfl, HB4.out⟩
  rw [if_neg h0] at hr
  have k0 : (a0 == 0) = false := by simpa using h0
  by_cases h1 : a0 = 1
  · subst h1
    rw [if_pos rfl] at hr
    clear k0 h0
    have hsp : (decide (a1 < 1) = true ∧ r = 3) ∨ (decide (a1 < 1) = false ∧ decide (100 < a1) = true ∧ r = 3) ∨ (decide (a1 < 1) = false ∧ decide (100 < a1) = false ∧ r = 0) := by
      simp only [decide_eq_true_eq, decide_eq_false_iff_not]
      rw [← hr]
      split
      · exact .inl ⟨by assumption, rfl⟩
      · split
        · exact .inr (.inl ⟨by assumption, by assumption, rfl⟩)
        · exact .inr (.inr ⟨by assumption, by assumption, rfl⟩)
    clear hr
    rcases hsp with ⟨m1, rfl⟩ | ⟨m1, m2, rfl⟩ | ⟨m1, m2, rfl⟩
    all_goals
      unfold winCs
      go_enter Try.func52, Try.ntmps52
      go_wp2_with (first | ((with_reducible refine gate_dst (N := 2) rfl ?_); refine boxN (w := w) rfl (N := 2) rfl (cs := winCs 1 a1 a2 a3 A4 l4.length c4 A5 l5.length c5) (t := 93) (by first | (go_simp; done) | (go_simp; rfl)) HB ?_; intro g1 Wa Ha Lg1 HBa Ka; obtain ⟨x0, x1, x2, x3, x4, x5⟩ := win_cells Ha.out))
      go_ret
      exact ⟨rfl, HBa.out⟩
  rw [if_neg h1] at hr
  have k1 : (a0 == 1) = false := by simpa using h1
  obtain ⟨k2, hk2⟩ : ∃ k, (a0 == 2) = k := ⟨_, rfl⟩
  have hr2 : r = if k2 = true then 0 else 2 := by
    rw [← hr, ← hk2]
    by_cases h : a0 = 2
    · rw [if_pos h, if_pos (by simpa using h)]
    · rw [if_neg h, if_neg (by simpa using h)]
  clear hr h0 h1
  cases k2
  all_goals
    have hr3 := hr2
    simp only [if_true, Bool.false_eq_true, if_false] at hr3
    subst hr3
    clear hr2
    unfold winCs
    go_enter Try.func52, Try.ntmps52
    go_wp2_with (first | ((with_reducible refine gate_dst (N := 2) rfl ?_); refine boxN (w := w) rfl (N := 2) rfl (cs := winCs a0 a1 a2 a3 A4 l4.length c4 A5 l5.length c5) (t := 93) (by first | (go_simp; done) | (go_simp; rfl)) HB ?_; intro g1 Wa Ha Lg1 HBa Ka; obtain ⟨x0, x1, x2, x3, x4, x5⟩ := win_cells Ha.out))
    go_ret
    exact ⟨rfl, HBa.out⟩
end Go.Proofs.Ytbaapakkdnhcmaa.PWe
namespace Go.Proofs.Ytbaapakkdnhcmaa.PWe
open Go.RowKit Go.Proofs.Ytbaapakkdnhcmaa.Kx Go.Proofs.YtbaapakkdnhcmaaW.PrintWords Go.Proofs.YtbaapakkdnhcmaaW.PrintLast Go.Proofs.YtbaapakkdnhcmaaW.PrintMore
set_option linter.unusedVariables false
set_option linter.unusedSimpArgs false
/-- A slice as it is stored. -/
def dSl : Kd (Option Addr × Nat × Nat) := Kd.scalar (fun x => .slice x.1 x.2.1 x.2.2) (fun _ => rfl)
abbrev ORow := Int × Int × Int × Int × (Option Addr × Nat × Nat) × (Option Addr × Nat × Nat)
def kO : Kd ORow := Kd.pair (Kd.int .i64) (Kd.pair (Kd.int .i64) (Kd.pair (Kd.int .i64) (Kd.pair (Kd.int .i64) (Kd.pair dSl dSl))))
def orowCs (r : ORow) : List Value := [.int .i64 r.1, .int .i64 r.2.1, .int .i64 r.2.2.1, .int .i64 r.2.2.2.1, .slice r.2.2.2.2.1.1 r.2.2.2.2.1.2.1 r.2.2.2.2.1.2.2, .slice r.2.2.2.2.2.1 r.2.2.2.2.2.2.1 r.2.2.2.2.2.2.2]
theorem kO_open {w : World} {r : ORow} {cs : List Value} (h : kO.K w r cs) : cs = orowCs r := by
  obtain ⟨_, _, rfl, rfl, ⟨_, _, rfl, rfl, ⟨_, _, rfl, rfl, ⟨_, _, rfl, rfl, ⟨_, _, rfl, rfl, rfl⟩⟩⟩⟩⟩ := h
  rfl
theorem kO_mk (w : World) (base : Nat) (ok : Nat → Prop) (r : ORow) : kO.M w base ok r (orowCs r) :=
  ⟨_, _, rfl, rfl, ⟨_, _, rfl, rfl, ⟨_, _, rfl, rfl, ⟨_, _, rfl, rfl, ⟨_, _, rfl, rfl, rfl⟩⟩⟩⟩⟩
/-- A row that holds a window's cells. -/
structure RowOf (w : World) (x : S76) (r : ORow) : Prop where
  e0 : r.1 = x.f0
  e1 : r.2.1 = x.f1
  e2 : r.2.2.1 = x.f2
  e3 : r.2.2.2.1 = x.f3
  n4 : r.2.2.2.2.1.2.1 = x.f4.length
  n5 : r.2.2.2.2.2.2.1 = x.f5.length
  c4 : x.f4.length ≤ r.2.2.2.2.1.2.2
  c5 : x.f5.length ≤ r.2.2.2.2.2.2.2
  r4 : Kd.C (Kd.int .i64) w r.2.2.2.2.1.1 x.f4.length x.f4
  r5 : Kd.C (Kd.int .i64) w r.2.2.2.2.2.1 x.f5.length x.f5
def RowsOf (w : World) (l : List S76) (rs : List ORow) : Prop := rs.length = l.length ∧ ∀ (j : Nat) (x : S76), l[j]? = some x → ∃ r, rs[j]? = some r ∧ RowOf w x r
theorem rowsOf_snoc {w : World} {l : List S76} {rs : List ORow} {x : S76} {r : ORow} (h : RowsOf w l rs) (hx : RowOf w x r) : RowsOf w (l ++ [x]) (rs ++ [r]) := by
  refine ⟨by simp [h.1], fun j y hy => ?_⟩
  rcases Nat.lt_or_ge j l.length with hj | hj
  · rw [List.getElem?_append_left hj] at hy
    obtain ⟨q, hq, hr⟩ := h.2 j y hy
    exact ⟨q, by rw [List.getElem?_append_left (by rw [h.1]; exact hj)]; exact hq, hr⟩
  · rw [List.getElem?_append_right hj] at hy
    have hjl : j - l.length = 0 := by
      rcases Nat.eq_zero_or_pos (j - l.length) with h0 | h0
      · exact h0
      · rw [List.getElem?_eq_none (by simp; omega)] at hy; cases hy
    rw [hjl] at hy
    obtain rfl : x = y := by simpa using hy
    exact ⟨r, by rw [List.getElem?_append_right (by rw [h.1]; exact hj), h.1, hjl]; rfl, hx⟩
theorem own_reads {w0 w : World} {A : Option Addr} {n : Nat} {l : List S76} {rs : List ORow} (hC : Kd.C kO w A n rs) (hr : RowsOf w0 l rs) (hb : Below w0.heap.size w0 w) : Kd.C k76 w A l.length l := by
  obtain ⟨h1, h2, h3⟩ := hC
  have hl := hr.1
  refine ⟨rfl, by omega, fun hn => ?_⟩
  obtain ⟨ad, hA, hc⟩ := h3 (by omega)
  refine ⟨ad, hA, fun j x hx => ?_⟩
  obtain ⟨r, hrj, ⟨e0, e1, e2, e3, n4, n5, c4, c5, r4, r5⟩⟩ := hr.2 j x hx
  obtain ⟨c, hlen, hK, hcell⟩ := hc j r hrj
  obtain rfl := kO_open hK
  obtain ⟨a0, a1, a2, a3, ⟨A4, m4, d4⟩, ⟨A5, m5, d5⟩⟩ := r
  dsimp only at e0 e1 e2 e3 n4 n5 c4 c5 r4 r5
  subst e0 e1 e2 e3 n4 n5
  exact ⟨_, hlen, k76_mk w x c4 (Kd.C_below r4 hb) c5 (Kd.C_below r5 hb), hcell⟩
def Win6 (ad : Addr) (x : S76) (A4 : Option Addr) (c4 : Nat) (A5 : Option Addr) (c5 : Nat) (W : World) : Prop :=
  W.cell? ad = some (.int .i64 x.f0) ∧ W.cell? ⟨ad.block, ad.off + 1, none⟩ = some (.int .i64 x.f1) ∧ W.cell? ⟨ad.block, ad.off + 2, none⟩ = some (.int .i64 x.f2) ∧ W.cell? ⟨ad.block, ad.off + 3, none⟩ = some (.int .i64 x.f3) ∧ W.cell? ⟨ad.block, ad.off + 4, none⟩ = some (.slice A4 x.f4.length c4) ∧ W.cell? ⟨ad.block, ad.off + 5, none⟩ = some (.slice A5 x.f5.length c5)
theorem rownT : rtab .any (opsOf Try.f15 5) = (true, [([], []), ([], []), ([], []), ([1, 2], [1, 2]), ([3], [3]), ([4], [4]), ([], []), ([], []), ([6, 7], [6, 7]), ([8], [8]), ([9], [9]), ([], []), ([], []), ([11, 12], [11, 12]), ([13], [13]), ([14], [14]), ([], []), ([], []), ([16, 17], [16, 17]), ([18], [18]), ([19], [19]), ([], []), ([], []), ([21, 22], [21, 22]), ([23], [23]), ([24], [24]), ([], []), ([], []), ([26, 27], [26, 27]), ([28], [28]), ([29], [29]), ([5, 10, 15, 20, 25, 30], [5, 10, 15, 20, 25, 30]), ([31], [31]), ([0, 32], [0, 32]), ([33, 33, 0, 1, 2, 3, 4, 5, 6, 7, 8, 9, 10, 11, 12, 13, 14, 15, 16, 17, 18, 19, 20, 21, 22, 23, 24, 25, 26, 27, 28, 29, 30, 31, 32, 33], [0, 33])]) := by kernel_rfl
set_option maxHeartbeats 4000000 in
set_option maxRecDepth 100000 in
theorem own_calls (A : Option Addr) (c : Nat) (l : List S76) (w0 w : World) (hr : Kd.C k76 w0 A l.length l) (hb0 : Below w0.heap.size w0 w) (hl : l.length ≤ 100000) :
    Calls Try.prog 15 #[.slice A l.length c] w fun e w' => ∃ v' rs, e = .returned v' ∧ Kd.R kO 93 w' w.heap.size (fun _ => True) v' rs ∧ RowsOf w0 l rs ∧ Below w.heap.size w w' := by
  have HR := Aside0.mk hr
  have HB0 := Aside0.mk hb0
  have hm : l.length ≤ 9223372036854775807 := hr.2.1
  clear hr hb0
  go_enter Try.func15, Try.ntmps15
  go_wp2_with fail
  go_loopw [3, 4] (fun v3 v4 wr => ∃ (i : Nat) (rs : List ORow), i ≤ l.length ∧ v4 = .int .i64 (i : Int) ∧ Aside0 (Kd.R kO 93 wr w.heap.size (fun _ => True) v3 rs) ∧ Aside0 (RowsOf w0 (l.take i) rs) ∧ Below w.heap.size w wr) (fun _ v4 _ => ((l.length : Int) - intOf v4).toNat)
  case atStart => exact ⟨0, [], Nat.zero_le _, rfl, ⟨Kd.R_nil _ _ _ _ _⟩, ⟨⟨rfl, fun j x hx => by simp at hx⟩⟩, Below.refl _ _⟩
  case round =>
    obtain ⟨i, rs, hi, rfl, HO, HRS, hb⟩ := hrel
    have HBr := Aside0.mk hb
    clear hb
    by_cases hlt : i < l.length
    · have m1 : decide ((i : Int) < (l.length : Int)) = true := decide_eq_true (by omega)
      have m2 : decide (i < l.length) = true := decide_eq_true hlt
      have q1 : (0 ≤ (i : Int)) = True := eq_true (by omega)
      have q2 : ((i : Int) < (l.length : Int)) = True := eq_true (by omega)
      have q3 : (i < l.length) = True := eq_true hlt
      obtain ⟨x, hx⟩ : ∃ x, l[i] = x := ⟨_, rfl⟩
      obtain ⟨ad, A4, c4, A5, c5, hA, x0, x1, x2, x3, x4, x5, hl4, hr4, hl5, hr5⟩ := win_at HR.out (below_drew1 (below_step HB0.out HBr.out)) hlt hx
      subst hA
      have HROW : Aside0 (RowOf w0 x (x.f0, x.f1, x.f2, x.f3, (A4, x.f4.length, c4), (A5, x.f5.length, c5))) := ⟨⟨rfl, rfl, rfl, rfl, rfl, rfl, hl4, hl5, hr4, hr5⟩⟩
      have htk : l.take (i + 1) = l.take i ++ [x] := by rw [List.take_add_one, List.getElem?_eq_getElem hlt, hx]; rfl
      have HTK : Aside0 (RowsOf w0 (l.take (i + 1)) (rs ++ [(x.f0, x.f1, x.f2, x.f3, (A4, x.f4.length, c4), (A5, x.f5.length, c5))])) := ⟨by rw [htk]; exact rowsOf_snoc HRS.out HROW.out⟩
      have hn : rs.length ≤ 100000 := by have := HRS.out.1; rw [List.length_take] at this; omega
      have HS : Aside0 (Win6 (ad.add (i * 6)) x A4 c4 A5 c5 wr.drew) := ⟨⟨x0, x1, x2, x3, x4, x5⟩⟩
      have HBd := Aside0.mk (below_drew1 HBr.out)
      have HOd := Aside0.mk (Kd.R_drew HO.out)
      clear hx htk x0 x1 x2 x3 x4 x5 hl4 hr4 hl5 hr5 HRS HROW HO
      go_wp2_with fail
      refine startE 35 [32, 33] rownT HS.out (fun HT => ?_)
      refine pureE 0 (some 11) (lb 35 0x1) HT ?_
      refine pureE 1 (some 12) (lb 35 0x3) HT ?_
      refine pureE 2 (some 13) (lb 35 0x7) HT ?_
      refine pureE 3 (some 14) (lb 35 0xf) HT ?_
      refine pureE 4 (some 15) (lb 35 0x1f) HT ?_
      refine takeE 5 (some 16) (lb 35 0x3f) HT HS.out ?_
      refine pureE 6 (some 17) (lb 35 0x7f) HT ?_
      refine pureE 7 (some 18) (lb 35 0xff) HT ?_
      refine pureE 8 (some 19) (lb 35 0x1ff) HT ?_
      refine pureE 9 (some 20) (lb 35 0x3ff) HT ?_
      refine takeE 10 (some 21) (lb 35 0x7ff) HT HS.out ?_
      refine pureE 11 (some 22) (lb 35 0xfff) HT ?_
      refine pureE 12 (some 23) (lb 35 0x1fff) HT ?_
      refine pureE 13 (some 24) (lb 35 0x3fff) HT ?_
      refine pureE 14 (some 25) (lb 35 0x7fff) HT ?_
      refine takeE 15 (some 26) (lb 35 0xffff) HT HS.out ?_
      refine pureE 16 (some 27) (lb 35 0x1ffff) HT ?_
      refine pureE 17 (some 28) (lb 35 0x3ffff) HT ?_
      refine pureE 18 (some 29) (lb 35 0x7ffff) HT ?_
      refine pureE 19 (some 30) (lb 35 0xfffff) HT ?_
      refine takeE 20 (some 31) (lb 35 0x1fffff) HT HS.out ?_
      refine pureE 21 (some 32) (lb 35 0x3fffff) HT ?_
      refine pureE 22 (some 33) (lb 35 0x7fffff) HT ?_
      refine pureE 23 (some 34) (lb 35 0xffffff) HT ?_
      refine pureE 24 (some 35) (lb 35 0x1ffffff) HT ?_
      refine takeE 25 (some 36) (lb 35 0x3ffffff) HT HS.out ?_
      refine pureE 26 (some 37) (lb 35 0x7ffffff) HT ?_
      refine pureE 27 (some 38) (lb 35 0xfffffff) HT ?_
      refine pureE 28 (some 39) (lb 35 0x1fffffff) HT ?_
      refine pureE 29 (some 40) (lb 35 0x3fffffff) HT ?_
      refine takeE 30 (some 41) (lb 35 0x7fffffff) HT HS.out ?_
      refine pureE 31 (some 42) (lb 35 0xffffffff) HT ?_
      refine last_ (i := 32) (N := some 43) (lb 35 0x1ffffffff) rfl rfl (one_of HT.out (by kernel_rfl)) (by decide) (fun K hK => ?_)
      refine value_ (w1 := ?_) (v := ?_) (by rfl) rfl ?_ ?_
      rotate_left 2
      · go_simp
        constructor
        · rfl
        · rfl
      refine hK.out _ _ ?_
      clear hK K
      refine norm_ (a' := ?_) ?_ ?_
      rotate_left
      · show Act.put _ (some 43) _ = _
        simp only [Act.put, List.setIfInBounds_toArray, List.set_cons_zero, List.set_cons_succ, i64_w, i32_w]
        rfl
      refine last_ (i := 33) (N := some 44) (lb 35 0x3ffffffff) rfl rfl (one_of HT.out (by kernel_rfl)) (by decide) (fun K hK => ?_)
      refine Kd.R_append_step kO (w0 := w) w.heap.size (by rfl) (.tmp 11) (.tmp 43) 45 93 (.agg #[(.int .i64 0), (.int .i64 0), (.int .i64 0), (.int .i64 0), (.slice none 0 0), (.slice none 0 0)]) 80 rfl Try.underlying45 (by kernel_rfl) rfl (by decide) (by decide) u3 rs (x.f0, x.f1, x.f2, x.f3, (A4, x.f4.length, c4), (A5, x.f5.length, c5)) [.int .i64 x.f0, .int .i64 x.f1, .int .i64 x.f2, .int .i64 x.f3, .slice A4 x.f4.length c4, .slice A5 x.f5.length c5] (fun _ => True) (fun _ => False) rfl rfl (kO_mk _ _ _ _) (fun _ h => h.elim) (fun _ _ => trivial) HOd.out HBd.out (below_size HBd.out) (by omega) ?_
      intro v1 w1 ho hb hg hat
      have HO1 := Aside0.mk ho
      have HB1 := Aside0.mk hb
      clear ho hb hg hat
      refine hK.out _ _ ?_
      clear hK K
      refine norm_ (a' := ?_) ?_ ?_
      rotate_left
      · show Act.put _ (some 44) _ = _
        simp only [Act.put, List.setIfInBounds_toArray, List.set_cons_zero, List.set_cons_succ, i64_w, i32_w]
        rfl
      refine pureE 34 (some 3) (lb 35 0x7ffffffff) HT ?_
      refine doneE HT ?_
      clear HT
      go_wp2_with fail
      exact ⟨⟨i + 1, _, by omega, by rw [Int.natCast_add]; rfl, HO1, HTK, HB1.out⟩, by simp [intOf]; omega⟩
    · have m1 : decide ((i : Int) < (l.length : Int)) = false := decide_eq_false (by omega)
      have m2 : decide (i < l.length) = false := decide_eq_false hlt
      have HRL : Aside0 (RowsOf w0 l rs) := ⟨by have h := HRS.out; rwa [List.take_of_length_le (by omega)] at h⟩
      clear hlt HRS
      go_wp2_with fail
      go_ret
      exact ⟨_, rs, rfl, HO.out, HRL.out, HBr.out⟩
end Go.Proofs.Ytbaapakkdnhcmaa.PWe
namespace Go.Proofs.Ytbaapakkdnhcmaa.PWe
open Go.RowKit Go.Proofs.Ytbaapakkdnhcmaa.Kx Go.Proofs.YtbaapakkdnhcmaaW.PrintWords Go.Proofs.YtbaapakkdnhcmaaW.PrintLast Go.Proofs.YtbaapakkdnhcmaaW.PrintMore
set_option linter.unusedVariables false
set_option linter.unusedSimpArgs false
theorem spansW_2 {x : S76} (h : x.f0 = 2) (a b : Int) (xs : List S76) : spansW a b (x :: xs) = (a + 2 - b) :: spansW (a + bitsOf x) (a + 2) xs := by
  rw [spansW, if_neg (by omega), if_pos h]
theorem spansW_n {x : S76} (h : x.f0 ≠ 2) (a b : Int) (xs : List S76) : spansW a b (x :: xs) = spansW (a + bitsOf x) b xs := by
  rw [spansW]
  by_cases hk : x.f0 < 0 ∨ x.f0 > 2
  · have h0 : bitsOf x = 0 := by unfold bitsOf; rw [if_neg (by omega), if_neg (by omega), if_neg (by omega)]
    rw [if_pos hk, h0, Int.add_zero]
  · rw [if_neg hk, if_neg h]
set_option maxHeartbeats 4000000 in
set_option maxRecDepth 100000 in
theorem rspans_calls (A : Option Addr) (c : Nat) (l : List S76) (v : Int) (w : World) (hr : Kd.C k76 w A l.length l) (hf : Fit l) (hv0 : 0 ≤ v) (hv1 : v < 2) {r : List Int} (hR : spansW (10 + 2 * v) 3 l = r) :
    Calls Try.prog 53 #[.slice A l.length c, .int .i64 v] w fun e w' => ∃ v', e = .returned v' ∧ Kd.R (Kd.int .i64) 3 w' w.heap.size (fun _ => True) v' r ∧ Below w.heap.size w w' := by
  have HR := Aside0.mk hr
  have HF := Aside0.mk hf
  have HRR := Aside0.mk hR
  have hm : l.length ≤ 9223372036854775807 := hr.2.1
  have hl := hf.1
  have f1 : wrap64 (2 * v) = 2 * v := by unfold wrap64; omega
  have f2 : wrap64 (10 + 2 * v) = 10 + 2 * v := by unfold wrap64; omega
  clear hr hR hf
  go_enter Try.func53, Try.ntmps53
  go_wp2_with fail
  go_loopw [5, 6, 7, 8] (fun v5 v6 v7 v8 wr => ∃ (i : Nat) (a b : Int) (xs : List Int), i ≤ l.length ∧ v8 = .int .i64 (i : Int) ∧ v5 = .int .i64 a ∧ v6 = .int .i64 b ∧ (0 ≤ a ∧ a ≤ 20 + 1000 * (i : Int)) ∧ (0 ≤ b ∧ b ≤ 30 + 1000 * (i : Int)) ∧ xs.length ≤ i ∧ Aside0 (Kd.R (Kd.int .i64) 3 wr w.heap.size (fun _ => True) v7 xs) ∧ Aside0 (xs ++ spansW a b (l.drop i) = r) ∧ Below w.heap.size w wr) (fun _ _ _ v8 _ => ((l.length : Int) - intOf v8).toNat)
  case atStart => exact ⟨0, 10 + 2 * v, 3, [], Nat.zero_le _, rfl, rfl, rfl, by omega, by omega, Nat.zero_le _, ⟨Kd.R_nil _ _ _ _ _⟩, ⟨HRR.out⟩, Below.refl _ _⟩
  case round =>
    obtain ⟨i, a, b, xs, hi, rfl, rfl, rfl, ha, hb, hxs, HO, HI, hbr⟩ := hrel
    have HBr := Aside0.mk hbr
    obtain ⟨A7, c7, e7⟩ := Kd.R_slice HO.out
    subst e7
    clear hbr f1 f2
    by_cases hlt : i < l.length
    · have m1 : decide ((i : Int) < (l.length : Int)) = true := decide_eq_true (by omega)
      have m2 : decide (i < l.length) = true := decide_eq_true hlt
      have q1 : (0 ≤ (i : Int)) = True := eq_true (by omega)
      have q2 : ((i : Int) < (l.length : Int)) = True := eq_true (by omega)
      have q3 : (i < l.length) = True := eq_true hlt
      obtain ⟨x, hx⟩ : ∃ x, l[i] = x := ⟨_, rfl⟩
      have HX := Aside0.mk hx
      have hd := bitsOf_bd x
      have HDR : Aside0 (l.drop i = x :: l.drop (i + 1)) := ⟨by rw [List.drop_eq_getElem_cons hlt, hx]⟩
      have hlx : x.f4.length ≤ 100000 := by have := (HF.out.2 x (by rw [← hx]; exact List.getElem_mem hlt)).1; omega
      obtain ⟨ad, A4, c4, A5, c5, hA, x0, x1, x2, x3, x4, x5, hl4, hr4, hl5, hr5⟩ := win_at HR.out HBr.out hlt hx
      subst hA
      clear hx hl4 hr4 hl5 hr5
      obtain ⟨D, hD⟩ : ∃ D, bitsOf x = D := ⟨_, rfl⟩
      have f5 : wrap64 (a + D) = a + D := by unfold wrap64; omega
      by_cases hk : x.f0 = 2
      · have k1 : (x.f0 == 2) = true := by simpa using hk
        have f3 : wrap64 (a + 2) = a + 2 := by unfold wrap64; omega
        have f4 : wrap64 (a + 2 - b) = a + 2 - b := by unfold wrap64; omega
        have HN : Aside0 ((xs ++ [a + 2 - b]) ++ spansW (a + D) (a + 2) (l.drop (i + 1)) = r) := ⟨by rw [← HI.out, HDR.out, spansW_2 hk, hD, List.append_assoc]; rfl⟩
        have HN2 := Aside0.mk hD
        clear HI hk hD
        go_wp2_with (first | ((with_reducible refine gate_dst (N := 29) rfl ?_); refine litN (w := w) (Kd.int .i64) 3 rfl (N := 29) rfl (xs := ([a + 2 - b] : List Int)) (inner := [.int .i64 (a + 2 - b)]) (by first | (go_simp; done) | (go_simp; rfl)) (Reps.one (show Kd.M (Kd.int .i64) _ _ _ (a + 2 - b) [.int .i64 (a + 2 - b)] from rfl) (Reps.none _ _)) HBr (by simp) ?_; intro va Wa Ha HB_Wa K_Wa; obtain ⟨Aa, ca, ea⟩ := Kd.R_slice Ha.out; subst ea; have Ra := Aside0.mk (Kd.R_reads' Ha.out).2.2; have HOa := Aside0.mk (Kd.R_below HO.out K_Wa.out)) | ((with_reducible refine gate_builtin (b := .append) (xs := #[.tmp 24, .tmp 29]) rfl ?_); at_builtin; refine Kd.R_append_rows (Kd.int .i64) (w0 := w) w.heap.size rfl (.tmp 24) (.tmp 29) 72 3 (.int .i64 0) 8 rfl Try.underlying72 (by kernel_rfl) rfl (by decide) (by decide) _ xs [a + 2 - b] Aa _ ca (fun _ => True) (fun _ => False) rfl rfl HOa.out Ra.out (fun _ _ h => h) (fun _ h => h.elim) (fun _ _ => trivial) HB_Wa.out (below_size HB_Wa.out) (by simp; omega) ?_; intro v1 W1 h1 hb1 hg1 _; have HO1 := Aside0.mk h1; have HB1 := Aside0.mk hb1; clear hg1 x0 x1 x2 x3 x4 x5; obtain ⟨_, A4, c4, A5, c5, hA, x0, x1, x2, x3, x4, x5, hl4, hr4, hl5, hr5⟩ := win_at HR.out HB1.out (by omega) HX.out; have hA2 := Option.some.inj hA; subst hA2; clear hA hl4 hr4 hl5 hr5 h1 hb1))
        have hc := rbits_calls x A4 c4 A5 c5 W1 hlx
        unfold winCs at hc
        rw [HN2.out] at hc
        refine hc.mono ?_
        rintro e w5 ⟨rfl, hb5⟩
        have HB5 := Aside0.mk (below_step HB1.out hb5)
        have HO5 := Aside0.mk (Kd.R_below HO1.out hb5)
        clear hc hb5
        go_wp2_with fail
        exact ⟨⟨i + 1, a + D, a + 2, xs ++ [a + 2 - b], by omega, by rw [Int.natCast_add]; rfl, by rw [f5], rfl, by have := HN2.out; omega, by omega, by simp; omega, HO5, HN, HB5.out⟩, by simp [intOf]; omega⟩
      · have k1 : (x.f0 == 2) = false := by simpa using hk
        have HN : Aside0 (xs ++ spansW (a + D) b (l.drop (i + 1)) = r) := ⟨by rw [← HI.out, HDR.out, spansW_n hk, hD]⟩
        have HN2 := Aside0.mk hD
        clear HI hk hD
        go_wp2_with fail
        have hc := rbits_calls x A4 c4 A5 c5 wr hlx
        unfold winCs at hc
        rw [HN2.out] at hc
        refine hc.mono ?_
        rintro e w5 ⟨rfl, hb5⟩
        have HB5 := Aside0.mk (below_step HBr.out hb5)
        have HO5 := Aside0.mk (Kd.R_below HO.out hb5)
        clear hc hb5
        go_wp2_with fail
        exact ⟨⟨i + 1, a + D, b, xs, by omega, by rw [Int.natCast_add]; rfl, by rw [f5], rfl, by have := HN2.out; omega, by omega, by omega, HO5, HN, HB5.out⟩, by simp [intOf]; omega⟩
    · have m1 : decide ((i : Int) < (l.length : Int)) = false := decide_eq_false (by omega)
      have m2 : decide (i < l.length) = false := decide_eq_false hlt
      have HE : Aside0 (xs ++ [a + 6 + 3 - b] = r) := ⟨by have h := HI.out; rwa [List.drop_eq_nil_of_le (by omega), spansW] at h⟩
      have f3 : wrap64 (a + 6) = a + 6 := by unfold wrap64; omega
      have f4 : wrap64 (a + 6 + 3) = a + 6 + 3 := by unfold wrap64; omega
      have f5 : wrap64 (a + 6 + 3 - b) = a + 6 + 3 - b := by unfold wrap64; omega
      clear hlt HI
      go_wp2_with (first | ((with_reducible refine gate_dst (N := 46) rfl ?_); refine litN (w := w) (Kd.int .i64) 3 rfl (N := 46) rfl (xs := ([a + 6 + 3 - b] : List Int)) (inner := [.int .i64 (a + 6 + 3 - b)]) (by first | (go_simp; done) | (go_simp; rfl)) (Reps.one (show Kd.M (Kd.int .i64) _ _ _ (a + 6 + 3 - b) [.int .i64 (a + 6 + 3 - b)] from rfl) (Reps.none _ _)) HBr (by simp) ?_; intro va Wa Ha HB_Wa K_Wa; obtain ⟨Aa, ca, ea⟩ := Kd.R_slice Ha.out; subst ea; have Ra := Aside0.mk (Kd.R_reads' Ha.out).2.2; have HOa := Aside0.mk (Kd.R_below HO.out K_Wa.out)) | ((with_reducible refine gate_builtin (b := .append) (xs := #[.tmp 40, .tmp 46]) rfl ?_); at_builtin; refine Kd.R_append_rows (Kd.int .i64) (w0 := w) w.heap.size rfl (.tmp 40) (.tmp 46) 72 3 (.int .i64 0) 8 rfl Try.underlying72 (by kernel_rfl) rfl (by decide) (by decide) _ xs [a + 6 + 3 - b] Aa _ ca (fun _ => True) (fun _ => False) rfl rfl HOa.out Ra.out (fun _ _ h => h) (fun _ h => h.elim) (fun _ _ => trivial) HB_Wa.out (below_size HB_Wa.out) (by simp; omega) ?_; intro v1 W1 h1 hb1 hg1 _; rw [HE.out] at h1; have HO1 := Aside0.mk h1; have HB1 := Aside0.mk hb1; clear hg1 h1 hb1))
      go_ret
      exact ⟨v1, rfl, HO1.out, HB1.out⟩
theorem mxl_big {s : List Int} : ∀ n, n < s.length → (200 < mxl s n ↔ ∃ j x, j ≤ n ∧ s[j]? = some x ∧ 200 < x)
  | 0, h => by
    have e : rd s 0 = s[0] := by unfold rd; simp [List.getD_eq_getElem?_getD, List.getElem?_eq_getElem h]
    rw [mxl, e]
    constructor
    · intro h2; exact ⟨0, _, Nat.le_refl _, List.getElem?_eq_getElem h, h2⟩
    · rintro ⟨j, x, hj, hx, h2⟩
      obtain rfl : j = 0 := by omega
      rw [List.getElem?_eq_getElem h] at hx
      rw [Option.some.inj hx]; exact h2
  | n + 1, h => by
    have e : rd s ((n + 1 : Nat) : Int) = s[n + 1] := by unfold rd; rw [Int.toNat_natCast]; simp [List.getD_eq_getElem?_getD, List.getElem?_eq_getElem h]
    have ih := mxl_big (s := s) n (by omega)
    rw [mxl, e]
    constructor
    · intro h2
      split at h2
      · exact ⟨n + 1, _, Nat.le_refl _, List.getElem?_eq_getElem h, h2⟩
      · obtain ⟨j, x, hj, hx, h3⟩ := ih.1 h2
        exact ⟨j, x, by omega, hx, h3⟩
    · rintro ⟨j, x, hj, hx, h2⟩
      rcases Nat.lt_or_ge n j with hj2 | hj2
      · obtain rfl : j = n + 1 := by omega
        rw [List.getElem?_eq_getElem h] at hx
        have := Option.some.inj hx
        split <;> omega
      · have h3 := ih.2 ⟨j, x, hj2, hx, h2⟩
        split <;> omega
theorem spanP_any {v : Int} {L : List S76} {s : List Int} (hs : spansW (10 + 2 * v) 3 L = s) : spanP v L = if s.any (fun x => decide (200 < x)) = true then (-1, 16) else (0, 0) := by
  unfold spanP
  have hne := spansW_ne L (10 + 2 * v) 3
  rw [hs] at hne ⊢
  have hi : (200 < mxl s (s.length - 1)) ↔ s.any (fun x => decide (200 < x)) = true := by
    rw [mxl_big _ (by omega), List.any_eq_true]
    constructor
    · rintro ⟨j, x, _, hx, h⟩; exact ⟨x, List.mem_of_getElem? hx, decide_eq_true h⟩
    · rintro ⟨x, hx, h⟩
      obtain ⟨j, hj, he⟩ := List.getElem_of_mem hx
      exact ⟨j, x, by omega, by rw [List.getElem?_eq_getElem hj, he], of_decide_eq_true h⟩
  by_cases h : s.any (fun x => decide (200 < x)) = true
  · rw [if_pos h, if_pos (hi.2 h)]
  · rw [if_neg h, if_neg (fun hc => h (hi.1 hc))]
set_option maxHeartbeats 8000000 in
set_option maxRecDepth 100000 in
theorem rcheck_calls (m : Int) (A1 A2 : Option Addr) (c1 c2 : Nat) (l1 l2 : List S76) (w : World) (hr1 : Kd.C k76 w A1 l1.length l1) (hc1 : l1.length ≤ c1) (hr2 : Kd.C k76 w A2 l2.length l2) (hc2 : l2.length ≤ c2) (hf1 : Fit l1) (hf2 : Fit l2) {R : Int × Int × Int} (hR : checkP m l1 l2 = R) :
    Calls Try.prog 18 #[.int .i64 m, .agg #[.slice A1 l1.length c1, .slice A2 l2.length c2]] w fun e w' => e = .returned (.tuple #[.int .i64 R.1, .int .i64 R.2.1, .int .i64 R.2.2]) ∧ Below w.heap.size w w' := by
  have H1 := Aside0.mk hr1
  have H2 := Aside0.mk hr2
  have HF1 := Aside0.mk hf1
  have HF2 := Aside0.mk hf2
  have HR := Aside0.mk hR
  have HB : Aside0 (Below w.heap.size w w) := ⟨Below.refl _ _⟩
  clear hr1 hr2 hf1 hf2 hR
  have hsp : (R = (0, -1, 2) ∧ (decide (m < 2) = true ∨ (decide (m < 2) = false ∧ decide (16 < m) = true))) ∨ (decide (m < 2) = false ∧ decide (16 < m) = false) := by
    simp only [decide_eq_true_eq, decide_eq_false_iff_not]
    have h := HR.out
    unfold checkP at h
    by_cases b1 : m < 2
    · rw [if_pos b1] at h; exact .inl ⟨h.symm, .inl b1⟩
    by_cases b2 : 16 < m
    · rw [if_neg b1, if_pos b2] at h; exact .inl ⟨h.symm, .inr ⟨b1, b2⟩⟩
    exact .inr ⟨b1, b2⟩
  rcases hsp with ⟨rfl, hsp⟩ | ⟨m0, m1⟩
  · clear HR
    rcases hsp with m0 | ⟨m0, m1⟩
    all_goals
      go_enter Try.func18, Try.ntmps18
      go_wp2_with (first | ((with_reducible refine gate_dst (N := 3) rfl ?_); refine boxN (w := w) rfl (N := 3) rfl (cs := #[.slice A1 l1.length c1, .slice A2 l2.length c2]) (t := 47) (by first | (go_simp; done) | (go_simp; rfl)) HB ?_; intro g1 Wa Ha Lg1 HBa Ka))
      go_ret3
      exact ⟨rfl, HBa.out⟩
  have HR2 := Aside0.mk (show (if (frameP m 0 l1).2 ≠ 0 then ((0, (frameP m 0 l1).1, (frameP m 0 l1).2) : Int × Int × Int) else if (frameP m 1 l2).2 ≠ 0 then (1, (frameP m 1 l2).1, (frameP m 1 l2).2) else (0, 0, 0)) = R by rw [← HR.out]; unfold checkP; rw [if_neg (of_decide_eq_false m0), if_neg (of_decide_eq_false m1)])
  clear HR
  go_enter Try.func18, Try.ntmps18
  go_wp2_with (first | ((with_reducible refine gate_dst (N := 3) rfl ?_); refine boxN (w := w) rfl (N := 3) rfl (cs := #[.slice A1 l1.length c1, .slice A2 l2.length c2]) (t := 47) (by first | (go_simp; done) | (go_simp; rfl)) HB ?_; intro g1 Wa Ha Lg1 HBa Ka))
  clear m0 m1
  go_loopw [7, 8, 9, 10, 11] (fun v7 _ _ _ _ wr => ∃ k : Nat, k ≤ 2 ∧ v7 = .int .i64 (k : Int) ∧ Aside0 (1 ≤ k → (frameP m 0 l1).2 = 0) ∧ Aside0 (2 ≤ k → (frameP m 1 l2).2 = 0) ∧ Below Wa.heap.size Wa wr) (fun v7 _ _ _ _ _ => ((2 : Int) - intOf v7).toNat)
  case atStart => exact ⟨0, Nat.zero_le _, rfl, ⟨fun h => absurd h (by decide)⟩, ⟨fun h => absurd h (by decide)⟩, Below.refl _ _⟩
  case round =>
    obtain ⟨k, hk, rfl, HQ1, HQ2, hb⟩ := hrel
    have HBr := Aside0.mk (below_step HBa.out hb)
    have HK := Aside0.mk hb
    clear hb
    by_cases hk2 : k = 2
    · subst hk2
      have e0 : R = (0, 0, 0) := by rw [← HR2.out, if_neg (by rw [HQ1.out (by decide)]; decide), if_neg (by rw [HQ2.out (by decide)]; decide)]
      subst e0
      clear HR2 HQ1 HQ2
      go_wp2_with fail
      go_ret3
      exact ⟨rfl, HBr.out⟩
    have hk1 : k < 2 := by omega
    obtain ⟨L, A, c, HY, HLC, hlc, hf, HBad, HGood⟩ : ∃ (L : List S76) (A : Option Addr) (c : Nat), Aside0 (∀ W, Below Wa.heap.size Wa W → W.cell? ⟨g1, k, none⟩ = some (.slice A L.length c)) ∧ Aside0 (Kd.C k76 w A L.length L) ∧ L.length ≤ c ∧ Fit L ∧ Aside0 ((frameP m (k : Int) L).2 ≠ 0 → R = ((k : Int), (frameP m (k : Int) L).1, (frameP m (k : Int) L).2)) ∧ Aside0 ((frameP m (k : Int) L).2 = 0 → (1 ≤ k + 1 → (frameP m 0 l1).2 = 0) ∧ (2 ≤ k + 1 → (frameP m 1 l2).2 = 0)) := by
      rcases (by omega : k = 0 ∨ k = 1) with rfl | rfl
      · exact ⟨l1, A1, c1, ⟨fun W hW => (cell_in (blk_below Ha.out hW) 0).trans rfl⟩, H1, hc1, HF1.out, ⟨fun h => by rw [← HR2.out, if_pos (show (frameP m 0 l1).2 ≠ 0 from h)]; rfl⟩, ⟨fun h => ⟨fun _ => h, fun h2 => absurd h2 (by decide)⟩⟩⟩
      · exact ⟨l2, A2, c2, ⟨fun W hW => (cell_in (blk_below Ha.out hW) 1).trans rfl⟩, H2, hc2, HF2.out, ⟨fun h => by rw [← HR2.out, if_neg (by rw [HQ1.out (by decide)]; decide), if_pos (show (frameP m 1 l2).2 ≠ 0 from h)]; rfl⟩, ⟨fun h => ⟨fun _ => HQ1.out (by decide), fun _ => h⟩⟩⟩
    have HF := Aside0.mk hf
    have hL := hf.1
    have d0 : decide ((k : Int) < 2) = true := decide_eq_true (by omega)
    have d1 : decide (k < 2) = true := decide_eq_true hk1
    have q1 : (0 ≤ (k : Int)) = True := eq_true (by omega)
    have q2 : ((k : Int) < 2) = True := eq_true (by omega)
    have q3 : (k < 2) = True := eq_true hk1
    have hnil : (⟨g1, 0, none⟩ : Addr).add k = ⟨g1, k, none⟩ := by rw [Addr.add_lit, Nat.zero_add]
    have y0 := HY.out _ HK.out
    have HUP := Aside0.mk (Try.underlying47)
    have e47 := Try.underlying47
    obtain ⟨FP, hFP⟩ : ∃ p, frameP m (k : Int) L = p := ⟨_, rfl⟩
    rw [hFP] at HBad HGood
    have HFP := Aside0.mk hFP
    have HK2 := Aside0.mk hk1
    clear hf hFP hk2 hk1
    by_cases h32 : 32 < (L.length : Int)
    · have e0 : FP = (-1, 3) := by rw [← HFP.out]; unfold frameP; rw [if_pos h32]
      subst e0
      have e1 := HBad.out (by decide)
      subst e1
      have n1 : decide (32 < (L.length : Int)) = true := decide_eq_true h32
      have n2 : decide (32 < L.length) = true := decide_eq_true (by omega)
      clear HBad HGood HR2 HQ1 HQ2 HFP h32
      go_wp2_with fail
      go_ret3
      exact ⟨rfl, HBr.out⟩
    have n1 : decide (32 < (L.length : Int)) = false := decide_eq_false h32
    have n2 : decide (32 < L.length) = false := decide_eq_false (by omega)
    have HFP2 : Aside0 ((match firstBad m L 0 with | some p => p | none => spanP (k : Int) L) = FP) := ⟨by rw [← HFP.out]; unfold frameP; rw [if_neg h32]; cases firstBad m L 0 <;> rfl⟩
    clear HFP h32
    go_wp2_with fail
    go_loopw [8, 9] (fun v8 _ wi => ∃ i : Nat, i ≤ L.length ∧ v8 = .int .i64 (i : Int) ∧ Aside0 (firstBad m L 0 = firstBad m (L.drop i) i) ∧ Below wr.heap.size wr wi) (fun v8 _ _ => ((L.length : Int) - intOf v8).toNat)
    case atStart => exact ⟨0, Nat.zero_le _, rfl, ⟨rfl⟩, Below.refl _ _⟩
    case round =>
      obtain ⟨i, hi, rfl, HI, hbi⟩ := hrel
      have HBi := Aside0.mk (below_step HBr.out hbi)
      have HKi := Aside0.mk (below_step HK.out hbi)
      have HKK := Aside0.mk hbi
      clear hbi y0
      have y0 := HY.out _ HKi.out
      by_cases hlt : i < L.length
      · have d2 : decide ((i : Int) < (L.length : Int)) = true := decide_eq_true (by omega)
        have d3 : decide (i < L.length) = true := decide_eq_true hlt
        have q4 : (0 ≤ (i : Int)) = True := eq_true (by omega)
        have q5 : ((i : Int) < (L.length : Int)) = True := eq_true (by omega)
        have q6 : (i < L.length) = True := eq_true hlt
        obtain ⟨x, hx⟩ : ∃ x, L[i] = x := ⟨_, rfl⟩
        obtain ⟨ad, A4, c4, A5, c5, hA, x0, x1, x2, x3, x4, x5, hl4, hr4, hl5, hr5⟩ := win_at HLC.out HBi.out hlt hx
        subst hA
        have HR4 := Aside0.mk (Kd.C_below hr4 HBi.out)
        have HR5 := Aside0.mk (Kd.C_below hr5 HBi.out)
        have HN : Aside0 (firstBad m L 0 = if wndP x m ≠ 0 then some ((i : Int), wndP x m) else firstBad m (L.drop (i + 1)) (i + 1)) := ⟨by rw [HI.out, List.drop_eq_getElem_cons hlt, hx, firstBad]⟩
        obtain ⟨e, he⟩ : ∃ e, wndP x m = e := ⟨_, rfl⟩
        rw [he] at HN
        have HLT := Aside0.mk hlt
        have hcw := Aside0.mk (rwindow_calls x A4 c4 A5 c5 m wr HR4.out hl4 HR5.out hl5 he)
        clear hx HI hr4 hr5 hlt
        go_wp2_with fail
        have hc := hcw.out
        unfold winCs at hc
        refine hc.mono ?_
        rintro e' w5 ⟨rfl, hb5⟩
        have HB5 := Aside0.mk (below_step HBi.out hb5)
        have HK5 := Aside0.mk (below_step HKK.out hb5)
        clear hc hcw hb5 x0 x1 x2 x3 x4 x5 he
        by_cases he0 : e = 0
        · subst he0
          have HN2 : Aside0 (firstBad m L 0 = firstBad m (L.drop (i + 1)) (i + 1)) := ⟨by rw [HN.out, if_neg (by decide)]⟩
          clear HN
          go_wp2_with fail
          exact ⟨⟨i + 1, by have := HLT.out; omega, by rw [Int.natCast_add]; rfl, HN2, HK5.out⟩, by have := HLT.out; simp [intOf]; omega⟩
        · have k1 : (e != 0) = true := by simpa using he0
          have k2 : (e == 0) = false := by simpa using he0
          have e0 : FP = ((i : Int), e) := by rw [← HFP2.out, HN.out, if_pos he0]
          subst e0
          have e1 := HBad.out he0
          subst e1
          clear HBad HGood HR2 HQ1 HQ2 HFP2 HN he0
          go_wp2_with fail
          go_ret3
          exact ⟨rfl, HB5.out⟩
      · have d2 : decide ((i : Int) < (L.length : Int)) = false := decide_eq_false (by omega)
        have d3 : decide (i < L.length) = false := decide_eq_false hlt
        have HFP3 : Aside0 (spanP (k : Int) L = FP) := ⟨by rw [← HFP2.out, HI.out, List.drop_eq_nil_of_le (by omega), firstBad]⟩
        obtain ⟨s, hs⟩ : ∃ s, spansW (10 + 2 * (k : Int)) 3 L = s := ⟨_, rfl⟩
        have HFP4 : Aside0 ((if s.any (fun x => decide (200 < x)) = true then (-1, 16) else (0, 0)) = FP) := ⟨by rw [← HFP3.out, spanP_any hs]⟩
        have HS := Aside0.mk hs
        clear hlt HI HFP2 HFP3 hs
        go_wp2_with fail
        refine (rspans_calls A c L (k : Int) wr (Kd.C_below HLC.out HBi.out) HF.out (by omega) (by have := HK2.out; omega) HS.out).mono ?_
        rintro e w6 ⟨v', rfl, h6, hb6⟩
        obtain ⟨A6, c6, e6⟩ := Kd.R_slice h6
        subst e6
        have HS6 := Aside0.mk (Kd.R_reads' h6).2.2
        have hsl : s.length ≤ 9223372036854775807 := (Kd.R_reads' h6).2.2.2.1
        have HB6 := Aside0.mk (below_step HBi.out hb6)
        have HK6 := Aside0.mk (below_step HKi.out hb6)
        clear h6 hb6 y0
        go_wp2_with fail
        go_loopw [11] (fun v11 wj => ∃ j : Nat, j ≤ s.length ∧ v11 = .int .i64 (j : Int) ∧ Aside0 ((s.take j).any (fun x => decide (200 < x)) = false) ∧ wj = w6) (fun v11 _ => ((s.length : Int) - intOf v11).toNat)
        case atStart => exact ⟨0, Nat.zero_le _, rfl, ⟨rfl⟩, rfl⟩
        case round =>
          obtain ⟨j, hj, rfl, HJ, hwj⟩ := hrel
          obtain rfl := hwj.symm
          by_cases hlj : j < s.length
          · have d4 : decide ((j : Int) < (s.length : Int)) = true := decide_eq_true (by omega)
            have d5 : decide (j < s.length) = true := decide_eq_true hlj
            have q7 : (0 ≤ (j : Int)) = True := eq_true (by omega)
            have q8 : ((j : Int) < (s.length : Int)) = True := eq_true (by omega)
            have q9 : (j < s.length) = True := eq_true hlj
            obtain ⟨x, hx⟩ : ∃ x, s[j] = x := ⟨_, rfl⟩
            obtain ⟨ad, hA, x0⟩ := int_at HS6.out hlj hlj hx
            subst hA
            by_cases hbig : 200 < x
            · have d6 : decide (200 < x) = true := decide_eq_true hbig
              have e0 : FP = (-1, 16) := by rw [← HFP4.out, if_pos (any_hit hlj (by rw [hx]; exact d6))]
              subst e0
              have e1 := HBad.out (by decide)
              subst e1
              clear HBad HGood HR2 HQ1 HQ2 HFP4 hbig HJ hx
              go_wp2_with fail
              go_ret3
              exact ⟨rfl, HB6.out⟩
            · have d6 : decide (200 < x) = false := decide_eq_false hbig
              have HJ2 : Aside0 ((s.take (j + 1)).any (fun x => decide (200 < x)) = false) := ⟨any_step hlj HJ.out (by rw [hx]; exact d6)⟩
              clear hbig HJ hx
              go_wp2_with fail
              exact ⟨⟨j + 1, by omega, by rw [Int.natCast_add]; rfl, HJ2, trivial⟩, by simp [intOf]; omega⟩
          · have d4 : decide ((j : Int) < (s.length : Int)) = false := decide_eq_false (by omega)
            have d5 : decide (j < s.length) = false := decide_eq_false hlj
            have hg : FP.2 = 0 := by
              have h := HJ.out
              rw [List.take_of_length_le (by omega)] at h
              rw [← HFP4.out, h]; rfl
            obtain ⟨G1, G2⟩ := HGood.out hg
            have HG1 := Aside0.mk G1
            have HG2 := Aside0.mk G2
            clear hlj HJ hg G1 G2
            go_wp2_with fail
            exact ⟨⟨k + 1, by have := HK2.out; omega, by rw [Int.natCast_add]; rfl, HG1, HG2, HK6.out⟩, by have := HK2.out; simp [intOf]; omega⟩
end Go.Proofs.Ytbaapakkdnhcmaa.PWe
