/- busbarref42.Map: the places of parts. Helper text. -/
import Derived.Test.YtpafcbbnjkmhaaaLaArr
import Derived.Test.YtpafcbbnjkmhaaaPLax9
namespace Go.Proofs.Ytpafcbbnjkmhaaa.PLa
open Go.RowKit Go.Proofs.Ytpafcbbnjkmhaaa.Kx Go.Proofs.YtpafcbbnjkmhaaaW.PrintWords Go.Proofs.YtpafcbbnjkmhaaaW.PrintLast Go.Proofs.YtpafcbbnjkmhaaaW.PrintMore
set_option linter.unusedVariables false
set_option linter.unusedSimpArgs false

def rt0 (p : S40) : Prop := 0 ≤ p.f0 ∧ 1 ≤ p.f1 ∧ p.f1 ≤ 64 ∧ p.f0 ≤ 64 - p.f1
instance (p : S40) : Decidable (rt0 p) := by unfold rt0; infer_instance
theorem right0_f (p : S40) : busbarref42_Right.f p.f0 p.f1 = some (decide (rt0 p)) := by
  have w : ∀ x : Int, 0 ≤ x → x ≤ 64 → wrap64 x = x := fun x _ _ => by unfold wrap64; omega
  unfold busbarref42_Right.f
  split
  · split
    · split
      · rw [w _ (by omega) (by omega)]
        congr 1
        rw [Bool.eq_iff_iff, decide_eq_true_iff, decide_eq_true_iff]
        unfold rt0
        omega
      · rw [decide_eq_false (by unfold rt0; omega)]
    · rw [decide_eq_false (by unfold rt0; omega)]
  · rw [decide_eq_false (by unfold rt0; omega)]
/-- Has a part a place, of its first n ones? -/
def hasN (p : S40) (n : Int) (x : Nat) : Bool := decide (rt0 p ∧ p.f0 ≤ (x : Int) ∧ (x : Int) < p.f0 + n)
def mapF (l : List S40) (x : Nat) : Bool := l.any fun p => hasN p p.f1 x
theorem mapF_snoc (l : List S40) (p : S40) (x : Nat) : mapF (l ++ [p]) x = (mapF l x || hasN p p.f1 x) := by
  simp [mapF]
theorem z34 : ∀ W : World, (zeroValue 34).run Try.prog W = .ok (.agg (arrB fun _ => false)) W := fun W =>
  (Try.zeroValue34 W).trans (congrArg (fun v => Result.ok v W) (by kernel_rfl))
theorem hasN_no {p : S40} (h : ¬ rt0 p) (n : Int) (x : Nat) : hasN p n x = false := decide_eq_false fun c => h c.1
theorem hasN_zero (p : S40) (x : Nat) : hasN p 0 x = false := decide_eq_false fun c => by omega
theorem hasN_step {p : S40} (h : rt0 p) (k : Nat) (x q : Nat) (hq : p.f0 + (k : Int) = (q : Int)) : hasN p ((k + 1 : Nat) : Int) x = if x = q then true else hasN p (k : Int) x := by
  unfold hasN
  by_cases c : x = q
  · rw [if_pos c]
    exact decide_eq_true ⟨h, by omega, by omega⟩
  · rw [if_neg c, Bool.eq_iff_iff, decide_eq_true_iff, decide_eq_true_iff]
    constructor
    · rintro ⟨a, b, d⟩
      exact ⟨a, b, by omega⟩
    · rintro ⟨a, b, d⟩
      exact ⟨a, b, by omega⟩
theorem rd40_nat {l : List S40} {i : Nat} (h : i < l.length) : rd_T40 l (i : Int) = l[i] := by
  unfold rd_T40
  rw [Int.toNat_natCast, List.getD_eq_getElem?_getD, List.getElem?_eq_getElem h]
  rfl
set_option maxHeartbeats 2000000 in
theorem map_any (l : List S40) (A : Option Addr) (c : Nat) (w : World) (hA : Kd.C k40 w A l.length l) (hl : l.length ≤ 1000) :
    Calls Try.prog 11 #[.slice A l.length c] w fun e w' => e = .returned (.agg (arrB (mapF l))) ∧ Below w.heap.size w w' := by
  have HA := Aside0.mk hA
  have hl' : (l.length : Int) ≤ 1000 := by omega
  clear hA
  have hz := z34
  have hs34 : ∀ w, (Go.sizeOf 4).run Try.prog w = .ok 1 w := Try.sizeOf4
  go_enter Try.func11, Try.ntmps11
  go_wp2
  clear hz
  go_loopw [4] (fun v4 wr => ∃ n : Nat, n ≤ l.length ∧ v4 = .int .i64 n ∧ wr.heap[w.heap.size]? = some (.cells (arrB fun _ => false) 34 (0, 0)) ∧ wr.heap[w.heap.size + 1]? = some (.cells (arrB (mapF (l.take n))) 34 (0, 0)) ∧ Below w.heap.size w wr) (fun v4 _ => l.length - (intOf v4).toNat)
  case atStart =>
    refine ⟨0, by omega, rfl, ?_, ?_, ((Below.refl _ _).alloc (Nat.le_refl _) _).alloc (by simp) _⟩
    · exact (heap_alloc_old _ _ (by simp)).trans (heap_alloc_new _ _)
    · have := heap_alloc_new (w.alloc (.cells (arrB fun x => false) 34)) (.cells (arrB fun x => false) 34)
      have e : mapF (l.take 0) = fun _ => false := by funext x; simp [mapF]
      rw [e]
      simpa using this
  case round =>
    obtain ⟨n, hn, rfl, h0, h1, hB⟩ := hrel
    have H0 := Aside0.mk h0
    have H1 := Aside0.mk h1
    have HB := Aside0.mk hB
    clear h0 h1 hB
    by_cases hlt : (n : Int) < (l.length : Int)
    · have hi : n < l.length := by omega
      obtain ⟨p, hp⟩ : ∃ p, l[n] = p := ⟨_, rfl⟩
      have hrd : rd_T40 l (n : Int) = p := by rw [rd40_nat hi, hp]
      have HC : Aside0 (∃ ad, A = some ad ∧ ∀ w', Below w.heap.size w w' → w'.cell? (ad.add (n * 2)) = some (.int .i64 p.f0) ∧ w'.cell? ⟨(ad.add (n * 2)).block, (ad.add (n * 2)).off + 1, none⟩ = some (.int .i64 p.f1)) := ⟨by
        obtain ⟨ad, e, c0, c1⟩ := at_T40 HA.out (n : Int) (by omega) hlt
        rw [hrd, Int.toNat_natCast] at c0 c1
        exact ⟨ad, e, fun w' hb => ⟨(hb.cell (World.block_lt_of_cell? w _ c0)).trans c0, (hb.cell (World.block_lt_of_cell? w _ c1)).trans c1⟩⟩⟩
      obtain ⟨ad, rfl, hcc⟩ := HC.out
      have HCC := Aside0.mk hcc
      clear hcc HC hrd
      have HP := Aside0.mk hp
      clear hp
      have hn0 : (0 : Int) ≤ (n : Int) := by omega
      have HR := Aside0.mk (right0_f p)
      have HT : Aside0 (l.take (n + 1) = l.take n ++ [p]) := ⟨by rw [← HP.out, List.take_succ_eq_append_getElem hi]⟩
      obtain ⟨f0, f1⟩ := p
      go_wp2_with fail
      go_loopw [5] (fun v5 w2 => ∃ k : Nat, (k : Int) ≤ (if rt0 ⟨f0, f1⟩ then f1 else 0) ∧ v5 = .int .i64 k ∧ w2.heap[w.heap.size]? = some (.cells (arrB fun _ => false) 34 (0, 0)) ∧ w2.heap[w.heap.size + 1]? = some (.cells (arrB fun x => mapF (l.take n) x || hasN ⟨f0, f1⟩ (k : Int) x) 34 (0, 0)) ∧ Below w.heap.size w w2) (fun v5 _ => 64 - (intOf v5).toNat)
      case atStart =>
        refine ⟨0, by split <;> rename_i h <;> (try unfold rt0 at h) <;> (try dsimp only at h) <;> omega, rfl, H0.out, ?_, HB.out⟩
        rw [H1.out]
        congr 3
        funext x
        rw [Int.natCast_zero, hasN_zero, Bool.or_false]
      case round =>
        obtain ⟨k, hk, rfl, h0, h1, hB2⟩ := hrel
        have hs2 : w.heap.size + 1 < wr.heap.size := (Array.getElem?_eq_some_iff.1 h1).1
        have G0 := Aside0.mk h0
        have G1 := Aside0.mk h1
        have HB2 := Aside0.mk hB2
        clear h0 h1 hB2
        obtain ⟨c0, c1⟩ := HCC.out _ HB2.out
        have C0 := Aside0.mk c0
        have C1 := Aside0.mk c1
        by_cases hr : rt0 ⟨f0, f1⟩
        · rw [if_pos hr] at hk
          have HRT := Aside0.mk hr
          have HD : Aside0 (∀ W, Calls Try.prog 13 #[.agg #[.int .i64 f0, .int .i64 f1]] W fun e w' => e = .returned (.bool true) ∧ Below W.heap.size W w') := ⟨fun W => busbarref42_Right.calls f0 f1 true W (by rw [HR.out, decide_eq_true hr])⟩
          unfold rt0 at hr
          dsimp only at hr
          by_cases hkl : (k : Int) < f1
          · obtain ⟨q, hq⟩ : ∃ q : Nat, f0 + (k : Int) = (q : Int) := ⟨(f0 + k).toNat, by omega⟩
            have hq64 : q < 64 := by omega
            have hq64' : (q : Int) < 64 := by omega
            have hq0 : (0 : Int) ≤ (q : Int) := by omega
            have hwq : IntKind.i64.wrap (f0 + (k : Int)) = (q : Int) := by
              rw [hq]
              simp [IntKind.wrap, IntKind.bits, IntKind.signed]
              omega
            have HQ := Aside0.mk hq
            have hk62 : (k : Int) < 64 := by omega
            clear hq hr
            go_wp2_with (go_at_call 13; refine (HD.out _).mono ?_; rintro e w3 ⟨rfl, hb⟩; have g0 := Aside0.mk ((hb.block _ (by omega)).trans G0.out); have g1 := Aside0.mk ((hb.block _ (by omega)).trans G1.out); have c0' := (hb.cell (World.block_lt_of_cell? wr _ C0.out)).trans C0.out; have c1' := (hb.cell (World.block_lt_of_cell? wr _ C1.out)).trans C1.out; have x1 := arrB_cell g1.out hq64; have fr1 : w3.frozen? ⟨w.heap.size + 1, q, none⟩ = false := by simp [World.frozen?, g1.out])
            refine ⟨⟨k + 1, by rw [if_pos HRT.out]; omega, by simp, ?_, ?_, ?_⟩, by simp [intOf]; omega⟩
            · exact (Below.heap_setCell w3 _ _ _ (by show w.heap.size ≠ w.heap.size + 1; omega)).trans g0.out
            · rw [arrB_put g1.out hq64 true]
              congr 3
              funext x
              rw [hasN_step HRT.out k x q HQ.out]
              by_cases e : x = q
              · rw [if_pos e, if_pos e, Bool.or_true]
              · rw [if_neg e, if_neg e]
            · exact (below_step HB2.out hb).setCell (by show w.heap.size ≤ w.heap.size + 1; omega) _
          · have hke : (k : Int) = f1 := by omega
            go_wp2_with (go_at_call 13; refine (HD.out _).mono ?_; rintro e w3 ⟨rfl, hb⟩; have g0 := Aside0.mk ((hb.block _ (by omega)).trans G0.out); have g1 := Aside0.mk ((hb.block _ (by omega)).trans G1.out); have c0' := (hb.cell (World.block_lt_of_cell? wr _ C0.out)).trans C0.out; have c1' := (hb.cell (World.block_lt_of_cell? wr _ C1.out)).trans C1.out)
            refine ⟨⟨n + 1, by omega, by simp, g0.out, ?_, below_step HB2.out hb⟩, by simp [intOf]; omega⟩
            rw [g1.out, HT.out]
            congr 3
            funext x
            rw [mapF_snoc, hke]
        · rw [if_neg hr] at hk
          have hk0 : k = 0 := by omega
          subst hk0
          have HRT := Aside0.mk hr
          have HD : Aside0 (∀ W, Calls Try.prog 13 #[.agg #[.int .i64 f0, .int .i64 f1]] W fun e w' => e = .returned (.bool false) ∧ Below W.heap.size W w') := ⟨fun W => busbarref42_Right.calls f0 f1 false W (by rw [HR.out, decide_eq_false hr])⟩
          clear hr
          go_wp2_with (go_at_call 13; refine (HD.out _).mono ?_; rintro e w3 ⟨rfl, hb⟩; have g0 := Aside0.mk ((hb.block _ (by omega)).trans G0.out); have g1 := Aside0.mk ((hb.block _ (by omega)).trans G1.out))
          refine ⟨⟨n + 1, by omega, by simp, g0.out, ?_, below_step HB2.out hb⟩, by simp [intOf]; omega⟩
          rw [g1.out, HT.out]
          congr 3
          funext x
          rw [mapF_snoc, hasN_no HRT.out, hasN_no HRT.out]
    · obtain rfl : n = l.length := by omega
      rw [List.take_length] at H1
      clear hlt
      go_wp2_with (first
        | refine wpList_load_row rfl 34 _ rfl (w.heap.size + 1) rfl 34 _ (0, 0) _ H1.out Try.underlying34 rfl (by rw [arrB_size]; kernel_rfl) ?_
        | refine wpList_store_row rfl 34 _ _ rfl w.heap.size (arrB (mapF l)) rfl rfl 34 _ H0.out (by rw [arrB_size]; kernel_rfl) (by rw [arrB_size, arrB_size]) (arrB_one _) ?_)
      (try simp only [Exit.inBlock, Exit.then])
      refine bodyPost_ret (results_cell_row rfl _ _ w.heap.size 34 (arrB (mapF l)) (0, 0) _ rfl ?_ Try.underlying34 rfl (by rw [arrB_size]; kernel_rfl)) rfl ⟨rfl, ?_⟩
      · exact setRow_heap _ _ _ _ _ _ H0.out
      · exact below_setRow HB.out (Nat.le_refl _)
end Go.Proofs.Ytpafcbbnjkmhaaa.PLa
