/- busbarref09.Read: its walk. Helper text. -/
import Derived.Test.YtekbaconbemgpaaWkPlain
import Derived.Test.YtekbaconbemgpaaPWf1
import Derived.Test.YtekbaconbemgpaaPWf2
import Derived.Test.YtekbaconbemgpaaK5
namespace Go.Proofs.Ytekbaconbemgpaa.PWe
open Go.RowKit Go.Proofs.Ytekbaconbemgpaa.Kx Go.Proofs.YtekbaconbemgpaaW.PrintWords Go.Proofs.YtekbaconbemgpaaW.PrintLast Go.Proofs.YtekbaconbemgpaaW.PrintMore
set_option linter.unusedVariables false
set_option linter.unusedSimpArgs false

theorem toB_at (s : ByteArray) (i : Nat) (h : i < s.size) : rd (toB s) (i : Int) = ((s[i]'h).toNat : Int) := by
  rw [rd_at (by rw [toB_len]; exact h)]
  simp [toB]; rfl
theorem long_is {op : Int} (h0 : 0 ≤ op) (h8 : op ≤ 8) : busbarref09_long.f op = some (longP op) := by
  rcases (by omega : op = 0 ∨ op = 1 ∨ op = 2 ∨ op = 3 ∨ op = 4 ∨ op = 5 ∨ op = 6 ∨ op = 7 ∨ op = 8) with rfl | rfl | rfl | rfl | rfl | rfl | rfl | rfl | rfl <;> decide
theorem finR_ {a : Act} {w W : World} {g : Nat} {C : List Int} {n e : Int} (hp : a.tmps.getD 4 undef = .pointer (some ⟨g, 0, none⟩)) (h5 : a.tmps.getD 5 undef = .int .i64 n) (h6 : a.tmps.getD 6 undef = .int .i64 e) (hd : a.defers = []) (hC : C.length = 7)
    (hg : W.heap[g]? = some (.cells (cc C) 84 (0, 0))) (hB : Below w.heap.size w W) : bodyPost Try.prog Try.f29 (fun e' w' => e' = .returned (.tuple #[.agg (cc C), .int .i64 n, .int .i64 e]) ∧ Below w.heap.size w w') Exit.ret a W := by
  refine bodyPost_ret (results_ctt (ty := 84) (p := 4) (u1 := 5) (u2 := 6) rfl a.tmps W g (cc C) hp (run_loadVar_row W g 84 84 (cc C) (0, 0) _ hg Try.underlying84 rfl (by rw [show (cc C).size = 7 by simp [cc, hC]]; kernel_rfl))) hd ?_
  rw [h5, h6]
  exact ⟨rfl, hB⟩
theorem refRight_f (op a w c m bi t : Int) (hw : -1000 ≤ w ∧ w ≤ 1000) : busbarref09_Right.f 4 op a w c m bi t = some (rightP op a w c m bi t) := by
  have j3 : ∀ k, busbarref09_Right.j3 (k + 1) false op a w c m bi t = some (decide (¬ (op = 4 ∧ (bi < 1 ∨ bi > 100)) ∧ ((op ≠ 6 ∧ op ≠ 8) ∨ 0 ≤ t ∧ t ≤ 1023))) := by
    intro k
    rw [busbarref09_Right.j3, if_neg (by decide)]
    by_cases h4 : op = 4
    · by_cases h5 : bi < 1
      · rw [if_pos h4, if_pos h5]; refine some_iff ?_; simp only [decide_eq_true_eq, Bool.false_eq_true, false_iff]; omega
      · by_cases h6 : bi > 100
        · rw [if_pos h4, if_neg h5, if_pos h6]; refine some_iff ?_; simp only [decide_eq_true_eq, Bool.false_eq_true, false_iff]; omega
        · rw [if_pos h4, if_neg h5, if_neg h6, if_neg (by omega), if_neg (by omega)]; refine some_iff ?_; simp only [decide_eq_true_eq, true_iff]; omega
    · rw [if_neg h4]
      by_cases h6 : op = 6
      · rw [if_pos h6]
        by_cases ht : t ≥ 0
        · rw [if_pos ht]; refine some_iff ?_; simp only [decide_eq_true_eq]; omega
        · rw [if_neg ht]; refine some_iff ?_; simp only [decide_eq_true_eq, Bool.false_eq_true, false_iff]; omega
      · rw [if_neg h6]
        by_cases h8 : op = 8
        · rw [if_pos h8]
          by_cases ht : t ≥ 0
          · rw [if_pos ht]; refine some_iff ?_; simp only [decide_eq_true_eq]; omega
          · rw [if_neg ht]; refine some_iff ?_; simp only [decide_eq_true_eq, Bool.false_eq_true, false_iff]; omega
        · rw [if_neg h8]; refine some_iff ?_; simp only [decide_eq_true_eq, true_iff]; omega
  have j2 : ∀ k, busbarref09_Right.j2 (k + 2) false op a w c m bi t = some (decide (¬ (op = 1 ∧ (c < 0 ∨ c ≥ m)) ∧ ¬ (op = 4 ∧ (bi < 1 ∨ bi > 100)) ∧ ((op ≠ 6 ∧ op ≠ 8) ∨ 0 ≤ t ∧ t ≤ 1023))) := by
    intro k
    rw [busbarref09_Right.j2, if_neg (by decide)]
    have bad : busbarref09_Right.j3 (k + 1) true op a w c m bi t = some false := by rw [busbarref09_Right.j3, if_pos rfl]
    by_cases h1 : op = 1
    · rw [if_pos h1]
      by_cases hc : c < 0
      · rw [if_pos hc, bad]; refine some_iff ?_; simp only [decide_eq_true_eq, Bool.false_eq_true, false_iff]; omega
      · rw [if_neg hc]
        by_cases hm : c ≥ m
        · rw [decide_eq_true hm, bad]; refine some_iff ?_; simp only [decide_eq_true_eq, Bool.false_eq_true, false_iff]; omega
        · rw [decide_eq_false hm, j3]; refine some_iff ?_; simp only [decide_eq_true_eq]; omega
    · rw [if_neg h1, j3]; refine some_iff ?_; simp only [decide_eq_true_eq]; omega
  have j1 : ∀ k, busbarref09_Right.j1 (k + 3) false op a w c m bi t = some (decide (¬ ((op = 1 ∨ op = 2) ∧ (a < 0 ∨ a > 64 - w)) ∧ ¬ (op = 1 ∧ (c < 0 ∨ c ≥ m)) ∧ ¬ (op = 4 ∧ (bi < 1 ∨ bi > 100)) ∧ ((op ≠ 6 ∧ op ≠ 8) ∨ 0 ≤ t ∧ t ≤ 1023))) := by
    intro k
    rw [busbarref09_Right.j1, if_neg (by decide), wr (x := 64 - w) (by omega) (by omega)]
    have bad : busbarref09_Right.j2 (k + 2) true op a w c m bi t = some false := by rw [busbarref09_Right.j2, if_pos rfl]
    have key : (op = 1 ∨ op = 2) → (if a < 0 then busbarref09_Right.j2 (k + 2) true op a w c m bi t else busbarref09_Right.j2 (k + 2) (decide (a > 64 - w)) op a w c m bi t) = some (decide (¬ ((op = 1 ∨ op = 2) ∧ (a < 0 ∨ a > 64 - w)) ∧ ¬ (op = 1 ∧ (c < 0 ∨ c ≥ m)) ∧ ¬ (op = 4 ∧ (bi < 1 ∨ bi > 100)) ∧ ((op ≠ 6 ∧ op ≠ 8) ∨ 0 ≤ t ∧ t ≤ 1023))) := by
      intro h
      by_cases ha : a < 0
      · rw [if_pos ha, bad]; refine some_iff ?_; simp only [decide_eq_true_eq, Bool.false_eq_true, false_iff]; omega
      · rw [if_neg ha]
        by_cases hw2 : a > 64 - w
        · rw [decide_eq_true hw2, bad]; refine some_iff ?_; simp only [decide_eq_true_eq, Bool.false_eq_true, false_iff]; omega
        · rw [decide_eq_false hw2, j2]; refine some_iff ?_; simp only [decide_eq_true_eq]; omega
    by_cases h1 : op = 1
    · rw [if_pos h1]; exact key (.inl h1)
    · rw [if_neg h1]
      by_cases h2 : op = 2
      · rw [if_pos h2]; exact key (.inr h2)
      · rw [if_neg h2, j2]; refine some_iff ?_; simp only [decide_eq_true_eq]; omega
  have bad1 : busbarref09_Right.j1 3 true op a w c m bi t = some false := by rw [busbarref09_Right.j1, if_pos rfl]
  have bad0 : busbarref09_Right.j0 4 true op a w c m bi t = some false := by rw [busbarref09_Right.j0, if_pos rfl]
  have hj1 := j1 0
  unfold busbarref09_Right.f
  by_cases h0 : op < 0
  · rw [if_pos h0, bad0]; refine some_iff ?_; rw [rightP_iff]; simp only [Bool.false_eq_true, false_iff]; omega
  rw [if_neg h0]
  by_cases h8 : op > 8
  · rw [decide_eq_true h8, bad0]; refine some_iff ?_; rw [rightP_iff]; simp only [Bool.false_eq_true, false_iff]; omega
  rw [decide_eq_false h8, busbarref09_Right.j0, if_neg (by decide)]
  by_cases h13 : 1 ≤ op ∧ op ≤ 3
  · rw [if_pos h13.1, if_pos h13.2]
    by_cases w1 : w < 1
    · rw [if_pos w1, bad1]; refine some_iff ?_; rw [rightP_iff]; simp only [Bool.false_eq_true, false_iff]; omega
    rw [if_neg w1]
    by_cases w8 : w > 8
    · rw [if_pos w8, bad1]; refine some_iff ?_; rw [rightP_iff]; simp only [Bool.false_eq_true, false_iff]; omega
    rw [if_neg w8]
    by_cases m1 : m < 1
    · rw [if_pos m1, bad1]; refine some_iff ?_; rw [rightP_iff]; simp only [Bool.false_eq_true, false_iff]; omega
    rw [if_neg m1]
    by_cases m4 : m > 4
    · rw [decide_eq_true m4, bad1]; refine some_iff ?_; rw [rightP_iff]; simp only [Bool.false_eq_true, false_iff]; omega
    rw [decide_eq_false m4, hj1]; refine some_iff ?_; rw [rightP_iff]; simp only [decide_eq_true_eq]; omega
  · have e : (if op ≥ 1 then (if op ≤ 3 then (if w < 1 then busbarref09_Right.j1 3 true op a w c m bi t else (if w > 8 then busbarref09_Right.j1 3 true op a w c m bi t else (if m < 1 then busbarref09_Right.j1 3 true op a w c m bi t else busbarref09_Right.j1 3 (decide (m > 4)) op a w c m bi t))) else busbarref09_Right.j1 3 false op a w c m bi t) else busbarref09_Right.j1 3 false op a w c m bi t) = busbarref09_Right.j1 3 false op a w c m bi t := by
      by_cases h1 : op ≥ 1
      · rw [if_pos h1, if_neg (by omega)]
      · rw [if_neg h1]
    refine e.trans (hj1.trans ?_)
    refine some_iff ?_; rw [rightP_iff]; simp only [decide_eq_true_eq]; omega
theorem ext_at (s : ByteArray) (i n : Nat) (hn : i + n ≤ s.size) : ∃ v : ByteArray, s.extract i (i + n) = v ∧ v.size = n ∧ ∀ (j : Nat) (h : j < v.size), ((v[j]'h).toNat : Int) = rd (toB s) ((i : Int) + (j : Int)) := by
  refine ⟨_, rfl, by simp; omega, fun j h => ?_⟩
  have h2 : j < n := by simp at h; omega
  rw [show (i : Int) + (j : Int) = ((i + j : Nat) : Int) by omega, toB_at s (i + j) (by omega)]
  congr 2
  show (s.extract i (i + n)).data[j]'_ = s.data[i + j]'_
  simp [ByteArray.data_extract]
def Ans (s : ByteArray) (at_ : Int) (w : World) (e : Ending) (w' : World) : Prop := e = .returned (.tuple #[.agg (cc (readP (toB s) at_).1), .int .i64 (readP (toB s) at_).2.1, .int .i64 (readP (toB s) at_).2.2]) ∧ Below w.heap.size w w'

set_option maxHeartbeats 4000000 in
set_option maxRecDepth 100000 in
theorem ref_read_0 (s : ByteArray) (i : Nat) (w : World) (hs : s.size ≤ 100000) (hi : i < s.size) (hop : ((s[i]'hi).toNat : Int) = 0) : Calls Try.prog 29 #[.string s, .int .i64 (i : Int)] w (Ans s (i : Int) w) := by
  have hro : readP (toB s) (i : Int) = if 1 > (s.size : Int) - (i : Int) then (zero7, 0, 10) else
      if rightL (cmdP (toB s) (i : Int) 0) = true then (cmdP (toB s) (i : Int) 0, (i : Int) + 1, 0) else (zero7, 0, 11) := by
    rw [readP, if_neg (by rw [toB_len]; omega), if_neg (by rw [toB_len]; omega), toB_len, toB_at s i hi, hop, if_neg (by decide)]; rfl
  have HRO := Aside0.mk hro
  obtain ⟨g4, hg4⟩ : ∃ g, w.heap.size = g := ⟨_, rfl⟩
  have B1 : Below w.heap.size w (w.alloc (.cells (cc zero7) 84)) := below_alloc (Below.refl _ _) _
  have B2 : Below (w.alloc (.cells (cc zero7) 84)).heap.size (w.alloc (.cells (cc zero7) 84)) ((w.alloc (.cells (cc zero7) 84)).alloc (.cells (cc [0, 0, 0, 0, 0, 0, 0]) 84)) := below_alloc (Below.refl _ _) _
  have HB : Aside0 (Below w.heap.size w ((w.alloc (.cells (cc zero7) 84)).alloc (.cells (cc [0, 0, 0, 0, 0, 0, 0]) 84))) := ⟨below_step B1 B2⟩
  have H4 : Aside0 (((w.alloc (.cells (cc zero7) 84)).alloc (.cells (cc [0, 0, 0, 0, 0, 0, 0]) 84)).heap[g4]? = some (.cells (cc zero7) 84 (0, 0))) := ⟨blk_below (by rw [← hg4]; exact heap_alloc_new _ _) B2⟩
  have H7 : Aside0 (((w.alloc (.cells (cc zero7) 84)).alloc (.cells (cc [0, 0, 0, 0, 0, 0, 0]) 84)).heap[g4 + 1]? = some (.cells (cc [0, 0, 0, 0, 0, 0, 0]) 84 (0, 0))) := ⟨by rw [show g4 + 1 = (w.alloc (.cells (cc zero7) 84)).heap.size by simp [← hg4]]; exact heap_alloc_new _ _⟩
  have hgle : w.heap.size ≤ g4 := by omega
  have HS := Aside0.mk hs
  clear hro B1 B2
  have d1 : decide ((i : Int) < 0) = false := decide_eq_false (by omega)
  have d2 : decide ((s.size : Int) < (i : Int)) = false := decide_eq_false (by omega)
  have d2n : decide (s.size < i) = false := decide_eq_false (by omega)
  have d3 : ((i : Int) == (s.size : Int)) = false := by rw [beq_eq_false_iff_ne]; omega
  have d3n : (i == s.size) = false := by rw [beq_eq_false_iff_ne]; omega
  go_enter Try.func29, Try.ntmps29
  go_wp2_with fail
  refine (busbarref09_long.calls 0 1 _ (by decide)).mono ?_
  rintro e w1 ⟨rfl, hb1⟩
  replace H4 := Aside0.mk (blk_below H4.out hb1)
  replace H7 := Aside0.mk (blk_below H7.out hb1)
  replace HB := Aside0.mk (below_step HB.out hb1)
  clear hb1
  have hro := HRO.out
  clear HRO
  by_cases hL : 1 > (s.size : Int) - (i : Int)
  · rw [if_pos hL] at hro
    have c1 : decide ((s.size : Int) - (i : Int) < 1) = true := decide_eq_true (by omega)
    clear hL
    go_wp2_with (refine wpList_store_row rfl 84 _ _ rfl g4 (cc zero7) rfl rfl 84 _ H4.out (by rw [cc_size]; kernel_rfl) rfl (cc_one _) ?_)
    unfold Ans
    rw [hro]
    exact finR_ (C := zero7) rfl rfl rfl rfl rfl (setRow_heap _ _ _ _ _ _ H4.out) (Kx.below_setRow HB.out hgle)
  · rw [if_neg hL] at hro
    have HRO := Aside0.mk hro
    have c1 : decide ((s.size : Int) - (i : Int) < 1) = false := decide_eq_false (by omega)
    have HL := Aside0.mk hL
    clear hro hL
    have p1 : (i : Int) + 1 ≤ (s.size : Int) := by have := HL.out; omega
    have x0 := cell_in H7.out 0
    replace x0 : w1.cell? ⟨g4 + 1, 0, none⟩ = some (.int .i64 0) := x0
    obtain ⟨v, hv, hvs, hvb⟩ := ext_at s i 1 (by omega)
    have HVB := Aside0.mk hvb
    clear hvb
    have HRT : Aside0 (busbarref09_Right.f 4 0 0 0 0 0 0 0 = some (rightL [0, 0, 0, 0, 0, 0, 0])) := ⟨refRight_f _ _ _ _ _ _ _ (by omega)⟩
    have hro := HRO.out
    clear HRO
    rw [show cmdP (toB s) (i : Int) 0 = [0, 0, 0, 0, 0, 0, 0] from (by show _ = _; unfold cmdP; simp only [Int.reduceEq, if_true, if_false, or_self, or_false, false_or])] at hro
    obtain ⟨rb, hrb⟩ : ∃ r, rightL [0, 0, 0, 0, 0, 0, 0] = r := ⟨_, rfl⟩
    rw [hrb] at HRT hro
    have HRO := Aside0.mk hro
    clear hro hrb
    go_wp2_with (refine wpList_load_row rfl 84 _ rfl (g4 + 1) rfl 84 _ (0, 0) _ H7.out Try.underlying84 rfl (by rw [cc_size]; kernel_rfl) ?_)
    refine (busbarref09_Right.calls 4 0 0 0 0 0 0 0 rb _ HRT.out).mono ?_
    rintro e W9 ⟨rfl, hb9⟩
    replace H4 := Aside0.mk (blk_below H4.out hb9)
    replace H7 := Aside0.mk (blk_below H7.out hb9)
    replace HB := Aside0.mk (below_step HB.out hb9)
    clear hb9
    cases rb with
    | false =>
      go_wp2_with (refine wpList_store_row rfl 84 _ _ rfl g4 (cc zero7) rfl rfl 84 _ H4.out (by rw [cc_size]; kernel_rfl) rfl (cc_one _) ?_)
      unfold Ans
      rw [HRO.out]
      rw [if_neg (by decide)]
      exact finR_ (C := zero7) rfl rfl rfl rfl rfl (setRow_heap _ _ _ _ _ _ H4.out) (Kx.below_setRow HB.out hgle)
    | true =>
      go_wp2_with (first | (refine wpList_load_row rfl 84 _ rfl (g4 + 1) rfl 84 _ (0, 0) _ H7.out Try.underlying84 rfl (by rw [cc_size]; kernel_rfl) ?_) | (refine wpList_store_row rfl 84 _ _ rfl g4 (cc [0, 0, 0, 0, 0, 0, 0]) rfl rfl 84 _ H4.out (by rw [cc_size]; kernel_rfl) rfl (cc_one _) ?_))
      unfold Ans
      rw [HRO.out]
      rw [if_pos (by first | rfl | trivial)]
      exact finR_ (C := [0, 0, 0, 0, 0, 0, 0]) rfl rfl rfl rfl rfl (setRow_heap _ _ _ _ _ _ H4.out) (Kx.below_setRow HB.out hgle)

set_option maxHeartbeats 4000000 in
set_option maxRecDepth 100000 in
theorem ref_read_1 (s : ByteArray) (i : Nat) (w : World) (hs : s.size ≤ 100000) (hi : i < s.size) (hop : ((s[i]'hi).toNat : Int) = 1) : Calls Try.prog 29 #[.string s, .int .i64 (i : Int)] w (Ans s (i : Int) w) := by
  have hro : readP (toB s) (i : Int) = if 5 > (s.size : Int) - (i : Int) then (zero7, 0, 10) else
      if rightL (cmdP (toB s) (i : Int) 1) = true then (cmdP (toB s) (i : Int) 1, (i : Int) + 5, 0) else (zero7, 0, 11) := by
    rw [readP, if_neg (by rw [toB_len]; omega), if_neg (by rw [toB_len]; omega), toB_len, toB_at s i hi, hop, if_neg (by decide)]; rfl
  have HRO := Aside0.mk hro
  obtain ⟨g4, hg4⟩ : ∃ g, w.heap.size = g := ⟨_, rfl⟩
  have B1 : Below w.heap.size w (w.alloc (.cells (cc zero7) 84)) := below_alloc (Below.refl _ _) _
  have B2 : Below (w.alloc (.cells (cc zero7) 84)).heap.size (w.alloc (.cells (cc zero7) 84)) ((w.alloc (.cells (cc zero7) 84)).alloc (.cells (cc [1, 0, 0, 0, 0, 0, 0]) 84)) := below_alloc (Below.refl _ _) _
  have HB : Aside0 (Below w.heap.size w ((w.alloc (.cells (cc zero7) 84)).alloc (.cells (cc [1, 0, 0, 0, 0, 0, 0]) 84))) := ⟨below_step B1 B2⟩
  have H4 : Aside0 (((w.alloc (.cells (cc zero7) 84)).alloc (.cells (cc [1, 0, 0, 0, 0, 0, 0]) 84)).heap[g4]? = some (.cells (cc zero7) 84 (0, 0))) := ⟨blk_below (by rw [← hg4]; exact heap_alloc_new _ _) B2⟩
  have H7 : Aside0 (((w.alloc (.cells (cc zero7) 84)).alloc (.cells (cc [1, 0, 0, 0, 0, 0, 0]) 84)).heap[g4 + 1]? = some (.cells (cc [1, 0, 0, 0, 0, 0, 0]) 84 (0, 0))) := ⟨by rw [show g4 + 1 = (w.alloc (.cells (cc zero7) 84)).heap.size by simp [← hg4]]; exact heap_alloc_new _ _⟩
  have hgle : w.heap.size ≤ g4 := by omega
  have HS := Aside0.mk hs
  clear hro B1 B2
  have d1 : decide ((i : Int) < 0) = false := decide_eq_false (by omega)
  have d2 : decide ((s.size : Int) < (i : Int)) = false := decide_eq_false (by omega)
  have d2n : decide (s.size < i) = false := decide_eq_false (by omega)
  have d3 : ((i : Int) == (s.size : Int)) = false := by rw [beq_eq_false_iff_ne]; omega
  have d3n : (i == s.size) = false := by rw [beq_eq_false_iff_ne]; omega
  go_enter Try.func29, Try.ntmps29
  go_wp2_with fail
  refine (busbarref09_long.calls 1 5 _ (by decide)).mono ?_
  rintro e w1 ⟨rfl, hb1⟩
  replace H4 := Aside0.mk (blk_below H4.out hb1)
  replace H7 := Aside0.mk (blk_below H7.out hb1)
  replace HB := Aside0.mk (below_step HB.out hb1)
  clear hb1
  have hro := HRO.out
  clear HRO
  by_cases hL : 5 > (s.size : Int) - (i : Int)
  · rw [if_pos hL] at hro
    have c1 : decide ((s.size : Int) - (i : Int) < 5) = true := decide_eq_true (by omega)
    clear hL
    go_wp2_with (refine wpList_store_row rfl 84 _ _ rfl g4 (cc zero7) rfl rfl 84 _ H4.out (by rw [cc_size]; kernel_rfl) rfl (cc_one _) ?_)
    unfold Ans
    rw [hro]
    exact finR_ (C := zero7) rfl rfl rfl rfl rfl (setRow_heap _ _ _ _ _ _ H4.out) (Kx.below_setRow HB.out hgle)
  · rw [if_neg hL] at hro
    have HRO := Aside0.mk hro
    have c1 : decide ((s.size : Int) - (i : Int) < 5) = false := decide_eq_false (by omega)
    have HL := Aside0.mk hL
    clear hro hL
    have p1 : (i : Int) + 5 ≤ (s.size : Int) := by have := HL.out; omega
    have x0 := cell_in H7.out 0
    replace x0 : w1.cell? ⟨g4 + 1, 0, none⟩ = some (.int .i64 1) := x0
    obtain ⟨v, hv, hvs, hvb⟩ := ext_at s i 5 (by omega)
    have hb1 : ((v[1]'(by omega)).toNat : Int) = rd (toB s) ((i : Int) + 1) := hvb 1 (by omega)
    obtain ⟨b1, hq1⟩ : ∃ b, rd (toB s) ((i : Int) + 1) = b := ⟨_, rfl⟩
    have hr1 := (toB_bytes s).at ((i : Int) + 1)
    rw [hq1] at hb1 hr1
    have hb2 : ((v[2]'(by omega)).toNat : Int) = rd (toB s) ((i : Int) + 2) := hvb 2 (by omega)
    obtain ⟨b2, hq2⟩ : ∃ b, rd (toB s) ((i : Int) + 2) = b := ⟨_, rfl⟩
    have hr2 := (toB_bytes s).at ((i : Int) + 2)
    rw [hq2] at hb2 hr2
    have hb3 : ((v[3]'(by omega)).toNat : Int) = rd (toB s) ((i : Int) + 3) := hvb 3 (by omega)
    obtain ⟨b3, hq3⟩ : ∃ b, rd (toB s) ((i : Int) + 3) = b := ⟨_, rfl⟩
    have hr3 := (toB_bytes s).at ((i : Int) + 3)
    rw [hq3] at hb3 hr3
    have hb4 : ((v[4]'(by omega)).toNat : Int) = rd (toB s) ((i : Int) + 4) := hvb 4 (by omega)
    obtain ⟨b4, hq4⟩ : ∃ b, rd (toB s) ((i : Int) + 4) = b := ⟨_, rfl⟩
    have hr4 := (toB_bytes s).at ((i : Int) + 4)
    rw [hq4] at hb4 hr4
    have HQ1 := Aside0.mk hq1
    have HQ2 := Aside0.mk hq2
    have HQ3 := Aside0.mk hq3
    have HQ4 := Aside0.mk hq4
    have HW1 : Aside0 (wrap64 b1 = b1) := ⟨wr (by omega) (by omega)⟩
    have HW2 : Aside0 (wrap64 b2 = b2) := ⟨wr (by omega) (by omega)⟩
    have HW3 : Aside0 (wrap64 b3 = b3) := ⟨wr (by omega) (by omega)⟩
    have HW4 : Aside0 (wrap64 b4 = b4) := ⟨wr (by omega) (by omega)⟩
    have HR1 := Aside0.mk hr1
    have HR2 := Aside0.mk hr2
    have HR3 := Aside0.mk hr3
    have HR4 := Aside0.mk hr4
    clear hr1 hr2 hr3 hr4
    clear hq1 hq2 hq3 hq4
    have HVB := Aside0.mk hvb
    clear hvb
    go_wp2_with fail
    refine start_ (n := 20) (S := fun _ => True) (ds := [19]) #[false, false, false, false, false, false, false, false, false, false, false, false, false, false, false, false, false, false, false, false] (by kernel_rfl) rfl rfl (trivial) (fun hHeld => ?_)
    have H72 : Aside0 (w1.drew.heap[g4 + 1]? = some (.cells (cc [1, 0, 0, 0, 0, 0, 0]) 84 (0, 0))) := ⟨H7.out⟩
    have H42 : Aside0 (w1.drew.heap[g4]? = some (.cells (cc zero7) 84 (0, 0))) := ⟨H4.out⟩
    have HB2 : Aside0 (Below w.heap.size w w1.drew) := ⟨below_drew HB.out⟩
    clear H7 H4 HB x0
    have H7 := H72
    have H4 := H42
    have HB := HB2
    clear H72 H42 HB2
    generalize w1.drew = W2 at *
    refine pure_ (i := 0) (N := (some 53)) (v := ?_) (a' := ?_) #[true, false, false, false, false, false, false, false, false, false, false, false, false, false, false, false, false, false, false, false] rfl rfl (by kernel_rfl) (fun _ _ _ h => h) (Or.inl ⟨by rfl, ?_⟩) ?_ ?_
    rotate_left
    · intro w'
      go_simp
      with_reducible rfl
    rotate_left
    · simp only [Act.put, List.setIfInBounds_toArray, List.set_cons_zero, List.set_cons_succ, i64_w, i32_w]
      rfl
    refine pure_ (i := 1) (N := (some 54)) (v := ?_) (a' := ?_) #[true, true, false, false, false, false, false, false, false, false, false, false, false, false, false, false, false, false, false, false] rfl rfl (by kernel_rfl) (fun _ _ _ h => h) (Or.inl ⟨by rfl, ?_⟩) ?_ ?_
    rotate_left
    · intro w'
      go_simp
      with_reducible rfl
    rotate_left
    · simp only [Act.put, List.setIfInBounds_toArray, List.set_cons_zero, List.set_cons_succ, i64_w, i32_w]
      rfl
    refine pure_ (i := 2) (N := (some 55)) (v := ?_) (a' := ?_) #[true, true, true, false, false, false, false, false, false, false, false, false, false, false, false, false, false, false, false, false] rfl rfl (by kernel_rfl) (fun _ _ _ h => h) (Or.inl ⟨by rfl, ?_⟩) ?_ ?_
    rotate_left
    · intro w'
      go_simp
      with_reducible rfl
    rotate_left
    · simp only [Act.put, List.setIfInBounds_toArray, List.set_cons_zero, List.set_cons_succ, i64_w, i32_w]
      rfl
    refine pure_ (i := 3) (N := (some 56)) (v := ?_) (a' := ?_) #[true, true, true, true, false, false, false, false, false, false, false, false, false, false, false, false, false, false, false, false] rfl rfl (by kernel_rfl) (fun _ _ _ h => h) (Or.inl ⟨by rfl, ?_⟩) ?_ ?_
    rotate_left
    · intro w'
      go_simp
      with_reducible rfl
    rotate_left
    · simp only [Act.put, List.setIfInBounds_toArray, List.set_cons_zero, List.set_cons_succ, i64_w, i32_w]
      rfl
    refine pure_ (i := 4) (N := (some 57)) (v := ?_) (a' := ?_) #[true, true, true, true, true, false, false, false, false, false, false, false, false, false, false, false, false, false, false, false] rfl rfl (by kernel_rfl) (fun _ _ _ h => h) (Or.inl ⟨by rfl, ?_⟩) ?_ ?_
    rotate_left
    · intro w'
      go_simp
      with_reducible rfl
    rotate_left
    · simp only [Act.put, List.setIfInBounds_toArray, List.set_cons_zero, List.set_cons_succ, i64_w, i32_w]
      rfl
    refine pure_ (i := 5) (N := (some 58)) (v := ?_) (a' := ?_) #[true, true, true, true, true, true, false, false, false, false, false, false, false, false, false, false, false, false, false, false] rfl rfl (by kernel_rfl) (fun _ _ _ h => h) (Or.inl ⟨by rfl, ?_⟩) ?_ ?_
    rotate_left
    · intro w'
      go_simp
      with_reducible rfl
    rotate_left
    · simp only [Act.put, List.setIfInBounds_toArray, List.set_cons_zero, List.set_cons_succ, i64_w, i32_w]
      rfl
    refine pure_ (i := 6) (N := (some 59)) (v := ?_) (a' := ?_) #[true, true, true, true, true, true, true, false, false, false, false, false, false, false, false, false, false, false, false, false] rfl rfl (by kernel_rfl) (fun _ _ _ h => h) (Or.inl ⟨by rfl, ?_⟩) ?_ ?_
    rotate_left
    · intro w'
      go_simp
      with_reducible rfl
    rotate_left
    · simp only [Act.put, List.setIfInBounds_toArray, List.set_cons_zero, List.set_cons_succ, i64_w, i32_w]
      rfl
    refine pure_ (i := 7) (N := (some 60)) (v := ?_) (a' := ?_) #[true, true, true, true, true, true, true, true, false, false, false, false, false, false, false, false, false, false, false, false] rfl rfl (by kernel_rfl) (fun _ _ _ h => h) (Or.inl ⟨by rfl, ?_⟩) ?_ ?_
    rotate_left
    · intro w'
      go_simp
      with_reducible rfl
    rotate_left
    · simp only [Act.put, List.setIfInBounds_toArray, List.set_cons_zero, List.set_cons_succ, i64_w, i32_w]
      rfl
    refine pure_ (i := 8) (N := (some 61)) (v := ?_) (a' := ?_) #[true, true, true, true, true, true, true, true, true, false, false, false, false, false, false, false, false, false, false, false] rfl rfl (by kernel_rfl) (fun _ _ _ h => h) (Or.inl ⟨by rfl, ?_⟩) ?_ ?_
    rotate_left
    · intro w'
      go_simp
      with_reducible rfl
    rotate_left
    · simp only [Act.put, List.setIfInBounds_toArray, List.set_cons_zero, List.set_cons_succ, i64_w, i32_w]
      rfl
    refine pure_ (i := 9) (N := (some 62)) (v := ?_) (a' := ?_) #[true, true, true, true, true, true, true, true, true, true, false, false, false, false, false, false, false, false, false, false] rfl rfl (by kernel_rfl) (fun _ _ _ h => h) (Or.inl ⟨by rfl, ?_⟩) ?_ ?_
    rotate_left
    · intro w'
      go_simp
      with_reducible rfl
    rotate_left
    · simp only [Act.put, List.setIfInBounds_toArray, List.set_cons_zero, List.set_cons_succ, i64_w, i32_w]
      rfl
    refine pure_ (i := 10) (N := (some 63)) (v := ?_) (a' := ?_) #[true, true, true, true, true, true, true, true, true, true, true, false, false, false, false, false, false, false, false, false] rfl rfl (by kernel_rfl) (fun _ _ _ h => h) (Or.inl ⟨by rfl, ?_⟩) ?_ ?_
    rotate_left
    · intro w'
      go_simp
      with_reducible rfl
    rotate_left
    · simp only [Act.put, List.setIfInBounds_toArray, List.set_cons_zero, List.set_cons_succ, i64_w, i32_w]
      rfl
    refine pure_ (i := 11) (N := (some 64)) (v := ?_) (a' := ?_) #[true, true, true, true, true, true, true, true, true, true, true, true, false, false, false, false, false, false, false, false] rfl rfl (by kernel_rfl) (fun _ _ _ h => h) (Or.inl ⟨by rfl, ?_⟩) ?_ ?_
    rotate_left
    · intro w'
      go_simp
      with_reducible rfl
    rotate_left
    · simp only [Act.put, List.setIfInBounds_toArray, List.set_cons_zero, List.set_cons_succ, i64_w, i32_w]
      rfl
    refine pure_ (i := 12) (N := (some 65)) (v := ?_) (a' := ?_) #[true, true, true, true, true, true, true, true, true, true, true, true, true, false, false, false, false, false, false, false] rfl rfl (by kernel_rfl) (fun _ _ _ h => h) (Or.inl ⟨by rfl, ?_⟩) ?_ ?_
    rotate_left
    · intro w'
      go_simp
      with_reducible rfl
    rotate_left
    · simp only [Act.put, List.setIfInBounds_toArray, List.set_cons_zero, List.set_cons_succ, i64_w, i32_w]
      rfl
    refine one_ (i := 13) (N := none) #[true, true, true, true, true, true, true, true, true, true, true, true, true, true, false, false, false, false, false, false] rfl rfl (by kernel_rfl) (by decide) (fun K hK => ?_)
    refine skip_ (w1 := W2.setCell ⟨g4 + 1, 1, none⟩ (.int .i64 (b1))) (by rfl) rfl ?_ ?_
    · have x1 := cell_in H7.out 1
      replace x1 : W2.cell? ⟨g4 + 1, 1, none⟩ = some (.int .i64 0) := x1
      have x2 := free_in H7.out 1
      go_simp
      simp only [HW1.out, HW2.out, HW3.out, HW4.out]
    refine hK.out _ _ (trivial) (fun hHeld => ?_)
    clear hK K
    have H72 : Aside0 ((W2.setCell ⟨g4 + 1, 1, none⟩ (.int .i64 (b1))).heap[g4 + 1]? = some (.cells (cc [1, b1, 0, 0, 0, 0, 0]) 84 (0, 0))) := ⟨set_in H7.out 1 _⟩
    have H42 : Aside0 ((W2.setCell ⟨g4 + 1, 1, none⟩ (.int .i64 (b1))).heap[g4]? = some (.cells (cc zero7) 84 (0, 0))) := ⟨(set_ne 1 _ (by omega)).trans H4.out⟩
    have HB2 : Aside0 (Below w.heap.size w (W2.setCell ⟨g4 + 1, 1, none⟩ (.int .i64 (b1)))) := ⟨HB.out.setCell (by show w.heap.size ≤ g4 + 1; omega) _⟩
    clear H4 H7 HB
    have H4 := H42
    have H7 := H72
    have HB := HB2
    clear H42 H72 HB2
    generalize W2.setCell ⟨g4 + 1, 1, none⟩ (.int .i64 (b1)) = W3 at *
    refine pure_ (i := 14) (N := (some 66)) (v := ?_) (a' := ?_) #[true, true, true, true, true, true, true, true, true, true, true, true, true, true, true, false, false, false, false, false] rfl rfl (by kernel_rfl) (fun _ _ _ h => h) (Or.inl ⟨by rfl, ?_⟩) ?_ ?_
    rotate_left
    · intro w'
      go_simp
      with_reducible rfl
    rotate_left
    · simp only [Act.put, List.setIfInBounds_toArray, List.set_cons_zero, List.set_cons_succ, i64_w, i32_w]
      rfl
    refine one_ (i := 15) (N := none) #[true, true, true, true, true, true, true, true, true, true, true, true, true, true, true, true, false, false, false, false] rfl rfl (by kernel_rfl) (by decide) (fun K hK => ?_)
    refine skip_ (w1 := W3.setCell ⟨g4 + 1, 2, none⟩ (.int .i64 (b2))) (by rfl) rfl ?_ ?_
    · have x1 := cell_in H7.out 2
      replace x1 : W3.cell? ⟨g4 + 1, 2, none⟩ = some (.int .i64 0) := x1
      have x2 := free_in H7.out 2
      go_simp
      simp only [HW1.out, HW2.out, HW3.out, HW4.out]
    refine hK.out _ _ (trivial) (fun hHeld => ?_)
    clear hK K
    have H72 : Aside0 ((W3.setCell ⟨g4 + 1, 2, none⟩ (.int .i64 (b2))).heap[g4 + 1]? = some (.cells (cc [1, b1, b2, 0, 0, 0, 0]) 84 (0, 0))) := ⟨set_in H7.out 2 _⟩
    have H42 : Aside0 ((W3.setCell ⟨g4 + 1, 2, none⟩ (.int .i64 (b2))).heap[g4]? = some (.cells (cc zero7) 84 (0, 0))) := ⟨(set_ne 2 _ (by omega)).trans H4.out⟩
    have HB2 : Aside0 (Below w.heap.size w (W3.setCell ⟨g4 + 1, 2, none⟩ (.int .i64 (b2)))) := ⟨HB.out.setCell (by show w.heap.size ≤ g4 + 1; omega) _⟩
    clear H4 H7 HB
    have H4 := H42
    have H7 := H72
    have HB := HB2
    clear H42 H72 HB2
    generalize W3.setCell ⟨g4 + 1, 2, none⟩ (.int .i64 (b2)) = W4 at *
    refine pure_ (i := 16) (N := (some 67)) (v := ?_) (a' := ?_) #[true, true, true, true, true, true, true, true, true, true, true, true, true, true, true, true, true, false, false, false] rfl rfl (by kernel_rfl) (fun _ _ _ h => h) (Or.inl ⟨by rfl, ?_⟩) ?_ ?_
    rotate_left
    · intro w'
      go_simp
      with_reducible rfl
    rotate_left
    · simp only [Act.put, List.setIfInBounds_toArray, List.set_cons_zero, List.set_cons_succ, i64_w, i32_w]
      rfl
    refine one_ (i := 17) (N := none) #[true, true, true, true, true, true, true, true, true, true, true, true, true, true, true, true, true, true, false, false] rfl rfl (by kernel_rfl) (by decide) (fun K hK => ?_)
    refine skip_ (w1 := W4.setCell ⟨g4 + 1, 3, none⟩ (.int .i64 (b3))) (by rfl) rfl ?_ ?_
    · have x1 := cell_in H7.out 3
      replace x1 : W4.cell? ⟨g4 + 1, 3, none⟩ = some (.int .i64 0) := x1
      have x2 := free_in H7.out 3
      go_simp
      simp only [HW1.out, HW2.out, HW3.out, HW4.out]
    refine hK.out _ _ (trivial) (fun hHeld => ?_)
    clear hK K
    have H72 : Aside0 ((W4.setCell ⟨g4 + 1, 3, none⟩ (.int .i64 (b3))).heap[g4 + 1]? = some (.cells (cc [1, b1, b2, b3, 0, 0, 0]) 84 (0, 0))) := ⟨set_in H7.out 3 _⟩
    have H42 : Aside0 ((W4.setCell ⟨g4 + 1, 3, none⟩ (.int .i64 (b3))).heap[g4]? = some (.cells (cc zero7) 84 (0, 0))) := ⟨(set_ne 3 _ (by omega)).trans H4.out⟩
    have HB2 : Aside0 (Below w.heap.size w (W4.setCell ⟨g4 + 1, 3, none⟩ (.int .i64 (b3)))) := ⟨HB.out.setCell (by show w.heap.size ≤ g4 + 1; omega) _⟩
    clear H4 H7 HB
    have H4 := H42
    have H7 := H72
    have HB := HB2
    clear H42 H72 HB2
    generalize W4.setCell ⟨g4 + 1, 3, none⟩ (.int .i64 (b3)) = W5 at *
    refine pure_ (i := 18) (N := (some 68)) (v := ?_) (a' := ?_) #[true, true, true, true, true, true, true, true, true, true, true, true, true, true, true, true, true, true, true, false] rfl rfl (by kernel_rfl) (fun _ _ _ h => h) (Or.inl ⟨by rfl, ?_⟩) ?_ ?_
    rotate_left
    · intro w'
      go_simp
      with_reducible rfl
    rotate_left
    · simp only [Act.put, List.setIfInBounds_toArray, List.set_cons_zero, List.set_cons_succ, i64_w, i32_w]
      rfl
    refine last_ (i := 19) (N := none) #[true, true, true, true, true, true, true, true, true, true, true, true, true, true, true, true, true, true, true, true] rfl rfl (by kernel_rfl) (by decide) (fun K hK => ?_)
    refine skip_ (w1 := W5.setCell ⟨g4 + 1, 4, none⟩ (.int .i64 (b4))) (by rfl) rfl ?_ ?_
    · have x1 := cell_in H7.out 4
      replace x1 : W5.cell? ⟨g4 + 1, 4, none⟩ = some (.int .i64 0) := x1
      have x2 := free_in H7.out 4
      go_simp
      simp only [HW1.out, HW2.out, HW3.out, HW4.out]
    refine hK.out _ _ ?_
    clear hK K
    have H72 : Aside0 ((W5.setCell ⟨g4 + 1, 4, none⟩ (.int .i64 (b4))).heap[g4 + 1]? = some (.cells (cc [1, b1, b2, b3, b4, 0, 0]) 84 (0, 0))) := ⟨set_in H7.out 4 _⟩
    have H42 : Aside0 ((W5.setCell ⟨g4 + 1, 4, none⟩ (.int .i64 (b4))).heap[g4]? = some (.cells (cc zero7) 84 (0, 0))) := ⟨(set_ne 4 _ (by omega)).trans H4.out⟩
    have HB2 : Aside0 (Below w.heap.size w (W5.setCell ⟨g4 + 1, 4, none⟩ (.int .i64 (b4)))) := ⟨HB.out.setCell (by show w.heap.size ≤ g4 + 1; omega) _⟩
    clear H4 H7 HB
    have H4 := H42
    have H7 := H72
    have HB := HB2
    clear H42 H72 HB2
    generalize W5.setCell ⟨g4 + 1, 4, none⟩ (.int .i64 (b4)) = W6 at *
    refine done_ (by kernel_rfl) ?_
    have HRT : Aside0 (busbarref09_Right.f 4 1 b1 b2 b3 b4 0 0 = some (rightL [1, b1, b2, b3, b4, 0, 0])) := ⟨refRight_f _ _ _ _ _ _ _ (by have := HR1.out; have := HR2.out; have := HR3.out; have := HR4.out; omega)⟩
    have hro := HRO.out
    clear HRO
    rw [show cmdP (toB s) (i : Int) 1 = [1, b1, b2, b3, b4, 0, 0] from (by show _ = _; unfold cmdP; simp only [Int.reduceEq, if_true, if_false, or_self, or_false, false_or, HQ1.out, HQ2.out, HQ3.out, HQ4.out])] at hro
    obtain ⟨rb, hrb⟩ : ∃ r, rightL [1, b1, b2, b3, b4, 0, 0] = r := ⟨_, rfl⟩
    rw [hrb] at HRT hro
    have HRO := Aside0.mk hro
    clear hro hrb
    go_wp2_with (refine wpList_load_row rfl 84 _ rfl (g4 + 1) rfl 84 _ (0, 0) _ H7.out Try.underlying84 rfl (by rw [cc_size]; kernel_rfl) ?_)
    refine (busbarref09_Right.calls 4 1 b1 b2 b3 b4 0 0 rb _ HRT.out).mono ?_
    rintro e W9 ⟨rfl, hb9⟩
    replace H4 := Aside0.mk (blk_below H4.out hb9)
    replace H7 := Aside0.mk (blk_below H7.out hb9)
    replace HB := Aside0.mk (below_step HB.out hb9)
    clear hb9
    cases rb with
    | false =>
      go_wp2_with (refine wpList_store_row rfl 84 _ _ rfl g4 (cc zero7) rfl rfl 84 _ H4.out (by rw [cc_size]; kernel_rfl) rfl (cc_one _) ?_)
      unfold Ans
      rw [HRO.out]
      rw [if_neg (by decide)]
      exact finR_ (C := zero7) rfl rfl rfl rfl rfl (setRow_heap _ _ _ _ _ _ H4.out) (Kx.below_setRow HB.out hgle)
    | true =>
      go_wp2_with (first | (refine wpList_load_row rfl 84 _ rfl (g4 + 1) rfl 84 _ (0, 0) _ H7.out Try.underlying84 rfl (by rw [cc_size]; kernel_rfl) ?_) | (refine wpList_store_row rfl 84 _ _ rfl g4 (cc [1, b1, b2, b3, b4, 0, 0]) rfl rfl 84 _ H4.out (by rw [cc_size]; kernel_rfl) rfl (cc_one _) ?_))
      unfold Ans
      rw [HRO.out]
      rw [if_pos (by first | rfl | trivial)]
      exact finR_ (C := [1, b1, b2, b3, b4, 0, 0]) rfl rfl rfl rfl rfl (setRow_heap _ _ _ _ _ _ H4.out) (Kx.below_setRow HB.out hgle)

set_option maxHeartbeats 4000000 in
set_option maxRecDepth 100000 in
theorem ref_read_2 (s : ByteArray) (i : Nat) (w : World) (hs : s.size ≤ 100000) (hi : i < s.size) (hop : ((s[i]'hi).toNat : Int) = 2) : Calls Try.prog 29 #[.string s, .int .i64 (i : Int)] w (Ans s (i : Int) w) := by
  have hro : readP (toB s) (i : Int) = if 4 > (s.size : Int) - (i : Int) then (zero7, 0, 10) else
      if rightL (cmdP (toB s) (i : Int) 2) = true then (cmdP (toB s) (i : Int) 2, (i : Int) + 4, 0) else (zero7, 0, 11) := by
    rw [readP, if_neg (by rw [toB_len]; omega), if_neg (by rw [toB_len]; omega), toB_len, toB_at s i hi, hop, if_neg (by decide)]; rfl
  have HRO := Aside0.mk hro
  obtain ⟨g4, hg4⟩ : ∃ g, w.heap.size = g := ⟨_, rfl⟩
  have B1 : Below w.heap.size w (w.alloc (.cells (cc zero7) 84)) := below_alloc (Below.refl _ _) _
  have B2 : Below (w.alloc (.cells (cc zero7) 84)).heap.size (w.alloc (.cells (cc zero7) 84)) ((w.alloc (.cells (cc zero7) 84)).alloc (.cells (cc [2, 0, 0, 0, 0, 0, 0]) 84)) := below_alloc (Below.refl _ _) _
  have HB : Aside0 (Below w.heap.size w ((w.alloc (.cells (cc zero7) 84)).alloc (.cells (cc [2, 0, 0, 0, 0, 0, 0]) 84))) := ⟨below_step B1 B2⟩
  have H4 : Aside0 (((w.alloc (.cells (cc zero7) 84)).alloc (.cells (cc [2, 0, 0, 0, 0, 0, 0]) 84)).heap[g4]? = some (.cells (cc zero7) 84 (0, 0))) := ⟨blk_below (by rw [← hg4]; exact heap_alloc_new _ _) B2⟩
  have H7 : Aside0 (((w.alloc (.cells (cc zero7) 84)).alloc (.cells (cc [2, 0, 0, 0, 0, 0, 0]) 84)).heap[g4 + 1]? = some (.cells (cc [2, 0, 0, 0, 0, 0, 0]) 84 (0, 0))) := ⟨by rw [show g4 + 1 = (w.alloc (.cells (cc zero7) 84)).heap.size by simp [← hg4]]; exact heap_alloc_new _ _⟩
  have hgle : w.heap.size ≤ g4 := by omega
  have HS := Aside0.mk hs
  clear hro B1 B2
  have d1 : decide ((i : Int) < 0) = false := decide_eq_false (by omega)
  have d2 : decide ((s.size : Int) < (i : Int)) = false := decide_eq_false (by omega)
  have d2n : decide (s.size < i) = false := decide_eq_false (by omega)
  have d3 : ((i : Int) == (s.size : Int)) = false := by rw [beq_eq_false_iff_ne]; omega
  have d3n : (i == s.size) = false := by rw [beq_eq_false_iff_ne]; omega
  go_enter Try.func29, Try.ntmps29
  go_wp2_with fail
  refine (busbarref09_long.calls 2 4 _ (by decide)).mono ?_
  rintro e w1 ⟨rfl, hb1⟩
  replace H4 := Aside0.mk (blk_below H4.out hb1)
  replace H7 := Aside0.mk (blk_below H7.out hb1)
  replace HB := Aside0.mk (below_step HB.out hb1)
  clear hb1
  have hro := HRO.out
  clear HRO
  by_cases hL : 4 > (s.size : Int) - (i : Int)
  · rw [if_pos hL] at hro
    have c1 : decide ((s.size : Int) - (i : Int) < 4) = true := decide_eq_true (by omega)
    clear hL
    go_wp2_with (refine wpList_store_row rfl 84 _ _ rfl g4 (cc zero7) rfl rfl 84 _ H4.out (by rw [cc_size]; kernel_rfl) rfl (cc_one _) ?_)
    unfold Ans
    rw [hro]
    exact finR_ (C := zero7) rfl rfl rfl rfl rfl (setRow_heap _ _ _ _ _ _ H4.out) (Kx.below_setRow HB.out hgle)
  · rw [if_neg hL] at hro
    have HRO := Aside0.mk hro
    have c1 : decide ((s.size : Int) - (i : Int) < 4) = false := decide_eq_false (by omega)
    have HL := Aside0.mk hL
    clear hro hL
    have p1 : (i : Int) + 4 ≤ (s.size : Int) := by have := HL.out; omega
    have x0 := cell_in H7.out 0
    replace x0 : w1.cell? ⟨g4 + 1, 0, none⟩ = some (.int .i64 2) := x0
    obtain ⟨v, hv, hvs, hvb⟩ := ext_at s i 4 (by omega)
    have hb1 : ((v[1]'(by omega)).toNat : Int) = rd (toB s) ((i : Int) + 1) := hvb 1 (by omega)
    obtain ⟨b1, hq1⟩ : ∃ b, rd (toB s) ((i : Int) + 1) = b := ⟨_, rfl⟩
    have hr1 := (toB_bytes s).at ((i : Int) + 1)
    rw [hq1] at hb1 hr1
    have hb2 : ((v[2]'(by omega)).toNat : Int) = rd (toB s) ((i : Int) + 2) := hvb 2 (by omega)
    obtain ⟨b2, hq2⟩ : ∃ b, rd (toB s) ((i : Int) + 2) = b := ⟨_, rfl⟩
    have hr2 := (toB_bytes s).at ((i : Int) + 2)
    rw [hq2] at hb2 hr2
    have hb3 : ((v[3]'(by omega)).toNat : Int) = rd (toB s) ((i : Int) + 3) := hvb 3 (by omega)
    obtain ⟨b3, hq3⟩ : ∃ b, rd (toB s) ((i : Int) + 3) = b := ⟨_, rfl⟩
    have hr3 := (toB_bytes s).at ((i : Int) + 3)
    rw [hq3] at hb3 hr3
    have HQ1 := Aside0.mk hq1
    have HQ2 := Aside0.mk hq2
    have HQ3 := Aside0.mk hq3
    have HW1 : Aside0 (wrap64 b1 = b1) := ⟨wr (by omega) (by omega)⟩
    have HW2 : Aside0 (wrap64 b2 = b2) := ⟨wr (by omega) (by omega)⟩
    have HW3 : Aside0 (wrap64 b3 = b3) := ⟨wr (by omega) (by omega)⟩
    have HR1 := Aside0.mk hr1
    have HR2 := Aside0.mk hr2
    have HR3 := Aside0.mk hr3
    clear hr1 hr2 hr3
    clear hq1 hq2 hq3
    have HVB := Aside0.mk hvb
    clear hvb
    go_wp2_with fail
    refine start_ (n := 15) (S := fun _ => True) (ds := [14]) #[false, false, false, false, false, false, false, false, false, false, false, false, false, false, false] (by kernel_rfl) rfl rfl (trivial) (fun hHeld => ?_)
    have H72 : Aside0 (w1.drew.heap[g4 + 1]? = some (.cells (cc [2, 0, 0, 0, 0, 0, 0]) 84 (0, 0))) := ⟨H7.out⟩
    have H42 : Aside0 (w1.drew.heap[g4]? = some (.cells (cc zero7) 84 (0, 0))) := ⟨H4.out⟩
    have HB2 : Aside0 (Below w.heap.size w w1.drew) := ⟨below_drew HB.out⟩
    clear H7 H4 HB x0
    have H7 := H72
    have H4 := H42
    have HB := HB2
    clear H72 H42 HB2
    generalize w1.drew = W2 at *
    refine pure_ (i := 0) (N := (some 71)) (v := ?_) (a' := ?_) #[true, false, false, false, false, false, false, false, false, false, false, false, false, false, false] rfl rfl (by kernel_rfl) (fun _ _ _ h => h) (Or.inl ⟨by rfl, ?_⟩) ?_ ?_
    rotate_left
    · intro w'
      go_simp
      with_reducible rfl
    rotate_left
    · simp only [Act.put, List.setIfInBounds_toArray, List.set_cons_zero, List.set_cons_succ, i64_w, i32_w]
      rfl
    refine pure_ (i := 1) (N := (some 72)) (v := ?_) (a' := ?_) #[true, true, false, false, false, false, false, false, false, false, false, false, false, false, false] rfl rfl (by kernel_rfl) (fun _ _ _ h => h) (Or.inl ⟨by rfl, ?_⟩) ?_ ?_
    rotate_left
    · intro w'
      go_simp
      with_reducible rfl
    rotate_left
    · simp only [Act.put, List.setIfInBounds_toArray, List.set_cons_zero, List.set_cons_succ, i64_w, i32_w]
      rfl
    refine pure_ (i := 2) (N := (some 73)) (v := ?_) (a' := ?_) #[true, true, true, false, false, false, false, false, false, false, false, false, false, false, false] rfl rfl (by kernel_rfl) (fun _ _ _ h => h) (Or.inl ⟨by rfl, ?_⟩) ?_ ?_
    rotate_left
    · intro w'
      go_simp
      with_reducible rfl
    rotate_left
    · simp only [Act.put, List.setIfInBounds_toArray, List.set_cons_zero, List.set_cons_succ, i64_w, i32_w]
      rfl
    refine pure_ (i := 3) (N := (some 74)) (v := ?_) (a' := ?_) #[true, true, true, true, false, false, false, false, false, false, false, false, false, false, false] rfl rfl (by kernel_rfl) (fun _ _ _ h => h) (Or.inl ⟨by rfl, ?_⟩) ?_ ?_
    rotate_left
    · intro w'
      go_simp
      with_reducible rfl
    rotate_left
    · simp only [Act.put, List.setIfInBounds_toArray, List.set_cons_zero, List.set_cons_succ, i64_w, i32_w]
      rfl
    refine pure_ (i := 4) (N := (some 75)) (v := ?_) (a' := ?_) #[true, true, true, true, true, false, false, false, false, false, false, false, false, false, false] rfl rfl (by kernel_rfl) (fun _ _ _ h => h) (Or.inl ⟨by rfl, ?_⟩) ?_ ?_
    rotate_left
    · intro w'
      go_simp
      with_reducible rfl
    rotate_left
    · simp only [Act.put, List.setIfInBounds_toArray, List.set_cons_zero, List.set_cons_succ, i64_w, i32_w]
      rfl
    refine pure_ (i := 5) (N := (some 76)) (v := ?_) (a' := ?_) #[true, true, true, true, true, true, false, false, false, false, false, false, false, false, false] rfl rfl (by kernel_rfl) (fun _ _ _ h => h) (Or.inl ⟨by rfl, ?_⟩) ?_ ?_
    rotate_left
    · intro w'
      go_simp
      with_reducible rfl
    rotate_left
    · simp only [Act.put, List.setIfInBounds_toArray, List.set_cons_zero, List.set_cons_succ, i64_w, i32_w]
      rfl
    refine pure_ (i := 6) (N := (some 77)) (v := ?_) (a' := ?_) #[true, true, true, true, true, true, true, false, false, false, false, false, false, false, false] rfl rfl (by kernel_rfl) (fun _ _ _ h => h) (Or.inl ⟨by rfl, ?_⟩) ?_ ?_
    rotate_left
    · intro w'
      go_simp
      with_reducible rfl
    rotate_left
    · simp only [Act.put, List.setIfInBounds_toArray, List.set_cons_zero, List.set_cons_succ, i64_w, i32_w]
      rfl
    refine pure_ (i := 7) (N := (some 78)) (v := ?_) (a' := ?_) #[true, true, true, true, true, true, true, true, false, false, false, false, false, false, false] rfl rfl (by kernel_rfl) (fun _ _ _ h => h) (Or.inl ⟨by rfl, ?_⟩) ?_ ?_
    rotate_left
    · intro w'
      go_simp
      with_reducible rfl
    rotate_left
    · simp only [Act.put, List.setIfInBounds_toArray, List.set_cons_zero, List.set_cons_succ, i64_w, i32_w]
      rfl
    refine pure_ (i := 8) (N := (some 79)) (v := ?_) (a' := ?_) #[true, true, true, true, true, true, true, true, true, false, false, false, false, false, false] rfl rfl (by kernel_rfl) (fun _ _ _ h => h) (Or.inl ⟨by rfl, ?_⟩) ?_ ?_
    rotate_left
    · intro w'
      go_simp
      with_reducible rfl
    rotate_left
    · simp only [Act.put, List.setIfInBounds_toArray, List.set_cons_zero, List.set_cons_succ, i64_w, i32_w]
      rfl
    refine pure_ (i := 9) (N := (some 80)) (v := ?_) (a' := ?_) #[true, true, true, true, true, true, true, true, true, true, false, false, false, false, false] rfl rfl (by kernel_rfl) (fun _ _ _ h => h) (Or.inl ⟨by rfl, ?_⟩) ?_ ?_
    rotate_left
    · intro w'
      go_simp
      with_reducible rfl
    rotate_left
    · simp only [Act.put, List.setIfInBounds_toArray, List.set_cons_zero, List.set_cons_succ, i64_w, i32_w]
      rfl
    refine one_ (i := 10) (N := none) #[true, true, true, true, true, true, true, true, true, true, true, false, false, false, false] rfl rfl (by kernel_rfl) (by decide) (fun K hK => ?_)
    refine skip_ (w1 := W2.setCell ⟨g4 + 1, 1, none⟩ (.int .i64 (b1))) (by rfl) rfl ?_ ?_
    · have x1 := cell_in H7.out 1
      replace x1 : W2.cell? ⟨g4 + 1, 1, none⟩ = some (.int .i64 0) := x1
      have x2 := free_in H7.out 1
      go_simp
      simp only [HW1.out, HW2.out, HW3.out]
    refine hK.out _ _ (trivial) (fun hHeld => ?_)
    clear hK K
    have H72 : Aside0 ((W2.setCell ⟨g4 + 1, 1, none⟩ (.int .i64 (b1))).heap[g4 + 1]? = some (.cells (cc [2, b1, 0, 0, 0, 0, 0]) 84 (0, 0))) := ⟨set_in H7.out 1 _⟩
    have H42 : Aside0 ((W2.setCell ⟨g4 + 1, 1, none⟩ (.int .i64 (b1))).heap[g4]? = some (.cells (cc zero7) 84 (0, 0))) := ⟨(set_ne 1 _ (by omega)).trans H4.out⟩
    have HB2 : Aside0 (Below w.heap.size w (W2.setCell ⟨g4 + 1, 1, none⟩ (.int .i64 (b1)))) := ⟨HB.out.setCell (by show w.heap.size ≤ g4 + 1; omega) _⟩
    clear H4 H7 HB
    have H4 := H42
    have H7 := H72
    have HB := HB2
    clear H42 H72 HB2
    generalize W2.setCell ⟨g4 + 1, 1, none⟩ (.int .i64 (b1)) = W3 at *
    refine pure_ (i := 11) (N := (some 81)) (v := ?_) (a' := ?_) #[true, true, true, true, true, true, true, true, true, true, true, true, false, false, false] rfl rfl (by kernel_rfl) (fun _ _ _ h => h) (Or.inl ⟨by rfl, ?_⟩) ?_ ?_
    rotate_left
    · intro w'
      go_simp
      with_reducible rfl
    rotate_left
    · simp only [Act.put, List.setIfInBounds_toArray, List.set_cons_zero, List.set_cons_succ, i64_w, i32_w]
      rfl
    refine one_ (i := 12) (N := none) #[true, true, true, true, true, true, true, true, true, true, true, true, true, false, false] rfl rfl (by kernel_rfl) (by decide) (fun K hK => ?_)
    refine skip_ (w1 := W3.setCell ⟨g4 + 1, 2, none⟩ (.int .i64 (b2))) (by rfl) rfl ?_ ?_
    · have x1 := cell_in H7.out 2
      replace x1 : W3.cell? ⟨g4 + 1, 2, none⟩ = some (.int .i64 0) := x1
      have x2 := free_in H7.out 2
      go_simp
      simp only [HW1.out, HW2.out, HW3.out]
    refine hK.out _ _ (trivial) (fun hHeld => ?_)
    clear hK K
    have H72 : Aside0 ((W3.setCell ⟨g4 + 1, 2, none⟩ (.int .i64 (b2))).heap[g4 + 1]? = some (.cells (cc [2, b1, b2, 0, 0, 0, 0]) 84 (0, 0))) := ⟨set_in H7.out 2 _⟩
    have H42 : Aside0 ((W3.setCell ⟨g4 + 1, 2, none⟩ (.int .i64 (b2))).heap[g4]? = some (.cells (cc zero7) 84 (0, 0))) := ⟨(set_ne 2 _ (by omega)).trans H4.out⟩
    have HB2 : Aside0 (Below w.heap.size w (W3.setCell ⟨g4 + 1, 2, none⟩ (.int .i64 (b2)))) := ⟨HB.out.setCell (by show w.heap.size ≤ g4 + 1; omega) _⟩
    clear H4 H7 HB
    have H4 := H42
    have H7 := H72
    have HB := HB2
    clear H42 H72 HB2
    generalize W3.setCell ⟨g4 + 1, 2, none⟩ (.int .i64 (b2)) = W4 at *
    refine pure_ (i := 13) (N := (some 82)) (v := ?_) (a' := ?_) #[true, true, true, true, true, true, true, true, true, true, true, true, true, true, false] rfl rfl (by kernel_rfl) (fun _ _ _ h => h) (Or.inl ⟨by rfl, ?_⟩) ?_ ?_
    rotate_left
    · intro w'
      go_simp
      with_reducible rfl
    rotate_left
    · simp only [Act.put, List.setIfInBounds_toArray, List.set_cons_zero, List.set_cons_succ, i64_w, i32_w]
      rfl
    refine last_ (i := 14) (N := none) #[true, true, true, true, true, true, true, true, true, true, true, true, true, true, true] rfl rfl (by kernel_rfl) (by decide) (fun K hK => ?_)
    refine skip_ (w1 := W4.setCell ⟨g4 + 1, 4, none⟩ (.int .i64 (b3))) (by rfl) rfl ?_ ?_
    · have x1 := cell_in H7.out 4
      replace x1 : W4.cell? ⟨g4 + 1, 4, none⟩ = some (.int .i64 0) := x1
      have x2 := free_in H7.out 4
      go_simp
      simp only [HW1.out, HW2.out, HW3.out]
    refine hK.out _ _ ?_
    clear hK K
    have H72 : Aside0 ((W4.setCell ⟨g4 + 1, 4, none⟩ (.int .i64 (b3))).heap[g4 + 1]? = some (.cells (cc [2, b1, b2, 0, b3, 0, 0]) 84 (0, 0))) := ⟨set_in H7.out 4 _⟩
    have H42 : Aside0 ((W4.setCell ⟨g4 + 1, 4, none⟩ (.int .i64 (b3))).heap[g4]? = some (.cells (cc zero7) 84 (0, 0))) := ⟨(set_ne 4 _ (by omega)).trans H4.out⟩
    have HB2 : Aside0 (Below w.heap.size w (W4.setCell ⟨g4 + 1, 4, none⟩ (.int .i64 (b3)))) := ⟨HB.out.setCell (by show w.heap.size ≤ g4 + 1; omega) _⟩
    clear H4 H7 HB
    have H4 := H42
    have H7 := H72
    have HB := HB2
    clear H42 H72 HB2
    generalize W4.setCell ⟨g4 + 1, 4, none⟩ (.int .i64 (b3)) = W5 at *
    refine done_ (by kernel_rfl) ?_
    have HRT : Aside0 (busbarref09_Right.f 4 2 b1 b2 0 b3 0 0 = some (rightL [2, b1, b2, 0, b3, 0, 0])) := ⟨refRight_f _ _ _ _ _ _ _ (by have := HR1.out; have := HR2.out; have := HR3.out; omega)⟩
    have hro := HRO.out
    clear HRO
    rw [show cmdP (toB s) (i : Int) 2 = [2, b1, b2, 0, b3, 0, 0] from (by show _ = _; unfold cmdP; simp only [Int.reduceEq, if_true, if_false, or_self, or_false, false_or, HQ1.out, HQ2.out, HQ3.out])] at hro
    obtain ⟨rb, hrb⟩ : ∃ r, rightL [2, b1, b2, 0, b3, 0, 0] = r := ⟨_, rfl⟩
    rw [hrb] at HRT hro
    have HRO := Aside0.mk hro
    clear hro hrb
    go_wp2_with (refine wpList_load_row rfl 84 _ rfl (g4 + 1) rfl 84 _ (0, 0) _ H7.out Try.underlying84 rfl (by rw [cc_size]; kernel_rfl) ?_)
    refine (busbarref09_Right.calls 4 2 b1 b2 0 b3 0 0 rb _ HRT.out).mono ?_
    rintro e W9 ⟨rfl, hb9⟩
    replace H4 := Aside0.mk (blk_below H4.out hb9)
    replace H7 := Aside0.mk (blk_below H7.out hb9)
    replace HB := Aside0.mk (below_step HB.out hb9)
    clear hb9
    cases rb with
    | false =>
      go_wp2_with (refine wpList_store_row rfl 84 _ _ rfl g4 (cc zero7) rfl rfl 84 _ H4.out (by rw [cc_size]; kernel_rfl) rfl (cc_one _) ?_)
      unfold Ans
      rw [HRO.out]
      rw [if_neg (by decide)]
      exact finR_ (C := zero7) rfl rfl rfl rfl rfl (setRow_heap _ _ _ _ _ _ H4.out) (Kx.below_setRow HB.out hgle)
    | true =>
      go_wp2_with (first | (refine wpList_load_row rfl 84 _ rfl (g4 + 1) rfl 84 _ (0, 0) _ H7.out Try.underlying84 rfl (by rw [cc_size]; kernel_rfl) ?_) | (refine wpList_store_row rfl 84 _ _ rfl g4 (cc [2, b1, b2, 0, b3, 0, 0]) rfl rfl 84 _ H4.out (by rw [cc_size]; kernel_rfl) rfl (cc_one _) ?_))
      unfold Ans
      rw [HRO.out]
      rw [if_pos (by first | rfl | trivial)]
      exact finR_ (C := [2, b1, b2, 0, b3, 0, 0]) rfl rfl rfl rfl rfl (setRow_heap _ _ _ _ _ _ H4.out) (Kx.below_setRow HB.out hgle)

set_option maxHeartbeats 4000000 in
set_option maxRecDepth 100000 in
theorem ref_read_3 (s : ByteArray) (i : Nat) (w : World) (hs : s.size ≤ 100000) (hi : i < s.size) (hop : ((s[i]'hi).toNat : Int) = 3) : Calls Try.prog 29 #[.string s, .int .i64 (i : Int)] w (Ans s (i : Int) w) := by
  have hro : readP (toB s) (i : Int) = if 3 > (s.size : Int) - (i : Int) then (zero7, 0, 10) else
      if rightL (cmdP (toB s) (i : Int) 3) = true then (cmdP (toB s) (i : Int) 3, (i : Int) + 3, 0) else (zero7, 0, 11) := by
    rw [readP, if_neg (by rw [toB_len]; omega), if_neg (by rw [toB_len]; omega), toB_len, toB_at s i hi, hop, if_neg (by decide)]; rfl
  have HRO := Aside0.mk hro
  obtain ⟨g4, hg4⟩ : ∃ g, w.heap.size = g := ⟨_, rfl⟩
  have B1 : Below w.heap.size w (w.alloc (.cells (cc zero7) 84)) := below_alloc (Below.refl _ _) _
  have B2 : Below (w.alloc (.cells (cc zero7) 84)).heap.size (w.alloc (.cells (cc zero7) 84)) ((w.alloc (.cells (cc zero7) 84)).alloc (.cells (cc [3, 0, 0, 0, 0, 0, 0]) 84)) := below_alloc (Below.refl _ _) _
  have HB : Aside0 (Below w.heap.size w ((w.alloc (.cells (cc zero7) 84)).alloc (.cells (cc [3, 0, 0, 0, 0, 0, 0]) 84))) := ⟨below_step B1 B2⟩
  have H4 : Aside0 (((w.alloc (.cells (cc zero7) 84)).alloc (.cells (cc [3, 0, 0, 0, 0, 0, 0]) 84)).heap[g4]? = some (.cells (cc zero7) 84 (0, 0))) := ⟨blk_below (by rw [← hg4]; exact heap_alloc_new _ _) B2⟩
  have H7 : Aside0 (((w.alloc (.cells (cc zero7) 84)).alloc (.cells (cc [3, 0, 0, 0, 0, 0, 0]) 84)).heap[g4 + 1]? = some (.cells (cc [3, 0, 0, 0, 0, 0, 0]) 84 (0, 0))) := ⟨by rw [show g4 + 1 = (w.alloc (.cells (cc zero7) 84)).heap.size by simp [← hg4]]; exact heap_alloc_new _ _⟩
  have hgle : w.heap.size ≤ g4 := by omega
  have HS := Aside0.mk hs
  clear hro B1 B2
  have d1 : decide ((i : Int) < 0) = false := decide_eq_false (by omega)
  have d2 : decide ((s.size : Int) < (i : Int)) = false := decide_eq_false (by omega)
  have d2n : decide (s.size < i) = false := decide_eq_false (by omega)
  have d3 : ((i : Int) == (s.size : Int)) = false := by rw [beq_eq_false_iff_ne]; omega
  have d3n : (i == s.size) = false := by rw [beq_eq_false_iff_ne]; omega
  go_enter Try.func29, Try.ntmps29
  go_wp2_with fail
  refine (busbarref09_long.calls 3 3 _ (by decide)).mono ?_
  rintro e w1 ⟨rfl, hb1⟩
  replace H4 := Aside0.mk (blk_below H4.out hb1)
  replace H7 := Aside0.mk (blk_below H7.out hb1)
  replace HB := Aside0.mk (below_step HB.out hb1)
  clear hb1
  have hro := HRO.out
  clear HRO
  by_cases hL : 3 > (s.size : Int) - (i : Int)
  · rw [if_pos hL] at hro
    have c1 : decide ((s.size : Int) - (i : Int) < 3) = true := decide_eq_true (by omega)
    clear hL
    go_wp2_with (refine wpList_store_row rfl 84 _ _ rfl g4 (cc zero7) rfl rfl 84 _ H4.out (by rw [cc_size]; kernel_rfl) rfl (cc_one _) ?_)
    unfold Ans
    rw [hro]
    exact finR_ (C := zero7) rfl rfl rfl rfl rfl (setRow_heap _ _ _ _ _ _ H4.out) (Kx.below_setRow HB.out hgle)
  · rw [if_neg hL] at hro
    have HRO := Aside0.mk hro
    have c1 : decide ((s.size : Int) - (i : Int) < 3) = false := decide_eq_false (by omega)
    have HL := Aside0.mk hL
    clear hro hL
    have p1 : (i : Int) + 3 ≤ (s.size : Int) := by have := HL.out; omega
    have x0 := cell_in H7.out 0
    replace x0 : w1.cell? ⟨g4 + 1, 0, none⟩ = some (.int .i64 3) := x0
    obtain ⟨v, hv, hvs, hvb⟩ := ext_at s i 3 (by omega)
    have hb1 : ((v[1]'(by omega)).toNat : Int) = rd (toB s) ((i : Int) + 1) := hvb 1 (by omega)
    obtain ⟨b1, hq1⟩ : ∃ b, rd (toB s) ((i : Int) + 1) = b := ⟨_, rfl⟩
    have hr1 := (toB_bytes s).at ((i : Int) + 1)
    rw [hq1] at hb1 hr1
    have hb2 : ((v[2]'(by omega)).toNat : Int) = rd (toB s) ((i : Int) + 2) := hvb 2 (by omega)
    obtain ⟨b2, hq2⟩ : ∃ b, rd (toB s) ((i : Int) + 2) = b := ⟨_, rfl⟩
    have hr2 := (toB_bytes s).at ((i : Int) + 2)
    rw [hq2] at hb2 hr2
    have HQ1 := Aside0.mk hq1
    have HQ2 := Aside0.mk hq2
    have HW1 : Aside0 (wrap64 b1 = b1) := ⟨wr (by omega) (by omega)⟩
    have HW2 : Aside0 (wrap64 b2 = b2) := ⟨wr (by omega) (by omega)⟩
    have HR1 := Aside0.mk hr1
    have HR2 := Aside0.mk hr2
    clear hr1 hr2
    clear hq1 hq2
    have HVB := Aside0.mk hvb
    clear hvb
    go_wp2_with fail
    refine start_ (n := 10) (S := fun _ => True) (ds := [9]) #[false, false, false, false, false, false, false, false, false, false] (by kernel_rfl) rfl rfl (trivial) (fun hHeld => ?_)
    have H72 : Aside0 (w1.drew.heap[g4 + 1]? = some (.cells (cc [3, 0, 0, 0, 0, 0, 0]) 84 (0, 0))) := ⟨H7.out⟩
    have H42 : Aside0 (w1.drew.heap[g4]? = some (.cells (cc zero7) 84 (0, 0))) := ⟨H4.out⟩
    have HB2 : Aside0 (Below w.heap.size w w1.drew) := ⟨below_drew HB.out⟩
    clear H7 H4 HB x0
    have H7 := H72
    have H4 := H42
    have HB := HB2
    clear H72 H42 HB2
    generalize w1.drew = W2 at *
    refine pure_ (i := 0) (N := (some 85)) (v := ?_) (a' := ?_) #[true, false, false, false, false, false, false, false, false, false] rfl rfl (by kernel_rfl) (fun _ _ _ h => h) (Or.inl ⟨by rfl, ?_⟩) ?_ ?_
    rotate_left
    · intro w'
      go_simp
      with_reducible rfl
    rotate_left
    · simp only [Act.put, List.setIfInBounds_toArray, List.set_cons_zero, List.set_cons_succ, i64_w, i32_w]
      rfl
    refine pure_ (i := 1) (N := (some 86)) (v := ?_) (a' := ?_) #[true, true, false, false, false, false, false, false, false, false] rfl rfl (by kernel_rfl) (fun _ _ _ h => h) (Or.inl ⟨by rfl, ?_⟩) ?_ ?_
    rotate_left
    · intro w'
      go_simp
      with_reducible rfl
    rotate_left
    · simp only [Act.put, List.setIfInBounds_toArray, List.set_cons_zero, List.set_cons_succ, i64_w, i32_w]
      rfl
    refine pure_ (i := 2) (N := (some 87)) (v := ?_) (a' := ?_) #[true, true, true, false, false, false, false, false, false, false] rfl rfl (by kernel_rfl) (fun _ _ _ h => h) (Or.inl ⟨by rfl, ?_⟩) ?_ ?_
    rotate_left
    · intro w'
      go_simp
      with_reducible rfl
    rotate_left
    · simp only [Act.put, List.setIfInBounds_toArray, List.set_cons_zero, List.set_cons_succ, i64_w, i32_w]
      rfl
    refine pure_ (i := 3) (N := (some 88)) (v := ?_) (a' := ?_) #[true, true, true, true, false, false, false, false, false, false] rfl rfl (by kernel_rfl) (fun _ _ _ h => h) (Or.inl ⟨by rfl, ?_⟩) ?_ ?_
    rotate_left
    · intro w'
      go_simp
      with_reducible rfl
    rotate_left
    · simp only [Act.put, List.setIfInBounds_toArray, List.set_cons_zero, List.set_cons_succ, i64_w, i32_w]
      rfl
    refine pure_ (i := 4) (N := (some 89)) (v := ?_) (a' := ?_) #[true, true, true, true, true, false, false, false, false, false] rfl rfl (by kernel_rfl) (fun _ _ _ h => h) (Or.inl ⟨by rfl, ?_⟩) ?_ ?_
    rotate_left
    · intro w'
      go_simp
      with_reducible rfl
    rotate_left
    · simp only [Act.put, List.setIfInBounds_toArray, List.set_cons_zero, List.set_cons_succ, i64_w, i32_w]
      rfl
    refine pure_ (i := 5) (N := (some 90)) (v := ?_) (a' := ?_) #[true, true, true, true, true, true, false, false, false, false] rfl rfl (by kernel_rfl) (fun _ _ _ h => h) (Or.inl ⟨by rfl, ?_⟩) ?_ ?_
    rotate_left
    · intro w'
      go_simp
      with_reducible rfl
    rotate_left
    · simp only [Act.put, List.setIfInBounds_toArray, List.set_cons_zero, List.set_cons_succ, i64_w, i32_w]
      rfl
    refine pure_ (i := 6) (N := (some 91)) (v := ?_) (a' := ?_) #[true, true, true, true, true, true, true, false, false, false] rfl rfl (by kernel_rfl) (fun _ _ _ h => h) (Or.inl ⟨by rfl, ?_⟩) ?_ ?_
    rotate_left
    · intro w'
      go_simp
      with_reducible rfl
    rotate_left
    · simp only [Act.put, List.setIfInBounds_toArray, List.set_cons_zero, List.set_cons_succ, i64_w, i32_w]
      rfl
    refine one_ (i := 7) (N := none) #[true, true, true, true, true, true, true, true, false, false] rfl rfl (by kernel_rfl) (by decide) (fun K hK => ?_)
    refine skip_ (w1 := W2.setCell ⟨g4 + 1, 2, none⟩ (.int .i64 (b1))) (by rfl) rfl ?_ ?_
    · have x1 := cell_in H7.out 2
      replace x1 : W2.cell? ⟨g4 + 1, 2, none⟩ = some (.int .i64 0) := x1
      have x2 := free_in H7.out 2
      go_simp
      simp only [HW1.out, HW2.out]
    refine hK.out _ _ (trivial) (fun hHeld => ?_)
    clear hK K
    have H72 : Aside0 ((W2.setCell ⟨g4 + 1, 2, none⟩ (.int .i64 (b1))).heap[g4 + 1]? = some (.cells (cc [3, 0, b1, 0, 0, 0, 0]) 84 (0, 0))) := ⟨set_in H7.out 2 _⟩
    have H42 : Aside0 ((W2.setCell ⟨g4 + 1, 2, none⟩ (.int .i64 (b1))).heap[g4]? = some (.cells (cc zero7) 84 (0, 0))) := ⟨(set_ne 2 _ (by omega)).trans H4.out⟩
    have HB2 : Aside0 (Below w.heap.size w (W2.setCell ⟨g4 + 1, 2, none⟩ (.int .i64 (b1)))) := ⟨HB.out.setCell (by show w.heap.size ≤ g4 + 1; omega) _⟩
    clear H4 H7 HB
    have H4 := H42
    have H7 := H72
    have HB := HB2
    clear H42 H72 HB2
    generalize W2.setCell ⟨g4 + 1, 2, none⟩ (.int .i64 (b1)) = W3 at *
    refine pure_ (i := 8) (N := (some 92)) (v := ?_) (a' := ?_) #[true, true, true, true, true, true, true, true, true, false] rfl rfl (by kernel_rfl) (fun _ _ _ h => h) (Or.inl ⟨by rfl, ?_⟩) ?_ ?_
    rotate_left
    · intro w'
      go_simp
      with_reducible rfl
    rotate_left
    · simp only [Act.put, List.setIfInBounds_toArray, List.set_cons_zero, List.set_cons_succ, i64_w, i32_w]
      rfl
    refine last_ (i := 9) (N := none) #[true, true, true, true, true, true, true, true, true, true] rfl rfl (by kernel_rfl) (by decide) (fun K hK => ?_)
    refine skip_ (w1 := W3.setCell ⟨g4 + 1, 4, none⟩ (.int .i64 (b2))) (by rfl) rfl ?_ ?_
    · have x1 := cell_in H7.out 4
      replace x1 : W3.cell? ⟨g4 + 1, 4, none⟩ = some (.int .i64 0) := x1
      have x2 := free_in H7.out 4
      go_simp
      simp only [HW1.out, HW2.out]
    refine hK.out _ _ ?_
    clear hK K
    have H72 : Aside0 ((W3.setCell ⟨g4 + 1, 4, none⟩ (.int .i64 (b2))).heap[g4 + 1]? = some (.cells (cc [3, 0, b1, 0, b2, 0, 0]) 84 (0, 0))) := ⟨set_in H7.out 4 _⟩
    have H42 : Aside0 ((W3.setCell ⟨g4 + 1, 4, none⟩ (.int .i64 (b2))).heap[g4]? = some (.cells (cc zero7) 84 (0, 0))) := ⟨(set_ne 4 _ (by omega)).trans H4.out⟩
    have HB2 : Aside0 (Below w.heap.size w (W3.setCell ⟨g4 + 1, 4, none⟩ (.int .i64 (b2)))) := ⟨HB.out.setCell (by show w.heap.size ≤ g4 + 1; omega) _⟩
    clear H4 H7 HB
    have H4 := H42
    have H7 := H72
    have HB := HB2
    clear H42 H72 HB2
    generalize W3.setCell ⟨g4 + 1, 4, none⟩ (.int .i64 (b2)) = W4 at *
    refine done_ (by kernel_rfl) ?_
    have HRT : Aside0 (busbarref09_Right.f 4 3 0 b1 0 b2 0 0 = some (rightL [3, 0, b1, 0, b2, 0, 0])) := ⟨refRight_f _ _ _ _ _ _ _ (by have := HR1.out; have := HR2.out; omega)⟩
    have hro := HRO.out
    clear HRO
    rw [show cmdP (toB s) (i : Int) 3 = [3, 0, b1, 0, b2, 0, 0] from (by show _ = _; unfold cmdP; simp only [Int.reduceEq, if_true, if_false, or_self, or_false, false_or, HQ1.out, HQ2.out])] at hro
    obtain ⟨rb, hrb⟩ : ∃ r, rightL [3, 0, b1, 0, b2, 0, 0] = r := ⟨_, rfl⟩
    rw [hrb] at HRT hro
    have HRO := Aside0.mk hro
    clear hro hrb
    go_wp2_with (refine wpList_load_row rfl 84 _ rfl (g4 + 1) rfl 84 _ (0, 0) _ H7.out Try.underlying84 rfl (by rw [cc_size]; kernel_rfl) ?_)
    refine (busbarref09_Right.calls 4 3 0 b1 0 b2 0 0 rb _ HRT.out).mono ?_
    rintro e W9 ⟨rfl, hb9⟩
    replace H4 := Aside0.mk (blk_below H4.out hb9)
    replace H7 := Aside0.mk (blk_below H7.out hb9)
    replace HB := Aside0.mk (below_step HB.out hb9)
    clear hb9
    cases rb with
    | false =>
      go_wp2_with (refine wpList_store_row rfl 84 _ _ rfl g4 (cc zero7) rfl rfl 84 _ H4.out (by rw [cc_size]; kernel_rfl) rfl (cc_one _) ?_)
      unfold Ans
      rw [HRO.out]
      rw [if_neg (by decide)]
      exact finR_ (C := zero7) rfl rfl rfl rfl rfl (setRow_heap _ _ _ _ _ _ H4.out) (Kx.below_setRow HB.out hgle)
    | true =>
      go_wp2_with (first | (refine wpList_load_row rfl 84 _ rfl (g4 + 1) rfl 84 _ (0, 0) _ H7.out Try.underlying84 rfl (by rw [cc_size]; kernel_rfl) ?_) | (refine wpList_store_row rfl 84 _ _ rfl g4 (cc [3, 0, b1, 0, b2, 0, 0]) rfl rfl 84 _ H4.out (by rw [cc_size]; kernel_rfl) rfl (cc_one _) ?_))
      unfold Ans
      rw [HRO.out]
      rw [if_pos (by first | rfl | trivial)]
      exact finR_ (C := [3, 0, b1, 0, b2, 0, 0]) rfl rfl rfl rfl rfl (setRow_heap _ _ _ _ _ _ H4.out) (Kx.below_setRow HB.out hgle)

set_option maxHeartbeats 4000000 in
set_option maxRecDepth 100000 in
theorem ref_read_4 (s : ByteArray) (i : Nat) (w : World) (hs : s.size ≤ 100000) (hi : i < s.size) (hop : ((s[i]'hi).toNat : Int) = 4) : Calls Try.prog 29 #[.string s, .int .i64 (i : Int)] w (Ans s (i : Int) w) := by
  have hro : readP (toB s) (i : Int) = if 2 > (s.size : Int) - (i : Int) then (zero7, 0, 10) else
      if rightL (cmdP (toB s) (i : Int) 4) = true then (cmdP (toB s) (i : Int) 4, (i : Int) + 2, 0) else (zero7, 0, 11) := by
    rw [readP, if_neg (by rw [toB_len]; omega), if_neg (by rw [toB_len]; omega), toB_len, toB_at s i hi, hop, if_neg (by decide)]; rfl
  have HRO := Aside0.mk hro
  obtain ⟨g4, hg4⟩ : ∃ g, w.heap.size = g := ⟨_, rfl⟩
  have B1 : Below w.heap.size w (w.alloc (.cells (cc zero7) 84)) := below_alloc (Below.refl _ _) _
  have B2 : Below (w.alloc (.cells (cc zero7) 84)).heap.size (w.alloc (.cells (cc zero7) 84)) ((w.alloc (.cells (cc zero7) 84)).alloc (.cells (cc [4, 0, 0, 0, 0, 0, 0]) 84)) := below_alloc (Below.refl _ _) _
  have HB : Aside0 (Below w.heap.size w ((w.alloc (.cells (cc zero7) 84)).alloc (.cells (cc [4, 0, 0, 0, 0, 0, 0]) 84))) := ⟨below_step B1 B2⟩
  have H4 : Aside0 (((w.alloc (.cells (cc zero7) 84)).alloc (.cells (cc [4, 0, 0, 0, 0, 0, 0]) 84)).heap[g4]? = some (.cells (cc zero7) 84 (0, 0))) := ⟨blk_below (by rw [← hg4]; exact heap_alloc_new _ _) B2⟩
  have H7 : Aside0 (((w.alloc (.cells (cc zero7) 84)).alloc (.cells (cc [4, 0, 0, 0, 0, 0, 0]) 84)).heap[g4 + 1]? = some (.cells (cc [4, 0, 0, 0, 0, 0, 0]) 84 (0, 0))) := ⟨by rw [show g4 + 1 = (w.alloc (.cells (cc zero7) 84)).heap.size by simp [← hg4]]; exact heap_alloc_new _ _⟩
  have hgle : w.heap.size ≤ g4 := by omega
  have HS := Aside0.mk hs
  clear hro B1 B2
  have d1 : decide ((i : Int) < 0) = false := decide_eq_false (by omega)
  have d2 : decide ((s.size : Int) < (i : Int)) = false := decide_eq_false (by omega)
  have d2n : decide (s.size < i) = false := decide_eq_false (by omega)
  have d3 : ((i : Int) == (s.size : Int)) = false := by rw [beq_eq_false_iff_ne]; omega
  have d3n : (i == s.size) = false := by rw [beq_eq_false_iff_ne]; omega
  go_enter Try.func29, Try.ntmps29
  go_wp2_with fail
  refine (busbarref09_long.calls 4 2 _ (by decide)).mono ?_
  rintro e w1 ⟨rfl, hb1⟩
  replace H4 := Aside0.mk (blk_below H4.out hb1)
  replace H7 := Aside0.mk (blk_below H7.out hb1)
  replace HB := Aside0.mk (below_step HB.out hb1)
  clear hb1
  have hro := HRO.out
  clear HRO
  by_cases hL : 2 > (s.size : Int) - (i : Int)
  · rw [if_pos hL] at hro
    have c1 : decide ((s.size : Int) - (i : Int) < 2) = true := decide_eq_true (by omega)
    clear hL
    go_wp2_with (refine wpList_store_row rfl 84 _ _ rfl g4 (cc zero7) rfl rfl 84 _ H4.out (by rw [cc_size]; kernel_rfl) rfl (cc_one _) ?_)
    unfold Ans
    rw [hro]
    exact finR_ (C := zero7) rfl rfl rfl rfl rfl (setRow_heap _ _ _ _ _ _ H4.out) (Kx.below_setRow HB.out hgle)
  · rw [if_neg hL] at hro
    have HRO := Aside0.mk hro
    have c1 : decide ((s.size : Int) - (i : Int) < 2) = false := decide_eq_false (by omega)
    have HL := Aside0.mk hL
    clear hro hL
    have p1 : (i : Int) + 2 ≤ (s.size : Int) := by have := HL.out; omega
    have x0 := cell_in H7.out 0
    replace x0 : w1.cell? ⟨g4 + 1, 0, none⟩ = some (.int .i64 4) := x0
    obtain ⟨v, hv, hvs, hvb⟩ := ext_at s i 2 (by omega)
    have hb1 : ((v[1]'(by omega)).toNat : Int) = rd (toB s) ((i : Int) + 1) := hvb 1 (by omega)
    obtain ⟨b1, hq1⟩ : ∃ b, rd (toB s) ((i : Int) + 1) = b := ⟨_, rfl⟩
    have hr1 := (toB_bytes s).at ((i : Int) + 1)
    rw [hq1] at hb1 hr1
    have HQ1 := Aside0.mk hq1
    have HW1 : Aside0 (wrap64 b1 = b1) := ⟨wr (by omega) (by omega)⟩
    have HR1 := Aside0.mk hr1
    clear hq1
    have HVB := Aside0.mk hvb
    clear hvb
    have x1 := cell_in H7.out 5
    replace x1 : w1.cell? ⟨g4 + 1, 5, none⟩ = some (.int .i64 0) := x1
    have x2 := free_in H7.out 5
    have H72 : Aside0 ((w1.setCell ⟨g4 + 1, 5, none⟩ (.int .i64 b1)).heap[g4 + 1]? = some (.cells (cc [4, 0, 0, 0, 0, b1, 0]) 84 (0, 0))) := ⟨set_in H7.out 5 _⟩
    have H42 : Aside0 ((w1.setCell ⟨g4 + 1, 5, none⟩ (.int .i64 b1)).heap[g4]? = some (.cells (cc zero7) 84 (0, 0))) := ⟨(set_ne 5 _ (by omega)).trans H4.out⟩
    have HB2 : Aside0 (Below w.heap.size w (w1.setCell ⟨g4 + 1, 5, none⟩ (.int .i64 b1))) := ⟨HB.out.setCell (by show w.heap.size ≤ g4 + 1; omega) _⟩
    replace H4 := H42
    replace H7 := H72
    replace HB := HB2
    clear H42 H72 HB2
    have HRT : Aside0 (busbarref09_Right.f 4 4 0 0 0 0 b1 0 = some (rightL [4, 0, 0, 0, 0, b1, 0])) := ⟨refRight_f _ _ _ _ _ _ _ (by have := HR1.out; omega)⟩
    have hro := HRO.out
    clear HRO
    rw [show cmdP (toB s) (i : Int) 4 = [4, 0, 0, 0, 0, b1, 0] from (by show _ = _; unfold cmdP; simp only [Int.reduceEq, if_true, if_false, or_self, or_false, false_or, HQ1.out])] at hro
    obtain ⟨rb, hrb⟩ : ∃ r, rightL [4, 0, 0, 0, 0, b1, 0] = r := ⟨_, rfl⟩
    rw [hrb] at HRT hro
    have HRO := Aside0.mk hro
    clear hro hrb
    go_wp2_with (refine wpList_load_row rfl 84 _ rfl (g4 + 1) rfl 84 _ (0, 0) _ H7.out Try.underlying84 rfl (by rw [cc_size]; kernel_rfl) ?_)
    refine (busbarref09_Right.calls 4 4 0 0 0 0 b1 0 rb _ HRT.out).mono ?_
    rintro e W9 ⟨rfl, hb9⟩
    replace H4 := Aside0.mk (blk_below H4.out hb9)
    replace H7 := Aside0.mk (blk_below H7.out hb9)
    replace HB := Aside0.mk (below_step HB.out hb9)
    clear hb9
    cases rb with
    | false =>
      go_wp2_with (refine wpList_store_row rfl 84 _ _ rfl g4 (cc zero7) rfl rfl 84 _ H4.out (by rw [cc_size]; kernel_rfl) rfl (cc_one _) ?_)
      unfold Ans
      rw [HRO.out]
      rw [if_neg (by decide)]
      exact finR_ (C := zero7) rfl rfl rfl rfl rfl (setRow_heap _ _ _ _ _ _ H4.out) (Kx.below_setRow HB.out hgle)
    | true =>
      go_wp2_with (first | (refine wpList_load_row rfl 84 _ rfl (g4 + 1) rfl 84 _ (0, 0) _ H7.out Try.underlying84 rfl (by rw [cc_size]; kernel_rfl) ?_) | (refine wpList_store_row rfl 84 _ _ rfl g4 (cc [4, 0, 0, 0, 0, b1, 0]) rfl rfl 84 _ H4.out (by rw [cc_size]; kernel_rfl) rfl (cc_one _) ?_))
      unfold Ans
      rw [HRO.out]
      rw [if_pos (by first | rfl | trivial)]
      exact finR_ (C := [4, 0, 0, 0, 0, b1, 0]) rfl rfl rfl rfl rfl (setRow_heap _ _ _ _ _ _ H4.out) (Kx.below_setRow HB.out hgle)

set_option maxHeartbeats 4000000 in
set_option maxRecDepth 100000 in
theorem ref_read_5 (s : ByteArray) (i : Nat) (w : World) (hs : s.size ≤ 100000) (hi : i < s.size) (hop : ((s[i]'hi).toNat : Int) = 5) : Calls Try.prog 29 #[.string s, .int .i64 (i : Int)] w (Ans s (i : Int) w) := by
  have hro : readP (toB s) (i : Int) = if 1 > (s.size : Int) - (i : Int) then (zero7, 0, 10) else
      if rightL (cmdP (toB s) (i : Int) 5) = true then (cmdP (toB s) (i : Int) 5, (i : Int) + 1, 0) else (zero7, 0, 11) := by
    rw [readP, if_neg (by rw [toB_len]; omega), if_neg (by rw [toB_len]; omega), toB_len, toB_at s i hi, hop, if_neg (by decide)]; rfl
  have HRO := Aside0.mk hro
  obtain ⟨g4, hg4⟩ : ∃ g, w.heap.size = g := ⟨_, rfl⟩
  have B1 : Below w.heap.size w (w.alloc (.cells (cc zero7) 84)) := below_alloc (Below.refl _ _) _
  have B2 : Below (w.alloc (.cells (cc zero7) 84)).heap.size (w.alloc (.cells (cc zero7) 84)) ((w.alloc (.cells (cc zero7) 84)).alloc (.cells (cc [5, 0, 0, 0, 0, 0, 0]) 84)) := below_alloc (Below.refl _ _) _
  have HB : Aside0 (Below w.heap.size w ((w.alloc (.cells (cc zero7) 84)).alloc (.cells (cc [5, 0, 0, 0, 0, 0, 0]) 84))) := ⟨below_step B1 B2⟩
  have H4 : Aside0 (((w.alloc (.cells (cc zero7) 84)).alloc (.cells (cc [5, 0, 0, 0, 0, 0, 0]) 84)).heap[g4]? = some (.cells (cc zero7) 84 (0, 0))) := ⟨blk_below (by rw [← hg4]; exact heap_alloc_new _ _) B2⟩
  have H7 : Aside0 (((w.alloc (.cells (cc zero7) 84)).alloc (.cells (cc [5, 0, 0, 0, 0, 0, 0]) 84)).heap[g4 + 1]? = some (.cells (cc [5, 0, 0, 0, 0, 0, 0]) 84 (0, 0))) := ⟨by rw [show g4 + 1 = (w.alloc (.cells (cc zero7) 84)).heap.size by simp [← hg4]]; exact heap_alloc_new _ _⟩
  have hgle : w.heap.size ≤ g4 := by omega
  have HS := Aside0.mk hs
  clear hro B1 B2
  have d1 : decide ((i : Int) < 0) = false := decide_eq_false (by omega)
  have d2 : decide ((s.size : Int) < (i : Int)) = false := decide_eq_false (by omega)
  have d2n : decide (s.size < i) = false := decide_eq_false (by omega)
  have d3 : ((i : Int) == (s.size : Int)) = false := by rw [beq_eq_false_iff_ne]; omega
  have d3n : (i == s.size) = false := by rw [beq_eq_false_iff_ne]; omega
  go_enter Try.func29, Try.ntmps29
  go_wp2_with fail
  refine (busbarref09_long.calls 5 1 _ (by decide)).mono ?_
  rintro e w1 ⟨rfl, hb1⟩
  replace H4 := Aside0.mk (blk_below H4.out hb1)
  replace H7 := Aside0.mk (blk_below H7.out hb1)
  replace HB := Aside0.mk (below_step HB.out hb1)
  clear hb1
  have hro := HRO.out
  clear HRO
  by_cases hL : 1 > (s.size : Int) - (i : Int)
  · rw [if_pos hL] at hro
    have c1 : decide ((s.size : Int) - (i : Int) < 1) = true := decide_eq_true (by omega)
    clear hL
    go_wp2_with (refine wpList_store_row rfl 84 _ _ rfl g4 (cc zero7) rfl rfl 84 _ H4.out (by rw [cc_size]; kernel_rfl) rfl (cc_one _) ?_)
    unfold Ans
    rw [hro]
    exact finR_ (C := zero7) rfl rfl rfl rfl rfl (setRow_heap _ _ _ _ _ _ H4.out) (Kx.below_setRow HB.out hgle)
  · rw [if_neg hL] at hro
    have HRO := Aside0.mk hro
    have c1 : decide ((s.size : Int) - (i : Int) < 1) = false := decide_eq_false (by omega)
    have HL := Aside0.mk hL
    clear hro hL
    have p1 : (i : Int) + 1 ≤ (s.size : Int) := by have := HL.out; omega
    have x0 := cell_in H7.out 0
    replace x0 : w1.cell? ⟨g4 + 1, 0, none⟩ = some (.int .i64 5) := x0
    obtain ⟨v, hv, hvs, hvb⟩ := ext_at s i 1 (by omega)
    have HVB := Aside0.mk hvb
    clear hvb
    have HRT : Aside0 (busbarref09_Right.f 4 5 0 0 0 0 0 0 = some (rightL [5, 0, 0, 0, 0, 0, 0])) := ⟨refRight_f _ _ _ _ _ _ _ (by omega)⟩
    have hro := HRO.out
    clear HRO
    rw [show cmdP (toB s) (i : Int) 5 = [5, 0, 0, 0, 0, 0, 0] from (by show _ = _; unfold cmdP; simp only [Int.reduceEq, if_true, if_false, or_self, or_false, false_or])] at hro
    obtain ⟨rb, hrb⟩ : ∃ r, rightL [5, 0, 0, 0, 0, 0, 0] = r := ⟨_, rfl⟩
    rw [hrb] at HRT hro
    have HRO := Aside0.mk hro
    clear hro hrb
    go_wp2_with (refine wpList_load_row rfl 84 _ rfl (g4 + 1) rfl 84 _ (0, 0) _ H7.out Try.underlying84 rfl (by rw [cc_size]; kernel_rfl) ?_)
    refine (busbarref09_Right.calls 4 5 0 0 0 0 0 0 rb _ HRT.out).mono ?_
    rintro e W9 ⟨rfl, hb9⟩
    replace H4 := Aside0.mk (blk_below H4.out hb9)
    replace H7 := Aside0.mk (blk_below H7.out hb9)
    replace HB := Aside0.mk (below_step HB.out hb9)
    clear hb9
    cases rb with
    | false =>
      go_wp2_with (refine wpList_store_row rfl 84 _ _ rfl g4 (cc zero7) rfl rfl 84 _ H4.out (by rw [cc_size]; kernel_rfl) rfl (cc_one _) ?_)
      unfold Ans
      rw [HRO.out]
      rw [if_neg (by decide)]
      exact finR_ (C := zero7) rfl rfl rfl rfl rfl (setRow_heap _ _ _ _ _ _ H4.out) (Kx.below_setRow HB.out hgle)
    | true =>
      go_wp2_with (first | (refine wpList_load_row rfl 84 _ rfl (g4 + 1) rfl 84 _ (0, 0) _ H7.out Try.underlying84 rfl (by rw [cc_size]; kernel_rfl) ?_) | (refine wpList_store_row rfl 84 _ _ rfl g4 (cc [5, 0, 0, 0, 0, 0, 0]) rfl rfl 84 _ H4.out (by rw [cc_size]; kernel_rfl) rfl (cc_one _) ?_))
      unfold Ans
      rw [HRO.out]
      rw [if_pos (by first | rfl | trivial)]
      exact finR_ (C := [5, 0, 0, 0, 0, 0, 0]) rfl rfl rfl rfl rfl (setRow_heap _ _ _ _ _ _ H4.out) (Kx.below_setRow HB.out hgle)

set_option maxHeartbeats 4000000 in
set_option maxRecDepth 100000 in
theorem ref_read_6 (s : ByteArray) (i : Nat) (w : World) (hs : s.size ≤ 100000) (hi : i < s.size) (hop : ((s[i]'hi).toNat : Int) = 6) : Calls Try.prog 29 #[.string s, .int .i64 (i : Int)] w (Ans s (i : Int) w) := by
  have hro : readP (toB s) (i : Int) = if 3 > (s.size : Int) - (i : Int) then (zero7, 0, 10) else
      if rightL (cmdP (toB s) (i : Int) 6) = true then (cmdP (toB s) (i : Int) 6, (i : Int) + 3, 0) else (zero7, 0, 11) := by
    rw [readP, if_neg (by rw [toB_len]; omega), if_neg (by rw [toB_len]; omega), toB_len, toB_at s i hi, hop, if_neg (by decide)]; rfl
  have HRO := Aside0.mk hro
  obtain ⟨g4, hg4⟩ : ∃ g, w.heap.size = g := ⟨_, rfl⟩
  have B1 : Below w.heap.size w (w.alloc (.cells (cc zero7) 84)) := below_alloc (Below.refl _ _) _
  have B2 : Below (w.alloc (.cells (cc zero7) 84)).heap.size (w.alloc (.cells (cc zero7) 84)) ((w.alloc (.cells (cc zero7) 84)).alloc (.cells (cc [6, 0, 0, 0, 0, 0, 0]) 84)) := below_alloc (Below.refl _ _) _
  have HB : Aside0 (Below w.heap.size w ((w.alloc (.cells (cc zero7) 84)).alloc (.cells (cc [6, 0, 0, 0, 0, 0, 0]) 84))) := ⟨below_step B1 B2⟩
  have H4 : Aside0 (((w.alloc (.cells (cc zero7) 84)).alloc (.cells (cc [6, 0, 0, 0, 0, 0, 0]) 84)).heap[g4]? = some (.cells (cc zero7) 84 (0, 0))) := ⟨blk_below (by rw [← hg4]; exact heap_alloc_new _ _) B2⟩
  have H7 : Aside0 (((w.alloc (.cells (cc zero7) 84)).alloc (.cells (cc [6, 0, 0, 0, 0, 0, 0]) 84)).heap[g4 + 1]? = some (.cells (cc [6, 0, 0, 0, 0, 0, 0]) 84 (0, 0))) := ⟨by rw [show g4 + 1 = (w.alloc (.cells (cc zero7) 84)).heap.size by simp [← hg4]]; exact heap_alloc_new _ _⟩
  have hgle : w.heap.size ≤ g4 := by omega
  have HS := Aside0.mk hs
  clear hro B1 B2
  have d1 : decide ((i : Int) < 0) = false := decide_eq_false (by omega)
  have d2 : decide ((s.size : Int) < (i : Int)) = false := decide_eq_false (by omega)
  have d2n : decide (s.size < i) = false := decide_eq_false (by omega)
  have d3 : ((i : Int) == (s.size : Int)) = false := by rw [beq_eq_false_iff_ne]; omega
  have d3n : (i == s.size) = false := by rw [beq_eq_false_iff_ne]; omega
  go_enter Try.func29, Try.ntmps29
  go_wp2_with fail
  refine (busbarref09_long.calls 6 3 _ (by decide)).mono ?_
  rintro e w1 ⟨rfl, hb1⟩
  replace H4 := Aside0.mk (blk_below H4.out hb1)
  replace H7 := Aside0.mk (blk_below H7.out hb1)
  replace HB := Aside0.mk (below_step HB.out hb1)
  clear hb1
  have hro := HRO.out
  clear HRO
  by_cases hL : 3 > (s.size : Int) - (i : Int)
  · rw [if_pos hL] at hro
    have c1 : decide ((s.size : Int) - (i : Int) < 3) = true := decide_eq_true (by omega)
    clear hL
    go_wp2_with (refine wpList_store_row rfl 84 _ _ rfl g4 (cc zero7) rfl rfl 84 _ H4.out (by rw [cc_size]; kernel_rfl) rfl (cc_one _) ?_)
    unfold Ans
    rw [hro]
    exact finR_ (C := zero7) rfl rfl rfl rfl rfl (setRow_heap _ _ _ _ _ _ H4.out) (Kx.below_setRow HB.out hgle)
  · rw [if_neg hL] at hro
    have HRO := Aside0.mk hro
    have c1 : decide ((s.size : Int) - (i : Int) < 3) = false := decide_eq_false (by omega)
    have HL := Aside0.mk hL
    clear hro hL
    have p1 : (i : Int) + 3 ≤ (s.size : Int) := by have := HL.out; omega
    have x0 := cell_in H7.out 0
    replace x0 : w1.cell? ⟨g4 + 1, 0, none⟩ = some (.int .i64 6) := x0
    obtain ⟨v, hv, hvs, hvb⟩ := ext_at s i 3 (by omega)
    have hb1 : ((v[1]'(by omega)).toNat : Int) = rd (toB s) ((i : Int) + 1) := hvb 1 (by omega)
    obtain ⟨b1, hq1⟩ : ∃ b, rd (toB s) ((i : Int) + 1) = b := ⟨_, rfl⟩
    have hr1 := (toB_bytes s).at ((i : Int) + 1)
    rw [hq1] at hb1 hr1
    have hb2 : ((v[2]'(by omega)).toNat : Int) = rd (toB s) ((i : Int) + 2) := hvb 2 (by omega)
    obtain ⟨b2, hq2⟩ : ∃ b, rd (toB s) ((i : Int) + 2) = b := ⟨_, rfl⟩
    have hr2 := (toB_bytes s).at ((i : Int) + 2)
    rw [hq2] at hb2 hr2
    have HQ1 := Aside0.mk hq1
    have HQ2 := Aside0.mk hq2
    have HW1 : Aside0 (wrap64 b1 = b1) := ⟨wr (by omega) (by omega)⟩
    have HW2 : Aside0 (wrap64 b2 = b2) := ⟨wr (by omega) (by omega)⟩
    have HWS : Aside0 (wrap64 (wrap64 (256 * b1) + b2) = 256 * b1 + b2) := ⟨by rw [wr (x := 256 * b1) (by omega) (by omega), wr (by omega) (by omega)]⟩
    have HR1 := Aside0.mk hr1
    have HR2 := Aside0.mk hr2
    clear hr1 hr2
    clear hq1 hq2
    have HVB := Aside0.mk hvb
    clear hvb
    go_wp2_with fail
    refine start_ (n := 10) (S := fun _ => True) (ds := [9]) #[false, false, false, false, false, false, false, false, false, false] (by kernel_rfl) rfl rfl (trivial) (fun hHeld => ?_)
    have H72 : Aside0 (w1.drew.heap[g4 + 1]? = some (.cells (cc [6, 0, 0, 0, 0, 0, 0]) 84 (0, 0))) := ⟨H7.out⟩
    have H42 : Aside0 (w1.drew.heap[g4]? = some (.cells (cc zero7) 84 (0, 0))) := ⟨H4.out⟩
    have HB2 : Aside0 (Below w.heap.size w w1.drew) := ⟨below_drew HB.out⟩
    clear H7 H4 HB x0
    have H7 := H72
    have H4 := H42
    have HB := HB2
    clear H72 H42 HB2
    generalize w1.drew = W2 at *
    refine pure_ (i := 0) (N := (some 102)) (v := ?_) (a' := ?_) #[true, false, false, false, false, false, false, false, false, false] rfl rfl (by kernel_rfl) (fun _ _ _ h => h) (Or.inl ⟨by rfl, ?_⟩) ?_ ?_
    rotate_left
    · intro w'
      go_simp
      with_reducible rfl
    rotate_left
    · simp only [Act.put, List.setIfInBounds_toArray, List.set_cons_zero, List.set_cons_succ, i64_w, i32_w]
      rfl
    refine pure_ (i := 1) (N := (some 103)) (v := ?_) (a' := ?_) #[true, true, false, false, false, false, false, false, false, false] rfl rfl (by kernel_rfl) (fun _ _ _ h => h) (Or.inl ⟨by rfl, ?_⟩) ?_ ?_
    rotate_left
    · intro w'
      go_simp
      with_reducible rfl
    rotate_left
    · simp only [Act.put, List.setIfInBounds_toArray, List.set_cons_zero, List.set_cons_succ, i64_w, i32_w]
      rfl
    refine pure_ (i := 2) (N := (some 104)) (v := ?_) (a' := ?_) #[true, true, true, false, false, false, false, false, false, false] rfl rfl (by kernel_rfl) (fun _ _ _ h => h) (Or.inl ⟨by rfl, ?_⟩) ?_ ?_
    rotate_left
    · intro w'
      go_simp
      with_reducible rfl
    rotate_left
    · simp only [Act.put, List.setIfInBounds_toArray, List.set_cons_zero, List.set_cons_succ, i64_w, i32_w]
      rfl
    refine pure_ (i := 3) (N := (some 105)) (v := ?_) (a' := ?_) #[true, true, true, true, false, false, false, false, false, false] rfl rfl (by kernel_rfl) (fun _ _ _ h => h) (Or.inl ⟨by rfl, ?_⟩) ?_ ?_
    rotate_left
    · intro w'
      go_simp
      with_reducible rfl
    rotate_left
    · simp only [Act.put, List.setIfInBounds_toArray, List.set_cons_zero, List.set_cons_succ, i64_w, i32_w]
      rfl
    refine pure_ (i := 4) (N := (some 106)) (v := ?_) (a' := ?_) #[true, true, true, true, true, false, false, false, false, false] rfl rfl (by kernel_rfl) (fun _ _ _ h => h) (Or.inl ⟨by rfl, ?_⟩) ?_ ?_
    rotate_left
    · intro w'
      go_simp
      with_reducible rfl
    rotate_left
    · simp only [Act.put, List.setIfInBounds_toArray, List.set_cons_zero, List.set_cons_succ, i64_w, i32_w]
      rfl
    refine pure_ (i := 5) (N := (some 107)) (v := ?_) (a' := ?_) #[true, true, true, true, true, true, false, false, false, false] rfl rfl (by kernel_rfl) (fun _ _ _ h => h) (Or.inl ⟨by rfl, ?_⟩) ?_ ?_
    rotate_left
    · intro w'
      go_simp
      with_reducible rfl
    rotate_left
    · simp only [Act.put, List.setIfInBounds_toArray, List.set_cons_zero, List.set_cons_succ, i64_w, i32_w]
      rfl
    refine pure_ (i := 6) (N := (some 108)) (v := ?_) (a' := ?_) #[true, true, true, true, true, true, true, false, false, false] rfl rfl (by kernel_rfl) (fun _ _ _ h => h) (Or.inl ⟨by rfl, ?_⟩) ?_ ?_
    rotate_left
    · intro w'
      go_simp
      with_reducible rfl
    rotate_left
    · simp only [Act.put, List.setIfInBounds_toArray, List.set_cons_zero, List.set_cons_succ, i64_w, i32_w]
      rfl
    refine pure_ (i := 7) (N := (some 109)) (v := ?_) (a' := ?_) #[true, true, true, true, true, true, true, true, false, false] rfl rfl (by kernel_rfl) (fun _ _ _ h => h) (Or.inl ⟨by rfl, ?_⟩) ?_ ?_
    rotate_left
    · intro w'
      go_simp
      with_reducible rfl
    rotate_left
    · simp only [Act.put, List.setIfInBounds_toArray, List.set_cons_zero, List.set_cons_succ, i64_w, i32_w]
      rfl
    refine pure_ (i := 8) (N := (some 110)) (v := ?_) (a' := ?_) #[true, true, true, true, true, true, true, true, true, false] rfl rfl (by kernel_rfl) (fun _ _ _ h => h) (Or.inl ⟨by rfl, ?_⟩) ?_ ?_
    rotate_left
    · intro w'
      go_simp
      with_reducible rfl
    rotate_left
    · simp only [Act.put, List.setIfInBounds_toArray, List.set_cons_zero, List.set_cons_succ, i64_w, i32_w]
      rfl
    refine last_ (i := 9) (N := none) #[true, true, true, true, true, true, true, true, true, true] rfl rfl (by kernel_rfl) (by decide) (fun K hK => ?_)
    refine skip_ (w1 := W2.setCell ⟨g4 + 1, 6, none⟩ (.int .i64 (256 * b1 + b2))) (by rfl) rfl ?_ ?_
    · have x1 := cell_in H7.out 6
      replace x1 : W2.cell? ⟨g4 + 1, 6, none⟩ = some (.int .i64 0) := x1
      have x2 := free_in H7.out 6
      go_simp
      simp only [HW1.out, HW2.out, HWS.out]
    refine hK.out _ _ ?_
    clear hK K
    have H72 : Aside0 ((W2.setCell ⟨g4 + 1, 6, none⟩ (.int .i64 (256 * b1 + b2))).heap[g4 + 1]? = some (.cells (cc [6, 0, 0, 0, 0, 0, 256 * b1 + b2]) 84 (0, 0))) := ⟨set_in H7.out 6 _⟩
    have H42 : Aside0 ((W2.setCell ⟨g4 + 1, 6, none⟩ (.int .i64 (256 * b1 + b2))).heap[g4]? = some (.cells (cc zero7) 84 (0, 0))) := ⟨(set_ne 6 _ (by omega)).trans H4.out⟩
    have HB2 : Aside0 (Below w.heap.size w (W2.setCell ⟨g4 + 1, 6, none⟩ (.int .i64 (256 * b1 + b2)))) := ⟨HB.out.setCell (by show w.heap.size ≤ g4 + 1; omega) _⟩
    clear H4 H7 HB
    have H4 := H42
    have H7 := H72
    have HB := HB2
    clear H42 H72 HB2
    generalize W2.setCell ⟨g4 + 1, 6, none⟩ (.int .i64 (256 * b1 + b2)) = W3 at *
    refine done_ (by kernel_rfl) ?_
    have HRT : Aside0 (busbarref09_Right.f 4 6 0 0 0 0 0 (256 * b1 + b2) = some (rightL [6, 0, 0, 0, 0, 0, 256 * b1 + b2])) := ⟨refRight_f _ _ _ _ _ _ _ (by have := HR1.out; have := HR2.out; omega)⟩
    have hro := HRO.out
    clear HRO
    rw [show cmdP (toB s) (i : Int) 6 = [6, 0, 0, 0, 0, 0, 256 * b1 + b2] from (by show _ = _; unfold cmdP; simp only [Int.reduceEq, if_true, if_false, or_self, or_false, false_or, HQ1.out, HQ2.out])] at hro
    obtain ⟨rb, hrb⟩ : ∃ r, rightL [6, 0, 0, 0, 0, 0, 256 * b1 + b2] = r := ⟨_, rfl⟩
    rw [hrb] at HRT hro
    have HRO := Aside0.mk hro
    clear hro hrb
    go_wp2_with (refine wpList_load_row rfl 84 _ rfl (g4 + 1) rfl 84 _ (0, 0) _ H7.out Try.underlying84 rfl (by rw [cc_size]; kernel_rfl) ?_)
    refine (busbarref09_Right.calls 4 6 0 0 0 0 0 (256 * b1 + b2) rb _ HRT.out).mono ?_
    rintro e W9 ⟨rfl, hb9⟩
    replace H4 := Aside0.mk (blk_below H4.out hb9)
    replace H7 := Aside0.mk (blk_below H7.out hb9)
    replace HB := Aside0.mk (below_step HB.out hb9)
    clear hb9
    cases rb with
    | false =>
      go_wp2_with (refine wpList_store_row rfl 84 _ _ rfl g4 (cc zero7) rfl rfl 84 _ H4.out (by rw [cc_size]; kernel_rfl) rfl (cc_one _) ?_)
      unfold Ans
      rw [HRO.out]
      rw [if_neg (by decide)]
      exact finR_ (C := zero7) rfl rfl rfl rfl rfl (setRow_heap _ _ _ _ _ _ H4.out) (Kx.below_setRow HB.out hgle)
    | true =>
      go_wp2_with (first | (refine wpList_load_row rfl 84 _ rfl (g4 + 1) rfl 84 _ (0, 0) _ H7.out Try.underlying84 rfl (by rw [cc_size]; kernel_rfl) ?_) | (refine wpList_store_row rfl 84 _ _ rfl g4 (cc [6, 0, 0, 0, 0, 0, 256 * b1 + b2]) rfl rfl 84 _ H4.out (by rw [cc_size]; kernel_rfl) rfl (cc_one _) ?_))
      unfold Ans
      rw [HRO.out]
      rw [if_pos (by first | rfl | trivial)]
      exact finR_ (C := [6, 0, 0, 0, 0, 0, 256 * b1 + b2]) rfl rfl rfl rfl rfl (setRow_heap _ _ _ _ _ _ H4.out) (Kx.below_setRow HB.out hgle)

set_option maxHeartbeats 4000000 in
set_option maxRecDepth 100000 in
theorem ref_read_7 (s : ByteArray) (i : Nat) (w : World) (hs : s.size ≤ 100000) (hi : i < s.size) (hop : ((s[i]'hi).toNat : Int) = 7) : Calls Try.prog 29 #[.string s, .int .i64 (i : Int)] w (Ans s (i : Int) w) := by
  have hro : readP (toB s) (i : Int) = if 1 > (s.size : Int) - (i : Int) then (zero7, 0, 10) else
      if rightL (cmdP (toB s) (i : Int) 7) = true then (cmdP (toB s) (i : Int) 7, (i : Int) + 1, 0) else (zero7, 0, 11) := by
    rw [readP, if_neg (by rw [toB_len]; omega), if_neg (by rw [toB_len]; omega), toB_len, toB_at s i hi, hop, if_neg (by decide)]; rfl
  have HRO := Aside0.mk hro
  obtain ⟨g4, hg4⟩ : ∃ g, w.heap.size = g := ⟨_, rfl⟩
  have B1 : Below w.heap.size w (w.alloc (.cells (cc zero7) 84)) := below_alloc (Below.refl _ _) _
  have B2 : Below (w.alloc (.cells (cc zero7) 84)).heap.size (w.alloc (.cells (cc zero7) 84)) ((w.alloc (.cells (cc zero7) 84)).alloc (.cells (cc [7, 0, 0, 0, 0, 0, 0]) 84)) := below_alloc (Below.refl _ _) _
  have HB : Aside0 (Below w.heap.size w ((w.alloc (.cells (cc zero7) 84)).alloc (.cells (cc [7, 0, 0, 0, 0, 0, 0]) 84))) := ⟨below_step B1 B2⟩
  have H4 : Aside0 (((w.alloc (.cells (cc zero7) 84)).alloc (.cells (cc [7, 0, 0, 0, 0, 0, 0]) 84)).heap[g4]? = some (.cells (cc zero7) 84 (0, 0))) := ⟨blk_below (by rw [← hg4]; exact heap_alloc_new _ _) B2⟩
  have H7 : Aside0 (((w.alloc (.cells (cc zero7) 84)).alloc (.cells (cc [7, 0, 0, 0, 0, 0, 0]) 84)).heap[g4 + 1]? = some (.cells (cc [7, 0, 0, 0, 0, 0, 0]) 84 (0, 0))) := ⟨by rw [show g4 + 1 = (w.alloc (.cells (cc zero7) 84)).heap.size by simp [← hg4]]; exact heap_alloc_new _ _⟩
  have hgle : w.heap.size ≤ g4 := by omega
  have HS := Aside0.mk hs
  clear hro B1 B2
  have d1 : decide ((i : Int) < 0) = false := decide_eq_false (by omega)
  have d2 : decide ((s.size : Int) < (i : Int)) = false := decide_eq_false (by omega)
  have d2n : decide (s.size < i) = false := decide_eq_false (by omega)
  have d3 : ((i : Int) == (s.size : Int)) = false := by rw [beq_eq_false_iff_ne]; omega
  have d3n : (i == s.size) = false := by rw [beq_eq_false_iff_ne]; omega
  go_enter Try.func29, Try.ntmps29
  go_wp2_with fail
  refine (busbarref09_long.calls 7 1 _ (by decide)).mono ?_
  rintro e w1 ⟨rfl, hb1⟩
  replace H4 := Aside0.mk (blk_below H4.out hb1)
  replace H7 := Aside0.mk (blk_below H7.out hb1)
  replace HB := Aside0.mk (below_step HB.out hb1)
  clear hb1
  have hro := HRO.out
  clear HRO
  by_cases hL : 1 > (s.size : Int) - (i : Int)
  · rw [if_pos hL] at hro
    have c1 : decide ((s.size : Int) - (i : Int) < 1) = true := decide_eq_true (by omega)
    clear hL
    go_wp2_with (refine wpList_store_row rfl 84 _ _ rfl g4 (cc zero7) rfl rfl 84 _ H4.out (by rw [cc_size]; kernel_rfl) rfl (cc_one _) ?_)
    unfold Ans
    rw [hro]
    exact finR_ (C := zero7) rfl rfl rfl rfl rfl (setRow_heap _ _ _ _ _ _ H4.out) (Kx.below_setRow HB.out hgle)
  · rw [if_neg hL] at hro
    have HRO := Aside0.mk hro
    have c1 : decide ((s.size : Int) - (i : Int) < 1) = false := decide_eq_false (by omega)
    have HL := Aside0.mk hL
    clear hro hL
    have p1 : (i : Int) + 1 ≤ (s.size : Int) := by have := HL.out; omega
    have x0 := cell_in H7.out 0
    replace x0 : w1.cell? ⟨g4 + 1, 0, none⟩ = some (.int .i64 7) := x0
    obtain ⟨v, hv, hvs, hvb⟩ := ext_at s i 1 (by omega)
    have HVB := Aside0.mk hvb
    clear hvb
    have HRT : Aside0 (busbarref09_Right.f 4 7 0 0 0 0 0 0 = some (rightL [7, 0, 0, 0, 0, 0, 0])) := ⟨refRight_f _ _ _ _ _ _ _ (by omega)⟩
    have hro := HRO.out
    clear HRO
    rw [show cmdP (toB s) (i : Int) 7 = [7, 0, 0, 0, 0, 0, 0] from (by show _ = _; unfold cmdP; simp only [Int.reduceEq, if_true, if_false, or_self, or_false, false_or])] at hro
    obtain ⟨rb, hrb⟩ : ∃ r, rightL [7, 0, 0, 0, 0, 0, 0] = r := ⟨_, rfl⟩
    rw [hrb] at HRT hro
    have HRO := Aside0.mk hro
    clear hro hrb
    go_wp2_with (refine wpList_load_row rfl 84 _ rfl (g4 + 1) rfl 84 _ (0, 0) _ H7.out Try.underlying84 rfl (by rw [cc_size]; kernel_rfl) ?_)
    refine (busbarref09_Right.calls 4 7 0 0 0 0 0 0 rb _ HRT.out).mono ?_
    rintro e W9 ⟨rfl, hb9⟩
    replace H4 := Aside0.mk (blk_below H4.out hb9)
    replace H7 := Aside0.mk (blk_below H7.out hb9)
    replace HB := Aside0.mk (below_step HB.out hb9)
    clear hb9
    cases rb with
    | false =>
      go_wp2_with (refine wpList_store_row rfl 84 _ _ rfl g4 (cc zero7) rfl rfl 84 _ H4.out (by rw [cc_size]; kernel_rfl) rfl (cc_one _) ?_)
      unfold Ans
      rw [HRO.out]
      rw [if_neg (by decide)]
      exact finR_ (C := zero7) rfl rfl rfl rfl rfl (setRow_heap _ _ _ _ _ _ H4.out) (Kx.below_setRow HB.out hgle)
    | true =>
      go_wp2_with (first | (refine wpList_load_row rfl 84 _ rfl (g4 + 1) rfl 84 _ (0, 0) _ H7.out Try.underlying84 rfl (by rw [cc_size]; kernel_rfl) ?_) | (refine wpList_store_row rfl 84 _ _ rfl g4 (cc [7, 0, 0, 0, 0, 0, 0]) rfl rfl 84 _ H4.out (by rw [cc_size]; kernel_rfl) rfl (cc_one _) ?_))
      unfold Ans
      rw [HRO.out]
      rw [if_pos (by first | rfl | trivial)]
      exact finR_ (C := [7, 0, 0, 0, 0, 0, 0]) rfl rfl rfl rfl rfl (setRow_heap _ _ _ _ _ _ H4.out) (Kx.below_setRow HB.out hgle)

set_option maxHeartbeats 4000000 in
set_option maxRecDepth 100000 in
theorem ref_read_8 (s : ByteArray) (i : Nat) (w : World) (hs : s.size ≤ 100000) (hi : i < s.size) (hop : ((s[i]'hi).toNat : Int) = 8) : Calls Try.prog 29 #[.string s, .int .i64 (i : Int)] w (Ans s (i : Int) w) := by
  have hro : readP (toB s) (i : Int) = if 3 > (s.size : Int) - (i : Int) then (zero7, 0, 10) else
      if rightL (cmdP (toB s) (i : Int) 8) = true then (cmdP (toB s) (i : Int) 8, (i : Int) + 3, 0) else (zero7, 0, 11) := by
    rw [readP, if_neg (by rw [toB_len]; omega), if_neg (by rw [toB_len]; omega), toB_len, toB_at s i hi, hop, if_neg (by decide)]; rfl
  have HRO := Aside0.mk hro
  obtain ⟨g4, hg4⟩ : ∃ g, w.heap.size = g := ⟨_, rfl⟩
  have B1 : Below w.heap.size w (w.alloc (.cells (cc zero7) 84)) := below_alloc (Below.refl _ _) _
  have B2 : Below (w.alloc (.cells (cc zero7) 84)).heap.size (w.alloc (.cells (cc zero7) 84)) ((w.alloc (.cells (cc zero7) 84)).alloc (.cells (cc [8, 0, 0, 0, 0, 0, 0]) 84)) := below_alloc (Below.refl _ _) _
  have HB : Aside0 (Below w.heap.size w ((w.alloc (.cells (cc zero7) 84)).alloc (.cells (cc [8, 0, 0, 0, 0, 0, 0]) 84))) := ⟨below_step B1 B2⟩
  have H4 : Aside0 (((w.alloc (.cells (cc zero7) 84)).alloc (.cells (cc [8, 0, 0, 0, 0, 0, 0]) 84)).heap[g4]? = some (.cells (cc zero7) 84 (0, 0))) := ⟨blk_below (by rw [← hg4]; exact heap_alloc_new _ _) B2⟩
  have H7 : Aside0 (((w.alloc (.cells (cc zero7) 84)).alloc (.cells (cc [8, 0, 0, 0, 0, 0, 0]) 84)).heap[g4 + 1]? = some (.cells (cc [8, 0, 0, 0, 0, 0, 0]) 84 (0, 0))) := ⟨by rw [show g4 + 1 = (w.alloc (.cells (cc zero7) 84)).heap.size by simp [← hg4]]; exact heap_alloc_new _ _⟩
  have hgle : w.heap.size ≤ g4 := by omega
  have HS := Aside0.mk hs
  clear hro B1 B2
  have d1 : decide ((i : Int) < 0) = false := decide_eq_false (by omega)
  have d2 : decide ((s.size : Int) < (i : Int)) = false := decide_eq_false (by omega)
  have d2n : decide (s.size < i) = false := decide_eq_false (by omega)
  have d3 : ((i : Int) == (s.size : Int)) = false := by rw [beq_eq_false_iff_ne]; omega
  have d3n : (i == s.size) = false := by rw [beq_eq_false_iff_ne]; omega
  go_enter Try.func29, Try.ntmps29
  go_wp2_with fail
  refine (busbarref09_long.calls 8 3 _ (by decide)).mono ?_
  rintro e w1 ⟨rfl, hb1⟩
  replace H4 := Aside0.mk (blk_below H4.out hb1)
  replace H7 := Aside0.mk (blk_below H7.out hb1)
  replace HB := Aside0.mk (below_step HB.out hb1)
  clear hb1
  have hro := HRO.out
  clear HRO
  by_cases hL : 3 > (s.size : Int) - (i : Int)
  · rw [if_pos hL] at hro
    have c1 : decide ((s.size : Int) - (i : Int) < 3) = true := decide_eq_true (by omega)
    clear hL
    go_wp2_with (refine wpList_store_row rfl 84 _ _ rfl g4 (cc zero7) rfl rfl 84 _ H4.out (by rw [cc_size]; kernel_rfl) rfl (cc_one _) ?_)
    unfold Ans
    rw [hro]
    exact finR_ (C := zero7) rfl rfl rfl rfl rfl (setRow_heap _ _ _ _ _ _ H4.out) (Kx.below_setRow HB.out hgle)
  · rw [if_neg hL] at hro
    have HRO := Aside0.mk hro
    have c1 : decide ((s.size : Int) - (i : Int) < 3) = false := decide_eq_false (by omega)
    have HL := Aside0.mk hL
    clear hro hL
    have p1 : (i : Int) + 3 ≤ (s.size : Int) := by have := HL.out; omega
    have x0 := cell_in H7.out 0
    replace x0 : w1.cell? ⟨g4 + 1, 0, none⟩ = some (.int .i64 8) := x0
    obtain ⟨v, hv, hvs, hvb⟩ := ext_at s i 3 (by omega)
    have hb1 : ((v[1]'(by omega)).toNat : Int) = rd (toB s) ((i : Int) + 1) := hvb 1 (by omega)
    obtain ⟨b1, hq1⟩ : ∃ b, rd (toB s) ((i : Int) + 1) = b := ⟨_, rfl⟩
    have hr1 := (toB_bytes s).at ((i : Int) + 1)
    rw [hq1] at hb1 hr1
    have hb2 : ((v[2]'(by omega)).toNat : Int) = rd (toB s) ((i : Int) + 2) := hvb 2 (by omega)
    obtain ⟨b2, hq2⟩ : ∃ b, rd (toB s) ((i : Int) + 2) = b := ⟨_, rfl⟩
    have hr2 := (toB_bytes s).at ((i : Int) + 2)
    rw [hq2] at hb2 hr2
    have HQ1 := Aside0.mk hq1
    have HQ2 := Aside0.mk hq2
    have HW1 : Aside0 (wrap64 b1 = b1) := ⟨wr (by omega) (by omega)⟩
    have HW2 : Aside0 (wrap64 b2 = b2) := ⟨wr (by omega) (by omega)⟩
    have HWS : Aside0 (wrap64 (wrap64 (256 * b1) + b2) = 256 * b1 + b2) := ⟨by rw [wr (x := 256 * b1) (by omega) (by omega), wr (by omega) (by omega)]⟩
    have HR1 := Aside0.mk hr1
    have HR2 := Aside0.mk hr2
    clear hr1 hr2
    clear hq1 hq2
    have HVB := Aside0.mk hvb
    clear hvb
    go_wp2_with fail
    refine start_ (n := 10) (S := fun _ => True) (ds := [9]) #[false, false, false, false, false, false, false, false, false, false] (by kernel_rfl) rfl rfl (trivial) (fun hHeld => ?_)
    have H72 : Aside0 (w1.drew.heap[g4 + 1]? = some (.cells (cc [8, 0, 0, 0, 0, 0, 0]) 84 (0, 0))) := ⟨H7.out⟩
    have H42 : Aside0 (w1.drew.heap[g4]? = some (.cells (cc zero7) 84 (0, 0))) := ⟨H4.out⟩
    have HB2 : Aside0 (Below w.heap.size w w1.drew) := ⟨below_drew HB.out⟩
    clear H7 H4 HB x0
    have H7 := H72
    have H4 := H42
    have HB := HB2
    clear H72 H42 HB2
    generalize w1.drew = W2 at *
    refine pure_ (i := 0) (N := (some 102)) (v := ?_) (a' := ?_) #[true, false, false, false, false, false, false, false, false, false] rfl rfl (by kernel_rfl) (fun _ _ _ h => h) (Or.inl ⟨by rfl, ?_⟩) ?_ ?_
    rotate_left
    · intro w'
      go_simp
      with_reducible rfl
    rotate_left
    · simp only [Act.put, List.setIfInBounds_toArray, List.set_cons_zero, List.set_cons_succ, i64_w, i32_w]
      rfl
    refine pure_ (i := 1) (N := (some 103)) (v := ?_) (a' := ?_) #[true, true, false, false, false, false, false, false, false, false] rfl rfl (by kernel_rfl) (fun _ _ _ h => h) (Or.inl ⟨by rfl, ?_⟩) ?_ ?_
    rotate_left
    · intro w'
      go_simp
      with_reducible rfl
    rotate_left
    · simp only [Act.put, List.setIfInBounds_toArray, List.set_cons_zero, List.set_cons_succ, i64_w, i32_w]
      rfl
    refine pure_ (i := 2) (N := (some 104)) (v := ?_) (a' := ?_) #[true, true, true, false, false, false, false, false, false, false] rfl rfl (by kernel_rfl) (fun _ _ _ h => h) (Or.inl ⟨by rfl, ?_⟩) ?_ ?_
    rotate_left
    · intro w'
      go_simp
      with_reducible rfl
    rotate_left
    · simp only [Act.put, List.setIfInBounds_toArray, List.set_cons_zero, List.set_cons_succ, i64_w, i32_w]
      rfl
    refine pure_ (i := 3) (N := (some 105)) (v := ?_) (a' := ?_) #[true, true, true, true, false, false, false, false, false, false] rfl rfl (by kernel_rfl) (fun _ _ _ h => h) (Or.inl ⟨by rfl, ?_⟩) ?_ ?_
    rotate_left
    · intro w'
      go_simp
      with_reducible rfl
    rotate_left
    · simp only [Act.put, List.setIfInBounds_toArray, List.set_cons_zero, List.set_cons_succ, i64_w, i32_w]
      rfl
    refine pure_ (i := 4) (N := (some 106)) (v := ?_) (a' := ?_) #[true, true, true, true, true, false, false, false, false, false] rfl rfl (by kernel_rfl) (fun _ _ _ h => h) (Or.inl ⟨by rfl, ?_⟩) ?_ ?_
    rotate_left
    · intro w'
      go_simp
      with_reducible rfl
    rotate_left
    · simp only [Act.put, List.setIfInBounds_toArray, List.set_cons_zero, List.set_cons_succ, i64_w, i32_w]
      rfl
    refine pure_ (i := 5) (N := (some 107)) (v := ?_) (a' := ?_) #[true, true, true, true, true, true, false, false, false, false] rfl rfl (by kernel_rfl) (fun _ _ _ h => h) (Or.inl ⟨by rfl, ?_⟩) ?_ ?_
    rotate_left
    · intro w'
      go_simp
      with_reducible rfl
    rotate_left
    · simp only [Act.put, List.setIfInBounds_toArray, List.set_cons_zero, List.set_cons_succ, i64_w, i32_w]
      rfl
    refine pure_ (i := 6) (N := (some 108)) (v := ?_) (a' := ?_) #[true, true, true, true, true, true, true, false, false, false] rfl rfl (by kernel_rfl) (fun _ _ _ h => h) (Or.inl ⟨by rfl, ?_⟩) ?_ ?_
    rotate_left
    · intro w'
      go_simp
      with_reducible rfl
    rotate_left
    · simp only [Act.put, List.setIfInBounds_toArray, List.set_cons_zero, List.set_cons_succ, i64_w, i32_w]
      rfl
    refine pure_ (i := 7) (N := (some 109)) (v := ?_) (a' := ?_) #[true, true, true, true, true, true, true, true, false, false] rfl rfl (by kernel_rfl) (fun _ _ _ h => h) (Or.inl ⟨by rfl, ?_⟩) ?_ ?_
    rotate_left
    · intro w'
      go_simp
      with_reducible rfl
    rotate_left
    · simp only [Act.put, List.setIfInBounds_toArray, List.set_cons_zero, List.set_cons_succ, i64_w, i32_w]
      rfl
    refine pure_ (i := 8) (N := (some 110)) (v := ?_) (a' := ?_) #[true, true, true, true, true, true, true, true, true, false] rfl rfl (by kernel_rfl) (fun _ _ _ h => h) (Or.inl ⟨by rfl, ?_⟩) ?_ ?_
    rotate_left
    · intro w'
      go_simp
      with_reducible rfl
    rotate_left
    · simp only [Act.put, List.setIfInBounds_toArray, List.set_cons_zero, List.set_cons_succ, i64_w, i32_w]
      rfl
    refine last_ (i := 9) (N := none) #[true, true, true, true, true, true, true, true, true, true] rfl rfl (by kernel_rfl) (by decide) (fun K hK => ?_)
    refine skip_ (w1 := W2.setCell ⟨g4 + 1, 6, none⟩ (.int .i64 (256 * b1 + b2))) (by rfl) rfl ?_ ?_
    · have x1 := cell_in H7.out 6
      replace x1 : W2.cell? ⟨g4 + 1, 6, none⟩ = some (.int .i64 0) := x1
      have x2 := free_in H7.out 6
      go_simp
      simp only [HW1.out, HW2.out, HWS.out]
    refine hK.out _ _ ?_
    clear hK K
    have H72 : Aside0 ((W2.setCell ⟨g4 + 1, 6, none⟩ (.int .i64 (256 * b1 + b2))).heap[g4 + 1]? = some (.cells (cc [8, 0, 0, 0, 0, 0, 256 * b1 + b2]) 84 (0, 0))) := ⟨set_in H7.out 6 _⟩
    have H42 : Aside0 ((W2.setCell ⟨g4 + 1, 6, none⟩ (.int .i64 (256 * b1 + b2))).heap[g4]? = some (.cells (cc zero7) 84 (0, 0))) := ⟨(set_ne 6 _ (by omega)).trans H4.out⟩
    have HB2 : Aside0 (Below w.heap.size w (W2.setCell ⟨g4 + 1, 6, none⟩ (.int .i64 (256 * b1 + b2)))) := ⟨HB.out.setCell (by show w.heap.size ≤ g4 + 1; omega) _⟩
    clear H4 H7 HB
    have H4 := H42
    have H7 := H72
    have HB := HB2
    clear H42 H72 HB2
    generalize W2.setCell ⟨g4 + 1, 6, none⟩ (.int .i64 (256 * b1 + b2)) = W3 at *
    refine done_ (by kernel_rfl) ?_
    have HRT : Aside0 (busbarref09_Right.f 4 8 0 0 0 0 0 (256 * b1 + b2) = some (rightL [8, 0, 0, 0, 0, 0, 256 * b1 + b2])) := ⟨refRight_f _ _ _ _ _ _ _ (by have := HR1.out; have := HR2.out; omega)⟩
    have hro := HRO.out
    clear HRO
    rw [show cmdP (toB s) (i : Int) 8 = [8, 0, 0, 0, 0, 0, 256 * b1 + b2] from (by show _ = _; unfold cmdP; simp only [Int.reduceEq, if_true, if_false, or_self, or_false, false_or, HQ1.out, HQ2.out])] at hro
    obtain ⟨rb, hrb⟩ : ∃ r, rightL [8, 0, 0, 0, 0, 0, 256 * b1 + b2] = r := ⟨_, rfl⟩
    rw [hrb] at HRT hro
    have HRO := Aside0.mk hro
    clear hro hrb
    go_wp2_with (refine wpList_load_row rfl 84 _ rfl (g4 + 1) rfl 84 _ (0, 0) _ H7.out Try.underlying84 rfl (by rw [cc_size]; kernel_rfl) ?_)
    refine (busbarref09_Right.calls 4 8 0 0 0 0 0 (256 * b1 + b2) rb _ HRT.out).mono ?_
    rintro e W9 ⟨rfl, hb9⟩
    replace H4 := Aside0.mk (blk_below H4.out hb9)
    replace H7 := Aside0.mk (blk_below H7.out hb9)
    replace HB := Aside0.mk (below_step HB.out hb9)
    clear hb9
    cases rb with
    | false =>
      go_wp2_with (refine wpList_store_row rfl 84 _ _ rfl g4 (cc zero7) rfl rfl 84 _ H4.out (by rw [cc_size]; kernel_rfl) rfl (cc_one _) ?_)
      unfold Ans
      rw [HRO.out]
      rw [if_neg (by decide)]
      exact finR_ (C := zero7) rfl rfl rfl rfl rfl (setRow_heap _ _ _ _ _ _ H4.out) (Kx.below_setRow HB.out hgle)
    | true =>
      go_wp2_with (first | (refine wpList_load_row rfl 84 _ rfl (g4 + 1) rfl 84 _ (0, 0) _ H7.out Try.underlying84 rfl (by rw [cc_size]; kernel_rfl) ?_) | (refine wpList_store_row rfl 84 _ _ rfl g4 (cc [8, 0, 0, 0, 0, 0, 256 * b1 + b2]) rfl rfl 84 _ H4.out (by rw [cc_size]; kernel_rfl) rfl (cc_one _) ?_))
      unfold Ans
      rw [HRO.out]
      rw [if_pos (by first | rfl | trivial)]
      exact finR_ (C := [8, 0, 0, 0, 0, 0, 256 * b1 + b2]) rfl rfl rfl rfl rfl (setRow_heap _ _ _ _ _ _ H4.out) (Kx.below_setRow HB.out hgle)
set_option maxHeartbeats 4000000 in
set_option maxRecDepth 100000 in
theorem ref_read (s : ByteArray) (at_ : Int) (w : World) (hs : s.size ≤ 100000) : Calls Try.prog 29 #[.string s, .int .i64 at_] w (Ans s at_ w) := by
  obtain ⟨g4, hg4⟩ : ∃ g, w.heap.size = g := ⟨_, rfl⟩
  have H4 : Aside0 ((w.alloc (.cells (cc zero7) 84)).heap[g4]? = some (.cells (cc zero7) 84 (0, 0))) := ⟨by rw [← hg4]; exact heap_alloc_new _ _⟩
  have HB : Aside0 (Below w.heap.size w (w.alloc (.cells (cc zero7) 84))) := ⟨below_alloc (Below.refl _ _) _⟩
  have hgle : w.heap.size ≤ g4 := by omega
  by_cases h1 : at_ < 0 ∨ at_ > (s.size : Int)
  · have e : readP (toB s) at_ = (zero7, 0, 2) := by rw [readP, if_pos (by rw [toB_len]; exact h1)]
    unfold Ans
    rw [e]
    clear e
    by_cases h2 : at_ < 0
    · have d1 : decide (at_ < 0) = true := decide_eq_true h2
      clear h1 h2
      go_enter Try.func29, Try.ntmps29
      go_wp2_with (refine wpList_store_row rfl 84 _ _ rfl g4 (cc zero7) rfl rfl 84 _ H4.out (by rw [cc_size]; kernel_rfl) rfl (cc_one _) ?_)
      exact finR_ (C := zero7) rfl rfl rfl rfl rfl (setRow_heap _ _ _ _ _ _ H4.out) (Kx.below_setRow HB.out hgle)
    · have d1 : decide (at_ < 0) = false := decide_eq_false h2
      have d2 : decide ((s.size : Int) < at_) = true := decide_eq_true (by omega)
      clear h1 h2
      go_enter Try.func29, Try.ntmps29
      go_wp2_with (refine wpList_store_row rfl 84 _ _ rfl g4 (cc zero7) rfl rfl 84 _ H4.out (by rw [cc_size]; kernel_rfl) rfl (cc_one _) ?_)
      exact finR_ (C := zero7) rfl rfl rfl rfl rfl (setRow_heap _ _ _ _ _ _ H4.out) (Kx.below_setRow HB.out hgle)
  by_cases h2 : at_ = (s.size : Int)
  · have e : readP (toB s) at_ = (zero7, 0, 10) := by rw [readP, if_neg (by rw [toB_len]; exact h1), if_pos (by rw [toB_len]; exact h2)]
    unfold Ans
    rw [e]
    clear e
    subst h2
    have d1 : decide ((s.size : Int) < 0) = false := decide_eq_false (by omega)
    clear h1
    go_enter Try.func29, Try.ntmps29
    go_wp2_with (refine wpList_store_row rfl 84 _ _ rfl g4 (cc zero7) rfl rfl 84 _ H4.out (by rw [cc_size]; kernel_rfl) rfl (cc_one _) ?_)
    exact finR_ (C := zero7) rfl rfl rfl rfl rfl (setRow_heap _ _ _ _ _ _ H4.out) (Kx.below_setRow HB.out hgle)
  obtain ⟨i, rfl⟩ := Int.eq_ofNat_of_zero_le (show 0 ≤ at_ by omega)
  have hi : i < s.size := by omega
  obtain ⟨op, hop⟩ : ∃ op : Nat, (s[i]'hi).toNat = op := ⟨_, rfl⟩
  have hopI : ((s[i]'hi).toNat : Int) = (op : Int) := by rw [hop]
  by_cases h8 : op ≤ 8
  · rcases (by omega : op = 0 ∨ op = 1 ∨ op = 2 ∨ op = 3 ∨ op = 4 ∨ op = 5 ∨ op = 6 ∨ op = 7 ∨ op = 8) with rfl | rfl | rfl | rfl | rfl | rfl | rfl | rfl | rfl
    · exact ref_read_0 s i w hs hi hopI
    · exact ref_read_1 s i w hs hi hopI
    · exact ref_read_2 s i w hs hi hopI
    · exact ref_read_3 s i w hs hi hopI
    · exact ref_read_4 s i w hs hi hopI
    · exact ref_read_5 s i w hs hi hopI
    · exact ref_read_6 s i w hs hi hopI
    · exact ref_read_7 s i w hs hi hopI
    · exact ref_read_8 s i w hs hi hopI
  have e : readP (toB s) (i : Int) = (zero7, 0, 11) := by rw [readP, if_neg (by rw [toB_len]; exact h1), if_neg (by rw [toB_len]; exact h2), toB_at s i hi, hopI, if_pos (by omega)]
  unfold Ans
  rw [e]
  clear e
  have h255 : op ≤ 255 := by have := (s[i]'hi).toNat_lt; omega
  clear hop
  have B2 : Below (w.alloc (.cells (cc zero7) 84)).heap.size (w.alloc (.cells (cc zero7) 84)) ((w.alloc (.cells (cc zero7) 84)).alloc (.cells (cc [(op : Int), 0, 0, 0, 0, 0, 0]) 84)) := below_alloc (Below.refl _ _) _
  replace HB := Aside0.mk (below_step HB.out B2)
  replace H4 := Aside0.mk (blk_below H4.out B2)
  clear B2
  have d1 : decide ((i : Int) < 0) = false := decide_eq_false (by omega)
  have d2 : decide ((s.size : Int) < (i : Int)) = false := decide_eq_false (by omega)
  have d2n : decide (s.size < i) = false := decide_eq_false (by omega)
  have d3 : ((i : Int) == (s.size : Int)) = false := by rw [beq_eq_false_iff_ne]; omega
  have d3n : (i == s.size) = false := by rw [beq_eq_false_iff_ne]; omega
  have d4 : decide (8 < (op : Int)) = true := decide_eq_true (by omega)
  have d4n : decide (8 < op) = true := decide_eq_true (by omega)
  clear h1 h2 h8
  go_enter Try.func29, Try.ntmps29
  go_wp2_with (refine wpList_store_row rfl 84 _ _ rfl g4 (cc zero7) rfl rfl 84 _ H4.out (by rw [cc_size]; kernel_rfl) rfl (cc_one _) ?_)
  exact finR_ (C := zero7) rfl rfl rfl rfl rfl (setRow_heap _ _ _ _ _ _ H4.out) (Kx.below_setRow HB.out hgle)
end Go.Proofs.Ytekbaconbemgpaa.PWe
