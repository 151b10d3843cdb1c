/- busbarref28.digits, Digits, busbarref35.Line, busbarlaw09.Own: walks. Helper text. -/
import Derived.Test.YtmoodblpgnnenaaDoorLsRgt
import Derived.Test.YtmoodblpgnnenaaDoorLsCod
namespace Go.Proofs.YtmoodblpgnnenaaDoor.PLs
open Go.RowKit Go.Proofs.YtmoodblpgnnenaaDoor.Kx Go.Proofs.YtmoodblpgnnenaaDoor.PWe Go.Proofs.YtmoodblpgnnenaaDoorW.PrintWords Go.Proofs.YtmoodblpgnnenaaDoorW.PrintLast Go.Proofs.YtmoodblpgnnenaaDoorW.PrintMore
set_option linter.unusedVariables false
set_option linter.unusedSimpArgs false
def decB : ByteArray := ⟨#[48, 49, 50, 51, 52, 53, 54, 55, 56, 57]⟩
theorem dec_all : (List.range 10).map (fun n : Nat => decB.extract n (n + 1)) = (List.range 10).map (fun n : Nat => strB [dig n]) := by kernel_rfl
theorem dec_at {n : Nat} (h : n < 10) : decB.extract n (n + 1) = strB [dig n] := by
  have h2 := congrArg (fun l : List ByteArray => l[n]?) dec_all
  simpa [List.getElem?_map, List.getElem?_range h] using h2
set_option maxHeartbeats 2000000 in
set_option maxRecDepth 100000 in
theorem rdig_calls : ∀ (n : Nat) (_ : n < 1000000000000000000) (w : World), Calls Tryd.prog 60 #[.int .u64 (n : Int)] w fun e w' => e = .returned (.string (strB (digP n))) ∧ Below w.heap.size w w' := by
  intro n
  induction n using Nat.strongRecOn with
  | _ n ih =>
    intro hn w
    have HB : Aside0 (Below w.heap.size w w) := ⟨Below.refl _ _⟩
    obtain ⟨d, hd⟩ : ∃ d, n % 10 = d := ⟨_, rfl⟩
    have hd10 : d < 10 := by omega
    have e2 : ((n : Int)).tmod 10 = (d : Int) := by rw [Int.tmod_eq_emod_of_nonneg (by omega)]; omega
    have e3 : ((n : Int)) % 10 = (d : Int) := by omega
    have hx := dec_at hd10
    unfold decB at hx
    have f1 : IntKind.u64.wrap ((d : Int) + 1) = (d : Int) + 1 := by simp [IntKind.wrap, IntKind.bits, IntKind.signed]; omega
    have q1 : (0 ≤ (d : Int)) = True := eq_true (by omega)
    have q2 : ((d : Int) ≤ (d : Int) + 1) = True := eq_true (by omega)
    have q3 : ((d : Int) + 1 ≤ 10) = True := eq_true (by omega)
    have q4 : (d + 1 ≤ 10) = True := eq_true (by omega)
    by_cases h : n < 10
    · have m1 : decide ((n : Int) < 10) = true := decide_eq_true (by omega)
      have m2 : decide (n < 10) = true := decide_eq_true h
      have hnd : n = d := by omega
      rw [digP_small h, hnd]
      have HX := Aside0.mk hx
      subst hnd
      clear h hd hd10 ih
      go_enter Tryd.func60, Tryd.ntmps60
      go_wp2_with fail
      go_ret
      exact ⟨rfl, HB.out⟩
    · have m1 : decide ((n : Int) < 10) = false := decide_eq_false (by omega)
      have m2 : decide (n < 10) = false := decide_eq_false h
      have e1 : ((n : Int)).tdiv 10 = ((n / 10 : Nat) : Int) := by rw [Int.tdiv_eq_ediv_of_nonneg (by omega)]; omega
      have e1' : ((n : Int)) / 10 = ((n / 10 : Nat) : Int) := by omega
      have I1 := Aside0.mk (ih (n / 10) (by omega) (by omega))
      have l1 := digP_len (n / 10) (by omega)
      have hdd : digP n = digP (n / 10) ++ [dig d] := by rw [digP_great h, hd]
      obtain ⟨d1, hd1⟩ : ∃ x, digP (n / 10) = x := ⟨_, rfl⟩
      rw [hd1] at I1 l1 hdd
      obtain ⟨q, hq⟩ : ∃ q, n / 10 = q := ⟨_, rfl⟩
      rw [hq] at e1 e1' I1
      have f2 : IntKind.u64.wrap (q : Int) = (q : Int) := by simp [IntKind.wrap, IntKind.bits, IntKind.signed]; omega
      obtain ⟨s1, hs1⟩ : ∃ s, strB d1 = s := ⟨_, rfl⟩
      obtain ⟨s2, hs2⟩ : ∃ s, strB [dig d] = s := ⟨_, rfl⟩
      have hc : ¬ 9223372036854775807 < s1.size + s2.size := by rw [← hs1, ← hs2, strB_size, strB_size]; simp; omega
      rw [hdd, ← strB_app, hs1, hs2]
      rw [hs1] at I1
      rw [hs2] at hx
      clear ih h hd hdd hd1 hq hs1 hs2 l1 hd10
      go_enter Tryd.func60, Tryd.ntmps60
      go_wp2_with fail
      refine (I1.out w).mono ?_
      rintro e w1 ⟨rfl, hb1⟩
      have HB1 := Aside0.mk hb1
      clear hb1
      go_wp2_with fail
      go_ret
      exact ⟨rfl, HB1.out⟩
theorem rDig_calls (n : Nat) (hn : n < 1000000000000000000) (w : World) : Calls Tryd.prog 42 #[.int .i64 (n : Int)] w fun e w' => e = .returned (.string (strB (digP n))) ∧ Below w.heap.size w w' := by
  have HC := Aside0.mk (rdig_calls n hn w)
  have m1 : decide ((n : Int) < 0) = false := decide_eq_false (by omega)
  have f1 : IntKind.u64.wrap (n : Int) = (n : Int) := by simp [IntKind.wrap, IntKind.bits, IntKind.signed]; omega
  clear hn
  go_enter Tryd.func42, Tryd.ntmps42
  go_wp2_with fail
  refine HC.out.mono ?_
  rintro e w1 ⟨rfl, hb1⟩
  have HB1 := Aside0.mk hb1
  clear hb1
  go_wp2_with fail
  go_ret
  exact ⟨rfl, HB1.out⟩
set_option maxHeartbeats 2000000 in
set_option maxRecDepth 100000 in
theorem own_calls (a0 a1 a2 a3 a4 a5 a6 : Int) (w : World) :
    Calls Tryd.prog 12 #[.agg #[.int .i64 a0, .int .i64 a1, .int .i64 a2, .int .i64 a3, .int .i64 a4, .int .i64 a5, .int .i64 a6]] w fun e w' => e = .returned (.agg #[.int .i64 a0, .int .i64 a1, .int .i64 a2, .int .i64 a3, .int .i64 a4, .int .i64 a5, .int .i64 a6]) ∧ Below w.heap.size w w' := by
  go_enter Tryd.func12, Tryd.ntmps12
  go_wp2_with fail
  have hg : ((w.alloc (.cells #[.int .i64 a0, .int .i64 a1, .int .i64 a2, .int .i64 a3, .int .i64 a4, .int .i64 a5, .int .i64 a6] 37 (0, 0))).alloc (.cells #[.int .i64 a0, .int .i64 a1, .int .i64 a2, .int .i64 a3, .int .i64 a4, .int .i64 a5, .int .i64 a6] 38 (0, 0))).heap[w.heap.size + 1]? = some (.cells #[.int .i64 a0, .int .i64 a1, .int .i64 a2, .int .i64 a3, .int .i64 a4, .int .i64 a5, .int .i64 a6] 38 (0, 0)) := by
    have := blk_new (w.alloc (.cells #[.int .i64 a0, .int .i64 a1, .int .i64 a2, .int .i64 a3, .int .i64 a4, .int .i64 a5, .int .i64 a6] 37 (0, 0))) (.cells #[.int .i64 a0, .int .i64 a1, .int .i64 a2, .int .i64 a3, .int .i64 a4, .int .i64 a5, .int .i64 a6] 38 (0, 0))
    rwa [World.size_alloc] at this
  refine bodyPost_ret (results_cell_row rfl _ _ (w.heap.size + 1) 38 #[.int .i64 a0, .int .i64 a1, .int .i64 a2, .int .i64 a3, .int .i64 a4, .int .i64 a5, .int .i64 a6] (0, 0) _ rfl hg Tryd.underlying38 rfl (by kernel_rfl)) rfl ?_
  exact ⟨rfl, below_alloc (below_alloc (Below.refl _ _) _) _⟩
theorem glue_step (c : UInt8) : ∀ (l : List (List UInt8)) (k : Nat) (h : k + 1 < l.length), glue c (l.take (k + 1 + 1)) = glue c (l.take (k + 1)) ++ (c :: l[k + 1]'h)
  | [], k, h => by simp at h
  | [p], k, h => by simp at h
  | p :: q :: r, 0, h => by
    show p ++ c :: glue c [q] = p ++ c :: q
    rfl
  | p :: q :: r, k + 1, h => by
    have ih := glue_step c (q :: r) k (by simp at h ⊢; omega)
    show p ++ c :: glue c ((q :: r).take (k + 1 + 1)) = (p ++ c :: glue c ((q :: r).take (k + 1))) ++ (c :: (q :: r)[k + 1]'(by simp at h ⊢; omega))
    rw [ih]
    simp
/-- The numbers of a line. -/
def numsP (L : List Int) (o : Nat) : List Int := (offN (o : Int)).map fun j => L.getD j 0
theorem pcs_nums (L : List Int) (o : Nat) : pcs L o = vb o :: (numsP L o).map fun x => digP x.toNat := by unfold pcs numsP; rw [List.map_map]; rfl
set_option maxHeartbeats 8000000 in
set_option maxRecDepth 100000 in
theorem rline_calls (a0 a1 a2 a3 a4 a5 a6 : Int) (w : World) {L : List Int} (hL : [a0, a1, a2, a3, a4, a5, a6] = L) (hr : rightP a0 a1 a2 a3 a4 a5 a6 = true) :
    Calls Tryd.prog 16 #[.agg #[.int .i64 a0, .int .i64 a1, .int .i64 a2, .int .i64 a3, .int .i64 a4, .int .i64 a5, .int .i64 a6]] w fun e w' => e = .returned (.string (strB (lineP L))) ∧ Below w.heap.size w w' := by
  obtain ⟨⟨h0, h8⟩, hsm⟩ := right_small hL hr
  obtain ⟨o, rfl⟩ : ∃ o : Nat, a0 = (o : Int) := ⟨a0.toNat, by omega⟩
  have hlp : lineP L = glue 32 (pcs L o) := by
    unfold lineP
    have h1 : rightL L = true := by rw [← hL]; exact hr
    rw [if_pos h1, ← hL]; rfl
  rw [hlp]
  obtain ⟨nl, hnl⟩ : ∃ l, numsP L o = l := ⟨_, rfl⟩
  have HNL := Aside0.mk hnl
  have hpc := pcs_nums L o
  rw [hnl] at hpc
  have hns : ∀ x ∈ nl, 0 ≤ x ∧ x ≤ 1023 := by
    rw [← hnl]; intro x hx
    unfold numsP at hx
    obtain ⟨j, hj, rfl⟩ := List.mem_map.1 hx
    exact hsm j hj
  have hnll : nl.length ≤ 4 := by rw [← hnl]; unfold numsP; rw [List.length_map]; exact offN_len _
  have HPC := Aside0.mk hpc
  have HNS := Aside0.mk hns
  have HNLL := Aside0.mk hnll
  have HPL := Aside0.mk (pcs_small hsm)
  have HB : Aside0 (Below w.heap.size w w) := ⟨Below.refl _ _⟩
  have q1 : (0 ≤ (o : Int)) = True := eq_true (by omega)
  have q2 : ((o : Int) < 9) = True := eq_true (by omega)
  have q3 : (o < 9) = True := eq_true (by omega)
  have HVG := Aside0.mk (vbC_get (o := o) (by omega))
  clear hlp hpc hns hnll hsm hr h0
  have ho : o = 0 ∨ o = 1 ∨ o = 2 ∨ o = 3 ∨ o = 4 ∨ o = 5 ∨ o = 6 ∨ o = 7 ∨ o = 8 := by omega
  rcases ho with rfl | rfl | rfl | rfl | rfl | rfl | rfl | rfl | rfl
  · have hn : nl.length = 0 := by rw [← HNL.out, ← hL]; rfl
    have hcl : ∀ (j : Nat) (x : Int), nl[j]? = some x → ((w.alloc (.cells #[.int .i64 ((0 : Nat) : Int), .int .i64 a1, .int .i64 a2, .int .i64 a3, .int .i64 a4, .int .i64 a5, .int .i64 a6] 38 (0, 0))).alloc (.cells vbC 9 (0, 0))).cell? ⟨w.heap.size + 1 + 1, j, none⟩ = some (.int .i64 x) := fun j x hj => by
      rw [List.eq_nil_of_length_eq_zero hn] at hj; cases hj
    have hbw : Below w.heap.size w ((w.alloc (.cells #[.int .i64 ((0 : Nat) : Int), .int .i64 a1, .int .i64 a2, .int .i64 a3, .int .i64 a4, .int .i64 a5, .int .i64 a6] 38 (0, 0))).alloc (.cells vbC 9 (0, 0))) := below_alloc (below_alloc (Below.refl _ _) _) _
    have HCL := Aside0.mk hcl
    have HBW := Aside0.mk hbw
    have HN := Aside0.mk hn
    clear hcl hbw hn q1 q2 q3 h8
    show Calls Tryd.prog 16 #[.agg #[.int .i64 0, .int .i64 a1, .int .i64 a2, .int .i64 a3, .int .i64 a4, .int .i64 a5, .int .i64 a6]] w _
    go_enter Tryd.func16, Tryd.ntmps16
    go_wp2_with fail
    go_loopw [3, 5] (fun v3 v5 wr => ∃ k : Nat, k ≤ 0 ∧ v5 = .int .i64 (k : Int) ∧ v3 = .string (strB (glue 32 ((pcs L 0).take (k + 1)))) ∧ Aside0 (∀ (j : Nat) (x : Int), nl[j]? = some x → wr.cell? ⟨w.heap.size + 1 + 1, j, none⟩ = some (.int .i64 x)) ∧ Aside0 (Below w.heap.size w wr)) (fun _ v5 _ => (0 - intOf v5).toNat)
    case atStart => exact ⟨0, by omega, rfl, by rw [HPC.out]; rfl, HCL, HBW⟩
    case round =>
      clear HCL HBW
      obtain ⟨k, hk, rfl, rfl, HCL, HB⟩ := hrel
      obtain rfl : k = 0 := by omega
      have m1 : decide (((0 : Nat) : Int) < 0) = false := rfl
      have hall : (pcs L 0).take (0 + 1) = pcs L 0 := List.take_of_length_le (by rw [HPC.out, List.length_cons, List.length_map, HN.out]; exact Nat.le_refl _)
      rw [hall]
      obtain ⟨R, hR⟩ : ∃ R, strB (glue 32 (pcs L 0)) = R := ⟨_, rfl⟩
      have HR := Aside0.mk hR
      rw [hR]
      clear hall hR
      go_wp2_with fail
      go_ret
      exact ⟨by rw [HR.out]; rfl, HB.out⟩
  · have hn : nl.length = 4 := by rw [← HNL.out, ← hL]; rfl
    have hnl2 : nl = [a1, a2, a3, a4] := by rw [← HNL.out, ← hL]; rfl
    have hblk : (((w.alloc (.cells #[.int .i64 ((1 : Nat) : Int), .int .i64 a1, .int .i64 a2, .int .i64 a3, .int .i64 a4, .int .i64 a5, .int .i64 a6] 38 (0, 0))).alloc (.cells vbC 9 (0, 0))).alloc (.cells #[.int .i64 a1, .int .i64 a2, .int .i64 a3, .int .i64 a4] 3 (0, 0))).heap[w.heap.size + 1 + 1]? = some (.cells #[.int .i64 a1, .int .i64 a2, .int .i64 a3, .int .i64 a4] 3 (0, 0)) := by
      have h := blk_new ((w.alloc (.cells #[.int .i64 ((1 : Nat) : Int), .int .i64 a1, .int .i64 a2, .int .i64 a3, .int .i64 a4, .int .i64 a5, .int .i64 a6] 38 (0, 0))).alloc (.cells vbC 9 (0, 0))) (.cells #[.int .i64 a1, .int .i64 a2, .int .i64 a3, .int .i64 a4] 3 (0, 0))
      rwa [World.size_alloc, World.size_alloc] at h
    have hcl : ∀ (j : Nat) (x : Int), nl[j]? = some x → (((w.alloc (.cells #[.int .i64 ((1 : Nat) : Int), .int .i64 a1, .int .i64 a2, .int .i64 a3, .int .i64 a4, .int .i64 a5, .int .i64 a6] 38 (0, 0))).alloc (.cells vbC 9 (0, 0))).alloc (.cells #[.int .i64 a1, .int .i64 a2, .int .i64 a3, .int .i64 a4] 3 (0, 0))).cell? ⟨w.heap.size + 1 + 1, j, none⟩ = some (.int .i64 x) := fun j x hj => (cell_in hblk j).trans (by rw [hnl2] at hj; match j, hj with | 0, hj => obtain rfl := Option.some.inj hj; rfl | 1, hj => obtain rfl := Option.some.inj hj; rfl | 2, hj => obtain rfl := Option.some.inj hj; rfl | 3, hj => obtain rfl := Option.some.inj hj; rfl | j + 4, hj => simp at hj)
    have hbw : Below w.heap.size w (((w.alloc (.cells #[.int .i64 ((1 : Nat) : Int), .int .i64 a1, .int .i64 a2, .int .i64 a3, .int .i64 a4, .int .i64 a5, .int .i64 a6] 38 (0, 0))).alloc (.cells vbC 9 (0, 0))).alloc (.cells #[.int .i64 a1, .int .i64 a2, .int .i64 a3, .int .i64 a4] 3 (0, 0))) := below_alloc (below_alloc (below_alloc (Below.refl _ _) _) _) _
    have HCL := Aside0.mk hcl
    have HBW := Aside0.mk hbw
    have HN := Aside0.mk hn
    clear hcl hbw hn q1 q2 q3 h8 hnl2 hblk
    show Calls Tryd.prog 16 #[.agg #[.int .i64 1, .int .i64 a1, .int .i64 a2, .int .i64 a3, .int .i64 a4, .int .i64 a5, .int .i64 a6]] w _
    go_enter Tryd.func16, Tryd.ntmps16
    go_wp2_with fail
    go_loopw [3, 5] (fun v3 v5 wr => ∃ k : Nat, k ≤ 4 ∧ v5 = .int .i64 (k : Int) ∧ v3 = .string (strB (glue 32 ((pcs L 1).take (k + 1)))) ∧ Aside0 (∀ (j : Nat) (x : Int), nl[j]? = some x → wr.cell? ⟨w.heap.size + 1 + 1, j, none⟩ = some (.int .i64 x)) ∧ Aside0 (Below w.heap.size w wr)) (fun _ v5 _ => (4 - intOf v5).toNat)
    case atStart => exact ⟨0, by omega, rfl, by rw [HPC.out]; rfl, HCL, HBW⟩
    case round =>
      clear HCL HBW
      obtain ⟨k, hk, rfl, rfl, HCL, HB⟩ := hrel
      rcases (by omega : k < 4 ∨ k = 4) with hkn | rfl
      · have hkl : k < nl.length := by rw [HN.out]; exact hkn
        have hx0 := HNS.out nl[k] (List.getElem_mem hkl)
        obtain ⟨x, hx⟩ : ∃ x : Nat, nl[k] = (x : Int) := ⟨nl[k].toNat, by omega⟩
        have y0 := HCL.out k _ (List.getElem?_eq_getElem hkl)
        rw [hx] at y0 hx0
        have hpl : (pcs L 1).length = nl.length + 1 := by rw [HPC.out]; simp
        have hstep := glue_step 32 (pcs L 1) k (by omega)
        have hpe : (pcs L 1)[k + 1]'(by omega) = digP x := by simp only [HPC.out, List.getElem_cons_succ, List.getElem_map, hx, Int.toNat_natCast]
        rw [hpe] at hstep
        have hg1 : (glue 32 ((pcs L 1).take (k + 1))).length ≤ 105 := by
          have h := glue_len 32 20 ((pcs L 1).take (k + 1)) (fun p hp => HPL.out.1 p (List.mem_of_mem_take hp))
          have h2 : ((pcs L 1).take (k + 1)).length ≤ 5 := by rw [List.length_take]; have := HPL.out.2; omega
          omega
        have hdl := digP_len x (by omega)
        obtain ⟨G, hG⟩ : ∃ G, glue 32 ((pcs L 1).take (k + 1)) = G := ⟨_, rfl⟩
        rw [hG] at hstep hg1 ⊢
        obtain ⟨s1, hs1⟩ : ∃ s, strB G = s := ⟨_, rfl⟩
        obtain ⟨s2, hs2⟩ : ∃ s, s1 ++ (⟨#[32]⟩ : ByteArray) = s := ⟨_, rfl⟩
        obtain ⟨s3, hs3⟩ : ∃ s, strB (digP x) = s := ⟨_, rfl⟩
        have e2 : s2 = strB (G ++ [32]) := by rw [← hs2, ← hs1, ← strB_app]; rfl
        have e4 : strB (glue 32 ((pcs L 1).take (k + 1 + 1))) = s2 ++ s3 := by rw [hstep, e2, ← hs3, strB_app]; congr 1; simp
        have z1 : s1.size ≤ 105 := by rw [← hs1, strB_size]; exact hg1
        have z2 : s2.size ≤ 106 := by rw [e2, strB_size, List.length_append]; simp; omega
        have z3 : s3.size ≤ 20 := by rw [← hs3, strB_size]; exact hdl
        have c1 : ¬ 9223372036854775807 < s1.size + 1 := by omega
        have c2 : ¬ 9223372036854775807 < s2.size + s3.size := by omega
        have m1 : decide ((k : Int) < 4) = true := decide_eq_true (by omega)
        have m2 : decide (k < 4) = true := decide_eq_true hkn
        have r1 : (0 ≤ (k : Int)) = True := eq_true (by omega)
        have r2 : ((k : Int) < 4) = True := eq_true (by omega)
        have r3 : (k < 4) = True := eq_true hkn
        have HE4 := Aside0.mk e4
        have D1 := Aside0.mk (rDig_calls x (by omega) wr)
        rw [hs1]
        rw [hs3] at D1
        have HKN := Aside0.mk hkn
        clear hkl hx0 hx hpl hstep hpe hg1 hdl hG hs1 hs3 e2 e4 z1 z2 z3 hkn
        go_wp2_with fail
        refine D1.out.mono ?_
        rintro e w4 ⟨rfl, hb4⟩
        have HB4 := Aside0.mk (below_step HB.out hb4)
        have HCL4 : Aside0 (∀ (j : Nat) (x : Int), nl[j]? = some x → w4.cell? ⟨w.heap.size + 1 + 1, j, none⟩ = some (.int .i64 x)) := ⟨fun j x hj => (hb4.cell (World.block_lt_of_cell? wr _ (HCL.out j x hj))).trans (HCL.out j x hj)⟩
        clear hb4 y0
        go_wp2_with fail
        exact ⟨⟨k + 1, HKN.out, by rw [Int.natCast_add]; rfl, by rw [HE4.out], HCL4, HB4⟩, by have := HKN.out; simp [intOf]; omega⟩
      · have m1 : decide (((4 : Nat) : Int) < 4) = false := rfl
        have hall : (pcs L 1).take (4 + 1) = pcs L 1 := List.take_of_length_le (by rw [HPC.out, List.length_cons, List.length_map, HN.out]; exact Nat.le_refl _)
        rw [hall]
        obtain ⟨R, hR⟩ : ∃ R, strB (glue 32 (pcs L 1)) = R := ⟨_, rfl⟩
        have HR := Aside0.mk hR
        rw [hR]
        clear hall hR
        go_wp2_with fail
        go_ret
        exact ⟨by rw [HR.out]; rfl, HB.out⟩
  · have hn : nl.length = 3 := by rw [← HNL.out, ← hL]; rfl
    have hnl2 : nl = [a1, a2, a4] := by rw [← HNL.out, ← hL]; rfl
    have hblk : (((w.alloc (.cells #[.int .i64 ((2 : Nat) : Int), .int .i64 a1, .int .i64 a2, .int .i64 a3, .int .i64 a4, .int .i64 a5, .int .i64 a6] 38 (0, 0))).alloc (.cells vbC 9 (0, 0))).alloc (.cells #[.int .i64 a1, .int .i64 a2, .int .i64 a4] 3 (0, 0))).heap[w.heap.size + 1 + 1]? = some (.cells #[.int .i64 a1, .int .i64 a2, .int .i64 a4] 3 (0, 0)) := by
      have h := blk_new ((w.alloc (.cells #[.int .i64 ((2 : Nat) : Int), .int .i64 a1, .int .i64 a2, .int .i64 a3, .int .i64 a4, .int .i64 a5, .int .i64 a6] 38 (0, 0))).alloc (.cells vbC 9 (0, 0))) (.cells #[.int .i64 a1, .int .i64 a2, .int .i64 a4] 3 (0, 0))
      rwa [World.size_alloc, World.size_alloc] at h
    have hcl : ∀ (j : Nat) (x : Int), nl[j]? = some x → (((w.alloc (.cells #[.int .i64 ((2 : Nat) : Int), .int .i64 a1, .int .i64 a2, .int .i64 a3, .int .i64 a4, .int .i64 a5, .int .i64 a6] 38 (0, 0))).alloc (.cells vbC 9 (0, 0))).alloc (.cells #[.int .i64 a1, .int .i64 a2, .int .i64 a4] 3 (0, 0))).cell? ⟨w.heap.size + 1 + 1, j, none⟩ = some (.int .i64 x) := fun j x hj => (cell_in hblk j).trans (by rw [hnl2] at hj; match j, hj with | 0, hj => obtain rfl := Option.some.inj hj; rfl | 1, hj => obtain rfl := Option.some.inj hj; rfl | 2, hj => obtain rfl := Option.some.inj hj; rfl | j + 3, hj => simp at hj)
    have hbw : Below w.heap.size w (((w.alloc (.cells #[.int .i64 ((2 : Nat) : Int), .int .i64 a1, .int .i64 a2, .int .i64 a3, .int .i64 a4, .int .i64 a5, .int .i64 a6] 38 (0, 0))).alloc (.cells vbC 9 (0, 0))).alloc (.cells #[.int .i64 a1, .int .i64 a2, .int .i64 a4] 3 (0, 0))) := below_alloc (below_alloc (below_alloc (Below.refl _ _) _) _) _
    have HCL := Aside0.mk hcl
    have HBW := Aside0.mk hbw
    have HN := Aside0.mk hn
    clear hcl hbw hn q1 q2 q3 h8 hnl2 hblk
    show Calls Tryd.prog 16 #[.agg #[.int .i64 2, .int .i64 a1, .int .i64 a2, .int .i64 a3, .int .i64 a4, .int .i64 a5, .int .i64 a6]] w _
    go_enter Tryd.func16, Tryd.ntmps16
    go_wp2_with fail
    go_loopw [3, 5] (fun v3 v5 wr => ∃ k : Nat, k ≤ 3 ∧ v5 = .int .i64 (k : Int) ∧ v3 = .string (strB (glue 32 ((pcs L 2).take (k + 1)))) ∧ Aside0 (∀ (j : Nat) (x : Int), nl[j]? = some x → wr.cell? ⟨w.heap.size + 1 + 1, j, none⟩ = some (.int .i64 x)) ∧ Aside0 (Below w.heap.size w wr)) (fun _ v5 _ => (3 - intOf v5).toNat)
    case atStart => exact ⟨0, by omega, rfl, by rw [HPC.out]; rfl, HCL, HBW⟩
    case round =>
      clear HCL HBW
      obtain ⟨k, hk, rfl, rfl, HCL, HB⟩ := hrel
      rcases (by omega : k < 3 ∨ k = 3) with hkn | rfl
      · have hkl : k < nl.length := by rw [HN.out]; exact hkn
        have hx0 := HNS.out nl[k] (List.getElem_mem hkl)
        obtain ⟨x, hx⟩ : ∃ x : Nat, nl[k] = (x : Int) := ⟨nl[k].toNat, by omega⟩
        have y0 := HCL.out k _ (List.getElem?_eq_getElem hkl)
        rw [hx] at y0 hx0
        have hpl : (pcs L 2).length = nl.length + 1 := by rw [HPC.out]; simp
        have hstep := glue_step 32 (pcs L 2) k (by omega)
        have hpe : (pcs L 2)[k + 1]'(by omega) = digP x := by simp only [HPC.out, List.getElem_cons_succ, List.getElem_map, hx, Int.toNat_natCast]
        rw [hpe] at hstep
        have hg1 : (glue 32 ((pcs L 2).take (k + 1))).length ≤ 105 := by
          have h := glue_len 32 20 ((pcs L 2).take (k + 1)) (fun p hp => HPL.out.1 p (List.mem_of_mem_take hp))
          have h2 : ((pcs L 2).take (k + 1)).length ≤ 5 := by rw [List.length_take]; have := HPL.out.2; omega
          omega
        have hdl := digP_len x (by omega)
        obtain ⟨G, hG⟩ : ∃ G, glue 32 ((pcs L 2).take (k + 1)) = G := ⟨_, rfl⟩
        rw [hG] at hstep hg1 ⊢
        obtain ⟨s1, hs1⟩ : ∃ s, strB G = s := ⟨_, rfl⟩
        obtain ⟨s2, hs2⟩ : ∃ s, s1 ++ (⟨#[32]⟩ : ByteArray) = s := ⟨_, rfl⟩
        obtain ⟨s3, hs3⟩ : ∃ s, strB (digP x) = s := ⟨_, rfl⟩
        have e2 : s2 = strB (G ++ [32]) := by rw [← hs2, ← hs1, ← strB_app]; rfl
        have e4 : strB (glue 32 ((pcs L 2).take (k + 1 + 1))) = s2 ++ s3 := by rw [hstep, e2, ← hs3, strB_app]; congr 1; simp
        have z1 : s1.size ≤ 105 := by rw [← hs1, strB_size]; exact hg1
        have z2 : s2.size ≤ 106 := by rw [e2, strB_size, List.length_append]; simp; omega
        have z3 : s3.size ≤ 20 := by rw [← hs3, strB_size]; exact hdl
        have c1 : ¬ 9223372036854775807 < s1.size + 1 := by omega
        have c2 : ¬ 9223372036854775807 < s2.size + s3.size := by omega
        have m1 : decide ((k : Int) < 3) = true := decide_eq_true (by omega)
        have m2 : decide (k < 3) = true := decide_eq_true hkn
        have r1 : (0 ≤ (k : Int)) = True := eq_true (by omega)
        have r2 : ((k : Int) < 3) = True := eq_true (by omega)
        have r3 : (k < 3) = True := eq_true hkn
        have HE4 := Aside0.mk e4
        have D1 := Aside0.mk (rDig_calls x (by omega) wr)
        rw [hs1]
        rw [hs3] at D1
        have HKN := Aside0.mk hkn
        clear hkl hx0 hx hpl hstep hpe hg1 hdl hG hs1 hs3 e2 e4 z1 z2 z3 hkn
        go_wp2_with fail
        refine D1.out.mono ?_
        rintro e w4 ⟨rfl, hb4⟩
        have HB4 := Aside0.mk (below_step HB.out hb4)
        have HCL4 : Aside0 (∀ (j : Nat) (x : Int), nl[j]? = some x → w4.cell? ⟨w.heap.size + 1 + 1, j, none⟩ = some (.int .i64 x)) := ⟨fun j x hj => (hb4.cell (World.block_lt_of_cell? wr _ (HCL.out j x hj))).trans (HCL.out j x hj)⟩
        clear hb4 y0
        go_wp2_with fail
        exact ⟨⟨k + 1, HKN.out, by rw [Int.natCast_add]; rfl, by rw [HE4.out], HCL4, HB4⟩, by have := HKN.out; simp [intOf]; omega⟩
      · have m1 : decide (((3 : Nat) : Int) < 3) = false := rfl
        have hall : (pcs L 2).take (3 + 1) = pcs L 2 := List.take_of_length_le (by rw [HPC.out, List.length_cons, List.length_map, HN.out]; exact Nat.le_refl _)
        rw [hall]
        obtain ⟨R, hR⟩ : ∃ R, strB (glue 32 (pcs L 2)) = R := ⟨_, rfl⟩
        have HR := Aside0.mk hR
        rw [hR]
        clear hall hR
        go_wp2_with fail
        go_ret
        exact ⟨by rw [HR.out]; rfl, HB.out⟩
  · have hn : nl.length = 2 := by rw [← HNL.out, ← hL]; rfl
    have hnl2 : nl = [a2, a4] := by rw [← HNL.out, ← hL]; rfl
    have hblk : (((w.alloc (.cells #[.int .i64 ((3 : Nat) : Int), .int .i64 a1, .int .i64 a2, .int .i64 a3, .int .i64 a4, .int .i64 a5, .int .i64 a6] 38 (0, 0))).alloc (.cells vbC 9 (0, 0))).alloc (.cells #[.int .i64 a2, .int .i64 a4] 3 (0, 0))).heap[w.heap.size + 1 + 1]? = some (.cells #[.int .i64 a2, .int .i64 a4] 3 (0, 0)) := by
      have h := blk_new ((w.alloc (.cells #[.int .i64 ((3 : Nat) : Int), .int .i64 a1, .int .i64 a2, .int .i64 a3, .int .i64 a4, .int .i64 a5, .int .i64 a6] 38 (0, 0))).alloc (.cells vbC 9 (0, 0))) (.cells #[.int .i64 a2, .int .i64 a4] 3 (0, 0))
      rwa [World.size_alloc, World.size_alloc] at h
    have hcl : ∀ (j : Nat) (x : Int), nl[j]? = some x → (((w.alloc (.cells #[.int .i64 ((3 : Nat) : Int), .int .i64 a1, .int .i64 a2, .int .i64 a3, .int .i64 a4, .int .i64 a5, .int .i64 a6] 38 (0, 0))).alloc (.cells vbC 9 (0, 0))).alloc (.cells #[.int .i64 a2, .int .i64 a4] 3 (0, 0))).cell? ⟨w.heap.size + 1 + 1, j, none⟩ = some (.int .i64 x) := fun j x hj => (cell_in hblk j).trans (by rw [hnl2] at hj; match j, hj with | 0, hj => obtain rfl := Option.some.inj hj; rfl | 1, hj => obtain rfl := Option.some.inj hj; rfl | j + 2, hj => simp at hj)
    have hbw : Below w.heap.size w (((w.alloc (.cells #[.int .i64 ((3 : Nat) : Int), .int .i64 a1, .int .i64 a2, .int .i64 a3, .int .i64 a4, .int .i64 a5, .int .i64 a6] 38 (0, 0))).alloc (.cells vbC 9 (0, 0))).alloc (.cells #[.int .i64 a2, .int .i64 a4] 3 (0, 0))) := below_alloc (below_alloc (below_alloc (Below.refl _ _) _) _) _
    have HCL := Aside0.mk hcl
    have HBW := Aside0.mk hbw
    have HN := Aside0.mk hn
    clear hcl hbw hn q1 q2 q3 h8 hnl2 hblk
    show Calls Tryd.prog 16 #[.agg #[.int .i64 3, .int .i64 a1, .int .i64 a2, .int .i64 a3, .int .i64 a4, .int .i64 a5, .int .i64 a6]] w _
    go_enter Tryd.func16, Tryd.ntmps16
    go_wp2_with fail
    go_loopw [3, 5] (fun v3 v5 wr => ∃ k : Nat, k ≤ 2 ∧ v5 = .int .i64 (k : Int) ∧ v3 = .string (strB (glue 32 ((pcs L 3).take (k + 1)))) ∧ Aside0 (∀ (j : Nat) (x : Int), nl[j]? = some x → wr.cell? ⟨w.heap.size + 1 + 1, j, none⟩ = some (.int .i64 x)) ∧ Aside0 (Below w.heap.size w wr)) (fun _ v5 _ => (2 - intOf v5).toNat)
    case atStart => exact ⟨0, by omega, rfl, by rw [HPC.out]; rfl, HCL, HBW⟩
    case round =>
      clear HCL HBW
      obtain ⟨k, hk, rfl, rfl, HCL, HB⟩ := hrel
      rcases (by omega : k < 2 ∨ k = 2) with hkn | rfl
      · have hkl : k < nl.length := by rw [HN.out]; exact hkn
        have hx0 := HNS.out nl[k] (List.getElem_mem hkl)
        obtain ⟨x, hx⟩ : ∃ x : Nat, nl[k] = (x : Int) := ⟨nl[k].toNat, by omega⟩
        have y0 := HCL.out k _ (List.getElem?_eq_getElem hkl)
        rw [hx] at y0 hx0
        have hpl : (pcs L 3).length = nl.length + 1 := by rw [HPC.out]; simp
        have hstep := glue_step 32 (pcs L 3) k (by omega)
        have hpe : (pcs L 3)[k + 1]'(by omega) = digP x := by simp only [HPC.out, List.getElem_cons_succ, List.getElem_map, hx, Int.toNat_natCast]
        rw [hpe] at hstep
        have hg1 : (glue 32 ((pcs L 3).take (k + 1))).length ≤ 105 := by
          have h := glue_len 32 20 ((pcs L 3).take (k + 1)) (fun p hp => HPL.out.1 p (List.mem_of_mem_take hp))
          have h2 : ((pcs L 3).take (k + 1)).length ≤ 5 := by rw [List.length_take]; have := HPL.out.2; omega
          omega
        have hdl := digP_len x (by omega)
        obtain ⟨G, hG⟩ : ∃ G, glue 32 ((pcs L 3).take (k + 1)) = G := ⟨_, rfl⟩
        rw [hG] at hstep hg1 ⊢
        obtain ⟨s1, hs1⟩ : ∃ s, strB G = s := ⟨_, rfl⟩
        obtain ⟨s2, hs2⟩ : ∃ s, s1 ++ (⟨#[32]⟩ : ByteArray) = s := ⟨_, rfl⟩
        obtain ⟨s3, hs3⟩ : ∃ s, strB (digP x) = s := ⟨_, rfl⟩
        have e2 : s2 = strB (G ++ [32]) := by rw [← hs2, ← hs1, ← strB_app]; rfl
        have e4 : strB (glue 32 ((pcs L 3).take (k + 1 + 1))) = s2 ++ s3 := by rw [hstep, e2, ← hs3, strB_app]; congr 1; simp
        have z1 : s1.size ≤ 105 := by rw [← hs1, strB_size]; exact hg1
        have z2 : s2.size ≤ 106 := by rw [e2, strB_size, List.length_append]; simp; omega
        have z3 : s3.size ≤ 20 := by rw [← hs3, strB_size]; exact hdl
        have c1 : ¬ 9223372036854775807 < s1.size + 1 := by omega
        have c2 : ¬ 9223372036854775807 < s2.size + s3.size := by omega
        have m1 : decide ((k : Int) < 2) = true := decide_eq_true (by omega)
        have m2 : decide (k < 2) = true := decide_eq_true hkn
        have r1 : (0 ≤ (k : Int)) = True := eq_true (by omega)
        have r2 : ((k : Int) < 2) = True := eq_true (by omega)
        have r3 : (k < 2) = True := eq_true hkn
        have HE4 := Aside0.mk e4
        have D1 := Aside0.mk (rDig_calls x (by omega) wr)
        rw [hs1]
        rw [hs3] at D1
        have HKN := Aside0.mk hkn
        clear hkl hx0 hx hpl hstep hpe hg1 hdl hG hs1 hs3 e2 e4 z1 z2 z3 hkn
        go_wp2_with fail
        refine D1.out.mono ?_
        rintro e w4 ⟨rfl, hb4⟩
        have HB4 := Aside0.mk (below_step HB.out hb4)
        have HCL4 : Aside0 (∀ (j : Nat) (x : Int), nl[j]? = some x → w4.cell? ⟨w.heap.size + 1 + 1, j, none⟩ = some (.int .i64 x)) := ⟨fun j x hj => (hb4.cell (World.block_lt_of_cell? wr _ (HCL.out j x hj))).trans (HCL.out j x hj)⟩
        clear hb4 y0
        go_wp2_with fail
        exact ⟨⟨k + 1, HKN.out, by rw [Int.natCast_add]; rfl, by rw [HE4.out], HCL4, HB4⟩, by have := HKN.out; simp [intOf]; omega⟩
      · have m1 : decide (((2 : Nat) : Int) < 2) = false := rfl
        have hall : (pcs L 3).take (2 + 1) = pcs L 3 := List.take_of_length_le (by rw [HPC.out, List.length_cons, List.length_map, HN.out]; exact Nat.le_refl _)
        rw [hall]
        obtain ⟨R, hR⟩ : ∃ R, strB (glue 32 (pcs L 3)) = R := ⟨_, rfl⟩
        have HR := Aside0.mk hR
        rw [hR]
        clear hall hR
        go_wp2_with fail
        go_ret
        exact ⟨by rw [HR.out]; rfl, HB.out⟩
  · have hn : nl.length = 1 := by rw [← HNL.out, ← hL]; rfl
    have hnl2 : nl = [a5] := by rw [← HNL.out, ← hL]; rfl
    have hblk : (((w.alloc (.cells #[.int .i64 ((4 : Nat) : Int), .int .i64 a1, .int .i64 a2, .int .i64 a3, .int .i64 a4, .int .i64 a5, .int .i64 a6] 38 (0, 0))).alloc (.cells vbC 9 (0, 0))).alloc (.cells #[.int .i64 a5] 3 (0, 0))).heap[w.heap.size + 1 + 1]? = some (.cells #[.int .i64 a5] 3 (0, 0)) := by
      have h := blk_new ((w.alloc (.cells #[.int .i64 ((4 : Nat) : Int), .int .i64 a1, .int .i64 a2, .int .i64 a3, .int .i64 a4, .int .i64 a5, .int .i64 a6] 38 (0, 0))).alloc (.cells vbC 9 (0, 0))) (.cells #[.int .i64 a5] 3 (0, 0))
      rwa [World.size_alloc, World.size_alloc] at h
    have hcl : ∀ (j : Nat) (x : Int), nl[j]? = some x → (((w.alloc (.cells #[.int .i64 ((4 : Nat) : Int), .int .i64 a1, .int .i64 a2, .int .i64 a3, .int .i64 a4, .int .i64 a5, .int .i64 a6] 38 (0, 0))).alloc (.cells vbC 9 (0, 0))).alloc (.cells #[.int .i64 a5] 3 (0, 0))).cell? ⟨w.heap.size + 1 + 1, j, none⟩ = some (.int .i64 x) := fun j x hj => (cell_in hblk j).trans (by rw [hnl2] at hj; match j, hj with | 0, hj => obtain rfl := Option.some.inj hj; rfl | j + 1, hj => simp at hj)
    have hbw : Below w.heap.size w (((w.alloc (.cells #[.int .i64 ((4 : Nat) : Int), .int .i64 a1, .int .i64 a2, .int .i64 a3, .int .i64 a4, .int .i64 a5, .int .i64 a6] 38 (0, 0))).alloc (.cells vbC 9 (0, 0))).alloc (.cells #[.int .i64 a5] 3 (0, 0))) := below_alloc (below_alloc (below_alloc (Below.refl _ _) _) _) _
    have HCL := Aside0.mk hcl
    have HBW := Aside0.mk hbw
    have HN := Aside0.mk hn
    clear hcl hbw hn q1 q2 q3 h8 hnl2 hblk
    show Calls Tryd.prog 16 #[.agg #[.int .i64 4, .int .i64 a1, .int .i64 a2, .int .i64 a3, .int .i64 a4, .int .i64 a5, .int .i64 a6]] w _
    go_enter Tryd.func16, Tryd.ntmps16
    go_wp2_with fail
    go_loopw [3, 5] (fun v3 v5 wr => ∃ k : Nat, k ≤ 1 ∧ v5 = .int .i64 (k : Int) ∧ v3 = .string (strB (glue 32 ((pcs L 4).take (k + 1)))) ∧ Aside0 (∀ (j : Nat) (x : Int), nl[j]? = some x → wr.cell? ⟨w.heap.size + 1 + 1, j, none⟩ = some (.int .i64 x)) ∧ Aside0 (Below w.heap.size w wr)) (fun _ v5 _ => (1 - intOf v5).toNat)
    case atStart => exact ⟨0, by omega, rfl, by rw [HPC.out]; rfl, HCL, HBW⟩
    case round =>
      clear HCL HBW
      obtain ⟨k, hk, rfl, rfl, HCL, HB⟩ := hrel
      rcases (by omega : k < 1 ∨ k = 1) with hkn | rfl
      · have hkl : k < nl.length := by rw [HN.out]; exact hkn
        have hx0 := HNS.out nl[k] (List.getElem_mem hkl)
        obtain ⟨x, hx⟩ : ∃ x : Nat, nl[k] = (x : Int) := ⟨nl[k].toNat, by omega⟩
        have y0 := HCL.out k _ (List.getElem?_eq_getElem hkl)
        rw [hx] at y0 hx0
        have hpl : (pcs L 4).length = nl.length + 1 := by rw [HPC.out]; simp
        have hstep := glue_step 32 (pcs L 4) k (by omega)
        have hpe : (pcs L 4)[k + 1]'(by omega) = digP x := by simp only [HPC.out, List.getElem_cons_succ, List.getElem_map, hx, Int.toNat_natCast]
        rw [hpe] at hstep
        have hg1 : (glue 32 ((pcs L 4).take (k + 1))).length ≤ 105 := by
          have h := glue_len 32 20 ((pcs L 4).take (k + 1)) (fun p hp => HPL.out.1 p (List.mem_of_mem_take hp))
          have h2 : ((pcs L 4).take (k + 1)).length ≤ 5 := by rw [List.length_take]; have := HPL.out.2; omega
          omega
        have hdl := digP_len x (by omega)
        obtain ⟨G, hG⟩ : ∃ G, glue 32 ((pcs L 4).take (k + 1)) = G := ⟨_, rfl⟩
        rw [hG] at hstep hg1 ⊢
        obtain ⟨s1, hs1⟩ : ∃ s, strB G = s := ⟨_, rfl⟩
        obtain ⟨s2, hs2⟩ : ∃ s, s1 ++ (⟨#[32]⟩ : ByteArray) = s := ⟨_, rfl⟩
        obtain ⟨s3, hs3⟩ : ∃ s, strB (digP x) = s := ⟨_, rfl⟩
        have e2 : s2 = strB (G ++ [32]) := by rw [← hs2, ← hs1, ← strB_app]; rfl
        have e4 : strB (glue 32 ((pcs L 4).take (k + 1 + 1))) = s2 ++ s3 := by rw [hstep, e2, ← hs3, strB_app]; congr 1; simp
        have z1 : s1.size ≤ 105 := by rw [← hs1, strB_size]; exact hg1
        have z2 : s2.size ≤ 106 := by rw [e2, strB_size, List.length_append]; simp; omega
        have z3 : s3.size ≤ 20 := by rw [← hs3, strB_size]; exact hdl
        have c1 : ¬ 9223372036854775807 < s1.size + 1 := by omega
        have c2 : ¬ 9223372036854775807 < s2.size + s3.size := by omega
        have m1 : decide ((k : Int) < 1) = true := decide_eq_true (by omega)
        have m2 : decide (k < 1) = true := decide_eq_true hkn
        have r1 : (0 ≤ (k : Int)) = True := eq_true (by omega)
        have r2 : ((k : Int) < 1) = True := eq_true (by omega)
        have r3 : (k < 1) = True := eq_true hkn
        have HE4 := Aside0.mk e4
        have D1 := Aside0.mk (rDig_calls x (by omega) wr)
        rw [hs1]
        rw [hs3] at D1
        have HKN := Aside0.mk hkn
        clear hkl hx0 hx hpl hstep hpe hg1 hdl hG hs1 hs3 e2 e4 z1 z2 z3 hkn
        go_wp2_with fail
        refine D1.out.mono ?_
        rintro e w4 ⟨rfl, hb4⟩
        have HB4 := Aside0.mk (below_step HB.out hb4)
        have HCL4 : Aside0 (∀ (j : Nat) (x : Int), nl[j]? = some x → w4.cell? ⟨w.heap.size + 1 + 1, j, none⟩ = some (.int .i64 x)) := ⟨fun j x hj => (hb4.cell (World.block_lt_of_cell? wr _ (HCL.out j x hj))).trans (HCL.out j x hj)⟩
        clear hb4 y0
        go_wp2_with fail
        exact ⟨⟨k + 1, HKN.out, by rw [Int.natCast_add]; rfl, by rw [HE4.out], HCL4, HB4⟩, by have := HKN.out; simp [intOf]; omega⟩
      · have m1 : decide (((1 : Nat) : Int) < 1) = false := rfl
        have hall : (pcs L 4).take (1 + 1) = pcs L 4 := List.take_of_length_le (by rw [HPC.out, List.length_cons, List.length_map, HN.out]; exact Nat.le_refl _)
        rw [hall]
        obtain ⟨R, hR⟩ : ∃ R, strB (glue 32 (pcs L 4)) = R := ⟨_, rfl⟩
        have HR := Aside0.mk hR
        rw [hR]
        clear hall hR
        go_wp2_with fail
        go_ret
        exact ⟨by rw [HR.out]; rfl, HB.out⟩
  · have hn : nl.length = 0 := by rw [← HNL.out, ← hL]; rfl
    have hcl : ∀ (j : Nat) (x : Int), nl[j]? = some x → ((w.alloc (.cells #[.int .i64 ((5 : Nat) : Int), .int .i64 a1, .int .i64 a2, .int .i64 a3, .int .i64 a4, .int .i64 a5, .int .i64 a6] 38 (0, 0))).alloc (.cells vbC 9 (0, 0))).cell? ⟨w.heap.size + 1 + 1, j, none⟩ = some (.int .i64 x) := fun j x hj => by
      rw [List.eq_nil_of_length_eq_zero hn] at hj; cases hj
    have hbw : Below w.heap.size w ((w.alloc (.cells #[.int .i64 ((5 : Nat) : Int), .int .i64 a1, .int .i64 a2, .int .i64 a3, .int .i64 a4, .int .i64 a5, .int .i64 a6] 38 (0, 0))).alloc (.cells vbC 9 (0, 0))) := below_alloc (below_alloc (Below.refl _ _) _) _
    have HCL := Aside0.mk hcl
    have HBW := Aside0.mk hbw
    have HN := Aside0.mk hn
    clear hcl hbw hn q1 q2 q3 h8
    show Calls Tryd.prog 16 #[.agg #[.int .i64 5, .int .i64 a1, .int .i64 a2, .int .i64 a3, .int .i64 a4, .int .i64 a5, .int .i64 a6]] w _
    go_enter Tryd.func16, Tryd.ntmps16
    go_wp2_with fail
    go_loopw [3, 5] (fun v3 v5 wr => ∃ k : Nat, k ≤ 0 ∧ v5 = .int .i64 (k : Int) ∧ v3 = .string (strB (glue 32 ((pcs L 5).take (k + 1)))) ∧ Aside0 (∀ (j : Nat) (x : Int), nl[j]? = some x → wr.cell? ⟨w.heap.size + 1 + 1, j, none⟩ = some (.int .i64 x)) ∧ Aside0 (Below w.heap.size w wr)) (fun _ v5 _ => (0 - intOf v5).toNat)
    case atStart => exact ⟨0, by omega, rfl, by rw [HPC.out]; rfl, HCL, HBW⟩
    case round =>
      clear HCL HBW
      obtain ⟨k, hk, rfl, rfl, HCL, HB⟩ := hrel
      obtain rfl : k = 0 := by omega
      have m1 : decide (((0 : Nat) : Int) < 0) = false := rfl
      have hall : (pcs L 5).take (0 + 1) = pcs L 5 := List.take_of_length_le (by rw [HPC.out, List.length_cons, List.length_map, HN.out]; exact Nat.le_refl _)
      rw [hall]
      obtain ⟨R, hR⟩ : ∃ R, strB (glue 32 (pcs L 5)) = R := ⟨_, rfl⟩
      have HR := Aside0.mk hR
      rw [hR]
      clear hall hR
      go_wp2_with fail
      go_ret
      exact ⟨by rw [HR.out]; rfl, HB.out⟩
  · have hn : nl.length = 1 := by rw [← HNL.out, ← hL]; rfl
    have hnl2 : nl = [a6] := by rw [← HNL.out, ← hL]; rfl
    have hblk : (((w.alloc (.cells #[.int .i64 ((6 : Nat) : Int), .int .i64 a1, .int .i64 a2, .int .i64 a3, .int .i64 a4, .int .i64 a5, .int .i64 a6] 38 (0, 0))).alloc (.cells vbC 9 (0, 0))).alloc (.cells #[.int .i64 a6] 3 (0, 0))).heap[w.heap.size + 1 + 1]? = some (.cells #[.int .i64 a6] 3 (0, 0)) := by
      have h := blk_new ((w.alloc (.cells #[.int .i64 ((6 : Nat) : Int), .int .i64 a1, .int .i64 a2, .int .i64 a3, .int .i64 a4, .int .i64 a5, .int .i64 a6] 38 (0, 0))).alloc (.cells vbC 9 (0, 0))) (.cells #[.int .i64 a6] 3 (0, 0))
      rwa [World.size_alloc, World.size_alloc] at h
    have hcl : ∀ (j : Nat) (x : Int), nl[j]? = some x → (((w.alloc (.cells #[.int .i64 ((6 : Nat) : Int), .int .i64 a1, .int .i64 a2, .int .i64 a3, .int .i64 a4, .int .i64 a5, .int .i64 a6] 38 (0, 0))).alloc (.cells vbC 9 (0, 0))).alloc (.cells #[.int .i64 a6] 3 (0, 0))).cell? ⟨w.heap.size + 1 + 1, j, none⟩ = some (.int .i64 x) := fun j x hj => (cell_in hblk j).trans (by rw [hnl2] at hj; match j, hj with | 0, hj => obtain rfl := Option.some.inj hj; rfl | j + 1, hj => simp at hj)
    have hbw : Below w.heap.size w (((w.alloc (.cells #[.int .i64 ((6 : Nat) : Int), .int .i64 a1, .int .i64 a2, .int .i64 a3, .int .i64 a4, .int .i64 a5, .int .i64 a6] 38 (0, 0))).alloc (.cells vbC 9 (0, 0))).alloc (.cells #[.int .i64 a6] 3 (0, 0))) := below_alloc (below_alloc (below_alloc (Below.refl _ _) _) _) _
    have HCL := Aside0.mk hcl
    have HBW := Aside0.mk hbw
    have HN := Aside0.mk hn
    clear hcl hbw hn q1 q2 q3 h8 hnl2 hblk
    show Calls Tryd.prog 16 #[.agg #[.int .i64 6, .int .i64 a1, .int .i64 a2, .int .i64 a3, .int .i64 a4, .int .i64 a5, .int .i64 a6]] w _
    go_enter Tryd.func16, Tryd.ntmps16
    go_wp2_with fail
    go_loopw [3, 5] (fun v3 v5 wr => ∃ k : Nat, k ≤ 1 ∧ v5 = .int .i64 (k : Int) ∧ v3 = .string (strB (glue 32 ((pcs L 6).take (k + 1)))) ∧ Aside0 (∀ (j : Nat) (x : Int), nl[j]? = some x → wr.cell? ⟨w.heap.size + 1 + 1, j, none⟩ = some (.int .i64 x)) ∧ Aside0 (Below w.heap.size w wr)) (fun _ v5 _ => (1 - intOf v5).toNat)
    case atStart => exact ⟨0, by omega, rfl, by rw [HPC.out]; rfl, HCL, HBW⟩
    case round =>
      clear HCL HBW
      obtain ⟨k, hk, rfl, rfl, HCL, HB⟩ := hrel
      rcases (by omega : k < 1 ∨ k = 1) with hkn | rfl
      · have hkl : k < nl.length := by rw [HN.out]; exact hkn
        have hx0 := HNS.out nl[k] (List.getElem_mem hkl)
        obtain ⟨x, hx⟩ : ∃ x : Nat, nl[k] = (x : Int) := ⟨nl[k].toNat, by omega⟩
        have y0 := HCL.out k _ (List.getElem?_eq_getElem hkl)
        rw [hx] at y0 hx0
        have hpl : (pcs L 6).length = nl.length + 1 := by rw [HPC.out]; simp
        have hstep := glue_step 32 (pcs L 6) k (by omega)
        have hpe : (pcs L 6)[k + 1]'(by omega) = digP x := by simp only [HPC.out, List.getElem_cons_succ, List.getElem_map, hx, Int.toNat_natCast]
        rw [hpe] at hstep
        have hg1 : (glue 32 ((pcs L 6).take (k + 1))).length ≤ 105 := by
          have h := glue_len 32 20 ((pcs L 6).take (k + 1)) (fun p hp => HPL.out.1 p (List.mem_of_mem_take hp))
          have h2 : ((pcs L 6).take (k + 1)).length ≤ 5 := by rw [List.length_take]; have := HPL.out.2; omega
          omega
        have hdl := digP_len x (by omega)
        obtain ⟨G, hG⟩ : ∃ G, glue 32 ((pcs L 6).take (k + 1)) = G := ⟨_, rfl⟩
        rw [hG] at hstep hg1 ⊢
        obtain ⟨s1, hs1⟩ : ∃ s, strB G = s := ⟨_, rfl⟩
        obtain ⟨s2, hs2⟩ : ∃ s, s1 ++ (⟨#[32]⟩ : ByteArray) = s := ⟨_, rfl⟩
        obtain ⟨s3, hs3⟩ : ∃ s, strB (digP x) = s := ⟨_, rfl⟩
        have e2 : s2 = strB (G ++ [32]) := by rw [← hs2, ← hs1, ← strB_app]; rfl
        have e4 : strB (glue 32 ((pcs L 6).take (k + 1 + 1))) = s2 ++ s3 := by rw [hstep, e2, ← hs3, strB_app]; congr 1; simp
        have z1 : s1.size ≤ 105 := by rw [← hs1, strB_size]; exact hg1
        have z2 : s2.size ≤ 106 := by rw [e2, strB_size, List.length_append]; simp; omega
        have z3 : s3.size ≤ 20 := by rw [← hs3, strB_size]; exact hdl
        have c1 : ¬ 9223372036854775807 < s1.size + 1 := by omega
        have c2 : ¬ 9223372036854775807 < s2.size + s3.size := by omega
        have m1 : decide ((k : Int) < 1) = true := decide_eq_true (by omega)
        have m2 : decide (k < 1) = true := decide_eq_true hkn
        have r1 : (0 ≤ (k : Int)) = True := eq_true (by omega)
        have r2 : ((k : Int) < 1) = True := eq_true (by omega)
        have r3 : (k < 1) = True := eq_true hkn
        have HE4 := Aside0.mk e4
        have D1 := Aside0.mk (rDig_calls x (by omega) wr)
        rw [hs1]
        rw [hs3] at D1
        have HKN := Aside0.mk hkn
        clear hkl hx0 hx hpl hstep hpe hg1 hdl hG hs1 hs3 e2 e4 z1 z2 z3 hkn
        go_wp2_with fail
        refine D1.out.mono ?_
        rintro e w4 ⟨rfl, hb4⟩
        have HB4 := Aside0.mk (below_step HB.out hb4)
        have HCL4 : Aside0 (∀ (j : Nat) (x : Int), nl[j]? = some x → w4.cell? ⟨w.heap.size + 1 + 1, j, none⟩ = some (.int .i64 x)) := ⟨fun j x hj => (hb4.cell (World.block_lt_of_cell? wr _ (HCL.out j x hj))).trans (HCL.out j x hj)⟩
        clear hb4 y0
        go_wp2_with fail
        exact ⟨⟨k + 1, HKN.out, by rw [Int.natCast_add]; rfl, by rw [HE4.out], HCL4, HB4⟩, by have := HKN.out; simp [intOf]; omega⟩
      · have m1 : decide (((1 : Nat) : Int) < 1) = false := rfl
        have hall : (pcs L 6).take (1 + 1) = pcs L 6 := List.take_of_length_le (by rw [HPC.out, List.length_cons, List.length_map, HN.out]; exact Nat.le_refl _)
        rw [hall]
        obtain ⟨R, hR⟩ : ∃ R, strB (glue 32 (pcs L 6)) = R := ⟨_, rfl⟩
        have HR := Aside0.mk hR
        rw [hR]
        clear hall hR
        go_wp2_with fail
        go_ret
        exact ⟨by rw [HR.out]; rfl, HB.out⟩
  · have hn : nl.length = 0 := by rw [← HNL.out, ← hL]; rfl
    have hcl : ∀ (j : Nat) (x : Int), nl[j]? = some x → ((w.alloc (.cells #[.int .i64 ((7 : Nat) : Int), .int .i64 a1, .int .i64 a2, .int .i64 a3, .int .i64 a4, .int .i64 a5, .int .i64 a6] 38 (0, 0))).alloc (.cells vbC 9 (0, 0))).cell? ⟨w.heap.size + 1 + 1, j, none⟩ = some (.int .i64 x) := fun j x hj => by
      rw [List.eq_nil_of_length_eq_zero hn] at hj; cases hj
    have hbw : Below w.heap.size w ((w.alloc (.cells #[.int .i64 ((7 : Nat) : Int), .int .i64 a1, .int .i64 a2, .int .i64 a3, .int .i64 a4, .int .i64 a5, .int .i64 a6] 38 (0, 0))).alloc (.cells vbC 9 (0, 0))) := below_alloc (below_alloc (Below.refl _ _) _) _
    have HCL := Aside0.mk hcl
    have HBW := Aside0.mk hbw
    have HN := Aside0.mk hn
    clear hcl hbw hn q1 q2 q3 h8
    show Calls Tryd.prog 16 #[.agg #[.int .i64 7, .int .i64 a1, .int .i64 a2, .int .i64 a3, .int .i64 a4, .int .i64 a5, .int .i64 a6]] w _
    go_enter Tryd.func16, Tryd.ntmps16
    go_wp2_with fail
    go_loopw [3, 5] (fun v3 v5 wr => ∃ k : Nat, k ≤ 0 ∧ v5 = .int .i64 (k : Int) ∧ v3 = .string (strB (glue 32 ((pcs L 7).take (k + 1)))) ∧ Aside0 (∀ (j : Nat) (x : Int), nl[j]? = some x → wr.cell? ⟨w.heap.size + 1 + 1, j, none⟩ = some (.int .i64 x)) ∧ Aside0 (Below w.heap.size w wr)) (fun _ v5 _ => (0 - intOf v5).toNat)
    case atStart => exact ⟨0, by omega, rfl, by rw [HPC.out]; rfl, HCL, HBW⟩
    case round =>
      clear HCL HBW
      obtain ⟨k, hk, rfl, rfl, HCL, HB⟩ := hrel
      obtain rfl : k = 0 := by omega
      have m1 : decide (((0 : Nat) : Int) < 0) = false := rfl
      have hall : (pcs L 7).take (0 + 1) = pcs L 7 := List.take_of_length_le (by rw [HPC.out, List.length_cons, List.length_map, HN.out]; exact Nat.le_refl _)
      rw [hall]
      obtain ⟨R, hR⟩ : ∃ R, strB (glue 32 (pcs L 7)) = R := ⟨_, rfl⟩
      have HR := Aside0.mk hR
      rw [hR]
      clear hall hR
      go_wp2_with fail
      go_ret
      exact ⟨by rw [HR.out]; rfl, HB.out⟩
  · have hn : nl.length = 1 := by rw [← HNL.out, ← hL]; rfl
    have hnl2 : nl = [a6] := by rw [← HNL.out, ← hL]; rfl
    have hblk : (((w.alloc (.cells #[.int .i64 ((8 : Nat) : Int), .int .i64 a1, .int .i64 a2, .int .i64 a3, .int .i64 a4, .int .i64 a5, .int .i64 a6] 38 (0, 0))).alloc (.cells vbC 9 (0, 0))).alloc (.cells #[.int .i64 a6] 3 (0, 0))).heap[w.heap.size + 1 + 1]? = some (.cells #[.int .i64 a6] 3 (0, 0)) := by
      have h := blk_new ((w.alloc (.cells #[.int .i64 ((8 : Nat) : Int), .int .i64 a1, .int .i64 a2, .int .i64 a3, .int .i64 a4, .int .i64 a5, .int .i64 a6] 38 (0, 0))).alloc (.cells vbC 9 (0, 0))) (.cells #[.int .i64 a6] 3 (0, 0))
      rwa [World.size_alloc, World.size_alloc] at h
    have hcl : ∀ (j : Nat) (x : Int), nl[j]? = some x → (((w.alloc (.cells #[.int .i64 ((8 : Nat) : Int), .int .i64 a1, .int .i64 a2, .int .i64 a3, .int .i64 a4, .int .i64 a5, .int .i64 a6] 38 (0, 0))).alloc (.cells vbC 9 (0, 0))).alloc (.cells #[.int .i64 a6] 3 (0, 0))).cell? ⟨w.heap.size + 1 + 1, j, none⟩ = some (.int .i64 x) := fun j x hj => (cell_in hblk j).trans (by rw [hnl2] at hj; match j, hj with | 0, hj => obtain rfl := Option.some.inj hj; rfl | j + 1, hj => simp at hj)
    have hbw : Below w.heap.size w (((w.alloc (.cells #[.int .i64 ((8 : Nat) : Int), .int .i64 a1, .int .i64 a2, .int .i64 a3, .int .i64 a4, .int .i64 a5, .int .i64 a6] 38 (0, 0))).alloc (.cells vbC 9 (0, 0))).alloc (.cells #[.int .i64 a6] 3 (0, 0))) := below_alloc (below_alloc (below_alloc (Below.refl _ _) _) _) _
    have HCL := Aside0.mk hcl
    have HBW := Aside0.mk hbw
    have HN := Aside0.mk hn
    clear hcl hbw hn q1 q2 q3 h8 hnl2 hblk
    show Calls Tryd.prog 16 #[.agg #[.int .i64 8, .int .i64 a1, .int .i64 a2, .int .i64 a3, .int .i64 a4, .int .i64 a5, .int .i64 a6]] w _
    go_enter Tryd.func16, Tryd.ntmps16
    go_wp2_with fail
    go_loopw [3, 5] (fun v3 v5 wr => ∃ k : Nat, k ≤ 1 ∧ v5 = .int .i64 (k : Int) ∧ v3 = .string (strB (glue 32 ((pcs L 8).take (k + 1)))) ∧ Aside0 (∀ (j : Nat) (x : Int), nl[j]? = some x → wr.cell? ⟨w.heap.size + 1 + 1, j, none⟩ = some (.int .i64 x)) ∧ Aside0 (Below w.heap.size w wr)) (fun _ v5 _ => (1 - intOf v5).toNat)
    case atStart => exact ⟨0, by omega, rfl, by rw [HPC.out]; rfl, HCL, HBW⟩
    case round =>
      clear HCL HBW
      obtain ⟨k, hk, rfl, rfl, HCL, HB⟩ := hrel
      rcases (by omega : k < 1 ∨ k = 1) with hkn | rfl
      · have hkl : k < nl.length := by rw [HN.out]; exact hkn
        have hx0 := HNS.out nl[k] (List.getElem_mem hkl)
        obtain ⟨x, hx⟩ : ∃ x : Nat, nl[k] = (x : Int) := ⟨nl[k].toNat, by omega⟩
        have y0 := HCL.out k _ (List.getElem?_eq_getElem hkl)
        rw [hx] at y0 hx0
        have hpl : (pcs L 8).length = nl.length + 1 := by rw [HPC.out]; simp
        have hstep := glue_step 32 (pcs L 8) k (by omega)
        have hpe : (pcs L 8)[k + 1]'(by omega) = digP x := by simp only [HPC.out, List.getElem_cons_succ, List.getElem_map, hx, Int.toNat_natCast]
        rw [hpe] at hstep
        have hg1 : (glue 32 ((pcs L 8).take (k + 1))).length ≤ 105 := by
          have h := glue_len 32 20 ((pcs L 8).take (k + 1)) (fun p hp => HPL.out.1 p (List.mem_of_mem_take hp))
          have h2 : ((pcs L 8).take (k + 1)).length ≤ 5 := by rw [List.length_take]; have := HPL.out.2; omega
          omega
        have hdl := digP_len x (by omega)
        obtain ⟨G, hG⟩ : ∃ G, glue 32 ((pcs L 8).take (k + 1)) = G := ⟨_, rfl⟩
        rw [hG] at hstep hg1 ⊢
        obtain ⟨s1, hs1⟩ : ∃ s, strB G = s := ⟨_, rfl⟩
        obtain ⟨s2, hs2⟩ : ∃ s, s1 ++ (⟨#[32]⟩ : ByteArray) = s := ⟨_, rfl⟩
        obtain ⟨s3, hs3⟩ : ∃ s, strB (digP x) = s := ⟨_, rfl⟩
        have e2 : s2 = strB (G ++ [32]) := by rw [← hs2, ← hs1, ← strB_app]; rfl
        have e4 : strB (glue 32 ((pcs L 8).take (k + 1 + 1))) = s2 ++ s3 := by rw [hstep, e2, ← hs3, strB_app]; congr 1; simp
        have z1 : s1.size ≤ 105 := by rw [← hs1, strB_size]; exact hg1
        have z2 : s2.size ≤ 106 := by rw [e2, strB_size, List.length_append]; simp; omega
        have z3 : s3.size ≤ 20 := by rw [← hs3, strB_size]; exact hdl
        have c1 : ¬ 9223372036854775807 < s1.size + 1 := by omega
        have c2 : ¬ 9223372036854775807 < s2.size + s3.size := by omega
        have m1 : decide ((k : Int) < 1) = true := decide_eq_true (by omega)
        have m2 : decide (k < 1) = true := decide_eq_true hkn
        have r1 : (0 ≤ (k : Int)) = True := eq_true (by omega)
        have r2 : ((k : Int) < 1) = True := eq_true (by omega)
        have r3 : (k < 1) = True := eq_true hkn
        have HE4 := Aside0.mk e4
        have D1 := Aside0.mk (rDig_calls x (by omega) wr)
        rw [hs1]
        rw [hs3] at D1
        have HKN := Aside0.mk hkn
        clear hkl hx0 hx hpl hstep hpe hg1 hdl hG hs1 hs3 e2 e4 z1 z2 z3 hkn
        go_wp2_with fail
        refine D1.out.mono ?_
        rintro e w4 ⟨rfl, hb4⟩
        have HB4 := Aside0.mk (below_step HB.out hb4)
        have HCL4 : Aside0 (∀ (j : Nat) (x : Int), nl[j]? = some x → w4.cell? ⟨w.heap.size + 1 + 1, j, none⟩ = some (.int .i64 x)) := ⟨fun j x hj => (hb4.cell (World.block_lt_of_cell? wr _ (HCL.out j x hj))).trans (HCL.out j x hj)⟩
        clear hb4 y0
        go_wp2_with fail
        exact ⟨⟨k + 1, HKN.out, by rw [Int.natCast_add]; rfl, by rw [HE4.out], HCL4, HB4⟩, by have := HKN.out; simp [intOf]; omega⟩
      · have m1 : decide (((1 : Nat) : Int) < 1) = false := rfl
        have hall : (pcs L 8).take (1 + 1) = pcs L 8 := List.take_of_length_le (by rw [HPC.out, List.length_cons, List.length_map, HN.out]; exact Nat.le_refl _)
        rw [hall]
        obtain ⟨R, hR⟩ : ∃ R, strB (glue 32 (pcs L 8)) = R := ⟨_, rfl⟩
        have HR := Aside0.mk hR
        rw [hR]
        clear hall hR
        go_wp2_with fail
        go_ret
        exact ⟨by rw [HR.out]; rfl, HB.out⟩
end Go.Proofs.YtmoodblpgnnenaaDoor.PLs
