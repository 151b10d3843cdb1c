/- walk.walker.turn: its walk. Helper text. -/
import Derived.Test.YtbaapakkdnhcmaaWkRead
namespace Go.Proofs.Ytbaapakkdnhcmaa.PWe
open Go.RowKit Go.Proofs.Ytbaapakkdnhcmaa.Kx Go.Proofs.YtbaapakkdnhcmaaW.PrintWords Go.Proofs.YtbaapakkdnhcmaaW.PrintLast Go.Proofs.YtbaapakkdnhcmaaW.PrintMore
set_option linter.unusedVariables false
set_option linter.unusedSimpArgs false

theorem addr0_add (g n : Nat) : (⟨g, 0, none⟩ : Addr).add n = ⟨g, n, none⟩ := by
  unfold Addr.add
  split
  · rename_i h; rw [h]
  · simp
theorem size3 : ∃ i, Try.prog.info? 3 = some i ∧ i.size = 1 := by
  have h := info3
  cases hq : Try.prog.info? 3 with
  | none => rw [hq] at h; cases h
  | some i =>
    rw [hq] at h
    simp at h
    exact ⟨i, rfl, h.2.1⟩
/-- What turn does: an error, where the walk is, where it goes back to. -/
def turnF (op tt at_ : Int) (back : List Int) : Int × Int × List Int :=
  if op = 6 then (if 4 ≤ back.length then (14, at_, back) else (0, tt, back ++ [at_])) else if op = 8 then (0, tt, back) else
  if op = 7 then (if back.length = 0 then (11, at_, back) else (0, rd back ((back.length : Int) - 1), back.take (back.length - 1))) else (0, at_, back)
/-- What holds of the walker behind. -/
def Turned (W : World) (gw base : Nat) (v : Value) (r : Int × Int × List Int) (W' : World) : Prop :=
  ∃ v', W'.heap[gw]? = some (.cells #[.int .i64 r.2.1, v'] 122 (0, 0)) ∧ Kd.R (Kd.int .i64) 3 W' base (fun k => k ≠ gw) v' r.2.2 ∧ Kept W W' (fun k => k = gw ∨ some k = v.ownBlock) ∧ (v'.ownBlock = v.ownBlock ∨ ∃ b, v'.ownBlock = some b ∧ W.heap.size ≤ b) ∧ Below base W W'
theorem turned_same {W : World} {gw base : Nat} {v : Value} {at_ : Int} {back : List Int} (h : W.heap[gw]? = some (.cells #[.int .i64 at_, v] 122 (0, 0))) (hR : Kd.R (Kd.int .i64) 3 W base (fun k => k ≠ gw) v back) (W' : World) (hb : Below W.heap.size W W') (hbase : base ≤ W.heap.size) (e : Int) :
    Turned W gw base v (e, at_, back) W' :=
  ⟨v, (hb.block gw (lt_of_block h)).trans h, Kd.R_below hR hb, Kept.of_below hb _, .inl rfl, hb.mono hbase⟩
set_option maxHeartbeats 4000000 in
set_option maxRecDepth 100000 in
theorem turn_any (op c1 c2 c3 c4 c5 tt at_ : Int) (gw base : Nat) (back : List Int) (v : Value) (W : World) (hw : W.heap[gw]? = some (.cells #[.int .i64 at_, v] 122 (0, 0))) (hR : Kd.R (Kd.int .i64) 3 W base (fun k => k ≠ gw) v back) (hbase : base ≤ W.heap.size) (hgb : base ≤ gw) :
    Calls Try.prog 80 #[.pointer (some ⟨gw, 0, none⟩), .agg #[.int .i64 op, .int .i64 c1, .int .i64 c2, .int .i64 c3, .int .i64 c4, .int .i64 c5, .int .i64 tt]] W fun e W' => e = .returned (.int .i64 (turnF op tt at_ back).1) ∧ Turned W gw base v (turnF op tt at_ back) W' := by
  obtain ⟨A, c, rfl⟩ := Kd.R_slice hR
  have HW := Aside0.mk hw
  have HR := Aside0.mk hR
  have hlt : gw < W.heap.size := lt_of_block hw
  clear hw hR
  have hbx : Below W.heap.size W (W.alloc (.cells #[.int .i64 op, .int .i64 c1, .int .i64 c2, .int .i64 c3, .int .i64 c4, .int .i64 c5, .int .i64 tt] 98)) := below_alloc (Below.refl _ _) _
  have HBX : Aside0 ((W.alloc (.cells #[.int .i64 op, .int .i64 c1, .int .i64 c2, .int .i64 c3, .int .i64 c4, .int .i64 c5, .int .i64 tt] 98)).heap[W.heap.size]? = some (.cells #[.int .i64 op, .int .i64 c1, .int .i64 c2, .int .i64 c3, .int .i64 c4, .int .i64 c5, .int .i64 tt] 98 (0, 0))) := ⟨heap_alloc_new _ _⟩
  have HB := Aside0.mk hbx
  clear hbx
  have k0 : (W.alloc (.cells #[.int .i64 op, .int .i64 c1, .int .i64 c2, .int .i64 c3, .int .i64 c4, .int .i64 c5, .int .i64 tt] 98)).cell? ⟨gw, 0, none⟩ = some (.int .i64 at_) := cell_below' HB.out (cell_in HW.out 0)
  have k1 : (W.alloc (.cells #[.int .i64 op, .int .i64 c1, .int .i64 c2, .int .i64 c3, .int .i64 c4, .int .i64 c5, .int .i64 tt] 98)).cell? ⟨gw, 1, none⟩ = some (.slice A back.length c) := cell_below' HB.out (cell_in HW.out 1)
  have kz : (W.alloc (.cells #[.int .i64 op, .int .i64 c1, .int .i64 c2, .int .i64 c3, .int .i64 c4, .int .i64 c5, .int .i64 tt] 98)).frozen? ⟨gw, 0, none⟩ = false := free_in ((HB.out.block gw hlt).trans HW.out) 0
  by_cases h6 : op = 6
  · subst h6
    by_cases h4 : 4 ≤ back.length
    · have e : turnF 6 tt at_ back = (14, at_, back) := by rw [turnF, if_pos rfl, if_pos h4]
      rw [e]
      have g4 : decide ((4 : Int) ≤ (back.length : Int)) = true := decide_eq_true (by omega)
      have g4n : decide (4 ≤ back.length) = true := decide_eq_true h4
      clear h4 e
      go_enter Try.func80, Try.ntmps80
      go_wp2
      go_ret
      exact ⟨rfl, turned_same HW.out HR.out _ HB.out hbase 14⟩
    · have e : turnF 6 tt at_ back = (0, tt, back ++ [at_]) := by rw [turnF, if_pos rfl, if_neg h4]
      rw [e]
      have g4 : decide ((4 : Int) ≤ (back.length : Int)) = false := decide_eq_false (by omega)
      have g4n : decide (4 ≤ back.length) = false := decide_eq_false h4
      have HL := Aside0.mk h4
      clear h4 e
      go_enter Try.func80, Try.ntmps80
      go_wp2
      clear k0 k1 kz g4 g4n
      generalize W.alloc (.cells #[.int .i64 6, .int .i64 c1, .int .i64 c2, .int .i64 c3, .int .i64 c4, .int .i64 c5, .int .i64 tt] 98) = W1 at *
      have HW1 := Aside0.mk ((HB.out.block gw hlt).trans HW.out)
      have HR1 := Aside0.mk (Kd.R_below HR.out HB.out)
      have hlt1 : gw < W1.heap.size := lt_of_block HW1.out
      obtain ⟨gb, hgb0⟩ : ∃ g, W.heap.size = g := ⟨_, rfl⟩
      have hbw : gb ≠ gw := by omega
      have HGO : Aside0 (∀ k, (.slice A back.length c : Value).ownBlock = some k → k < gb) := ⟨fun k hk => by rw [← hgb0]; exact Kd.R_lt HR.out k hk⟩
      rw [hgb0] at HBX ⊢
      refine start_ (n := 14) (S := fun w' => w'.cell? ⟨gw, 0, none⟩ = some (.int .i64 at_) ∧ w'.cell? ⟨gw, 1, none⟩ = some (.slice A back.length c)) (ds := [13]) #[false, false, false, false, false, false, false, false, false, false, false, false, false, false] (by kernel_rfl) rfl rfl (⟨cell_in HW1.out 0, cell_in HW1.out 1⟩) (fun hHeld => ?_)
      have HW2 : Aside0 (W1.drew.heap[gw]? = some (.cells #[.int .i64 at_, .slice A back.length c] 122 (0, 0))) := ⟨HW1.out⟩
      have HR2 := Aside0.mk (Kd.R_drew HR1.out)
      have HX2 : Aside0 (W1.drew.heap[gb]? = some (.cells #[.int .i64 6, .int .i64 c1, .int .i64 c2, .int .i64 c3, .int .i64 c4, .int .i64 c5, .int .i64 tt] 98 (0, 0))) := ⟨HBX.out⟩
      have HB2 : Aside0 (Below base W W1.drew) := ⟨below_drew (HB.out.mono hbase)⟩
      have hs2 : base ≤ W1.drew.heap.size := Nat.le_trans hbase HB.out.size
      have hlt2 : gw < W1.drew.heap.size := hlt1
      have hK2 : Kept W W1.drew (fun k => k = gw ∨ some k = (.slice A back.length c : Value).ownBlock) := (Kept.of_below HB.out _).drew
      have hz2 : W.heap.size ≤ W1.drew.heap.size := HB.out.size
      clear HW1 HR1 HBX
      generalize W1.drew = W2 at *
      refine pure_ (i := 0) (N := (some 16)) (v := ?_) (a' := ?_) #[true, false, false, false, false, false, false, false, false, false, false, false, false, false] rfl rfl (by kernel_rfl) (fun _ _ _ h => h) (Or.inl ⟨by rfl, ?_⟩) ?_ ?_
      rotate_left
      · intro w'
        go_simp
        with_reducible rfl
      rotate_left
      · simp only [Act.put, List.setIfInBounds_toArray, List.set_cons_zero, List.set_cons_succ, i64_w, i32_w]
        rfl
      refine pure_ (i := 1) (N := (some 17)) (v := ?_) (a' := ?_) #[true, true, false, false, false, false, false, false, false, false, false, false, false, false] rfl rfl (by kernel_rfl) (fun _ _ _ h => h) (Or.inl ⟨by rfl, ?_⟩) ?_ ?_
      rotate_left
      · intro w'
        go_simp
        with_reducible rfl
      rotate_left
      · simp only [Act.put, List.setIfInBounds_toArray, List.set_cons_zero, List.set_cons_succ, i64_w, i32_w]
        rfl
      refine pure_ (i := 2) (N := (some 18)) (v := ?_) (a' := ?_) #[true, true, true, false, false, false, false, false, false, false, false, false, false, false] rfl rfl (by kernel_rfl) (fun _ _ _ h => h) (Or.inl ⟨by rfl, ?_⟩) ?_ ?_
      rotate_left
      · intro w'
        go_simp
        with_reducible rfl
      rotate_left
      · simp only [Act.put, List.setIfInBounds_toArray, List.set_cons_zero, List.set_cons_succ, i64_w, i32_w]
        rfl
      refine pure_ (i := 3) (N := (some 19)) (v := ?_) (a' := ?_) #[true, true, true, true, false, false, false, false, false, false, false, false, false, false] rfl rfl (by kernel_rfl) (fun _ _ _ h => h) (Or.inl ⟨by rfl, ?_⟩) ?_ ?_
      rotate_left
      · intro w'
        go_simp
        with_reducible rfl
      rotate_left
      · simp only [Act.put, List.setIfInBounds_toArray, List.set_cons_zero, List.set_cons_succ, i64_w, i32_w]
        rfl
      refine take_ (i := 4) (N := (some 20)) (v := ?_) (a' := ?_) #[true, true, true, true, true, false, false, false, false, false, false, false, false, false] rfl rfl (by kernel_rfl) (fun _ _ _ h => h) (Or.inl ⟨by rfl, ?_⟩) hHeld ?_ ?_
      rotate_left
      · rintro w' ⟨s0, s1⟩
        go_simp
        with_reducible rfl
      rotate_left
      · simp only [Act.put, List.setIfInBounds_toArray, List.set_cons_zero, List.set_cons_succ, i64_w, i32_w]
        rfl
      refine pure_ (i := 5) (N := (some 21)) (v := ?_) (a' := ?_) #[true, true, true, true, true, true, false, false, false, false, false, false, false, false] rfl rfl (by kernel_rfl) (fun _ _ _ h => h) (Or.inl ⟨by rfl, ?_⟩) ?_ ?_
      rotate_left
      · intro w'
        go_simp
        with_reducible rfl
      rotate_left
      · simp only [Act.put, List.setIfInBounds_toArray, List.set_cons_zero, List.set_cons_succ, i64_w, i32_w]
        rfl
      refine pure_ (i := 6) (N := (some 22)) (v := ?_) (a' := ?_) #[true, true, true, true, true, true, true, false, false, false, false, false, false, false] rfl rfl (by kernel_rfl) (fun _ _ _ h => h) (Or.inl ⟨by rfl, ?_⟩) ?_ ?_
      rotate_left
      · intro w'
        go_simp
        with_reducible rfl
      rotate_left
      · simp only [Act.put, List.setIfInBounds_toArray, List.set_cons_zero, List.set_cons_succ, i64_w, i32_w]
        rfl
      refine pure_ (i := 7) (N := (some 23)) (v := ?_) (a' := ?_) #[true, true, true, true, true, true, true, true, false, false, false, false, false, false] rfl rfl (by kernel_rfl) (fun _ _ _ h => h) (Or.inl ⟨by rfl, ?_⟩) ?_ ?_
      rotate_left
      · intro w'
        go_simp
        with_reducible rfl
      rotate_left
      · simp only [Act.put, List.setIfInBounds_toArray, List.set_cons_zero, List.set_cons_succ, i64_w, i32_w]
        rfl
      refine take_ (i := 8) (N := (some 24)) (v := ?_) (a' := ?_) #[true, true, true, true, true, true, true, true, true, false, false, false, false, false] rfl rfl (by kernel_rfl) (fun _ _ _ h => h) (Or.inl ⟨by rfl, ?_⟩) hHeld ?_ ?_
      rotate_left
      · rintro w' ⟨s0, s1⟩
        go_simp
        with_reducible rfl
      rotate_left
      · simp only [Act.put, List.setIfInBounds_toArray, List.set_cons_zero, List.set_cons_succ, i64_w, i32_w]
        rfl
      refine one_ (i := 9) (N := (some 25)) #[true, true, true, true, true, true, true, true, true, true, false, false, false, false] rfl rfl (by kernel_rfl) (by decide) (fun K hK => ?_)
      refine value_ (w1 := W2.alloc (.cells #[.int .i64 at_] 3)) (v := .slice (some ⟨W2.heap.size, 0, none⟩) 1 1) (by rfl) rfl ?_ ?_
      · go_simp
      refine hK.out _ _ (⟨cell_below' (below_alloc (Below.refl _ _) _) (cell_in HW2.out 0), cell_below' (below_alloc (Below.refl _ _) _) (cell_in HW2.out 1)⟩) (fun hHeld => ?_)
      clear hK K
      refine norm_ (a' := ?_) ?_ ?_
      rotate_left
      · show Act.put _ (some 25) _ = _
        simp only [Act.put, List.setIfInBounds_toArray, List.set_cons_zero, List.set_cons_succ, i64_w, i32_w]
        rfl
      refine one_ (i := 10) (N := (some 26)) #[true, true, true, true, true, true, true, true, true, true, true, false, false, false] rfl rfl (by kernel_rfl) (by decide) (fun K hK => ?_)
      refine Kd.R_append_step (Kd.int .i64) (w0 := W) base (by rfl) (.tmp 20) (.tmp 25) 72 3 (.int .i64 0) 8 rfl Try.underlying72 info3 rfl (by decide) (by omega) (.slice A back.length c) back at_ [.int .i64 at_] (fun k => k ≠ gw) (fun _ => False) rfl rfl ?aP (fun _ hk => hk.elim) ?aF ?aO ?aB ?aS ?aL ?_
      (case aP => exact rfl)
      (case aF => exact fun k hk he => by subst he; omega)
      (case aO => exact HR2.out)
      (case aB => exact HB2.out)
      (case aS => exact hs2)
      (case aL => have := HL.out; omega)
      intro v1 w1 hr1 hb1 hg1 hat1
      obtain ⟨A1, n1, rfl⟩ := Kd.R_slice hr1
      obtain ⟨ln, hln⟩ : ∃ ln, (back ++ [at_]).length = ln := ⟨_, rfl⟩
      rw [hln] at hr1 hat1 ⊢
      clear hln
      have HW3 : Aside0 (w1.heap[gw]? = some (.cells #[.int .i64 at_, .slice A back.length c] 122 (0, 0))) := ⟨(hg1.block gw hlt2 (Kd.R_away HR2.out (fun k hk => hk))).trans HW2.out⟩
      have HR3 := Aside0.mk hr1
      have HX3 : Aside0 (w1.heap[gb]? = some (.cells #[.int .i64 6, .int .i64 c1, .int .i64 c2, .int .i64 c3, .int .i64 c4, .int .i64 c5, .int .i64 tt] 98 (0, 0))) := ⟨(hg1.block gb (lt_of_block HX2.out) (fun he => by have := HGO.out gb he.symm; omega)).trans HX2.out⟩
      refine hK.out _ _ (⟨cell_in HW3.out 0, cell_in HW3.out 1⟩) (fun hHeld => ?_)
      clear hK K
      refine norm_ (a' := ?_) ?_ ?_
      rotate_left
      · show Act.put _ (some 26) _ = _
        simp only [Act.put, List.setIfInBounds_toArray, List.set_cons_zero, List.set_cons_succ, i64_w, i32_w]
        rfl
      have x1 : w1.cell? ⟨gw, 1, none⟩ = some (.slice A back.length c) := cell_in HW3.out 1
      have x2 : w1.frozen? ⟨gw, 1, none⟩ = false := free_in HW3.out 1
      refine pure_ (i := 11) (N := (some 27)) (v := ?_) (a' := ?_) #[true, true, true, true, true, true, true, true, true, true, true, true, false, false] rfl rfl (by kernel_rfl) (fun _ _ _ h => h) (Or.inl ⟨by rfl, ?_⟩) ?_ ?_
      rotate_left
      · intro w'
        go_simp
        with_reducible rfl
      rotate_left
      · simp only [Act.put, List.setIfInBounds_toArray, List.set_cons_zero, List.set_cons_succ, i64_w, i32_w]
        rfl
      refine pure_ (i := 12) (N := (some 28)) (v := ?_) (a' := ?_) #[true, true, true, true, true, true, true, true, true, true, true, true, true, false] rfl rfl (by kernel_rfl) (fun _ _ _ h => h) (Or.inl ⟨by rfl, ?_⟩) ?_ ?_
      rotate_left
      · intro w'
        go_simp
        with_reducible rfl
      rotate_left
      · simp only [Act.put, List.setIfInBounds_toArray, List.set_cons_zero, List.set_cons_succ, i64_w, i32_w]
        rfl
      refine last_ (i := 13) (N := none) #[true, true, true, true, true, true, true, true, true, true, true, true, true, true] rfl rfl (by kernel_rfl) (by decide) (fun K hK => ?_)
      refine skip_ (w1 := w1.setCell ⟨gw, 1, none⟩ (.slice A1 ln n1)) (by rfl) rfl ?_ ?_
      · go_simp
      refine hK.out _ _ ?_
      clear hK K
      have y1 : (w1.setCell ⟨gw, 1, none⟩ (.slice A1 ln n1)).cell? ⟨gb, 6, none⟩ = some (.int .i64 tt) := (cell_in ((set_ne 1 _ (Ne.symm hbw)).trans HX3.out) 6)
      have y2 : (w1.setCell ⟨gw, 1, none⟩ (.slice A1 ln n1)).cell? ⟨gw, 0, none⟩ = some (.int .i64 at_) := cell_in (set_in HW3.out 1 (.slice A1 ln n1)) 0
      have y3 : (w1.setCell ⟨gw, 1, none⟩ (.slice A1 ln n1)).frozen? ⟨gw, 0, none⟩ = false := free_in (set_in HW3.out 1 (.slice A1 ln n1)) 0
      clear x1 x2
      refine done_ (by kernel_rfl) ?_
      go_wp2
      go_ret
      refine ⟨rfl, .slice A1 ln n1, ?_, ?_, ?_, ?_, ?_⟩
      · have h1 := set_in HW3.out 1 (.slice A1 ln n1)
        have h2 := set_in h1 0 (.int .i64 tt)
        exact h2
      · exact Kd.R_far (Kd.R_far HR3.out (fun k hk => hk) _) (fun k hk => hk) _
      · exact ((Kept.of_grown hg1 hK2 (fun k hk => .inl (.inr hk.symm))).setCell (.inl (.inl rfl)) _).setCell (.inl (.inl rfl)) _
      · rcases hat1 with h | ⟨bb, h1, h2⟩
        · exact .inl h
        · exact .inr ⟨bb, h1, by omega⟩
      · exact (hb1.setCell hgb _).setCell hgb _
  by_cases h8 : op = 8
  · subst h8
    have e : turnF 8 tt at_ back = (0, tt, back) := by rw [turnF, if_neg (by decide), if_pos rfl]
    rw [e]
    clear e h6
    go_enter Try.func80, Try.ntmps80
    go_wp2
    go_ret
    refine ⟨rfl, .slice A back.length c, ?_, Kd.R_alloc (Kd.R_far HR.out (fun k hk => hk) _) _, ((Kept.refl W _).setCell (.inl (.inl rfl)) _).alloc _, .inl rfl, ((Below.refl base W).setCell hgb _).alloc (by show base ≤ (W.setCell ⟨gw, 0, none⟩ (.int .i64 tt)).heap.size; simpa [World.setCell] using hbase) _⟩
    exact (heap_alloc_old _ _ (by simpa [World.setCell] using hlt)).trans (set_in HW.out 0 (.int .i64 tt))
  by_cases h7 : op = 7
  · subst h7
    by_cases h0 : back.length = 0
    · have e : turnF 7 tt at_ back = (11, at_, back) := by rw [turnF, if_neg (by decide), if_neg (by decide), if_pos rfl, if_pos h0]
      rw [e]
      rw [h0] at k1
      clear e h6 h8
      go_enter Try.func80, Try.ntmps80
      go_wp2
      go_ret
      exact ⟨rfl, turned_same HW.out HR.out _ HB.out hbase 11⟩
    · have e : turnF 7 tt at_ back = (0, rd back ((back.length : Int) - 1), back.take (back.length - 1)) := by rw [turnF, if_neg (by decide), if_neg (by decide), if_pos rfl, if_neg h0]
      rw [e]
      obtain ⟨m, hm⟩ : ∃ m, back.length = m + 1 := ⟨back.length - 1, by omega⟩
      obtain ⟨g, c', ev, hg1, hg2, _⟩ := Kd.R_form HR.out (by omega)
      injection ev with eA _ ec
      subst eA
      subst ec
      have hgw : g ≠ gw := fun he => by have := Kd.R_away HR.out (fun k hk => hk); exact this (by rw [← he]; rfl)
      obtain ⟨ad, eA, hz⟩ := Kd.at_int (Kd.R_reads' HR.out).2.2 (m : Int) (by omega) (by omega)
      obtain rfl := Option.some.inj eA
      rw [addr0_add, Int.toNat_natCast] at hz
      have ez : rd back ((back.length : Int) - 1) = rd back (m : Int) := by congr 1; omega
      rw [ez, show back.length - 1 = m by omega]
      obtain ⟨z, hzz⟩ : ∃ z, rd back (m : Int) = z := ⟨_, rfl⟩
      rw [hzz] at hz ⊢
      have HM := Aside0.mk hm
      have HZ := Aside0.mk hz
      have hml : back.length ≤ 9223372036854775807 := (Kd.R_reads' HR.out).2.2.2.1
      have hwm : wrap64 ((back.length : Int) - 1) = (m : Int) := by unfold wrap64; omega
      clear hm hml e h6 h8 h0 hz hzz ez eA
      go_enter Try.func80, Try.ntmps80
      go_wp2
      clear k0 k1 kz hwm
      generalize W.alloc (.cells #[.int .i64 7, .int .i64 c1, .int .i64 c2, .int .i64 c3, .int .i64 c4, .int .i64 c5, .int .i64 tt] 98) = W1 at *
      have HW1 := Aside0.mk ((HB.out.block gw hlt).trans HW.out)
      have HR1 := Aside0.mk (Kd.R_below HR.out HB.out)
      have HZ1 := Aside0.mk (cell_below' HB.out HZ.out)
      have pmc : (m ≤ c) = True := eq_true (by have := (Kd.R_reads' HR.out).2.1; have := HM.out; omega)
      have p0 : ((m : Int) < (back.length : Int)) = True := eq_true (by have := HM.out; omega)
      have p0n : (m < back.length) = True := eq_true (by have := HM.out; omega)
      refine start_ (n := 21) (S := fun w' => w'.cell? ⟨gw, 1, none⟩ = some (.slice (some ⟨g, 0, none⟩) back.length c) ∧ w'.cell? ⟨g, m, none⟩ = some (.int .i64 z)) (ds := [17, 20]) #[false, false, false, false, false, false, false, false, false, false, false, false, false, false, false, false, false, false, false, false, false] (by kernel_rfl) rfl rfl (⟨cell_in HW1.out 1, HZ1.out⟩) (fun hHeld => ?_)
      have HW2 : Aside0 (W1.drew.heap[gw]? = some (.cells #[.int .i64 at_, .slice (some ⟨g, 0, none⟩) back.length c] 122 (0, 0))) := ⟨HW1.out⟩
      have HR2 := Aside0.mk (Kd.R_drew HR1.out)
      have HB2 : Aside0 (Below base W W1.drew) := ⟨below_drew (HB.out.mono hbase)⟩
      have hK2 : Kept W W1.drew (fun k => k = gw ∨ some k = (.slice (some ⟨g, 0, none⟩) back.length c : Value).ownBlock) := (Kept.of_below HB.out _).drew
      clear HW1 HR1 HBX HZ1 HZ
      generalize W1.drew = W2 at *
      refine pure_ (i := 0) (N := (some 51)) (v := ?_) (a' := ?_) #[true, false, false, false, false, false, false, false, false, false, false, false, false, false, false, false, false, false, false, false, false] rfl rfl (by kernel_rfl) (fun _ _ _ h => h) (Or.inl ⟨by rfl, ?_⟩) ?_ ?_
      rotate_left
      · intro w'
        go_simp
        with_reducible rfl
      rotate_left
      · simp only [Act.put, List.setIfInBounds_toArray, List.set_cons_zero, List.set_cons_succ, i64_w, i32_w]
        rfl
      refine pure_ (i := 1) (N := (some 52)) (v := ?_) (a' := ?_) #[true, true, false, false, false, false, false, false, false, false, false, false, false, false, false, false, false, false, false, false, false] rfl rfl (by kernel_rfl) (fun _ _ _ h => h) (Or.inl ⟨by rfl, ?_⟩) ?_ ?_
      rotate_left
      · intro w'
        go_simp
        with_reducible rfl
      rotate_left
      · simp only [Act.put, List.setIfInBounds_toArray, List.set_cons_zero, List.set_cons_succ, i64_w, i32_w]
        rfl
      refine pure_ (i := 2) (N := (some 53)) (v := ?_) (a' := ?_) #[true, true, true, false, false, false, false, false, false, false, false, false, false, false, false, false, false, false, false, false, false] rfl rfl (by kernel_rfl) (fun _ _ _ h => h) (Or.inl ⟨by rfl, ?_⟩) ?_ ?_
      rotate_left
      · intro w'
        go_simp
        with_reducible rfl
      rotate_left
      · simp only [Act.put, List.setIfInBounds_toArray, List.set_cons_zero, List.set_cons_succ, i64_w, i32_w]
        rfl
      refine pure_ (i := 3) (N := (some 54)) (v := ?_) (a' := ?_) #[true, true, true, true, false, false, false, false, false, false, false, false, false, false, false, false, false, false, false, false, false] rfl rfl (by kernel_rfl) (fun _ _ _ h => h) (Or.inl ⟨by rfl, ?_⟩) ?_ ?_
      rotate_left
      · intro w'
        go_simp
        with_reducible rfl
      rotate_left
      · simp only [Act.put, List.setIfInBounds_toArray, List.set_cons_zero, List.set_cons_succ, i64_w, i32_w]
        rfl
      refine pure_ (i := 4) (N := (some 55)) (v := ?_) (a' := ?_) #[true, true, true, true, true, false, false, false, false, false, false, false, false, false, false, false, false, false, false, false, false] rfl rfl (by kernel_rfl) (fun _ _ _ h => h) (Or.inl ⟨by rfl, ?_⟩) ?_ ?_
      rotate_left
      · intro w'
        go_simp
        with_reducible rfl
      rotate_left
      · simp only [Act.put, List.setIfInBounds_toArray, List.set_cons_zero, List.set_cons_succ, i64_w, i32_w]
        rfl
      refine take_ (i := 5) (N := (some 56)) (v := ?_) (a' := ?_) #[true, true, true, true, true, true, false, false, false, false, false, false, false, false, false, false, false, false, false, false, false] rfl rfl (by kernel_rfl) (fun _ _ _ h => h) (Or.inl ⟨by rfl, ?_⟩) hHeld ?_ ?_
      rotate_left
      · rintro w' ⟨s0, s1⟩
        go_simp
        with_reducible rfl
      rotate_left
      · simp only [Act.put, List.setIfInBounds_toArray, List.set_cons_zero, List.set_cons_succ, i64_w, i32_w]
        rfl
      refine pure_ (i := 6) (N := (some 57)) (v := ?_) (a' := ?_) #[true, true, true, true, true, true, true, false, false, false, false, false, false, false, false, false, false, false, false, false, false] rfl rfl (by kernel_rfl) (fun _ _ _ h => h) (Or.inl ⟨by rfl, ?_⟩) ?_ ?_
      rotate_left
      · intro w'
        go_simp
        with_reducible rfl
      rotate_left
      · simp only [Act.put, List.setIfInBounds_toArray, List.set_cons_zero, List.set_cons_succ, i64_w, i32_w]
        rfl
      refine pure_ (i := 7) (N := (some 58)) (v := ?_) (a' := ?_) #[true, true, true, true, true, true, true, true, false, false, false, false, false, false, false, false, false, false, false, false, false] rfl rfl (by kernel_rfl) (fun _ _ _ h => h) (Or.inl ⟨by rfl, ?_⟩) ?_ ?_
      rotate_left
      · intro w'
        go_simp
        with_reducible rfl
      rotate_left
      · simp only [Act.put, List.setIfInBounds_toArray, List.set_cons_zero, List.set_cons_succ, i64_w, i32_w]
        rfl
      refine take_ (i := 8) (N := (some 59)) (v := ?_) (a' := ?_) #[true, true, true, true, true, true, true, true, true, false, false, false, false, false, false, false, false, false, false, false, false] rfl rfl (by kernel_rfl) (fun _ _ _ h => h) (Or.inl ⟨by rfl, ?_⟩) hHeld ?_ ?_
      rotate_left
      · rintro w' ⟨s0, s1⟩
        go_simp
        with_reducible rfl
      rotate_left
      · simp only [Act.put, List.setIfInBounds_toArray, List.set_cons_zero, List.set_cons_succ, i64_w, i32_w]
        rfl
      refine pure_ (i := 9) (N := (some 60)) (v := ?_) (a' := ?_) #[true, true, true, true, true, true, true, true, true, true, false, false, false, false, false, false, false, false, false, false, false] rfl rfl (by kernel_rfl) (fun _ _ _ h => h) (Or.inl ⟨by rfl, ?_⟩) ?_ ?_
      rotate_left
      · intro w'
        go_simp
        with_reducible rfl
      rotate_left
      · simp only [Act.put, List.setIfInBounds_toArray, List.set_cons_zero, List.set_cons_succ, i64_w, i32_w]
        rfl
      refine pure_ (i := 10) (N := (some 61)) (v := ?_) (a' := ?_) #[true, true, true, true, true, true, true, true, true, true, true, false, false, false, false, false, false, false, false, false, false] rfl rfl (by kernel_rfl) (fun _ _ _ h => h) (Or.inl ⟨by rfl, ?_⟩) ?_ ?_
      rotate_left
      · intro w'
        go_simp
        with_reducible rfl
      rotate_left
      · simp only [Act.put, List.setIfInBounds_toArray, List.set_cons_zero, List.set_cons_succ, i64_w, i32_w]
        rfl
      refine pure_ (i := 11) (N := (some 62)) (v := ?_) (a' := ?_) #[true, true, true, true, true, true, true, true, true, true, true, true, false, false, false, false, false, false, false, false, false] rfl rfl (by kernel_rfl) (fun _ _ _ h => h) (Or.inl ⟨by rfl, ?_⟩) ?_ ?_
      rotate_left
      · intro w'
        go_simp
        with_reducible rfl
      rotate_left
      · simp only [Act.put, List.setIfInBounds_toArray, List.set_cons_zero, List.set_cons_succ, i64_w, i32_w]
        rfl
      refine take_ (i := 12) (N := (some 63)) (v := ?_) (a' := ?_) #[true, true, true, true, true, true, true, true, true, true, true, true, true, false, false, false, false, false, false, false, false] rfl rfl (by kernel_rfl) (fun _ _ _ h => h) (Or.inl ⟨by rfl, ?_⟩) hHeld ?_ ?_
      rotate_left
      · rintro w' ⟨s0, s1⟩
        go_simp
        with_reducible rfl
      rotate_left
      · simp only [Act.put, List.setIfInBounds_toArray, List.set_cons_zero, List.set_cons_succ, i64_w, i32_w]
        rfl
      refine pure_ (i := 13) (N := (some 64)) (v := ?_) (a' := ?_) #[true, true, true, true, true, true, true, true, true, true, true, true, true, true, false, false, false, false, false, false, false] rfl rfl (by kernel_rfl) (fun _ _ _ h => h) (Or.inl ⟨by rfl, ?_⟩) ?_ ?_
      rotate_left
      · intro w'
        go_simp
        with_reducible rfl
      rotate_left
      · simp only [Act.put, List.setIfInBounds_toArray, List.set_cons_zero, List.set_cons_succ, i64_w, i32_w]
        rfl
      refine pure_ (i := 14) (N := (some 65)) (v := ?_) (a' := ?_) #[true, true, true, true, true, true, true, true, true, true, true, true, true, true, true, false, false, false, false, false, false] rfl rfl (by kernel_rfl) (fun _ _ _ h => h) (Or.inl ⟨by rfl, ?_⟩) ?_ ?_
      rotate_left
      · intro w'
        go_simp
        with_reducible rfl
      rotate_left
      · simp only [Act.put, List.setIfInBounds_toArray, List.set_cons_zero, List.set_cons_succ, i64_w, i32_w]
        rfl
      refine pure_ (i := 15) (N := (some 66)) (v := ?_) (a' := ?_) #[true, true, true, true, true, true, true, true, true, true, true, true, true, true, true, true, false, false, false, false, false] rfl rfl (by kernel_rfl) (fun _ _ _ h => h) (Or.inl ⟨by rfl, ?_⟩) ?_ ?_
      rotate_left
      · intro w'
        go_simp
        with_reducible rfl
      rotate_left
      · simp only [Act.put, List.setIfInBounds_toArray, List.set_cons_zero, List.set_cons_succ, i64_w, i32_w]
        rfl
      refine pure_ (i := 16) (N := (some 67)) (v := ?_) (a' := ?_) #[true, true, true, true, true, true, true, true, true, true, true, true, true, true, true, true, true, false, false, false, false] rfl rfl (by kernel_rfl) (fun _ _ _ h => h) (Or.inl ⟨by rfl, ?_⟩) ?_ ?_
      rotate_left
      · intro w'
        go_simp
        with_reducible rfl
      rotate_left
      · simp only [Act.put, List.setIfInBounds_toArray, List.set_cons_zero, List.set_cons_succ, i64_w, i32_w]
        rfl
      refine last_ (i := 17) (N := none) #[true, true, true, true, true, true, true, true, true, true, true, true, true, true, true, true, true, true, false, false, false] rfl rfl (by kernel_rfl) (by decide) (fun K hK => ?_)
      refine skip_ (w1 := W2.setCell ⟨gw, 0, none⟩ (.int .i64 z)) (by rfl) rfl ?_ ?_
      · have x1 : W2.cell? ⟨gw, 0, none⟩ = some (.int .i64 at_) := cell_in HW2.out 0
        have x2 : W2.frozen? ⟨gw, 0, none⟩ = false := free_in HW2.out 0
        go_simp
      refine hK.out _ _ ?_
      clear hK K
      refine pure_ (i := 18) (N := (some 68)) (v := ?_) (a' := ?_) #[true, true, true, true, true, true, true, true, true, true, true, true, true, true, true, true, true, true, true, false, false] rfl rfl (by kernel_rfl) (fun _ _ _ h => h) (Or.inl ⟨by rfl, ?_⟩) ?_ ?_
      rotate_left
      · intro w'
        go_simp
        with_reducible rfl
      rotate_left
      · simp only [Act.put, List.setIfInBounds_toArray, List.set_cons_zero, List.set_cons_succ, i64_w, i32_w]
        rfl
      refine pure_ (i := 19) (N := (some 69)) (v := ?_) (a' := ?_) #[true, true, true, true, true, true, true, true, true, true, true, true, true, true, true, true, true, true, true, true, false] rfl rfl (by kernel_rfl) (fun _ _ _ h => h) (Or.inl ⟨by rfl, ?_⟩) ?_ ?_
      rotate_left
      · intro w'
        go_simp
        with_reducible rfl
      rotate_left
      · simp only [Act.put, List.setIfInBounds_toArray, List.set_cons_zero, List.set_cons_succ, i64_w, i32_w]
        rfl
      refine last_ (i := 20) (N := none) #[true, true, true, true, true, true, true, true, true, true, true, true, true, true, true, true, true, true, true, true, true] rfl rfl (by kernel_rfl) (by decide) (fun K hK => ?_)
      refine skip_ (w1 := (W2.setCell ⟨gw, 0, none⟩ (.int .i64 z)).setCell ⟨gw, 1, none⟩ (.slice (some ⟨g, 0, none⟩) m c)) (by rfl) rfl ?_ ?_
      · have x1 : (W2.setCell ⟨gw, 0, none⟩ (.int .i64 z)).cell? ⟨gw, 1, none⟩ = some (.slice (some ⟨g, 0, none⟩) back.length c) := cell_in (set_in HW2.out 0 (.int .i64 z)) 1
        have x2 : (W2.setCell ⟨gw, 0, none⟩ (.int .i64 z)).frozen? ⟨gw, 1, none⟩ = false := free_in (set_in HW2.out 0 (.int .i64 z)) 1
        go_simp
      refine hK.out _ _ ?_
      clear hK K
      refine done_ (by kernel_rfl) ?_
      go_wp2
      go_ret
      refine ⟨rfl, .slice (some ⟨g, 0, none⟩) m c, ?_, ?_, ?_, .inl rfl, ?_⟩
      · exact set_in (set_in HW2.out 0 (.int .i64 z)) 1 (.slice (some ⟨g, 0, none⟩) m c)
      · exact Kd.R_far (Kd.R_far (Kd.R_take HR2.out (by have := HM.out; omega)) (fun k hk => hk) _) (fun k hk => hk) _
      · exact (hK2.setCell (.inl (.inl rfl)) _).setCell (.inl (.inl rfl)) _
      · exact (HB2.out.setCell hgb _).setCell hgb _
  have e : turnF op tt at_ back = (0, at_, back) := by rw [turnF, if_neg h6, if_neg h8, if_neg h7]
  rw [e]
  have d6 : (op == 6) = false := by simpa using h6
  have d7 : (op == 7) = false := by simpa using h7
  have d8 : (op == 8) = false := by simpa using h8
  clear e h6 h7 h8
  go_enter Try.func80, Try.ntmps80
  go_wp2
  go_ret
  exact ⟨rfl, turned_same HW.out HR.out _ HB.out hbase 0⟩
end Go.Proofs.Ytbaapakkdnhcmaa.PWe
