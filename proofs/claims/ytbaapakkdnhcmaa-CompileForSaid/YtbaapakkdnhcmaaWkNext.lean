/- What walk.Windows reads next: the closure's walk. Helper text. -/
import Derived.Test.YtbaapakkdnhcmaaWkTurn
namespace Go.Proofs.Ytbaapakkdnhcmaa.PWe
open Go.RowKit Go.Proofs.Ytbaapakkdnhcmaa.Kx Go.Proofs.YtbaapakkdnhcmaaW.PrintWords Go.Proofs.YtbaapakkdnhcmaaW.PrintLast Go.Proofs.YtbaapakkdnhcmaaW.PrintMore
set_option linter.unusedVariables false
set_option linter.unusedSimpArgs false

theorem cmdC_len (rest : List Int) (x : Int) : (cmdC rest x).length = 7 := by
  unfold cmdC
  split
  · rw [List.length_set, fillK_len]
  · exact fillK_len _ _ _ _
theorem results_ct {fn : Func} {p u1 : Tmp} {ty : TypeId} (h : fn.results = #[.cell p ty, .tmp u1]) (tmps : Array Value) (w : World) (g : Nat) (cs : Array Value)
    (hp : tmps.getD p undef = .pointer (some ⟨g, 0, none⟩)) (hl : (loadVar ty ⟨g, 0, none⟩).run Try.prog w = .ok (.agg cs) w) :
    (results fn tmps).run Try.prog w = .ok (.tuple #[.agg cs, tmps.getD u1 undef]) w := by
  have hp' : tmps[p]?.getD undef = .pointer (some ⟨g, 0, none⟩) := by simpa using hp
  simp [results, h, hp', asAddr, hl]
theorem readF_len {k : Nat} {b : List Int} {at_ : Int} {r : List Int × Int × Int} (h : readF k b at_ = some r) : r.1.length = 7 := by
  unfold readF at h
  split at h
  · obtain rfl := Option.some.inj h; rfl
  split at h
  · obtain rfl := Option.some.inj h; rfl
  split at h
  · obtain rfl := Option.some.inj h; rfl
  split at h
  · obtain rfl := Option.some.inj h; rfl
  split at h
  · obtain rfl := Option.some.inj h; rfl
  obtain ⟨q, _, h⟩ := Option.bind_eq_some_iff.mp h
  split at h
  · obtain rfl := Option.some.inj h; exact cmdC_len _ _
  · obtain rfl := Option.some.inj h; rfl

set_option maxHeartbeats 4000000 in
set_option maxRecDepth 100000 in
theorem next_any (k : Nat) (md e0 e1 at_ : Int) (code : List Int) (A : Option Addr) (c gm gp gw base : Nat) (v : Value) (r : List Int × Int × Int) (W : World) (hm : W.heap[gm]? = some (.cells #[.int .i64 md, .int .i64 e0, .int .i64 e1, .slice A code.length c] 25 (0, 0))) (hp : W.heap[gp]? = some (.cells #[.pointer (some ⟨gw, 0, none⟩)] 120 (0, 0)))
    (hw : W.heap[gw]? = some (.cells #[.int .i64 at_, v] 122 (0, 0))) (hA : Kd.C (Kd.int .u8) W A code.length code) (hc : code.length ≤ c) (hr : readF k code at_ = some r) (hbase : base ≤ W.heap.size) (hgb : base ≤ gw) (h1 : gm ≠ gw) (h2 : gp ≠ gw) :
    Calls Try.prog 78 #[.pointer (some ⟨gm, 0, none⟩), .pointer (some ⟨gp, 0, none⟩)] W fun e W' => e = .returned (.tuple #[.agg (cc r.1), .int .i64 r.2.2]) ∧ W'.heap[gw]? = some (.cells #[.int .i64 r.2.1, v] 122 (0, 0)) ∧ Kept W W' (fun k => k = gw) ∧ Below base W W' := by
  have HM := Aside0.mk hm
  have HP := Aside0.mk hp
  have HW := Aside0.mk hw
  have HA := Aside0.mk hA
  have HR := Aside0.mk hr
  have hltm := lt_of_block hm
  have hltp := lt_of_block hp
  have hltw := lt_of_block hw
  have HCL : Aside0 (r.1.length = 7) := ⟨readF_len hr⟩
  obtain ⟨C, n, er⟩ := r
  replace HCL : Aside0 (C.length = 7) := HCL
  have hz := Try.underlying98
  clear hm hp hw hA hr
  go_enter Try.func78, Try.ntmps78
  go_wp2
  clear hz
  obtain ⟨g2, hg2⟩ : ∃ g, W.heap.size = g := ⟨_, rfl⟩
  have H2 : Aside0 ((W.alloc (.cells #[.int .i64 0, .int .i64 0, .int .i64 0, .int .i64 0, .int .i64 0, .int .i64 0, .int .i64 0] 98)).heap[g2]? = some (.cells (cc zero7) 98 (0, 0))) := ⟨by rw [← hg2]; exact heap_alloc_new _ _⟩
  have HB : Aside0 (Below W.heap.size W (W.alloc (.cells #[.int .i64 0, .int .i64 0, .int .i64 0, .int .i64 0, .int .i64 0, .int .i64 0, .int .i64 0] 98))) := ⟨below_alloc (Below.refl _ _) _⟩
  rw [hg2]
  generalize W.alloc (.cells #[.int .i64 0, .int .i64 0, .int .i64 0, .int .i64 0, .int .i64 0, .int .i64 0, .int .i64 0] 98) = W1 at *
  have HM1 := Aside0.mk ((HB.out.block gm hltm).trans HM.out)
  have HP1 := Aside0.mk ((HB.out.block gp hltp).trans HP.out)
  have HW1 := Aside0.mk ((HB.out.block gw hltw).trans HW.out)
  refine start_ (n := 17) (S := fun w' => w'.cell? ⟨gp, 0, none⟩ = some (.pointer (some ⟨gw, 0, none⟩)) ∧ w'.cell? ⟨gm, 3, none⟩ = some (.slice A code.length c) ∧ w'.cell? ⟨gw, 0, none⟩ = some (.int .i64 at_)) (ds := [15]) #[false, false, false, false, false, false, false, false, false, false, false, false, false, false, false, false, false] (by kernel_rfl) rfl rfl (⟨cell_in HP1.out 0, cell_in HM1.out 3, cell_in HW1.out 0⟩) (fun hHeld => ?_)
  have HM2 : Aside0 (W1.drew.heap[gm]? = some (.cells #[.int .i64 md, .int .i64 e0, .int .i64 e1, .slice A code.length c] 25 (0, 0))) := ⟨HM1.out⟩
  have HP2 : Aside0 (W1.drew.heap[gp]? = some (.cells #[.pointer (some ⟨gw, 0, none⟩)] 120 (0, 0))) := ⟨HP1.out⟩
  have HW2 : Aside0 (W1.drew.heap[gw]? = some (.cells #[.int .i64 at_, v] 122 (0, 0))) := ⟨HW1.out⟩
  have H22 : Aside0 (W1.drew.heap[g2]? = some (.cells (cc zero7) 98 (0, 0))) := ⟨H2.out⟩
  have HB2 : Aside0 (Below W.heap.size W W1.drew) := ⟨below_drew HB.out⟩
  clear HM1 HP1 HW1 H2 HB
  generalize W1.drew = W2 at *
  refine take_ (i := 0) (N := (some 5)) (v := ?_) (a' := ?_) #[true, false, false, false, false, false, false, false, false, false, false, false, false, false, false, false, false] rfl rfl (by kernel_rfl) (fun _ _ _ h => h) (Or.inl ⟨by rfl, ?_⟩) hHeld ?_ ?_
  rotate_left
  · rintro w' ⟨s0, s1, s2⟩
    go_simp
    with_reducible rfl
  rotate_left
  · simp only [Act.put, List.setIfInBounds_toArray, List.set_cons_zero, List.set_cons_succ, i64_w, i32_w]
    rfl
  refine pure_ (i := 1) (N := (some 6)) (v := ?_) (a' := ?_) #[true, true, false, false, false, false, false, false, false, false, false, false, false, false, false, false, false] rfl rfl (by kernel_rfl) (fun _ _ _ h => h) (Or.inl ⟨by rfl, ?_⟩) ?_ ?_
  rotate_left
  · intro w'
    go_simp
    with_reducible rfl
  rotate_left
  · simp only [Act.put, List.setIfInBounds_toArray, List.set_cons_zero, List.set_cons_succ, i64_w, i32_w]
    rfl
  refine take_ (i := 2) (N := (some 7)) (v := ?_) (a' := ?_) #[true, true, true, false, false, false, false, false, false, false, false, false, false, false, false, false, false] rfl rfl (by kernel_rfl) (fun _ _ _ h => h) (Or.inl ⟨by rfl, ?_⟩) hHeld ?_ ?_
  rotate_left
  · rintro w' ⟨s0, s1, s2⟩
    go_simp
    with_reducible rfl
  rotate_left
  · simp only [Act.put, List.setIfInBounds_toArray, List.set_cons_zero, List.set_cons_succ, i64_w, i32_w]
    rfl
  refine take_ (i := 3) (N := (some 8)) (v := ?_) (a' := ?_) #[true, true, true, true, false, false, false, false, false, false, false, false, false, false, false, false, false] rfl rfl (by kernel_rfl) (fun _ _ _ h => h) (Or.inl ⟨by rfl, ?_⟩) hHeld ?_ ?_
  rotate_left
  · rintro w' ⟨s0, s1, s2⟩
    go_simp
    with_reducible rfl
  rotate_left
  · simp only [Act.put, List.setIfInBounds_toArray, List.set_cons_zero, List.set_cons_succ, i64_w, i32_w]
    rfl
  refine pure_ (i := 4) (N := (some 9)) (v := ?_) (a' := ?_) #[true, true, true, true, true, false, false, false, false, false, false, false, false, false, false, false, false] rfl rfl (by kernel_rfl) (fun _ _ _ h => h) (Or.inl ⟨by rfl, ?_⟩) ?_ ?_
  rotate_left
  · intro w'
    go_simp
    with_reducible rfl
  rotate_left
  · simp only [Act.put, List.setIfInBounds_toArray, List.set_cons_zero, List.set_cons_succ, i64_w, i32_w]
    rfl
  refine pure_ (i := 5) (N := (some 10)) (v := ?_) (a' := ?_) #[true, true, true, true, true, true, false, false, false, false, false, false, false, false, false, false, false] rfl rfl (by kernel_rfl) (fun _ _ _ h => h) (Or.inl ⟨by rfl, ?_⟩) ?_ ?_
  rotate_left
  · intro w'
    go_simp
    with_reducible rfl
  rotate_left
  · simp only [Act.put, List.setIfInBounds_toArray, List.set_cons_zero, List.set_cons_succ, i64_w, i32_w]
    rfl
  refine take_ (i := 6) (N := (some 11)) (v := ?_) (a' := ?_) #[true, true, true, true, true, true, true, false, false, false, false, false, false, false, false, false, false] rfl rfl (by kernel_rfl) (fun _ _ _ h => h) (Or.inl ⟨by rfl, ?_⟩) hHeld ?_ ?_
  rotate_left
  · rintro w' ⟨s0, s1, s2⟩
    go_simp
    with_reducible rfl
  rotate_left
  · simp only [Act.put, List.setIfInBounds_toArray, List.set_cons_zero, List.set_cons_succ, i64_w, i32_w]
    rfl
  refine one_ (i := 7) (N := (some 12)) #[true, true, true, true, true, true, true, true, false, false, false, false, false, false, false, false, false] rfl rfl (by kernel_rfl) (by decide) (fun K hK => ?_)
  refine goes_ Try.func79 (by kernel_rfl) rfl #[.slice A code.length c, .int .i64 at_] (by rfl) rfl rfl (by (try simp only [List.map_toArray, List.map_cons, List.map_nil]); first | done | rfl) ?_
  refine (read_any k code at_ A c (C, n, er) W2 (Kd.C_below HA.out HB2.out) hc HR.out).mono ?_
  rintro e W3 ⟨rfl, hb3⟩
  refine ⟨_, rfl, ?_⟩
  have HM3 := Aside0.mk (blk_below HM2.out hb3)
  have HP3 := Aside0.mk (blk_below HP2.out hb3)
  have HW3 := Aside0.mk (blk_below HW2.out hb3)
  have H23 := Aside0.mk (blk_below H22.out hb3)
  have HB3 := Aside0.mk (below_step HB2.out hb3)
  clear hb3 HM2 HP2 HW2 H22 HB2
  refine hK.out _ _ (⟨cell_in HP3.out 0, cell_in HM3.out 3, cell_in HW3.out 0⟩) (fun hHeld => ?_)
  clear hK K
  refine norm_ (a' := ?_) ?_ ?_
  rotate_left
  · show Act.put _ (some 12) _ = _
    simp only [Act.put, List.setIfInBounds_toArray, List.set_cons_zero, List.set_cons_succ, i64_w, i32_w]
    rfl
  refine pure_ (i := 8) (N := (some 4)) (v := ?_) (a' := ?_) #[true, true, true, true, true, true, true, true, true, false, false, false, false, false, false, false, false] rfl rfl (by kernel_rfl) (fun _ _ _ h => h) (Or.inl ⟨by rfl, ?_⟩) ?_ ?_
  rotate_left
  · intro w'
    go_simp
    with_reducible rfl
  rotate_left
  · simp only [Act.put, List.setIfInBounds_toArray, List.set_cons_zero, List.set_cons_succ, i64_w, i32_w]
    rfl
  refine pure_ (i := 9) (N := (some 13)) (v := ?_) (a' := ?_) #[true, true, true, true, true, true, true, true, true, true, false, false, false, false, false, false, false] rfl rfl (by kernel_rfl) (fun _ _ _ h => h) (Or.inl ⟨by rfl, ?_⟩) ?_ ?_
  rotate_left
  · intro w'
    go_simp
    with_reducible rfl
  rotate_left
  · simp only [Act.put, List.setIfInBounds_toArray, List.set_cons_zero, List.set_cons_succ, i64_w, i32_w]
    rfl
  refine pure_ (i := 10) (N := (some 14)) (v := ?_) (a' := ?_) #[true, true, true, true, true, true, true, true, true, true, true, false, false, false, false, false, false] rfl rfl (by kernel_rfl) (fun _ _ _ h => h) (Or.inl ⟨by rfl, ?_⟩) ?_ ?_
  rotate_left
  · intro w'
    go_simp
    with_reducible rfl
  rotate_left
  · simp only [Act.put, List.setIfInBounds_toArray, List.set_cons_zero, List.set_cons_succ, i64_w, i32_w]
    rfl
  refine pure_ (i := 11) (N := (some 15)) (v := ?_) (a' := ?_) #[true, true, true, true, true, true, true, true, true, true, true, true, false, false, false, false, false] rfl rfl (by kernel_rfl) (fun _ _ _ h => h) (Or.inl ⟨by rfl, ?_⟩) ?_ ?_
  rotate_left
  · intro w'
    go_simp
    with_reducible rfl
  rotate_left
  · simp only [Act.put, List.setIfInBounds_toArray, List.set_cons_zero, List.set_cons_succ, i64_w, i32_w]
    rfl
  refine one_ (i := 12) (N := none) #[true, true, true, true, true, true, true, true, true, true, true, true, true, false, false, false, false] rfl rfl (by kernel_rfl) (by decide) (fun K hK => ?_)
  rw [if_pos (by rfl)]
  refine wp_store_row 98 (.tmp 2) (.tmp 13) rfl g2 (cc C) (by rfl) (by rfl) 98 (cc zero7) H23.out (by rw [cc_size, HCL.out]; kernel_rfl) (by rw [cc_size, cc_size, HCL.out]; rfl) (cc_one _) ?_
  have hg2w : g2 ≠ gw := by omega
  have HW4 : Aside0 ((W3.setRow g2 (cc C)).heap[gw]? = some (.cells #[.int .i64 at_, v] 122 (0, 0))) := ⟨(setRow_other W3 g2 gw _ (Ne.symm hg2w)).trans HW3.out⟩
  have HP4 : Aside0 ((W3.setRow g2 (cc C)).heap[gp]? = some (.cells #[.pointer (some ⟨gw, 0, none⟩)] 120 (0, 0))) := ⟨(setRow_other W3 g2 gp _ (by omega)).trans HP3.out⟩
  have HM4 : Aside0 ((W3.setRow g2 (cc C)).heap[gm]? = some (.cells #[.int .i64 md, .int .i64 e0, .int .i64 e1, .slice A code.length c] 25 (0, 0))) := ⟨(setRow_other W3 g2 gm _ (by omega)).trans HM3.out⟩
  have H24 : Aside0 ((W3.setRow g2 (cc C)).heap[g2]? = some (.cells (cc C) 98 (0, 0))) := ⟨setRow_heap _ _ _ _ _ _ H23.out⟩
  have HB4 : Aside0 (Below W.heap.size W (W3.setRow g2 (cc C))) := ⟨Kx.below_setRow HB3.out (by omega)⟩
  generalize W3.setRow g2 (cc C) = W4 at *
  clear HM3 HP3 HW3 H23 HB3
  refine hK.out _ _ (⟨cell_in HP4.out 0, cell_in HM4.out 3, cell_in HW4.out 0⟩) (fun hHeld => ?_)
  clear hK K
  refine norm_ (a' := ?_) ?_ ?_
  rotate_left
  · show Act.put _ none _ = _
    rfl
  refine pure_ (i := 13) (N := (some 16)) (v := ?_) (a' := ?_) #[true, true, true, true, true, true, true, true, true, true, true, true, true, true, false, false, false] rfl rfl (by kernel_rfl) (fun _ _ _ h => h) (Or.inl ⟨by rfl, ?_⟩) ?_ ?_
  rotate_left
  · intro w'
    go_simp
    with_reducible rfl
  rotate_left
  · simp only [Act.put, List.setIfInBounds_toArray, List.set_cons_zero, List.set_cons_succ, i64_w, i32_w]
    rfl
  refine pure_ (i := 14) (N := (some 17)) (v := ?_) (a' := ?_) #[true, true, true, true, true, true, true, true, true, true, true, true, true, true, true, false, false] rfl rfl (by kernel_rfl) (fun _ _ _ h => h) (Or.inl ⟨by rfl, ?_⟩) ?_ ?_
  rotate_left
  · intro w'
    go_simp
    with_reducible rfl
  rotate_left
  · simp only [Act.put, List.setIfInBounds_toArray, List.set_cons_zero, List.set_cons_succ, i64_w, i32_w]
    rfl
  refine last_ (i := 15) (N := none) #[true, true, true, true, true, true, true, true, true, true, true, true, true, true, true, true, false] rfl rfl (by kernel_rfl) (by decide) (fun K hK => ?_)
  refine skip_ (w1 := W4.setCell ⟨gw, 0, none⟩ (.int .i64 n)) (by rfl) rfl ?_ ?_
  · have x1 : W4.cell? ⟨gw, 0, none⟩ = some (.int .i64 at_) := cell_in HW4.out 0
    have x2 : W4.frozen? ⟨gw, 0, none⟩ = false := free_in HW4.out 0
    go_simp
  refine hK.out _ _ ?_
  clear hK K
  refine pure_ (i := 16) (N := (some 3)) (v := ?_) (a' := ?_) #[true, true, true, true, true, true, true, true, true, true, true, true, true, true, true, true, true] rfl rfl (by kernel_rfl) (fun _ _ _ h => h) (Or.inl ⟨by rfl, ?_⟩) ?_ ?_
  rotate_left
  · intro w'
    go_simp
    with_reducible rfl
  rotate_left
  · simp only [Act.put, List.setIfInBounds_toArray, List.set_cons_zero, List.set_cons_succ, i64_w, i32_w]
    rfl
  refine done_ (by kernel_rfl) ?_
  have hgg : W.heap.size ≤ g2 := by omega
  have H25 : Aside0 ((W4.setCell ⟨gw, 0, none⟩ (.int .i64 n)).heap[g2]? = some (.cells (cc C) 98 (0, 0))) := ⟨(set_ne 0 _ (Ne.symm hg2w)).trans H24.out⟩
  have HW5 : Aside0 ((W4.setCell ⟨gw, 0, none⟩ (.int .i64 n)).heap[gw]? = some (.cells #[.int .i64 n, v] 122 (0, 0))) := ⟨set_in HW4.out 0 (.int .i64 n)⟩
  have HB5 : Aside0 (Below base W (W4.setCell ⟨gw, 0, none⟩ (.int .i64 n))) := ⟨(HB4.out.mono hbase).setCell hgb _⟩
  have HK5 : Aside0 (Kept W (W4.setCell ⟨gw, 0, none⟩ (.int .i64 n)) (fun k => k = gw)) := ⟨(Kept.of_below HB4.out (fun k => k = gw)).setCell (p := ⟨gw, 0, none⟩) (.inl rfl) _⟩
  clear HM4 HP4 HW4 H24 HB4 hHeld
  generalize W4.setCell ⟨gw, 0, none⟩ (.int .i64 n) = W5 at *
  go_wp2_with (first | (refine wpList_load_row rfl 98 _ rfl g2 rfl 98 _ (0, 0) _ H25.out Try.underlying98 rfl (by rw [cc_size, HCL.out]; kernel_rfl) ?_) | (refine wpList_store_row rfl 98 _ _ rfl g2 (cc C) rfl rfl 98 _ H25.out (by rw [cc_size, HCL.out]; kernel_rfl) (by rfl) (cc_one _) ?_))
  refine bodyPost_ret (results_ct (ty := 98) (p := 2) (u1 := 3) rfl _ _ g2 (cc C) rfl (run_loadVar_row _ g2 98 98 (cc C) (0, 0) _ (setRow_heap _ _ _ _ _ _ H25.out) Try.underlying98 rfl (by rw [cc_size, HCL.out]; kernel_rfl))) rfl ⟨rfl, (setRow_other _ g2 gw _ (Ne.symm hg2w)).trans HW5.out, ?_, Kx.below_setRow HB5.out (by omega)⟩
  refine ⟨by have := HK5.out.1; simpa using this, fun i hi hn => ?_⟩
  rw [setRow_other _ g2 i _ (by omega)]
  exact HK5.out.2 i hi hn
end Go.Proofs.Ytbaapakkdnhcmaa.PWe
