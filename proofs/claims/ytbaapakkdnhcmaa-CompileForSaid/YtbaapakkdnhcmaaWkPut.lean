/- cmd.Put, of a gap of seven bits: its walk. Helper text. -/
import Derived.Test.YtbaapakkdnhcmaaWkRead
namespace Go.Proofs.Ytbaapakkdnhcmaa.PWe
open Go.RowKit Go.Proofs.Ytbaapakkdnhcmaa.Kx Go.Proofs.YtbaapakkdnhcmaaW.PrintWords Go.Proofs.YtbaapakkdnhcmaaW.PrintLast Go.Proofs.YtbaapakkdnhcmaaW.PrintMore
set_option linter.unusedVariables false
set_option linter.unusedSimpArgs false
def cmd_Command_Put.f (a0 a1 a2 a3 a4 a5 a6 : Int) : Option (List Int × Int) := if a0 = 4 ∧ a1 = 0 ∧ a2 = 0 ∧ a3 = 0 ∧ a4 = 0 ∧ a5 = 7 ∧ a6 = 0 then some ([4, 7], 0) else none
set_option maxHeartbeats 4000000 in
set_option maxRecDepth 100000 in
theorem put_gap (w : World) : Calls Try.prog 86 #[.agg #[.int .i64 4, .int .i64 0, .int .i64 0, .int .i64 0, .int .i64 0, .int .i64 7, .int .i64 0]] w fun e w' => ∃ v0_ : Value, e = .returned (.tuple #[v0_, .int .i64 0]) ∧ Kd.R (Kd.int .u8) 5 w' w.heap.size (fun _ => True) v0_ [4, 7] ∧ Below w.heap.size w w' := by
  obtain ⟨g1, hg1⟩ : ∃ g, w.heap.size = g := ⟨_, rfl⟩
  have H1 : Aside0 ((w.alloc (.cells #[.int .i64 4, .int .i64 0, .int .i64 0, .int .i64 0, .int .i64 0, .int .i64 7, .int .i64 0] 98)).heap[g1]? = some (.cells (cc [4, 0, 0, 0, 0, 7, 0]) 98 (0, 0))) := ⟨by rw [← hg1]; exact heap_alloc_new _ _⟩
  have HB : Aside0 (Below w.heap.size w (w.alloc (.cells #[.int .i64 4, .int .i64 0, .int .i64 0, .int .i64 0, .int .i64 0, .int .i64 7, .int .i64 0] 98))) := ⟨below_alloc (Below.refl _ _) _⟩
  go_enter Try.func86, Try.ntmps86
  go_wp2_with (refine wpList_load_row rfl 98 _ rfl g1 rfl 98 _ (0, 0) _ H1.out Try.underlying98 rfl (by rw [cc_size]; kernel_rfl) ?_)
  refine (cmd_Command_Right.calls 16 4 0 0 0 0 7 0 true _ (by decide)).mono ?_
  rintro e w1 ⟨rfl, hb⟩
  replace HB := Aside0.mk (below_step HB.out hb)
  replace H1 := Aside0.mk (blk_below H1.out hb)
  clear hb
  have x0 := cell_in H1.out 0
  replace x0 : w1.cell? ⟨g1, 0, none⟩ = some (.int .i64 4) := x0
  go_wp2_with ((with_reducible refine gate_dst (N := 13) rfl ?_); refine Kd.R_lit (Kd.int .u8) (w0 := w) w.heap.size 5 ?hg (N := 13) ?hd (xs := ([4] : List Int)) (inner := [.int .u8 4]) (ok := fun _ => True) (okp := fun _ => True) ?hr ?hp (fun _ hk => hk) trivial HB.out (below_size HB.out) (by simp) ?_; (case hd => rfl); (case hg => rfl); (case hr => first | (go_simp; done) | (go_simp; rfl)); (case hp => exact Reps.one (show Kd.M (Kd.int .u8) _ _ _ 4 [.int .u8 4] from rfl) (Reps.none _ _)); intro v4 w2 ho2 hb2 hg2 hat2; have HO2 := Aside0.mk ho2; have HB2 := Aside0.mk hb2; have H12 := Aside0.mk (blk_grown H1.out hg2 (by simp)); clear ho2 hb2 hg2 hat2)
  refine (bytes_any 4 g1 _ w2 H12.out rfl).mono ?_
  rintro e w3 ⟨v, rfl, hp, hb3⟩
  obtain ⟨A, rfl, hq⟩ := ptrs_form hp
  simp only [show (offs 4).length = 1 from rfl]
  have HO3 := Aside0.mk (Kd.R_below HO2.out hb3)
  have H13 := Aside0.mk (blk_below H12.out hb3)
  have HB3 := Aside0.mk (below_step HB2.out hb3)
  obtain ⟨hh, rfl, hne, hcell⟩ := hq 0 (by decide)
  replace hcell : w3.cell? ⟨hh, 0, none⟩ = some (.pointer (some ⟨g1, 5, none⟩)) := hcell
  have HP3 := Aside0.mk hcell
  clear hp hb3 hq hcell HO2 H12 HB2 HB H1 x0
  replace HP3 : Aside0 (w3.cell? ⟨hh, 0, none⟩ = some (.pointer (some ⟨g1, 5, none⟩))) := HP3
  go_wp2_with fail
  go_loopw [4, 6, 16] (fun v4 v6 v16 wr => ∃ k : Nat, k ≤ 1 ∧ v16 = .int .i64 k ∧ Kd.R (Kd.int .u8) 5 wr w.heap.size (fun _ => True) v4 (if k = 0 then [4] else [4, 7]) ∧ wr.heap[g1]? = some (.cells (cc [4, 0, 0, 0, 0, 7, 0]) 98 (0, 0)) ∧ (k = 0 → wr.cell? ⟨hh, 0, none⟩ = some (.pointer (some ⟨g1, 5, none⟩))) ∧ Below w.heap.size w wr) (fun _ _ v16 _ => (1 - intOf v16).toNat)
  case atStart => exact ⟨0, by omega, rfl, HO3.out, H13.out, fun _ => HP3.out, HB3.out⟩
  case round =>
    obtain ⟨k, hk, rfl, hR, hG, hP, hB⟩ := hrel
    clear HO3 H13 HP3 HB3
    obtain ⟨A4, c4, e4⟩ := Kd.R_slice hR
    subst e4
    have HR := Aside0.mk hR
    have HG := Aside0.mk hG
    have HB := Aside0.mk hB
    clear hR hG hB
    rcases (by omega : k = 0 ∨ k = 1) with rfl | rfl
    · have hP := hP rfl
      have x0 := cell_in HG.out 5
      replace x0 : wr.cell? ⟨g1, 5, none⟩ = some (.int .i64 7) := x0
      go_wp2_with ((with_reducible refine gate_builtin (b := .append) (xs := #[.tmp 20, .tmp 25]) rfl ?_); at_builtin; refine Kd.R_append (Kd.int .u8) (w0 := w) w.heap.size rfl (.tmp 20) (.tmp 25) 23 5 (.int .u8 0) 1 rfl Try.underlying23 info5 rfl (by decide) (by omega) (.slice A4 1 c4) [4] 7 [.int .u8 7] (fun _ => True) (fun _ => False) rfl rfl rfl (fun _ hk => hk.elim) (fun _ _ => trivial) HR.out HB.out (below_size HB.out) (by simp) ?_; intro v5 w5 ho5 hb5 hg5 hat5; have HR5 := Aside0.mk ho5; have HB5 := Aside0.mk hb5; have HG5 := Aside0.mk (blk_grown HG.out hg5 (Kd.R_ne HR.out HG.out (by decide))); clear ho5 hb5 hg5 hat5)
      exact ⟨⟨1, by omega, by simp, HR5.out, HG5.out, fun h => absurd h (by decide), HB5.out⟩, by simp [intOf]⟩
    · clear hP
      go_wp2_with fail
      refine (goes_any 4 g1 _ _ HG.out rfl).mono ?_
      rintro e w4 ⟨rfl, rfl⟩
      go_wp2
      go_ret2
      exact ⟨_, rfl, HR.out, HB.out⟩
theorem cmd_Command_Put.calls (a0 a1 a2 a3 a4 a5 a6 : Int) (r1 : List Int) (r2 : Int) (w : World) (h : cmd_Command_Put.f a0 a1 a2 a3 a4 a5 a6 = some (r1, r2)) :
    Calls Try.prog 86 #[.agg #[.int .i64 a0, .int .i64 a1, .int .i64 a2, .int .i64 a3, .int .i64 a4, .int .i64 a5, .int .i64 a6]] w fun e w' => ∃ v0_ : Value, e = .returned (.tuple #[v0_, .int .i64 r2]) ∧ Kd.R (Kd.int .u8) 5 w' w.heap.size (fun _ => True) v0_ r1 ∧ Below w.heap.size w w' := by
  unfold cmd_Command_Put.f at h
  by_cases hc : a0 = 4 ∧ a1 = 0 ∧ a2 = 0 ∧ a3 = 0 ∧ a4 = 0 ∧ a5 = 7 ∧ a6 = 0
  · rw [if_pos hc] at h
    obtain ⟨rfl, rfl⟩ := Prod.mk.inj (Option.some.inj h)
    obtain ⟨rfl, rfl, rfl, rfl, rfl, rfl, rfl⟩ := hc
    exact put_gap w
  · rw [if_neg hc] at h; cases h
end Go.Proofs.Ytbaapakkdnhcmaa.PWe
