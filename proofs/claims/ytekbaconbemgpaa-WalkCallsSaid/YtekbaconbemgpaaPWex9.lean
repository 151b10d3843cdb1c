/- Functions of the given program as plain Lean functions, each with its walk: printed by a program of this claim's own over the kit's print. Helper text. -/
import Derived.Test.YtekbaconbemgpaaPWex0
import Derived.Test.YtekbaconbemgpaaPWex5
import Derived.Test.YtekbaconbemgpaaPWex7
import Derived.Test.YtekbaconbemgpaaPWex8
namespace Go.Proofs.Ytekbaconbemgpaa.PWe
open Go.RowKit Go.Proofs.YtekbaconbemgpaaW.PrintWords Go.Proofs.YtekbaconbemgpaaW.PrintLast Go.Proofs.YtekbaconbemgpaaW.PrintMore
attribute [local go_sem] max2_int min2_int max_two min_two max_three min_three max_four min_four   -- for this text's walks alone
set_option linter.unusedVariables false
set_option linter.unusedSimpArgs false

/-! ### valid_Spans: function 26 -/
mutual
def valid_Spans.j0 : Nat → List (S76) → Int → Bool → Int → Option (List Int)
 | 0, _, _, _, _ => none
 | k + 1, x0, x1, x20, x203000 => if x20 = true then (some ([] : List Int)) else (if x1 = 0 then ((plan_View.f k x203000 x0 ([] : List (S76)) x1 (-1)).bind fun t203 => (valid_Spans.l0 k x1 ([] : List Int) 0 t203 (t203.length : Int) 0 x203000 x0)) else (if x1 = 1 then ((plan_View.f k x203000 ([] : List (S76)) x0 x1 (-1)).bind fun t219 => (valid_Spans.l100 k x1 ([] : List Int) 0 t219 (t219.length : Int) 0 x203000 x0)) else (none)))
def valid_Spans.l0 : Nat → Int → List Int → Int → List (S47) → Int → Int → Int → List (S76) → Option (List Int)
 | 0, _, _, _, _, _, _, _, _ => none
 | k + 1, x1, x6, x7, x27, x28, x29, x203000, x203001 => if x29 < x28 then (if 0 ≤ x29 then (if x29 < (x27.length : Int) then (if ((rd_T47 x27 x29).f0) = 2 then (valid_Spans.j2 k x1 x6 x7 x29 x27 x28 x29 false x203000 x203001 ((rd_T47 x27 x29).f0) ((rd_T47 x27 x29).f1) ((rd_T47 x27 x29).f2) ((rd_T47 x27 x29).f3) ((rd_T47 x27 x29).f4) ((rd_T47 x27 x29).f5) ((rd_T47 x27 x29).f6) ((rd_T47 x27 x29).f7)) else (valid_Spans.j2 k x1 x6 x7 x29 x27 x28 x29 (((rd_T47 x27 x29).f0) != 3) x203000 x203001 ((rd_T47 x27 x29).f0) ((rd_T47 x27 x29).f1) ((rd_T47 x27 x29).f2) ((rd_T47 x27 x29).f3) ((rd_T47 x27 x29).f4) ((rd_T47 x27 x29).f5) ((rd_T47 x27 x29).f6) ((rd_T47 x27 x29).f7))) else (none)) else (none)) else ((plan_Slot_Pulse.f k 3 0 0 0 0 0 0 false).bind fun bt206 => ((plan_Frame.f k x203000 x203001 ([] : List (S76)) x1).bind fun t208 => (if x6.length < 17592186044416 then (some (x6 ++ [wrap64 (Int.tdiv (wrap64 ((wrap64 (t208 + bt206.1)) - x7)) 20)])) else (none))))
def valid_Spans.j2 : Nat → Int → List Int → Int → Int → List (S47) → Int → Int → Bool → Int → List (S76) → Int → Int → Int → Int → Int → Int → Int → Bool → Option (List Int)
 | 0, _, _, _, _, _, _, _, _, _, _, _, _, _, _, _, _, _, _ => none
 | k + 1, x1, x6, x7, x8, x27, x28, x29, x41, x203000, x203001, x214000, x214001, x214002, x214003, x214004, x214005, x214006, x214007 => if x41 = true then (valid_Spans.l0 k x1 x6 x7 x27 x28 (wrap64 (x29 + 1)) x203000 x203001) else ((plan_Slot_Pulse.f k x214000 x214001 x214002 x214003 x214004 x214005 x214006 x214007).bind fun bt214 => (if x8 > 0 then (if x6.length < 17592186044416 then (valid_Spans.l0 k x1 (x6 ++ [wrap64 (Int.tdiv (wrap64 ((wrap64 (x214001 + bt214.1)) - x7)) 20)]) (wrap64 (x214001 + bt214.1)) x27 x28 (wrap64 (x29 + 1)) x203000 x203001) else (none)) else (valid_Spans.l0 k x1 x6 (wrap64 (x214001 + bt214.1)) x27 x28 (wrap64 (x29 + 1)) x203000 x203001)))
def valid_Spans.l100 : Nat → Int → List Int → Int → List (S47) → Int → Int → Int → List (S76) → Option (List Int)
 | 0, _, _, _, _, _, _, _, _ => none
 | k + 1, x1, x6, x7, x27, x28, x29, x203000, x203002 => if x29 < x28 then (if 0 ≤ x29 then (if x29 < (x27.length : Int) then (if ((rd_T47 x27 x29).f0) = 2 then (valid_Spans.j4 k x1 x6 x7 x29 x27 x28 x29 false x203000 x203002 ((rd_T47 x27 x29).f0) ((rd_T47 x27 x29).f1) ((rd_T47 x27 x29).f2) ((rd_T47 x27 x29).f3) ((rd_T47 x27 x29).f4) ((rd_T47 x27 x29).f5) ((rd_T47 x27 x29).f6) ((rd_T47 x27 x29).f7)) else (valid_Spans.j4 k x1 x6 x7 x29 x27 x28 x29 (((rd_T47 x27 x29).f0) != 3) x203000 x203002 ((rd_T47 x27 x29).f0) ((rd_T47 x27 x29).f1) ((rd_T47 x27 x29).f2) ((rd_T47 x27 x29).f3) ((rd_T47 x27 x29).f4) ((rd_T47 x27 x29).f5) ((rd_T47 x27 x29).f6) ((rd_T47 x27 x29).f7))) else (none)) else (none)) else ((plan_Slot_Pulse.f k 3 0 0 0 0 0 0 false).bind fun bt222 => ((plan_Frame.f k x203000 ([] : List (S76)) x203002 x1).bind fun t224 => (if x6.length < 17592186044416 then (some (x6 ++ [wrap64 (Int.tdiv (wrap64 ((wrap64 (t224 + bt222.1)) - x7)) 20)])) else (none))))
def valid_Spans.j4 : Nat → Int → List Int → Int → Int → List (S47) → Int → Int → Bool → Int → List (S76) → Int → Int → Int → Int → Int → Int → Int → Bool → Option (List Int)
 | 0, _, _, _, _, _, _, _, _, _, _, _, _, _, _, _, _, _, _ => none
 | k + 1, x1, x6, x7, x8, x27, x28, x29, x41, x203000, x203002, x230000, x230001, x230002, x230003, x230004, x230005, x230006, x230007 => if x41 = true then (valid_Spans.l100 k x1 x6 x7 x27 x28 (wrap64 (x29 + 1)) x203000 x203002) else ((plan_Slot_Pulse.f k x230000 x230001 x230002 x230003 x230004 x230005 x230006 x230007).bind fun bt230 => (if x8 > 0 then (if x6.length < 17592186044416 then (valid_Spans.l100 k x1 (x6 ++ [wrap64 (Int.tdiv (wrap64 ((wrap64 (x230001 + bt230.1)) - x7)) 20)]) (wrap64 (x230001 + bt230.1)) x27 x28 (wrap64 (x29 + 1)) x203000 x203002) else (none)) else (valid_Spans.l100 k x1 x6 (wrap64 (x230001 + bt230.1)) x27 x28 (wrap64 (x29 + 1)) x203000 x203002)))
end
def valid_Spans.f (k : Nat) (l0 : List (S76)) (a1 : Int) : Option (List Int) := if a1 < 0 then (valid_Spans.j0 k l0 a1 true 0) else (valid_Spans.j0 k l0 a1 (decide (a1 ≥ 2)) 0)
theorem valid_Spans.mono_l : ∀ k, (∀ y0 y1 y2 y3, LeO (valid_Spans.j0 k y0 y1 y2 y3) (valid_Spans.j0 (k + 1) y0 y1 y2 y3)) ∧ (∀ y0 y1 y2 y3 y4 y5 y6 y7, LeO (valid_Spans.l0 k y0 y1 y2 y3 y4 y5 y6 y7) (valid_Spans.l0 (k + 1) y0 y1 y2 y3 y4 y5 y6 y7)) ∧ (∀ y0 y1 y2 y3 y4 y5 y6 y7 y8 y9 y10 y11 y12 y13 y14 y15 y16 y17, LeO (valid_Spans.j2 k y0 y1 y2 y3 y4 y5 y6 y7 y8 y9 y10 y11 y12 y13 y14 y15 y16 y17) (valid_Spans.j2 (k + 1) y0 y1 y2 y3 y4 y5 y6 y7 y8 y9 y10 y11 y12 y13 y14 y15 y16 y17)) ∧ (∀ y0 y1 y2 y3 y4 y5 y6 y7, LeO (valid_Spans.l100 k y0 y1 y2 y3 y4 y5 y6 y7) (valid_Spans.l100 (k + 1) y0 y1 y2 y3 y4 y5 y6 y7)) ∧ (∀ y0 y1 y2 y3 y4 y5 y6 y7 y8 y9 y10 y11 y12 y13 y14 y15 y16 y17, LeO (valid_Spans.j4 k y0 y1 y2 y3 y4 y5 y6 y7 y8 y9 y10 y11 y12 y13 y14 y15 y16 y17) (valid_Spans.j4 (k + 1) y0 y1 y2 y3 y4 y5 y6 y7 y8 y9 y10 y11 y12 y13 y14 y15 y16 y17))
 | 0 => ⟨fun _ _ _ _ r h => by simp [valid_Spans.j0] at h, fun _ _ _ _ _ _ _ _ r h => by simp [valid_Spans.l0] at h, fun _ _ _ _ _ _ _ _ _ _ _ _ _ _ _ _ _ _ r h => by simp [valid_Spans.j2] at h, fun _ _ _ _ _ _ _ _ r h => by simp [valid_Spans.l100] at h, fun _ _ _ _ _ _ _ _ _ _ _ _ _ _ _ _ _ _ r h => by simp [valid_Spans.j4] at h⟩
 | k + 1 => by
  obtain ⟨ih0, ih1, ih2, ih3, ih4⟩ := valid_Spans.mono_l k
  refine ⟨?_, ?_, ?_, ?_, ?_⟩
  · intro y0 y1 y2 y3
    unfold valid_Spans.j0
    repeat' first
    | (with_reducible exact ih0 _ _ _ _)
    | (with_reducible exact ih1 _ _ _ _ _ _ _ _)
    | (with_reducible exact ih2 _ _ _ _ _ _ _ _ _ _ _ _ _ _ _ _ _ _)
    | (with_reducible exact ih3 _ _ _ _ _ _ _ _)
    | (with_reducible exact ih4 _ _ _ _ _ _ _ _ _ _ _ _ _ _ _ _ _ _)
    | (with_reducible exact plan_Frame.mono _ _ _ _ _)
    | (with_reducible exact plan_Slot_Pulse.mono _ _ _ _ _ _ _ _ _)
    | (with_reducible exact plan_View.mono _ _ _ _ _ _)
    | (with_reducible exact LeO.refl _)
    | (with_reducible exact LeO.none _)
    | (with_reducible refine LeO.ite ?_ ?_)
    | (with_reducible refine LeO.bind ?_ (fun _ => ?_))
    | exact ih0 _ _ _ _
    | exact ih1 _ _ _ _ _ _ _ _
    | exact ih2 _ _ _ _ _ _ _ _ _ _ _ _ _ _ _ _ _ _
    | exact ih3 _ _ _ _ _ _ _ _
    | exact ih4 _ _ _ _ _ _ _ _ _ _ _ _ _ _ _ _ _ _
    | exact plan_Frame.mono _ _ _ _ _
    | exact plan_Slot_Pulse.mono _ _ _ _ _ _ _ _ _
    | exact plan_View.mono _ _ _ _ _ _
    | exact LeO.none _
    | refine LeO.ite ?_ ?_
    | refine LeO.bind ?_ (fun _ => ?_)
  · intro y0 y1 y2 y3 y4 y5 y6 y7
    unfold valid_Spans.l0
    repeat' first
    | (with_reducible exact ih0 _ _ _ _)
    | (with_reducible exact ih1 _ _ _ _ _ _ _ _)
    | (with_reducible exact ih2 _ _ _ _ _ _ _ _ _ _ _ _ _ _ _ _ _ _)
    | (with_reducible exact ih3 _ _ _ _ _ _ _ _)
    | (with_reducible exact ih4 _ _ _ _ _ _ _ _ _ _ _ _ _ _ _ _ _ _)
    | (with_reducible exact plan_Frame.mono _ _ _ _ _)
    | (with_reducible exact plan_Slot_Pulse.mono _ _ _ _ _ _ _ _ _)
    | (with_reducible exact plan_View.mono _ _ _ _ _ _)
    | (with_reducible exact LeO.refl _)
    | (with_reducible exact LeO.none _)
    | (with_reducible refine LeO.ite ?_ ?_)
    | (with_reducible refine LeO.bind ?_ (fun _ => ?_))
    | exact ih0 _ _ _ _
    | exact ih1 _ _ _ _ _ _ _ _
    | exact ih2 _ _ _ _ _ _ _ _ _ _ _ _ _ _ _ _ _ _
    | exact ih3 _ _ _ _ _ _ _ _
    | exact ih4 _ _ _ _ _ _ _ _ _ _ _ _ _ _ _ _ _ _
    | exact plan_Frame.mono _ _ _ _ _
    | exact plan_Slot_Pulse.mono _ _ _ _ _ _ _ _ _
    | exact plan_View.mono _ _ _ _ _ _
    | exact LeO.none _
    | refine LeO.ite ?_ ?_
    | refine LeO.bind ?_ (fun _ => ?_)
  · intro y0 y1 y2 y3 y4 y5 y6 y7 y8 y9 y10 y11 y12 y13 y14 y15 y16 y17
    unfold valid_Spans.j2
    repeat' first
    | (with_reducible exact ih0 _ _ _ _)
    | (with_reducible exact ih1 _ _ _ _ _ _ _ _)
    | (with_reducible exact ih2 _ _ _ _ _ _ _ _ _ _ _ _ _ _ _ _ _ _)
    | (with_reducible exact ih3 _ _ _ _ _ _ _ _)
    | (with_reducible exact ih4 _ _ _ _ _ _ _ _ _ _ _ _ _ _ _ _ _ _)
    | (with_reducible exact plan_Frame.mono _ _ _ _ _)
    | (with_reducible exact plan_Slot_Pulse.mono _ _ _ _ _ _ _ _ _)
    | (with_reducible exact plan_View.mono _ _ _ _ _ _)
    | (with_reducible exact LeO.refl _)
    | (with_reducible exact LeO.none _)
    | (with_reducible refine LeO.ite ?_ ?_)
    | (with_reducible refine LeO.bind ?_ (fun _ => ?_))
    | exact ih0 _ _ _ _
    | exact ih1 _ _ _ _ _ _ _ _
    | exact ih2 _ _ _ _ _ _ _ _ _ _ _ _ _ _ _ _ _ _
    | exact ih3 _ _ _ _ _ _ _ _
    | exact ih4 _ _ _ _ _ _ _ _ _ _ _ _ _ _ _ _ _ _
    | exact plan_Frame.mono _ _ _ _ _
    | exact plan_Slot_Pulse.mono _ _ _ _ _ _ _ _ _
    | exact plan_View.mono _ _ _ _ _ _
    | exact LeO.none _
    | refine LeO.ite ?_ ?_
    | refine LeO.bind ?_ (fun _ => ?_)
  · intro y0 y1 y2 y3 y4 y5 y6 y7
    unfold valid_Spans.l100
    repeat' first
    | (with_reducible exact ih0 _ _ _ _)
    | (with_reducible exact ih1 _ _ _ _ _ _ _ _)
    | (with_reducible exact ih2 _ _ _ _ _ _ _ _ _ _ _ _ _ _ _ _ _ _)
    | (with_reducible exact ih3 _ _ _ _ _ _ _ _)
    | (with_reducible exact ih4 _ _ _ _ _ _ _ _ _ _ _ _ _ _ _ _ _ _)
    | (with_reducible exact plan_Frame.mono _ _ _ _ _)
    | (with_reducible exact plan_Slot_Pulse.mono _ _ _ _ _ _ _ _ _)
    | (with_reducible exact plan_View.mono _ _ _ _ _ _)
    | (with_reducible exact LeO.refl _)
    | (with_reducible exact LeO.none _)
    | (with_reducible refine LeO.ite ?_ ?_)
    | (with_reducible refine LeO.bind ?_ (fun _ => ?_))
    | exact ih0 _ _ _ _
    | exact ih1 _ _ _ _ _ _ _ _
    | exact ih2 _ _ _ _ _ _ _ _ _ _ _ _ _ _ _ _ _ _
    | exact ih3 _ _ _ _ _ _ _ _
    | exact ih4 _ _ _ _ _ _ _ _ _ _ _ _ _ _ _ _ _ _
    | exact plan_Frame.mono _ _ _ _ _
    | exact plan_Slot_Pulse.mono _ _ _ _ _ _ _ _ _
    | exact plan_View.mono _ _ _ _ _ _
    | exact LeO.none _
    | refine LeO.ite ?_ ?_
    | refine LeO.bind ?_ (fun _ => ?_)
  · intro y0 y1 y2 y3 y4 y5 y6 y7 y8 y9 y10 y11 y12 y13 y14 y15 y16 y17
    unfold valid_Spans.j4
    repeat' first
    | (with_reducible exact ih0 _ _ _ _)
    | (with_reducible exact ih1 _ _ _ _ _ _ _ _)
    | (with_reducible exact ih2 _ _ _ _ _ _ _ _ _ _ _ _ _ _ _ _ _ _)
    | (with_reducible exact ih3 _ _ _ _ _ _ _ _)
    | (with_reducible exact ih4 _ _ _ _ _ _ _ _ _ _ _ _ _ _ _ _ _ _)
    | (with_reducible exact plan_Frame.mono _ _ _ _ _)
    | (with_reducible exact plan_Slot_Pulse.mono _ _ _ _ _ _ _ _ _)
    | (with_reducible exact plan_View.mono _ _ _ _ _ _)
    | (with_reducible exact LeO.refl _)
    | (with_reducible exact LeO.none _)
    | (with_reducible refine LeO.ite ?_ ?_)
    | (with_reducible refine LeO.bind ?_ (fun _ => ?_))
    | exact ih0 _ _ _ _
    | exact ih1 _ _ _ _ _ _ _ _
    | exact ih2 _ _ _ _ _ _ _ _ _ _ _ _ _ _ _ _ _ _
    | exact ih3 _ _ _ _ _ _ _ _
    | exact ih4 _ _ _ _ _ _ _ _ _ _ _ _ _ _ _ _ _ _
    | exact plan_Frame.mono _ _ _ _ _
    | exact plan_Slot_Pulse.mono _ _ _ _ _ _ _ _ _
    | exact plan_View.mono _ _ _ _ _ _
    | exact LeO.none _
    | refine LeO.ite ?_ ?_
    | refine LeO.bind ?_ (fun _ => ?_)
theorem valid_Spans.mono : ∀ a0 a1 k, LeO (valid_Spans.f k a0 a1) (valid_Spans.f (k + 1) a0 a1) := by
 intro a0 a1 k
 obtain ⟨ih0, ih1, ih2, ih3, ih4⟩ := valid_Spans.mono_l k
 unfold valid_Spans.f
 repeat' first
  | (with_reducible exact ih0 _ _ _ _)
  | (with_reducible exact ih1 _ _ _ _ _ _ _ _)
  | (with_reducible exact ih2 _ _ _ _ _ _ _ _ _ _ _ _ _ _ _ _ _ _)
  | (with_reducible exact ih3 _ _ _ _ _ _ _ _)
  | (with_reducible exact ih4 _ _ _ _ _ _ _ _ _ _ _ _ _ _ _ _ _ _)
  | (with_reducible exact plan_Frame.mono _ _ _ _ _)
  | (with_reducible exact plan_Slot_Pulse.mono _ _ _ _ _ _ _ _ _)
  | (with_reducible exact plan_View.mono _ _ _ _ _ _)
  | (with_reducible exact LeO.refl _)
  | (with_reducible exact LeO.none _)
  | (with_reducible refine LeO.ite ?_ ?_)
  | (with_reducible refine LeO.bind ?_ (fun _ => ?_))
  | exact ih0 _ _ _ _
  | exact ih1 _ _ _ _ _ _ _ _
  | exact ih2 _ _ _ _ _ _ _ _ _ _ _ _ _ _ _ _ _ _
  | exact ih3 _ _ _ _ _ _ _ _
  | exact ih4 _ _ _ _ _ _ _ _ _ _ _ _ _ _ _ _ _ _
  | exact plan_Frame.mono _ _ _ _ _
  | exact plan_Slot_Pulse.mono _ _ _ _ _ _ _ _ _
  | exact plan_View.mono _ _ _ _ _ _
  | exact LeO.none _
  | refine LeO.ite ?_ ?_
  | refine LeO.bind ?_ (fun _ => ?_)
set_option maxHeartbeats 8000000 in
set_option maxRecDepth 100000 in
theorem valid_Spans.calls (k : Nat) (A0 : Option Addr) (c0 : Nat) (l0 : List (S76)) (a1 : Int) (r : List Int) (w : World) (hr0 : Kd.C k76 w A0 l0.length l0) (hc0 : l0.length ≤ c0) (h : valid_Spans.f k l0 a1 = some r) :
 Calls Try.prog 26 #[.slice A0 l0.length c0, .int .i64 a1] w fun e w' => ∃ v0_ : Value, e = .returned (v0_) ∧ Kd.R (Kd.int .i64) 3 w' w.heap.size (fun _ => True) v0_ r ∧ Below w.heap.size w w' := by
 have hu62 := Try.underlying62
 have hu47 := Try.underlying47
 have HR0 := Aside0.mk hr0
 have HC0 := Aside0.mk hc0
 clear hr0 hc0
 have HB := Aside0.mk (Below.refl w.heap.size w)
 have H : (if a1 < 0 then (valid_Spans.j0 k l0 a1 true 0) else (valid_Spans.j0 k l0 a1 (decide (a1 ≥ 2)) 0)) = some r := h
 clear h
 have HC3 := Aside0.mk H
 clear H
 go_enter Try.func26, Try.ntmps26
 go_upto_region 2 with (first | ((with_reducible refine gate_dst (N := 5) rfl ?_); refine box_event ?hg (N := 5) ?hd (cs := #[.int .i64 0, .slice none 0 0, .slice none 0 0]) (t := 62) ?hr ?_; (case hd => rfl); (case hg => rfl); (case hr => first | (go_simp; done) | (go_simp; rfl)); intro gb202 hg w4 hbox hb; have n0_ := Aside0.mk (below_step (by repeat (first | (with_reducible first | exact HB.out | apply below_alloc | apply pw_below_drewN | apply below_drew1) | exact HB.out)) hb); have n1_ := Aside0.mk (hbox); have n2_ := Aside0.mk ((by rw [hg]; exact (below_size (by repeat (first | (with_reducible first | exact HB.out | apply below_alloc | apply pw_below_drewN | apply below_drew1) | exact HB.out))) : w.heap.size ≤ gb202)); have n3_ := Aside0.mk ((by rw [hg]; exact (below_size (by repeat (first | (with_reducible first | exact HB.out | apply below_alloc | apply pw_below_drewN | apply below_drew1) | exact HB.out))) : w.heap.size ≤ gb202)); clear HB; have HB := n0_; have BK202 := n1_; have GW202 := n2_; have GE202 := n3_; clear n0_ n1_ n2_ n3_; clear hb hbox hg; have hcz5_0 : w4.cell? ⟨gb202, 0, none⟩ = some (.int .i64 0) := (blk_cell BK202.out 0).trans rfl; have hcz5_1 : w4.cell? ⟨gb202, 1, none⟩ = some (.slice none 0 0) := (blk_cell BK202.out 1).trans rfl; have hcz5_2 : w4.cell? ⟨gb202, 2, none⟩ = some (.slice none 0 0) := (blk_cell BK202.out 2).trans rfl; have hfz5_0 := blk_frozen BK202.out 0; have hfz5_1 := blk_frozen BK202.out 1; have hfz5_2 := blk_frozen BK202.out 2))
 (try simp only [Act.put, List.setIfInBounds_toArray, List.set_cons_zero, List.set_cons_succ])
 go_cut [20] (fun v20 wc => ∃ (kq : Nat) (x20_2 : Bool), v20 = .bool x20_2 ∧ Aside0 (valid_Spans.j0 kq l0 a1 x20_2 0 = some r) ∧ Aside0 (kq ≤ k) ∧ Aside0 (wc.heap[gb202]? = some (.cells #[.int .i64 0, (.slice none 0 0), (.slice none 0 0)] 62 (0, 0))) ∧ Aside0 (Below w.heap.size w wc))
 case first =>
  have H := HC3.out
  clear HC3
  by_cases c6 : a1 < 0
  · rw [if_pos c6] at H
    have c6b0 : decide (a1 < 0) = true := decide_eq_true c6
    clear c6
    (first | rw [c6b0] | (simp only [i64_w, i32_w]; rw [c6b0]) | skip)
    have H' := Aside0.mk H
    clear H
    go_wp2
    go_meet
    case rel => exact ⟨_, (true), (by first | rfl | (simp; done) | (simp [*]; done)), H', ⟨by first | omega | exact Nat.le_refl _⟩, ⟨by (with_reducible repeat (first | refine blk_drewN ?_ _ | refine blk_drew ?_ | refine blk_alloc ?_ _)); refine blk_put (cs := #[.int .i64 0, .slice none 0 0, .slice none 0 0]) ?_ 2 _ rfl; (with_reducible repeat (first | refine blk_drewN ?_ _ | refine blk_drew ?_ | refine blk_alloc ?_ _)); refine blk_put (cs := #[.int .i64 0, .slice none 0 0, .slice none 0 0]) ?_ 1 _ rfl; (with_reducible repeat (first | refine blk_drewN ?_ _ | refine blk_drew ?_ | refine blk_alloc ?_ _)); refine blk_put (cs := #[.int .i64 0, .slice none 0 0, .slice none 0 0]) ?_ 0 _ rfl; (with_reducible repeat (first | refine blk_drewN ?_ _ | refine blk_drew ?_ | refine blk_alloc ?_ _)); exact BK202.out⟩, ⟨by repeat (first | (with_reducible first | exact HB.out | apply below_alloc | apply pw_below_drewN | apply below_drew1 | refine below_set ?_ GE202.out) | exact HB.out)⟩⟩
  · rw [if_neg c6] at H
    have c6b0 : decide (a1 < 0) = false := decide_eq_false c6
    clear c6
    (first | rw [c6b0] | (simp only [i64_w, i32_w]; rw [c6b0]) | skip)
    have H' := Aside0.mk H
    clear H
    go_wp2
    go_meet
    case rel => exact ⟨_, (decide (a1 ≥ 2)), (by first | rfl | (simp; done) | (simp [*]; done)), H', ⟨by first | omega | exact Nat.le_refl _⟩, ⟨by (with_reducible repeat (first | refine blk_drewN ?_ _ | refine blk_drew ?_ | refine blk_alloc ?_ _)); refine blk_put (cs := #[.int .i64 0, .slice none 0 0, .slice none 0 0]) ?_ 2 _ rfl; (with_reducible repeat (first | refine blk_drewN ?_ _ | refine blk_drew ?_ | refine blk_alloc ?_ _)); refine blk_put (cs := #[.int .i64 0, .slice none 0 0, .slice none 0 0]) ?_ 1 _ rfl; (with_reducible repeat (first | refine blk_drewN ?_ _ | refine blk_drew ?_ | refine blk_alloc ?_ _)); refine blk_put (cs := #[.int .i64 0, .slice none 0 0, .slice none 0 0]) ?_ 0 _ rfl; (with_reducible repeat (first | refine blk_drewN ?_ _ | refine blk_drew ?_ | refine blk_alloc ?_ _)); exact BK202.out⟩, ⟨by repeat (first | (with_reducible first | exact HB.out | apply below_alloc | apply pw_below_drewN | apply below_drew1 | refine below_set ?_ GE202.out) | exact HB.out)⟩⟩
 case rest =>
  clear HC3
  try clear c2
  try clear p2
  try clear c6
  try clear c6b0
  try clear hcz5_0
  try clear hcz5_1
  try clear hcz5_2
  try clear hfz5_0
  try clear hfz5_1
  try clear hfz5_2
  obtain ⟨kq, x20_2, rfl, HA, HJ2, BK202, HB⟩ := hcut
  cases kq with
  | zero => exact absurd HA.out (by simp [valid_Spans.j0])
  | succ kj2 =>
   have H := HA.out
   clear HA
   simp only [valid_Spans.j0] at H
   by_cases c7 : x20_2 = true
   · subst c7
     have H1 : (some ([] : List Int)) = some r := by rw [if_pos rfl] at H; exact H
     clear H
     have H := H1
     clear H1
     obtain rfl := Option.some.inj H
     go_wp2
     go_ret
     exact ⟨_, by first | rfl | (simp [errW_none, errW_some] <;> rfl) | (simp [*, errW_none, errW_some] <;> rfl), by first | exact Kd.R_nil _ _ _ _ _ | exact Kd.N_nil _ _ _ _ _ | exact Kd.V_nil _ _ _ _ _ | exact Kd.Q_nil _ _ _ _ _ | exact Kd.S_nil _ _ _ _ _, by repeat (first | (with_reducible first | exact HB.out | apply below_alloc | apply pw_below_drewN | apply below_drew1 | refine below_set ?_ GE202.out) | exact HB.out)⟩
   · replace c7 := Bool.eq_false_iff.mpr c7
     subst c7
     have H1 : (if a1 = 0 then ((plan_View.f kj2 0 l0 ([] : List (S76)) a1 (-1)).bind fun t203 => (valid_Spans.l0 kj2 a1 ([] : List Int) 0 t203 (t203.length : Int) 0 0 l0)) else (if a1 = 1 then ((plan_View.f kj2 0 ([] : List (S76)) l0 a1 (-1)).bind fun t219 => (valid_Spans.l100 kj2 a1 ([] : List Int) 0 t219 (t219.length : Int) 0 0 l0)) else (none))) = some r := by rw [if_neg (show ¬ (false = true) by decide)] at H; exact H
     clear H
     have H := H1
     clear H1
     by_cases c8 : a1 = 0
     · subst c8
       have H1 : ((plan_View.f kj2 0 l0 ([] : List (S76)) 0 (-1)).bind fun t203 => (valid_Spans.l0 kj2 0 ([] : List Int) 0 t203 (t203.length : Int) 0 0 l0)) = some r := by rw [if_pos rfl] at H; exact H
       clear H
       have H := H1
       clear H1
       replace H := Option.bind_eq_some_iff.mp H
       obtain ⟨t203, A90, H⟩ := H
       replace H : (valid_Spans.l0 kj2 0 ([] : List Int) 0 t203 (t203.length : Int) 0 0 l0) = some r := H
       have A9 := Aside0.mk A90
       clear A90
       have H' := Aside0.mk H
       clear H
       have hcz10_0 : wc.cell? ⟨gb202, 0, none⟩ = some (.int .i64 0) := (blk_cell BK202.out 0).trans rfl
       have hcz10_1 : wc.cell? ⟨gb202, 1, none⟩ = some (.slice none 0 0) := (blk_cell BK202.out 1).trans rfl
       have hcz10_2 : wc.cell? ⟨gb202, 2, none⟩ = some (.slice none 0 0) := (blk_cell BK202.out 2).trans rfl
       have hfz10_0 := blk_frozen BK202.out 0
       have hfz10_1 := blk_frozen BK202.out 1
       have hfz10_2 := blk_frozen BK202.out 2
       go_wp2_with (first | ((with_reducible refine gate_callee (f := 27) rfl ?_); refine goesL_ (some 27) rfl rfl Try.func27 (by kernel_rfl) rfl #[.agg #[.int .i64 0, .slice A0 l0.length c0, .slice none 0 0], .int .i64 0, .int .i64 (-1)] rfl (by (try simp only [List.map_toArray, List.map_cons, List.map_nil]); first | done | rfl | (simp only [List.length_drop, List.length_take]; rfl)) ?_; (refine (plan_View.calls kj2 0 _ _ l0 _ _ ([] : List (S76)) 0 (-1) t203 _ ?side1 ?side2 ?side3 ?side4 A9.out).mono ?_); (case side1 => exact Kd.C_below HR0.out (by repeat (first | (with_reducible first | exact HB.out | apply below_alloc | apply pw_below_drewN | apply below_drew1 | refine below_set ?_ GE202.out) | exact HB.out))); (case side2 => exact HC0.out); (case side3 => exact Kd.C_nil _ _); (case side4 => exact Nat.le_refl _); rintro e w11 ⟨v204, rfl, ho0, hb⟩; refine ⟨_, rfl, ?_⟩; have n0_ := Aside0.mk (Kd.R_lower ho0 (below_size (by repeat (first | (with_reducible first | exact HB.out | apply below_alloc | apply pw_below_drewN | apply below_drew1 | refine below_set ?_ GE202.out) | exact HB.out)))); have n1_ := Aside0.mk (blk_below (g := gb202) (o := .cells #[.int .i64 0, .slice A0 l0.length c0, .slice none 0 0] 62 (0, 0)) (by (with_reducible repeat (first | refine blk_drewN ?_ _ | refine blk_drew ?_ | refine blk_alloc ?_ _)); refine blk_put (cs := #[.int .i64 0, .slice none 0 0, .slice none 0 0]) ?_ 1 _ rfl; (with_reducible repeat (first | refine blk_drewN ?_ _ | refine blk_drew ?_ | refine blk_alloc ?_ _)); exact BK202.out) hb); have n2_ := Aside0.mk (below_step (by repeat (first | (with_reducible first | exact HB.out | apply below_alloc | apply pw_below_drewN | apply below_drew1 | refine below_set ?_ GE202.out) | exact HB.out)) hb); clear BK202; clear HB; have HO205 := n0_; have BK202 := n1_; have HB := n2_; clear n0_ n1_ n2_; (try clear hb); (try clear hb2); (try clear hk); (try clear hi); (try clear ho0); obtain ⟨Ao12, co12, eo12⟩ := Kd.R_slice HO205.out; subst eo12))
       go_loopg [6, 7, 29] kj2 (fun kq v6 v7 v29 w' => ∃ (x6_2 : List Int) (x7_2 : Int) (x29_2 : Int), v7 = .int .i64 x7_2 ∧ v29 = .int .i64 x29_2 ∧ Aside0 (valid_Spans.l0 kq 0 x6_2 x7_2 t203 (t203.length : Int) x29_2 0 l0 = some r) ∧ Aside0 (kq ≤ kj2) ∧ Aside0 (Kd.R (Kd.int .i64) 3 w' w.heap.size (fun _ => True) v6 x6_2) ∧ Aside0 (Kd.R k47 47 w' w.heap.size (fun _ => True) (.slice Ao12 t203.length co12) t203) ∧ Aside0 (w'.heap[gb202]? = some (.cells #[.int .i64 0, (.slice A0 l0.length c0), (.slice none 0 0)] 62 (0, 0))) ∧ Aside0 (Below w.heap.size w w'))
       case atStart => exact ⟨(([] : List Int)), (0), (0), (by first | rfl | (simp; done) | (simp [*]; done)), (by first | rfl | (simp; done) | (simp [*]; done)), H', ⟨Nat.le_refl _⟩, ⟨by first | exact Kd.R_nil _ _ _ _ _ | exact Kd.N_nil _ _ _ _ _ | exact Kd.V_nil _ _ _ _ _ | exact Kd.Q_nil _ _ _ _ _ | exact Kd.S_nil _ _ _ _ _⟩, ⟨by (with_reducible repeat (first | apply Kd.R_alloc | apply Kd.R_drewN | apply Kd.R_drew)); exact HO205.out⟩, ⟨by (with_reducible repeat (first | refine blk_drewN ?_ _ | refine blk_drew ?_ | refine blk_alloc ?_ _)); exact BK202.out⟩, ⟨by repeat (first | (with_reducible first | exact HB.out | apply below_alloc | apply pw_below_drewN | apply below_drew1 | refine below_set ?_ GE202.out) | exact HB.out)⟩⟩
       case round =>
        clear H'
        try clear c2
        try clear p2
        try clear c6
        try clear c6b0
        try clear c7
        try clear c8
        try clear hcz10_0
        try clear hcz10_1
        try clear hcz10_2
        try clear hcz5_0
        try clear hcz5_1
        try clear hcz5_2
        try clear hfz10_0
        try clear hfz10_1
        try clear hfz10_2
        try clear hfz5_0
        try clear hfz5_1
        try clear hfz5_2
        try clear p2
        obtain ⟨x6_2, x7_2, x29_2, rfl, rfl, HA, HK2, HO_6, HO_27, BK202, HB⟩ := hrel
        cases gk with
        | zero => exact absurd HA.out (by simp [valid_Spans.l0])
        | succ k2 =>
         have H := HA.out
         clear HA
         simp only [valid_Spans.l0] at H
         by_cases c13 : x29_2 < (t203.length : Int)
         · rw [if_pos c13] at H
           have c13b0 : decide (x29_2 < (t203.length : Int)) = true := decide_eq_true c13
           clear c13
           by_cases c14 : 0 ≤ x29_2
           · rw [if_pos c14] at H
             have c14b0 : decide (0 ≤ x29_2) = true := decide_eq_true c14
             clear c14
             by_cases c15 : x29_2 < (t203.length : Int)
             · rw [if_pos c15] at H
               have c15b0 : decide (x29_2 < (t203.length : Int)) = true := decide_eq_true c15
               clear c15
               have HC16 := Aside0.mk H
               clear H
               have p212 : 0 ≤ (x29_2 : Int) := of_decide_eq_true (by first | (with_reducible assumption) | assumption)
               have q212 : x29_2 < (t203.length : Int) := of_decide_eq_true (by first | (with_reducible assumption) | assumption)
               obtain ⟨ad212, e212, hx212_0, hx212_1, hx212_2, hx212_3, hx212_4, hx212_5, hx212_6, hx212_7⟩ := at_T47 (Kd.R_reads' HO_27.out).2.2 x29_2 p212 q212
               cases e212
               replace p212 := eq_true p212
               replace q212 := eq_true q212
               go_upto_region 10 with (first | ((with_reducible refine gate_dst (N := 9) rfl ?_); refine box_event ?hg (N := 9) ?hd (cs := #[.int .i64 0, .int .i64 0, .int .i64 0, .int .i64 0, .int .i64 0, .int .i64 0, .int .i64 0, .bool false]) (t := 47) ?hr ?_; (case hd => rfl); (case hg => rfl); (case hr => first | (go_simp; done) | (go_simp; rfl)); intro gb213 hg w17 hbox hb; have n0_ := Aside0.mk (Kd.R_below (by (with_reducible repeat (first | apply Kd.R_alloc | apply Kd.R_drewN | apply Kd.R_drew)); exact HO_6.out) hb); have n1_ := Aside0.mk (Kd.R_below (Kd.R_elderB (by (with_reducible repeat (first | apply Kd.R_alloc | apply Kd.R_drewN | apply Kd.R_drew)); exact HO_27.out) gb213 (Nat.le_of_eq hg.symm)) hb); have n2_ := Aside0.mk (blk_below (g := gb202) (o := .cells #[.int .i64 0, .slice A0 l0.length c0, .slice none 0 0] 62 (0, 0)) (by (with_reducible repeat (first | refine blk_drewN ?_ _ | refine blk_drew ?_ | refine blk_alloc ?_ _)); exact BK202.out) hb); have n3_ := Aside0.mk (below_step (by repeat (first | (with_reducible first | exact HB.out | apply below_alloc | apply pw_below_drewN | apply below_drew1 | refine below_set ?_ GE202.out) | exact HB.out)) hb); have n4_ := Aside0.mk (hbox); have n5_ := Aside0.mk ((by rw [hg]; exact (below_size (by repeat (first | (with_reducible first | exact HB.out | apply below_alloc | apply pw_below_drewN | apply below_drew1 | refine below_set ?_ GE202.out) | exact HB.out))) : w.heap.size ≤ gb213)); have n6_ := Aside0.mk ((by rw [hg]; exact (below_size (by repeat (first | (with_reducible first | exact HB.out | apply below_alloc | apply pw_below_drewN | apply below_drew1 | refine below_set ?_ GE202.out) | exact HB.out))) : w.heap.size ≤ gb213)); have n7_ := Aside0.mk ((by rw [hg]; exact Nat.ne_of_lt (blk_lt (g := gb202) (o := .cells #[.int .i64 0, .slice A0 l0.length c0, .slice none 0 0] 62 (0, 0)) (by (with_reducible repeat (first | refine blk_drewN ?_ _ | refine blk_drew ?_ | refine blk_alloc ?_ _)); exact BK202.out)) : gb202 ≠ gb213)); have n8_ := Aside0.mk ((by rw [hg]; exact Nat.ne_of_gt (blk_lt (g := gb202) (o := .cells #[.int .i64 0, .slice A0 l0.length c0, .slice none 0 0] 62 (0, 0)) (by (with_reducible repeat (first | refine blk_drewN ?_ _ | refine blk_drew ?_ | refine blk_alloc ?_ _)); exact BK202.out)) : gb213 ≠ gb202)); clear HO_6; clear HO_27; clear BK202; clear HB; have HO_6 := n0_; have HO_27 := n1_; have BK202 := n2_; have HB := n3_; have BK213 := n4_; have GW213 := n5_; have GE213 := n6_; have NB202_213 := n7_; have NB213_202 := n8_; clear n0_ n1_ n2_ n3_ n4_ n5_ n6_ n7_ n8_; clear hb hbox hg; have hnb18 := NB213_202.out; have hnc18 := NB202_213.out; have hcz19_0 : w17.cell? ⟨gb213, 0, none⟩ = some (.int .i64 0) := (blk_cell BK213.out 0).trans rfl; have hcz19_1 : w17.cell? ⟨gb213, 1, none⟩ = some (.int .i64 0) := (blk_cell BK213.out 1).trans rfl; have hcz19_2 : w17.cell? ⟨gb213, 2, none⟩ = some (.int .i64 0) := (blk_cell BK213.out 2).trans rfl; have hcz19_3 : w17.cell? ⟨gb213, 3, none⟩ = some (.int .i64 0) := (blk_cell BK213.out 3).trans rfl; have hcz19_4 : w17.cell? ⟨gb213, 4, none⟩ = some (.int .i64 0) := (blk_cell BK213.out 4).trans rfl; have hcz19_5 : w17.cell? ⟨gb213, 5, none⟩ = some (.int .i64 0) := (blk_cell BK213.out 5).trans rfl; have hcz19_6 : w17.cell? ⟨gb213, 6, none⟩ = some (.int .i64 0) := (blk_cell BK213.out 6).trans rfl; have hcz19_7 : w17.cell? ⟨gb213, 7, none⟩ = some (.bool false) := (blk_cell BK213.out 7).trans rfl; have hfz19_0 := blk_frozen BK213.out 0; have hfz19_1 := blk_frozen BK213.out 1; have hfz19_2 := blk_frozen BK213.out 2; have hfz19_3 := blk_frozen BK213.out 3; have hfz19_4 := blk_frozen BK213.out 4; have hfz19_5 := blk_frozen BK213.out 5; have hfz19_6 := blk_frozen BK213.out 6; have hfz19_7 := blk_frozen BK213.out 7))
               (try simp only [Act.put, List.setIfInBounds_toArray, List.set_cons_zero, List.set_cons_succ])
               go_cut [41] (fun v41 wc => ∃ (kq : Nat) (x41_15 : Bool), v41 = .bool x41_15 ∧ Aside0 (valid_Spans.j2 kq 0 x6_2 x7_2 x29_2 t203 (t203.length : Int) x29_2 x41_15 0 l0 ((rd_T47 t203 x29_2).f0) ((rd_T47 t203 x29_2).f1) ((rd_T47 t203 x29_2).f2) ((rd_T47 t203 x29_2).f3) ((rd_T47 t203 x29_2).f4) ((rd_T47 t203 x29_2).f5) ((rd_T47 t203 x29_2).f6) ((rd_T47 t203 x29_2).f7) = some r) ∧ Aside0 (kq ≤ k2) ∧ Aside0 (Kd.R (Kd.int .i64) 3 wc w.heap.size (fun _ => True) u6 x6_2) ∧ Aside0 (Kd.R k47 47 wc w.heap.size (fun k_ => k_ ≠ gb213) (.slice (some ad212) t203.length co12) t203) ∧ Aside0 (wc.heap[gb202]? = some (.cells #[.int .i64 0, (.slice A0 l0.length c0), (.slice none 0 0)] 62 (0, 0))) ∧ Aside0 (wc.heap[gb213]? = some (.cells #[.int .i64 ((rd_T47 t203 x29_2).f0), .int .i64 ((rd_T47 t203 x29_2).f1), .int .i64 ((rd_T47 t203 x29_2).f2), .int .i64 ((rd_T47 t203 x29_2).f3), .int .i64 ((rd_T47 t203 x29_2).f4), .int .i64 ((rd_T47 t203 x29_2).f5), .int .i64 ((rd_T47 t203 x29_2).f6), .bool ((rd_T47 t203 x29_2).f7)] 47 (0, 0))) ∧ Aside0 (Below w.heap.size w wc))
               case first =>
                have H := HC16.out
                clear HC16
                by_cases c20 : ((rd_T47 t203 x29_2).f0) = 2
                · rw [if_pos c20] at H
                  have c20b0 : (((rd_T47 t203 x29_2).f0) == 2) = true := beq_iff_eq.mpr c20
                  have c20b1 : (((rd_T47 t203 x29_2).f0) != 2) = false := bne_eq_false_iff_eq.mpr c20
                  clear c20
                  (first | rw [c20b0] | (simp only [i64_w, i32_w]; rw [c20b0]) | skip)
                  have H' := Aside0.mk H
                  clear H
                  have hnb21 := NB213_202.out
                  have hnc21 := NB202_213.out
                  have hcz22_0 : w17.cell? ⟨gb213, 0, none⟩ = some (.int .i64 0) := (blk_cell BK213.out 0).trans rfl
                  have hcz22_1 : w17.cell? ⟨gb213, 1, none⟩ = some (.int .i64 0) := (blk_cell BK213.out 1).trans rfl
                  have hcz22_2 : w17.cell? ⟨gb213, 2, none⟩ = some (.int .i64 0) := (blk_cell BK213.out 2).trans rfl
                  have hcz22_3 : w17.cell? ⟨gb213, 3, none⟩ = some (.int .i64 0) := (blk_cell BK213.out 3).trans rfl
                  have hcz22_4 : w17.cell? ⟨gb213, 4, none⟩ = some (.int .i64 0) := (blk_cell BK213.out 4).trans rfl
                  have hcz22_5 : w17.cell? ⟨gb213, 5, none⟩ = some (.int .i64 0) := (blk_cell BK213.out 5).trans rfl
                  have hcz22_6 : w17.cell? ⟨gb213, 6, none⟩ = some (.int .i64 0) := (blk_cell BK213.out 6).trans rfl
                  have hcz22_7 : w17.cell? ⟨gb213, 7, none⟩ = some (.bool false) := (blk_cell BK213.out 7).trans rfl
                  have hfz22_0 := blk_frozen BK213.out 0
                  have hfz22_1 := blk_frozen BK213.out 1
                  have hfz22_2 := blk_frozen BK213.out 2
                  have hfz22_3 := blk_frozen BK213.out 3
                  have hfz22_4 := blk_frozen BK213.out 4
                  have hfz22_5 := blk_frozen BK213.out 5
                  have hfz22_6 := blk_frozen BK213.out 6
                  have hfz22_7 := blk_frozen BK213.out 7
                  go_wp2
                  go_meet
                  case rel => exact ⟨_, (false), (by first | rfl | (simp; done) | (simp [*]; done)), H', ⟨by have := HJ2.out; have := HK2.out; first | omega | exact Nat.le_refl _⟩, ⟨by (with_reducible repeat (first | apply Kd.R_alloc | apply Kd.R_drewN | apply Kd.R_drew)); exact Kd.R_mono (Kd.R_far (p := ⟨gb213, 7, none⟩) (Kd.R_far (p := ⟨gb213, 6, none⟩) (Kd.R_far (p := ⟨gb213, 5, none⟩) (Kd.R_far (p := ⟨gb213, 4, none⟩) (Kd.R_far (p := ⟨gb213, 3, none⟩) (Kd.R_far (p := ⟨gb213, 2, none⟩) (Kd.R_far (p := ⟨gb213, 1, none⟩) (Kd.R_far (p := ⟨gb213, 0, none⟩) (Kd.R_types HO_6.out BK213.out (by decide)) (fun _ hk => hk.2) (.int .i64 ((rd_T47 t203 x29_2).f0))) (fun _ hk => hk.2) (.int .i64 ((rd_T47 t203 x29_2).f1))) (fun _ hk => hk.2) (.int .i64 ((rd_T47 t203 x29_2).f2))) (fun _ hk => hk.2) (.int .i64 ((rd_T47 t203 x29_2).f3))) (fun _ hk => hk.2) (.int .i64 ((rd_T47 t203 x29_2).f4))) (fun _ hk => hk.2) (.int .i64 ((rd_T47 t203 x29_2).f5))) (fun _ hk => hk.2) (.int .i64 ((rd_T47 t203 x29_2).f6))) (fun _ hk => hk.2) (.bool ((rd_T47 t203 x29_2).f7))) (fun _ hk => trivial)⟩, ⟨by (with_reducible repeat (first | apply Kd.R_alloc | apply Kd.R_drewN | apply Kd.R_drew)); exact Kd.R_mono (Kd.R_far (p := ⟨gb213, 7, none⟩) (Kd.R_far (p := ⟨gb213, 6, none⟩) (Kd.R_far (p := ⟨gb213, 5, none⟩) (Kd.R_far (p := ⟨gb213, 4, none⟩) (Kd.R_far (p := ⟨gb213, 3, none⟩) (Kd.R_far (p := ⟨gb213, 2, none⟩) (Kd.R_far (p := ⟨gb213, 1, none⟩) (Kd.R_far (p := ⟨gb213, 0, none⟩) (Kd.R_mono HO_27.out (fun k_ hk => (⟨hk, hk.2⟩ : _ ∧ k_ ≠ gb213))) (fun _ hk => hk.2) (.int .i64 ((rd_T47 t203 x29_2).f0))) (fun _ hk => hk.2) (.int .i64 ((rd_T47 t203 x29_2).f1))) (fun _ hk => hk.2) (.int .i64 ((rd_T47 t203 x29_2).f2))) (fun _ hk => hk.2) (.int .i64 ((rd_T47 t203 x29_2).f3))) (fun _ hk => hk.2) (.int .i64 ((rd_T47 t203 x29_2).f4))) (fun _ hk => hk.2) (.int .i64 ((rd_T47 t203 x29_2).f5))) (fun _ hk => hk.2) (.int .i64 ((rd_T47 t203 x29_2).f6))) (fun _ hk => hk.2) (.bool ((rd_T47 t203 x29_2).f7))) (fun _ hk => hk.1.2)⟩, ⟨by (with_reducible repeat (first | refine blk_drewN ?_ _ | refine blk_drew ?_ | refine blk_alloc ?_ _)); refine blk_far ?_ NB202_213.out _; (with_reducible repeat (first | refine blk_drewN ?_ _ | refine blk_drew ?_ | refine blk_alloc ?_ _)); refine blk_far ?_ NB202_213.out _; (with_reducible repeat (first | refine blk_drewN ?_ _ | refine blk_drew ?_ | refine blk_alloc ?_ _)); refine blk_far ?_ NB202_213.out _; (with_reducible repeat (first | refine blk_drewN ?_ _ | refine blk_drew ?_ | refine blk_alloc ?_ _)); refine blk_far ?_ NB202_213.out _; (with_reducible repeat (first | refine blk_drewN ?_ _ | refine blk_drew ?_ | refine blk_alloc ?_ _)); refine blk_far ?_ NB202_213.out _; (with_reducible repeat (first | refine blk_drewN ?_ _ | refine blk_drew ?_ | refine blk_alloc ?_ _)); refine blk_far ?_ NB202_213.out _; (with_reducible repeat (first | refine blk_drewN ?_ _ | refine blk_drew ?_ | refine blk_alloc ?_ _)); refine blk_far ?_ NB202_213.out _; (with_reducible repeat (first | refine blk_drewN ?_ _ | refine blk_drew ?_ | refine blk_alloc ?_ _)); refine blk_far ?_ NB202_213.out _; (with_reducible repeat (first | refine blk_drewN ?_ _ | refine blk_drew ?_ | refine blk_alloc ?_ _)); exact BK202.out⟩, ⟨by (with_reducible repeat (first | refine blk_drewN ?_ _ | refine blk_drew ?_ | refine blk_alloc ?_ _)); refine blk_put (cs := #[.int .i64 ((rd_T47 t203 x29_2).f0), .int .i64 ((rd_T47 t203 x29_2).f1), .int .i64 ((rd_T47 t203 x29_2).f2), .int .i64 ((rd_T47 t203 x29_2).f3), .int .i64 ((rd_T47 t203 x29_2).f4), .int .i64 ((rd_T47 t203 x29_2).f5), .int .i64 ((rd_T47 t203 x29_2).f6), .bool false]) ?_ 7 _ rfl; (with_reducible repeat (first | refine blk_drewN ?_ _ | refine blk_drew ?_ | refine blk_alloc ?_ _)); refine blk_put (cs := #[.int .i64 ((rd_T47 t203 x29_2).f0), .int .i64 ((rd_T47 t203 x29_2).f1), .int .i64 ((rd_T47 t203 x29_2).f2), .int .i64 ((rd_T47 t203 x29_2).f3), .int .i64 ((rd_T47 t203 x29_2).f4), .int .i64 ((rd_T47 t203 x29_2).f5), .int .i64 0, .bool false]) ?_ 6 _ rfl; (with_reducible repeat (first | refine blk_drewN ?_ _ | refine blk_drew ?_ | refine blk_alloc ?_ _)); refine blk_put (cs := #[.int .i64 ((rd_T47 t203 x29_2).f0), .int .i64 ((rd_T47 t203 x29_2).f1), .int .i64 ((rd_T47 t203 x29_2).f2), .int .i64 ((rd_T47 t203 x29_2).f3), .int .i64 ((rd_T47 t203 x29_2).f4), .int .i64 0, .int .i64 0, .bool false]) ?_ 5 _ rfl; (with_reducible repeat (first | refine blk_drewN ?_ _ | refine blk_drew ?_ | refine blk_alloc ?_ _)); refine blk_put (cs := #[.int .i64 ((rd_T47 t203 x29_2).f0), .int .i64 ((rd_T47 t203 x29_2).f1), .int .i64 ((rd_T47 t203 x29_2).f2), .int .i64 ((rd_T47 t203 x29_2).f3), .int .i64 0, .int .i64 0, .int .i64 0, .bool false]) ?_ 4 _ rfl; (with_reducible repeat (first | refine blk_drewN ?_ _ | refine blk_drew ?_ | refine blk_alloc ?_ _)); refine blk_put (cs := #[.int .i64 ((rd_T47 t203 x29_2).f0), .int .i64 ((rd_T47 t203 x29_2).f1), .int .i64 ((rd_T47 t203 x29_2).f2), .int .i64 0, .int .i64 0, .int .i64 0, .int .i64 0, .bool false]) ?_ 3 _ rfl; (with_reducible repeat (first | refine blk_drewN ?_ _ | refine blk_drew ?_ | refine blk_alloc ?_ _)); refine blk_put (cs := #[.int .i64 ((rd_T47 t203 x29_2).f0), .int .i64 ((rd_T47 t203 x29_2).f1), .int .i64 0, .int .i64 0, .int .i64 0, .int .i64 0, .int .i64 0, .bool false]) ?_ 2 _ rfl; (with_reducible repeat (first | refine blk_drewN ?_ _ | refine blk_drew ?_ | refine blk_alloc ?_ _)); refine blk_put (cs := #[.int .i64 ((rd_T47 t203 x29_2).f0), .int .i64 0, .int .i64 0, .int .i64 0, .int .i64 0, .int .i64 0, .int .i64 0, .bool false]) ?_ 1 _ rfl; (with_reducible repeat (first | refine blk_drewN ?_ _ | refine blk_drew ?_ | refine blk_alloc ?_ _)); refine blk_put (cs := #[.int .i64 0, .int .i64 0, .int .i64 0, .int .i64 0, .int .i64 0, .int .i64 0, .int .i64 0, .bool false]) ?_ 0 _ rfl; (with_reducible repeat (first | refine blk_drewN ?_ _ | refine blk_drew ?_ | refine blk_alloc ?_ _)); exact BK213.out⟩, ⟨by repeat (first | (with_reducible first | exact HB.out | apply below_alloc | apply pw_below_drewN | apply below_drew1 | refine below_set ?_ GE202.out | refine below_set ?_ GE213.out) | exact HB.out)⟩⟩
                · rw [if_neg c20] at H
                  have c20b0 : (((rd_T47 t203 x29_2).f0) == 2) = false := beq_eq_false_iff_ne.mpr c20
                  have c20b1 : (((rd_T47 t203 x29_2).f0) != 2) = true := bne_iff_ne.mpr c20
                  (first | rw [c20b0] | (simp only [i64_w, i32_w]; rw [c20b0]) | skip)
                  have H' := Aside0.mk H
                  clear H
                  have hnb23 := NB213_202.out
                  have hnc23 := NB202_213.out
                  have hcz24_0 : w17.cell? ⟨gb213, 0, none⟩ = some (.int .i64 0) := (blk_cell BK213.out 0).trans rfl
                  have hcz24_1 : w17.cell? ⟨gb213, 1, none⟩ = some (.int .i64 0) := (blk_cell BK213.out 1).trans rfl
                  have hcz24_2 : w17.cell? ⟨gb213, 2, none⟩ = some (.int .i64 0) := (blk_cell BK213.out 2).trans rfl
                  have hcz24_3 : w17.cell? ⟨gb213, 3, none⟩ = some (.int .i64 0) := (blk_cell BK213.out 3).trans rfl
                  have hcz24_4 : w17.cell? ⟨gb213, 4, none⟩ = some (.int .i64 0) := (blk_cell BK213.out 4).trans rfl
                  have hcz24_5 : w17.cell? ⟨gb213, 5, none⟩ = some (.int .i64 0) := (blk_cell BK213.out 5).trans rfl
                  have hcz24_6 : w17.cell? ⟨gb213, 6, none⟩ = some (.int .i64 0) := (blk_cell BK213.out 6).trans rfl
                  have hcz24_7 : w17.cell? ⟨gb213, 7, none⟩ = some (.bool false) := (blk_cell BK213.out 7).trans rfl
                  have hfz24_0 := blk_frozen BK213.out 0
                  have hfz24_1 := blk_frozen BK213.out 1
                  have hfz24_2 := blk_frozen BK213.out 2
                  have hfz24_3 := blk_frozen BK213.out 3
                  have hfz24_4 := blk_frozen BK213.out 4
                  have hfz24_5 := blk_frozen BK213.out 5
                  have hfz24_6 := blk_frozen BK213.out 6
                  have hfz24_7 := blk_frozen BK213.out 7
                  go_wp2
                  go_meet
                  case rel => exact ⟨_, ((((rd_T47 t203 x29_2).f0) != 3)), (by first | rfl | (simp; done) | (simp [*]; done)), H', ⟨by have := HJ2.out; have := HK2.out; first | omega | exact Nat.le_refl _⟩, ⟨by (with_reducible repeat (first | apply Kd.R_alloc | apply Kd.R_drewN | apply Kd.R_drew)); exact Kd.R_mono (Kd.R_far (p := ⟨gb213, 7, none⟩) (Kd.R_far (p := ⟨gb213, 6, none⟩) (Kd.R_far (p := ⟨gb213, 5, none⟩) (Kd.R_far (p := ⟨gb213, 4, none⟩) (Kd.R_far (p := ⟨gb213, 3, none⟩) (Kd.R_far (p := ⟨gb213, 2, none⟩) (Kd.R_far (p := ⟨gb213, 1, none⟩) (Kd.R_far (p := ⟨gb213, 0, none⟩) (Kd.R_types HO_6.out BK213.out (by decide)) (fun _ hk => hk.2) (.int .i64 ((rd_T47 t203 x29_2).f0))) (fun _ hk => hk.2) (.int .i64 ((rd_T47 t203 x29_2).f1))) (fun _ hk => hk.2) (.int .i64 ((rd_T47 t203 x29_2).f2))) (fun _ hk => hk.2) (.int .i64 ((rd_T47 t203 x29_2).f3))) (fun _ hk => hk.2) (.int .i64 ((rd_T47 t203 x29_2).f4))) (fun _ hk => hk.2) (.int .i64 ((rd_T47 t203 x29_2).f5))) (fun _ hk => hk.2) (.int .i64 ((rd_T47 t203 x29_2).f6))) (fun _ hk => hk.2) (.bool ((rd_T47 t203 x29_2).f7))) (fun _ hk => trivial)⟩, ⟨by (with_reducible repeat (first | apply Kd.R_alloc | apply Kd.R_drewN | apply Kd.R_drew)); exact Kd.R_mono (Kd.R_far (p := ⟨gb213, 7, none⟩) (Kd.R_far (p := ⟨gb213, 6, none⟩) (Kd.R_far (p := ⟨gb213, 5, none⟩) (Kd.R_far (p := ⟨gb213, 4, none⟩) (Kd.R_far (p := ⟨gb213, 3, none⟩) (Kd.R_far (p := ⟨gb213, 2, none⟩) (Kd.R_far (p := ⟨gb213, 1, none⟩) (Kd.R_far (p := ⟨gb213, 0, none⟩) (Kd.R_mono HO_27.out (fun k_ hk => (⟨hk, hk.2⟩ : _ ∧ k_ ≠ gb213))) (fun _ hk => hk.2) (.int .i64 ((rd_T47 t203 x29_2).f0))) (fun _ hk => hk.2) (.int .i64 ((rd_T47 t203 x29_2).f1))) (fun _ hk => hk.2) (.int .i64 ((rd_T47 t203 x29_2).f2))) (fun _ hk => hk.2) (.int .i64 ((rd_T47 t203 x29_2).f3))) (fun _ hk => hk.2) (.int .i64 ((rd_T47 t203 x29_2).f4))) (fun _ hk => hk.2) (.int .i64 ((rd_T47 t203 x29_2).f5))) (fun _ hk => hk.2) (.int .i64 ((rd_T47 t203 x29_2).f6))) (fun _ hk => hk.2) (.bool ((rd_T47 t203 x29_2).f7))) (fun _ hk => hk.1.2)⟩, ⟨by (with_reducible repeat (first | refine blk_drewN ?_ _ | refine blk_drew ?_ | refine blk_alloc ?_ _)); refine blk_far ?_ NB202_213.out _; (with_reducible repeat (first | refine blk_drewN ?_ _ | refine blk_drew ?_ | refine blk_alloc ?_ _)); refine blk_far ?_ NB202_213.out _; (with_reducible repeat (first | refine blk_drewN ?_ _ | refine blk_drew ?_ | refine blk_alloc ?_ _)); refine blk_far ?_ NB202_213.out _; (with_reducible repeat (first | refine blk_drewN ?_ _ | refine blk_drew ?_ | refine blk_alloc ?_ _)); refine blk_far ?_ NB202_213.out _; (with_reducible repeat (first | refine blk_drewN ?_ _ | refine blk_drew ?_ | refine blk_alloc ?_ _)); refine blk_far ?_ NB202_213.out _; (with_reducible repeat (first | refine blk_drewN ?_ _ | refine blk_drew ?_ | refine blk_alloc ?_ _)); refine blk_far ?_ NB202_213.out _; (with_reducible repeat (first | refine blk_drewN ?_ _ | refine blk_drew ?_ | refine blk_alloc ?_ _)); refine blk_far ?_ NB202_213.out _; (with_reducible repeat (first | refine blk_drewN ?_ _ | refine blk_drew ?_ | refine blk_alloc ?_ _)); refine blk_far ?_ NB202_213.out _; (with_reducible repeat (first | refine blk_drewN ?_ _ | refine blk_drew ?_ | refine blk_alloc ?_ _)); exact BK202.out⟩, ⟨by (with_reducible repeat (first | refine blk_drewN ?_ _ | refine blk_drew ?_ | refine blk_alloc ?_ _)); refine blk_put (cs := #[.int .i64 ((rd_T47 t203 x29_2).f0), .int .i64 ((rd_T47 t203 x29_2).f1), .int .i64 ((rd_T47 t203 x29_2).f2), .int .i64 ((rd_T47 t203 x29_2).f3), .int .i64 ((rd_T47 t203 x29_2).f4), .int .i64 ((rd_T47 t203 x29_2).f5), .int .i64 ((rd_T47 t203 x29_2).f6), .bool false]) ?_ 7 _ rfl; (with_reducible repeat (first | refine blk_drewN ?_ _ | refine blk_drew ?_ | refine blk_alloc ?_ _)); refine blk_put (cs := #[.int .i64 ((rd_T47 t203 x29_2).f0), .int .i64 ((rd_T47 t203 x29_2).f1), .int .i64 ((rd_T47 t203 x29_2).f2), .int .i64 ((rd_T47 t203 x29_2).f3), .int .i64 ((rd_T47 t203 x29_2).f4), .int .i64 ((rd_T47 t203 x29_2).f5), .int .i64 0, .bool false]) ?_ 6 _ rfl; (with_reducible repeat (first | refine blk_drewN ?_ _ | refine blk_drew ?_ | refine blk_alloc ?_ _)); refine blk_put (cs := #[.int .i64 ((rd_T47 t203 x29_2).f0), .int .i64 ((rd_T47 t203 x29_2).f1), .int .i64 ((rd_T47 t203 x29_2).f2), .int .i64 ((rd_T47 t203 x29_2).f3), .int .i64 ((rd_T47 t203 x29_2).f4), .int .i64 0, .int .i64 0, .bool false]) ?_ 5 _ rfl; (with_reducible repeat (first | refine blk_drewN ?_ _ | refine blk_drew ?_ | refine blk_alloc ?_ _)); refine blk_put (cs := #[.int .i64 ((rd_T47 t203 x29_2).f0), .int .i64 ((rd_T47 t203 x29_2).f1), .int .i64 ((rd_T47 t203 x29_2).f2), .int .i64 ((rd_T47 t203 x29_2).f3), .int .i64 0, .int .i64 0, .int .i64 0, .bool false]) ?_ 4 _ rfl; (with_reducible repeat (first | refine blk_drewN ?_ _ | refine blk_drew ?_ | refine blk_alloc ?_ _)); refine blk_put (cs := #[.int .i64 ((rd_T47 t203 x29_2).f0), .int .i64 ((rd_T47 t203 x29_2).f1), .int .i64 ((rd_T47 t203 x29_2).f2), .int .i64 0, .int .i64 0, .int .i64 0, .int .i64 0, .bool false]) ?_ 3 _ rfl; (with_reducible repeat (first | refine blk_drewN ?_ _ | refine blk_drew ?_ | refine blk_alloc ?_ _)); refine blk_put (cs := #[.int .i64 ((rd_T47 t203 x29_2).f0), .int .i64 ((rd_T47 t203 x29_2).f1), .int .i64 0, .int .i64 0, .int .i64 0, .int .i64 0, .int .i64 0, .bool false]) ?_ 2 _ rfl; (with_reducible repeat (first | refine blk_drewN ?_ _ | refine blk_drew ?_ | refine blk_alloc ?_ _)); refine blk_put (cs := #[.int .i64 ((rd_T47 t203 x29_2).f0), .int .i64 0, .int .i64 0, .int .i64 0, .int .i64 0, .int .i64 0, .int .i64 0, .bool false]) ?_ 1 _ rfl; (with_reducible repeat (first | refine blk_drewN ?_ _ | refine blk_drew ?_ | refine blk_alloc ?_ _)); refine blk_put (cs := #[.int .i64 0, .int .i64 0, .int .i64 0, .int .i64 0, .int .i64 0, .int .i64 0, .int .i64 0, .bool false]) ?_ 0 _ rfl; (with_reducible repeat (first | refine blk_drewN ?_ _ | refine blk_drew ?_ | refine blk_alloc ?_ _)); exact BK213.out⟩, ⟨by repeat (first | (with_reducible first | exact HB.out | apply below_alloc | apply pw_below_drewN | apply below_drew1 | refine below_set ?_ GE202.out | refine below_set ?_ GE213.out) | exact HB.out)⟩⟩
               case rest =>
                clear HC16
                try clear c1
                try clear c2
                try clear p2
                try clear q2
                try clear hx2
                try clear c6
                try clear c6b0
                try clear c7
                try clear c8
                try clear c13
                try clear c13b0
                try clear c14
                try clear c14b0
                try clear c15
                try clear c15b0
                try clear c18
                try clear c20
                try clear c20b0
                try clear c20b1
                try clear c21
                try clear p21
                try clear q21
                try clear hx21
                try clear c23
                try clear hcz10_0
                try clear hcz10_1
                try clear hcz10_2
                try clear hcz19_0
                try clear hcz19_1
                try clear hcz19_2
                try clear hcz19_3
                try clear hcz19_4
                try clear hcz19_5
                try clear hcz19_6
                try clear hcz19_7
                try clear hcz22_0
                try clear hcz22_1
                try clear hcz22_2
                try clear hcz22_3
                try clear hcz22_4
                try clear hcz22_5
                try clear hcz22_6
                try clear hcz22_7
                try clear hcz24_0
                try clear hcz24_1
                try clear hcz24_2
                try clear hcz24_3
                try clear hcz24_4
                try clear hcz24_5
                try clear hcz24_6
                try clear hcz24_7
                try clear hcz5_0
                try clear hcz5_1
                try clear hcz5_2
                try clear hfz10_0
                try clear hfz10_1
                try clear hfz10_2
                try clear hfz19_0
                try clear hfz19_1
                try clear hfz19_2
                try clear hfz19_3
                try clear hfz19_4
                try clear hfz19_5
                try clear hfz19_6
                try clear hfz19_7
                try clear hfz22_0
                try clear hfz22_1
                try clear hfz22_2
                try clear hfz22_3
                try clear hfz22_4
                try clear hfz22_5
                try clear hfz22_6
                try clear hfz22_7
                try clear hfz24_0
                try clear hfz24_1
                try clear hfz24_2
                try clear hfz24_3
                try clear hfz24_4
                try clear hfz24_5
                try clear hfz24_6
                try clear hfz24_7
                try clear hfz5_0
                try clear hfz5_1
                try clear hfz5_2
                try clear hx212_0
                try clear hx212_1
                try clear hx212_2
                try clear hx212_3
                try clear hx212_4
                try clear hx212_5
                try clear hx212_6
                try clear hx212_7
                try clear p2
                try clear p212
                try clear q212
                obtain ⟨kq, x41_15, rfl, HA, HJ15, HO_6, HO_27, BK202, BK213, HB⟩ := hcut
                cases kq with
                | zero => exact absurd HA.out (by simp [valid_Spans.j2])
                | succ kj15 =>
                 have H := HA.out
                 clear HA
                 simp only [valid_Spans.j2] at H
                 by_cases c25 : x41_15 = true
                 · subst c25
                   have H1 : (valid_Spans.l0 kj15 0 x6_2 x7_2 t203 (t203.length : Int) (wrap64 (x29_2 + 1)) 0 l0) = some r := by rw [if_pos rfl] at H; exact H
                   clear H
                   have H := H1
                   clear H1
                   have H' := Aside0.mk H
                   clear H
                   go_wp2
                   go_roundg kj15
                   case measure => have := HJ2.out; have := HK2.out; have := HJ15.out; omega
                   case rel => exact ⟨(x6_2), (x7_2), (wrap64 (x29_2 + 1)), (by first | rfl | (simp; done) | (simp [*]; done)), (by first | rfl | (simp; done) | (simp [*]; done)), H', ⟨by have := HJ2.out; have := HK2.out; have := HJ15.out; omega⟩, ⟨by (with_reducible repeat (first | apply Kd.R_alloc | apply Kd.R_drewN | apply Kd.R_drew)); exact HO_6.out⟩, ⟨by (with_reducible repeat (first | apply Kd.R_alloc | apply Kd.R_drewN | apply Kd.R_drew)); exact Kd.R_mono HO_27.out (fun _ hk => trivial)⟩, ⟨by (with_reducible repeat (first | refine blk_drewN ?_ _ | refine blk_drew ?_ | refine blk_alloc ?_ _)); exact BK202.out⟩, ⟨by repeat (first | (with_reducible first | exact HB.out | apply below_alloc | apply pw_below_drewN | apply below_drew1 | refine below_set ?_ GE202.out | refine below_set ?_ GE213.out) | exact HB.out)⟩⟩
                 · replace c25 := Bool.eq_false_iff.mpr c25
                   subst c25
                   have H1 : ((plan_Slot_Pulse.f kj15 ((rd_T47 t203 x29_2).f0) ((rd_T47 t203 x29_2).f1) ((rd_T47 t203 x29_2).f2) ((rd_T47 t203 x29_2).f3) ((rd_T47 t203 x29_2).f4) ((rd_T47 t203 x29_2).f5) ((rd_T47 t203 x29_2).f6) ((rd_T47 t203 x29_2).f7)).bind fun bt214 => (if x29_2 > 0 then (if x6_2.length < 17592186044416 then (valid_Spans.l0 kj15 0 (x6_2 ++ [wrap64 (Int.tdiv (wrap64 ((wrap64 (((rd_T47 t203 x29_2).f1) + bt214.1)) - x7_2)) 20)]) (wrap64 (((rd_T47 t203 x29_2).f1) + bt214.1)) t203 (t203.length : Int) (wrap64 (x29_2 + 1)) 0 l0) else (none)) else (valid_Spans.l0 kj15 0 x6_2 (wrap64 (((rd_T47 t203 x29_2).f1) + bt214.1)) t203 (t203.length : Int) (wrap64 (x29_2 + 1)) 0 l0))) = some r := by rw [if_neg (show ¬ (false = true) by decide)] at H; exact H
                   clear H
                   have H := H1
                   clear H1
                   replace H := Option.bind_eq_some_iff.mp H
                   obtain ⟨⟨t214, t215⟩, A260, H⟩ := H
                   replace H : (if x29_2 > 0 then (if x6_2.length < 17592186044416 then (valid_Spans.l0 kj15 0 (x6_2 ++ [wrap64 (Int.tdiv (wrap64 ((wrap64 (((rd_T47 t203 x29_2).f1) + t214)) - x7_2)) 20)]) (wrap64 (((rd_T47 t203 x29_2).f1) + t214)) t203 (t203.length : Int) (wrap64 (x29_2 + 1)) 0 l0) else (none)) else (valid_Spans.l0 kj15 0 x6_2 (wrap64 (((rd_T47 t203 x29_2).f1) + t214)) t203 (t203.length : Int) (wrap64 (x29_2 + 1)) 0 l0)) = some r := H
                   have A26 := Aside0.mk A260
                   clear A260
                   by_cases c27 : x29_2 > 0
                   · rw [if_pos c27] at H
                     have c27b0 : decide (0 < x29_2) = true := decide_eq_true c27
                     clear c27
                     by_cases c28 : x6_2.length < 17592186044416
                     · rw [if_pos c28] at H
                       have LMc28 := Aside0.mk c28
                       clear c28
                       obtain ⟨y216, hy216⟩ : ∃ y_ : List Int, y_ = (x6_2 ++ [wrap64 (Int.tdiv (wrap64 ((wrap64 (((rd_T47 t203 x29_2).f1) + t214)) - x7_2)) 20)]) := ⟨_, rfl⟩
                       replace H : (valid_Spans.l0 kj15 0 y216 (wrap64 (((rd_T47 t203 x29_2).f1) + t214)) t203 (t203.length : Int) (wrap64 (x29_2 + 1)) 0 l0) = some r := by first | (rw [hy216]; with_reducible exact H) | (have H2_ := (Option.bind_some _ _).symm.trans H; rw [hy216]; with_reducible exact H2_) | (have H2_ := (Option.bind_some _ _).symm.trans H; with_reducible exact H2_) | with_reducible exact H | (rw [hy216]; exact H) | exact H
                       have Ny216 := Aside0.mk hy216
                       clear hy216
                       have H' := Aside0.mk H
                       clear H
                       have hnb29 := NB213_202.out
                       have hnc29 := NB202_213.out
                       have hcz30_0 : wc.cell? ⟨gb213, 0, none⟩ = some (.int .i64 ((rd_T47 t203 x29_2).f0)) := (blk_cell BK213.out 0).trans rfl
                       have hcz30_1 : wc.cell? ⟨gb213, 1, none⟩ = some (.int .i64 ((rd_T47 t203 x29_2).f1)) := (blk_cell BK213.out 1).trans rfl
                       have hcz30_2 : wc.cell? ⟨gb213, 2, none⟩ = some (.int .i64 ((rd_T47 t203 x29_2).f2)) := (blk_cell BK213.out 2).trans rfl
                       have hcz30_3 : wc.cell? ⟨gb213, 3, none⟩ = some (.int .i64 ((rd_T47 t203 x29_2).f3)) := (blk_cell BK213.out 3).trans rfl
                       have hcz30_4 : wc.cell? ⟨gb213, 4, none⟩ = some (.int .i64 ((rd_T47 t203 x29_2).f4)) := (blk_cell BK213.out 4).trans rfl
                       have hcz30_5 : wc.cell? ⟨gb213, 5, none⟩ = some (.int .i64 ((rd_T47 t203 x29_2).f5)) := (blk_cell BK213.out 5).trans rfl
                       have hcz30_6 : wc.cell? ⟨gb213, 6, none⟩ = some (.int .i64 ((rd_T47 t203 x29_2).f6)) := (blk_cell BK213.out 6).trans rfl
                       have hcz30_7 : wc.cell? ⟨gb213, 7, none⟩ = some (.bool ((rd_T47 t203 x29_2).f7)) := (blk_cell BK213.out 7).trans rfl
                       have hfz30_0 := blk_frozen BK213.out 0
                       have hfz30_1 := blk_frozen BK213.out 1
                       have hfz30_2 := blk_frozen BK213.out 2
                       have hfz30_3 := blk_frozen BK213.out 3
                       have hfz30_4 := blk_frozen BK213.out 4
                       have hfz30_5 := blk_frozen BK213.out 5
                       have hfz30_6 := blk_frozen BK213.out 6
                       have hfz30_7 := blk_frozen BK213.out 7
                       go_wp2_with (first | ((with_reducible refine gate_callee (f := 16) rfl ?_); refine goesL_ (some 44) rfl rfl Try.func16 (by kernel_rfl) rfl #[.agg #[.int .i64 ((rd_T47 t203 x29_2).f0), .int .i64 ((rd_T47 t203 x29_2).f1), .int .i64 ((rd_T47 t203 x29_2).f2), .int .i64 ((rd_T47 t203 x29_2).f3), .int .i64 ((rd_T47 t203 x29_2).f4), .int .i64 ((rd_T47 t203 x29_2).f5), .int .i64 ((rd_T47 t203 x29_2).f6), .bool ((rd_T47 t203 x29_2).f7)]] rfl (by (try simp only [List.map_toArray, List.map_cons, List.map_nil]); first | done | rfl | (simp only [List.length_drop, List.length_take]; rfl)) ?_; (with_reducible refine (plan_Slot_Pulse.calls kj15 ((rd_T47 t203 x29_2).f0) ((rd_T47 t203 x29_2).f1) ((rd_T47 t203 x29_2).f2) ((rd_T47 t203 x29_2).f3) ((rd_T47 t203 x29_2).f4) ((rd_T47 t203 x29_2).f5) ((rd_T47 t203 x29_2).f6) ((rd_T47 t203 x29_2).f7) t214 t215 _ A26.out).mono ?_); rintro e w31 ⟨rfl, hb⟩; refine ⟨_, rfl, ?_⟩; have n0_ := Aside0.mk (Kd.R_below (by (with_reducible repeat (first | apply Kd.R_alloc | apply Kd.R_drewN | apply Kd.R_drew)); exact HO_6.out) hb); have n1_ := Aside0.mk (Kd.R_below (by (with_reducible repeat (first | apply Kd.R_alloc | apply Kd.R_drewN | apply Kd.R_drew)); exact HO_27.out) hb); have n2_ := Aside0.mk (blk_below (g := gb202) (o := .cells #[.int .i64 0, .slice A0 l0.length c0, .slice none 0 0] 62 (0, 0)) (by (with_reducible repeat (first | refine blk_drewN ?_ _ | refine blk_drew ?_ | refine blk_alloc ?_ _)); exact BK202.out) hb); have n3_ := Aside0.mk (blk_below (g := gb213) (o := .cells #[.int .i64 ((rd_T47 t203 x29_2).f0), .int .i64 ((rd_T47 t203 x29_2).f1), .int .i64 ((rd_T47 t203 x29_2).f2), .int .i64 ((rd_T47 t203 x29_2).f3), .int .i64 ((rd_T47 t203 x29_2).f4), .int .i64 ((rd_T47 t203 x29_2).f5), .int .i64 ((rd_T47 t203 x29_2).f6), .bool ((rd_T47 t203 x29_2).f7)] 47 (0, 0)) (by (with_reducible repeat (first | refine blk_drewN ?_ _ | refine blk_drew ?_ | refine blk_alloc ?_ _)); exact BK213.out) hb); have n4_ := Aside0.mk (below_step (by repeat (first | (with_reducible first | exact HB.out | apply below_alloc | apply pw_below_drewN | apply below_drew1 | refine below_set ?_ GE202.out | refine below_set ?_ GE213.out) | exact HB.out)) hb); clear HO_6; clear HO_27; clear BK202; clear BK213; clear HB; have HO_6 := n0_; have HO_27 := n1_; have BK202 := n2_; have BK213 := n3_; have HB := n4_; clear n0_ n1_ n2_ n3_ n4_; (try clear hb); (try clear hb2); (try clear hk); (try clear hi); have hcz32_0 : w31.cell? ⟨gb213, 0, none⟩ = some (.int .i64 ((rd_T47 t203 x29_2).f0)) := (blk_cell BK213.out 0).trans rfl; have hcz32_1 : w31.cell? ⟨gb213, 1, none⟩ = some (.int .i64 ((rd_T47 t203 x29_2).f1)) := (blk_cell BK213.out 1).trans rfl; have hcz32_2 : w31.cell? ⟨gb213, 2, none⟩ = some (.int .i64 ((rd_T47 t203 x29_2).f2)) := (blk_cell BK213.out 2).trans rfl; have hcz32_3 : w31.cell? ⟨gb213, 3, none⟩ = some (.int .i64 ((rd_T47 t203 x29_2).f3)) := (blk_cell BK213.out 3).trans rfl; have hcz32_4 : w31.cell? ⟨gb213, 4, none⟩ = some (.int .i64 ((rd_T47 t203 x29_2).f4)) := (blk_cell BK213.out 4).trans rfl; have hcz32_5 : w31.cell? ⟨gb213, 5, none⟩ = some (.int .i64 ((rd_T47 t203 x29_2).f5)) := (blk_cell BK213.out 5).trans rfl; have hcz32_6 : w31.cell? ⟨gb213, 6, none⟩ = some (.int .i64 ((rd_T47 t203 x29_2).f6)) := (blk_cell BK213.out 6).trans rfl; have hcz32_7 : w31.cell? ⟨gb213, 7, none⟩ = some (.bool ((rd_T47 t203 x29_2).f7)) := (blk_cell BK213.out 7).trans rfl; have hfz32_0 := blk_frozen BK213.out 0; have hfz32_1 := blk_frozen BK213.out 1; have hfz32_2 := blk_frozen BK213.out 2; have hfz32_3 := blk_frozen BK213.out 3; have hfz32_4 := blk_frozen BK213.out 4; have hfz32_5 := blk_frozen BK213.out 5; have hfz32_6 := blk_frozen BK213.out 6; have hfz32_7 := blk_frozen BK213.out 7) | ((with_reducible refine gate_builtin (b := .append) (xs := #[.tmp 49, .tmp 57]) rfl ?_); at_builtin; refine Kd.R_append (Kd.int .i64) (w0 := w) w.heap.size rfl (.tmp 49) (.tmp 57) 42 3 (.int .i64 0) 8 rfl Try.underlying42 info3 rfl (by decide) (by omega) u6 x6_2 (wrap64 (Int.tdiv (wrap64 ((wrap64 (((rd_T47 t203 x29_2).f1) + t214)) - x7_2)) 20)) [.int .i64 (wrap64 (Int.tdiv (wrap64 ((wrap64 (((rd_T47 t203 x29_2).f1) + t214)) - x7_2)) 20))] (fun _ => True) (fun _ => False) rfl rfl ?aP (fun _ hk => hk.elim) ?aF ?aO ?aB ?aS ?aL ?_; (case aP => exact rfl); (case aB => exact (by repeat (first | (with_reducible first | exact HB.out | apply below_alloc | apply pw_below_drewN | apply below_drew1 | refine below_set ?_ GE202.out | refine below_set ?_ GE213.out) | exact HB.out))); (case aF => exact (fun _ _ => trivial)); (case aO => exact (by (with_reducible repeat (first | apply Kd.R_alloc | apply Kd.R_drewN | apply Kd.R_drew)); exact HO_6.out)); (case aS => exact (below_size (by repeat (first | (with_reducible first | exact HB.out | apply below_alloc | apply pw_below_drewN | apply below_drew1 | refine below_set ?_ GE202.out | refine below_set ?_ GE213.out) | exact HB.out)))); (case aL => have := LMc28.out; omega); intro v217 w33 ho hb hg hat; rw [← Ny216.out] at ho; have n0_ := Aside0.mk (Kd.R_over' (by (with_reducible repeat (first | apply Kd.R_alloc | apply Kd.R_drewN | apply Kd.R_drew)); exact HO_27.out) (Kd.R_typed (by (with_reducible repeat (first | apply Kd.R_alloc | apply Kd.R_drewN | apply Kd.R_drew)); exact HO_6.out)) (by decide) hg); have n1_ := Aside0.mk (blk_grown (g := gb202) (o := .cells #[.int .i64 0, .slice A0 l0.length c0, .slice none 0 0] 62 (0, 0)) (by (with_reducible repeat (first | refine blk_drewN ?_ _ | refine blk_drew ?_ | refine blk_alloc ?_ _)); exact BK202.out) hg (Kd.R_ne HO_6.out BK202.out (by decide))); have n2_ := Aside0.mk (blk_grown (g := gb213) (o := .cells #[.int .i64 ((rd_T47 t203 x29_2).f0), .int .i64 ((rd_T47 t203 x29_2).f1), .int .i64 ((rd_T47 t203 x29_2).f2), .int .i64 ((rd_T47 t203 x29_2).f3), .int .i64 ((rd_T47 t203 x29_2).f4), .int .i64 ((rd_T47 t203 x29_2).f5), .int .i64 ((rd_T47 t203 x29_2).f6), .bool ((rd_T47 t203 x29_2).f7)] 47 (0, 0)) (by (with_reducible repeat (first | refine blk_drewN ?_ _ | refine blk_drew ?_ | refine blk_alloc ?_ _)); exact BK213.out) hg (Kd.R_ne HO_6.out BK213.out (by decide))); have n3_ := Aside0.mk (hb); have n4_ := Aside0.mk (ho); clear HO_27; clear BK202; clear BK213; clear HB; clear HO_6; have HO_27 := n0_; have BK202 := n1_; have BK213 := n2_; have HB := n3_; have HO218 := n4_; clear n0_ n1_ n2_ n3_ n4_; clear ho hb hg hat; have hcz34_0 : w33.cell? ⟨gb213, 0, none⟩ = some (.int .i64 ((rd_T47 t203 x29_2).f0)) := (blk_cell BK213.out 0).trans rfl; have hcz34_1 : w33.cell? ⟨gb213, 1, none⟩ = some (.int .i64 ((rd_T47 t203 x29_2).f1)) := (blk_cell BK213.out 1).trans rfl; have hcz34_2 : w33.cell? ⟨gb213, 2, none⟩ = some (.int .i64 ((rd_T47 t203 x29_2).f2)) := (blk_cell BK213.out 2).trans rfl; have hcz34_3 : w33.cell? ⟨gb213, 3, none⟩ = some (.int .i64 ((rd_T47 t203 x29_2).f3)) := (blk_cell BK213.out 3).trans rfl; have hcz34_4 : w33.cell? ⟨gb213, 4, none⟩ = some (.int .i64 ((rd_T47 t203 x29_2).f4)) := (blk_cell BK213.out 4).trans rfl; have hcz34_5 : w33.cell? ⟨gb213, 5, none⟩ = some (.int .i64 ((rd_T47 t203 x29_2).f5)) := (blk_cell BK213.out 5).trans rfl; have hcz34_6 : w33.cell? ⟨gb213, 6, none⟩ = some (.int .i64 ((rd_T47 t203 x29_2).f6)) := (blk_cell BK213.out 6).trans rfl; have hcz34_7 : w33.cell? ⟨gb213, 7, none⟩ = some (.bool ((rd_T47 t203 x29_2).f7)) := (blk_cell BK213.out 7).trans rfl; have hfz34_0 := blk_frozen BK213.out 0; have hfz34_1 := blk_frozen BK213.out 1; have hfz34_2 := blk_frozen BK213.out 2; have hfz34_3 := blk_frozen BK213.out 3; have hfz34_4 := blk_frozen BK213.out 4; have hfz34_5 := blk_frozen BK213.out 5; have hfz34_6 := blk_frozen BK213.out 6; have hfz34_7 := blk_frozen BK213.out 7))
                       go_roundg kj15
                       case measure => have := HJ2.out; have := HK2.out; have := HJ15.out; omega
                       case rel => exact ⟨(y216), (wrap64 (((rd_T47 t203 x29_2).f1) + t214)), (wrap64 (x29_2 + 1)), (by first | rfl | (simp; done) | (simp [*]; done)), (by first | rfl | (simp; done) | (simp [*]; done)), H', ⟨by have := HJ2.out; have := HK2.out; have := HJ15.out; omega⟩, ⟨by (with_reducible repeat (first | apply Kd.R_alloc | apply Kd.R_drewN | apply Kd.R_drew)); exact HO218.out⟩, ⟨by (with_reducible repeat (first | apply Kd.R_alloc | apply Kd.R_drewN | apply Kd.R_drew)); exact Kd.R_mono HO_27.out (fun _ hk => trivial)⟩, ⟨by (with_reducible repeat (first | refine blk_drewN ?_ _ | refine blk_drew ?_ | refine blk_alloc ?_ _)); exact BK202.out⟩, ⟨by repeat (first | (with_reducible first | exact HB.out | apply below_alloc | apply pw_below_drewN | apply below_drew1 | refine below_set ?_ GE202.out | refine below_set ?_ GE213.out) | exact HB.out)⟩⟩
                     · rw [if_neg c28] at H
                       exact absurd H (by simp)
                   · rw [if_neg c27] at H
                     have c27b0 : decide (0 < x29_2) = false := decide_eq_false c27
                     clear c27
                     have H' := Aside0.mk H
                     clear H
                     have hnb35 := NB213_202.out
                     have hnc35 := NB202_213.out
                     have hcz36_0 : wc.cell? ⟨gb213, 0, none⟩ = some (.int .i64 ((rd_T47 t203 x29_2).f0)) := (blk_cell BK213.out 0).trans rfl
                     have hcz36_1 : wc.cell? ⟨gb213, 1, none⟩ = some (.int .i64 ((rd_T47 t203 x29_2).f1)) := (blk_cell BK213.out 1).trans rfl
                     have hcz36_2 : wc.cell? ⟨gb213, 2, none⟩ = some (.int .i64 ((rd_T47 t203 x29_2).f2)) := (blk_cell BK213.out 2).trans rfl
                     have hcz36_3 : wc.cell? ⟨gb213, 3, none⟩ = some (.int .i64 ((rd_T47 t203 x29_2).f3)) := (blk_cell BK213.out 3).trans rfl
                     have hcz36_4 : wc.cell? ⟨gb213, 4, none⟩ = some (.int .i64 ((rd_T47 t203 x29_2).f4)) := (blk_cell BK213.out 4).trans rfl
                     have hcz36_5 : wc.cell? ⟨gb213, 5, none⟩ = some (.int .i64 ((rd_T47 t203 x29_2).f5)) := (blk_cell BK213.out 5).trans rfl
                     have hcz36_6 : wc.cell? ⟨gb213, 6, none⟩ = some (.int .i64 ((rd_T47 t203 x29_2).f6)) := (blk_cell BK213.out 6).trans rfl
                     have hcz36_7 : wc.cell? ⟨gb213, 7, none⟩ = some (.bool ((rd_T47 t203 x29_2).f7)) := (blk_cell BK213.out 7).trans rfl
                     have hfz36_0 := blk_frozen BK213.out 0
                     have hfz36_1 := blk_frozen BK213.out 1
                     have hfz36_2 := blk_frozen BK213.out 2
                     have hfz36_3 := blk_frozen BK213.out 3
                     have hfz36_4 := blk_frozen BK213.out 4
                     have hfz36_5 := blk_frozen BK213.out 5
                     have hfz36_6 := blk_frozen BK213.out 6
                     have hfz36_7 := blk_frozen BK213.out 7
                     go_wp2_with (first | ((with_reducible refine gate_callee (f := 16) rfl ?_); refine goesL_ (some 44) rfl rfl Try.func16 (by kernel_rfl) rfl #[.agg #[.int .i64 ((rd_T47 t203 x29_2).f0), .int .i64 ((rd_T47 t203 x29_2).f1), .int .i64 ((rd_T47 t203 x29_2).f2), .int .i64 ((rd_T47 t203 x29_2).f3), .int .i64 ((rd_T47 t203 x29_2).f4), .int .i64 ((rd_T47 t203 x29_2).f5), .int .i64 ((rd_T47 t203 x29_2).f6), .bool ((rd_T47 t203 x29_2).f7)]] rfl (by (try simp only [List.map_toArray, List.map_cons, List.map_nil]); first | done | rfl | (simp only [List.length_drop, List.length_take]; rfl)) ?_; (with_reducible refine (plan_Slot_Pulse.calls kj15 ((rd_T47 t203 x29_2).f0) ((rd_T47 t203 x29_2).f1) ((rd_T47 t203 x29_2).f2) ((rd_T47 t203 x29_2).f3) ((rd_T47 t203 x29_2).f4) ((rd_T47 t203 x29_2).f5) ((rd_T47 t203 x29_2).f6) ((rd_T47 t203 x29_2).f7) t214 t215 _ A26.out).mono ?_); rintro e w37 ⟨rfl, hb⟩; refine ⟨_, rfl, ?_⟩; have n0_ := Aside0.mk (Kd.R_below (by (with_reducible repeat (first | apply Kd.R_alloc | apply Kd.R_drewN | apply Kd.R_drew)); exact HO_6.out) hb); have n1_ := Aside0.mk (Kd.R_below (by (with_reducible repeat (first | apply Kd.R_alloc | apply Kd.R_drewN | apply Kd.R_drew)); exact HO_27.out) hb); have n2_ := Aside0.mk (blk_below (g := gb202) (o := .cells #[.int .i64 0, .slice A0 l0.length c0, .slice none 0 0] 62 (0, 0)) (by (with_reducible repeat (first | refine blk_drewN ?_ _ | refine blk_drew ?_ | refine blk_alloc ?_ _)); exact BK202.out) hb); have n3_ := Aside0.mk (blk_below (g := gb213) (o := .cells #[.int .i64 ((rd_T47 t203 x29_2).f0), .int .i64 ((rd_T47 t203 x29_2).f1), .int .i64 ((rd_T47 t203 x29_2).f2), .int .i64 ((rd_T47 t203 x29_2).f3), .int .i64 ((rd_T47 t203 x29_2).f4), .int .i64 ((rd_T47 t203 x29_2).f5), .int .i64 ((rd_T47 t203 x29_2).f6), .bool ((rd_T47 t203 x29_2).f7)] 47 (0, 0)) (by (with_reducible repeat (first | refine blk_drewN ?_ _ | refine blk_drew ?_ | refine blk_alloc ?_ _)); exact BK213.out) hb); have n4_ := Aside0.mk (below_step (by repeat (first | (with_reducible first | exact HB.out | apply below_alloc | apply pw_below_drewN | apply below_drew1 | refine below_set ?_ GE202.out | refine below_set ?_ GE213.out) | exact HB.out)) hb); clear HO_6; clear HO_27; clear BK202; clear BK213; clear HB; have HO_6 := n0_; have HO_27 := n1_; have BK202 := n2_; have BK213 := n3_; have HB := n4_; clear n0_ n1_ n2_ n3_ n4_; (try clear hb); (try clear hb2); (try clear hk); (try clear hi); have hcz38_0 : w37.cell? ⟨gb213, 0, none⟩ = some (.int .i64 ((rd_T47 t203 x29_2).f0)) := (blk_cell BK213.out 0).trans rfl; have hcz38_1 : w37.cell? ⟨gb213, 1, none⟩ = some (.int .i64 ((rd_T47 t203 x29_2).f1)) := (blk_cell BK213.out 1).trans rfl; have hcz38_2 : w37.cell? ⟨gb213, 2, none⟩ = some (.int .i64 ((rd_T47 t203 x29_2).f2)) := (blk_cell BK213.out 2).trans rfl; have hcz38_3 : w37.cell? ⟨gb213, 3, none⟩ = some (.int .i64 ((rd_T47 t203 x29_2).f3)) := (blk_cell BK213.out 3).trans rfl; have hcz38_4 : w37.cell? ⟨gb213, 4, none⟩ = some (.int .i64 ((rd_T47 t203 x29_2).f4)) := (blk_cell BK213.out 4).trans rfl; have hcz38_5 : w37.cell? ⟨gb213, 5, none⟩ = some (.int .i64 ((rd_T47 t203 x29_2).f5)) := (blk_cell BK213.out 5).trans rfl; have hcz38_6 : w37.cell? ⟨gb213, 6, none⟩ = some (.int .i64 ((rd_T47 t203 x29_2).f6)) := (blk_cell BK213.out 6).trans rfl; have hcz38_7 : w37.cell? ⟨gb213, 7, none⟩ = some (.bool ((rd_T47 t203 x29_2).f7)) := (blk_cell BK213.out 7).trans rfl; have hfz38_0 := blk_frozen BK213.out 0; have hfz38_1 := blk_frozen BK213.out 1; have hfz38_2 := blk_frozen BK213.out 2; have hfz38_3 := blk_frozen BK213.out 3; have hfz38_4 := blk_frozen BK213.out 4; have hfz38_5 := blk_frozen BK213.out 5; have hfz38_6 := blk_frozen BK213.out 6; have hfz38_7 := blk_frozen BK213.out 7))
                     go_roundg kj15
                     case measure => have := HJ2.out; have := HK2.out; have := HJ15.out; omega
                     case rel => exact ⟨(x6_2), (wrap64 (((rd_T47 t203 x29_2).f1) + t214)), (wrap64 (x29_2 + 1)), (by first | rfl | (simp; done) | (simp [*]; done)), (by first | rfl | (simp; done) | (simp [*]; done)), H', ⟨by have := HJ2.out; have := HK2.out; have := HJ15.out; omega⟩, ⟨by (with_reducible repeat (first | apply Kd.R_alloc | apply Kd.R_drewN | apply Kd.R_drew)); exact HO_6.out⟩, ⟨by (with_reducible repeat (first | apply Kd.R_alloc | apply Kd.R_drewN | apply Kd.R_drew)); exact Kd.R_mono HO_27.out (fun _ hk => trivial)⟩, ⟨by (with_reducible repeat (first | refine blk_drewN ?_ _ | refine blk_drew ?_ | refine blk_alloc ?_ _)); exact BK202.out⟩, ⟨by repeat (first | (with_reducible first | exact HB.out | apply below_alloc | apply pw_below_drewN | apply below_drew1 | refine below_set ?_ GE202.out | refine below_set ?_ GE213.out) | exact HB.out)⟩⟩
             · rw [if_neg c15] at H
               exact absurd H (by simp)
           · rw [if_neg c14] at H
             exact absurd H (by simp)
         · rw [if_neg c13] at H
           have c13b0 : decide (x29_2 < (t203.length : Int)) = false := decide_eq_false c13
           clear c13
           replace H := Option.bind_eq_some_iff.mp H
           obtain ⟨⟨t206, t207⟩, A390, H⟩ := H
           replace H : ((plan_Frame.f k2 0 l0 ([] : List (S76)) 0).bind fun t208 => (if x6_2.length < 17592186044416 then (some (x6_2 ++ [wrap64 (Int.tdiv (wrap64 ((wrap64 (t208 + t206)) - x7_2)) 20)])) else (none))) = some r := H
           have A39 := Aside0.mk A390
           clear A390
           replace H := Option.bind_eq_some_iff.mp H
           obtain ⟨t208, A400, H⟩ := H
           replace H : (if x6_2.length < 17592186044416 then (some (x6_2 ++ [wrap64 (Int.tdiv (wrap64 ((wrap64 (t208 + t206)) - x7_2)) 20)])) else (none)) = some r := H
           have A40 := Aside0.mk A400
           clear A400
           by_cases c41 : x6_2.length < 17592186044416
           · rw [if_pos c41] at H
             have LMc41 := Aside0.mk c41
             clear c41
             obtain ⟨y209, hy209⟩ : ∃ y_ : List Int, y_ = (x6_2 ++ [wrap64 (Int.tdiv (wrap64 ((wrap64 (t208 + t206)) - x7_2)) 20)]) := ⟨_, rfl⟩
             replace H : (some y209) = some r := by first | (rw [hy209]; with_reducible exact H) | (have H2_ := (Option.bind_some _ _).symm.trans H; rw [hy209]; with_reducible exact H2_) | (have H2_ := (Option.bind_some _ _).symm.trans H; with_reducible exact H2_) | with_reducible exact H | (rw [hy209]; exact H) | exact H
             have Ny209 := Aside0.mk hy209
             clear hy209
             obtain rfl := Option.some.inj H
             go_wp2_with (first | ((with_reducible refine gate_callee (f := 16) rfl ?_); refine goesL_ (some 66) rfl rfl Try.func16 (by kernel_rfl) rfl #[.agg #[.int .i64 3, .int .i64 0, .int .i64 0, .int .i64 0, .int .i64 0, .int .i64 0, .int .i64 0, .bool false]] rfl (by (try simp only [List.map_toArray, List.map_cons, List.map_nil]); first | done | rfl | (simp only [List.length_drop, List.length_take]; rfl)) ?_; (with_reducible refine (plan_Slot_Pulse.calls k2 3 0 0 0 0 0 0 false t206 t207 _ A39.out).mono ?_); rintro e w42 ⟨rfl, hb⟩; refine ⟨_, rfl, ?_⟩; have n0_ := Aside0.mk (Kd.R_below (by (with_reducible repeat (first | apply Kd.R_alloc | apply Kd.R_drewN | apply Kd.R_drew)); exact HO_6.out) hb); have n1_ := Aside0.mk (Kd.R_below (by (with_reducible repeat (first | apply Kd.R_alloc | apply Kd.R_drewN | apply Kd.R_drew)); exact HO_27.out) hb); have n2_ := Aside0.mk (blk_below (g := gb202) (o := .cells #[.int .i64 0, .slice A0 l0.length c0, .slice none 0 0] 62 (0, 0)) (by (with_reducible repeat (first | refine blk_drewN ?_ _ | refine blk_drew ?_ | refine blk_alloc ?_ _)); exact BK202.out) hb); have n3_ := Aside0.mk (below_step (by repeat (first | (with_reducible first | exact HB.out | apply below_alloc | apply pw_below_drewN | apply below_drew1 | refine below_set ?_ GE202.out) | exact HB.out)) hb); clear HO_6; clear HO_27; clear BK202; clear HB; have HO_6 := n0_; have HO_27 := n1_; have BK202 := n2_; have HB := n3_; clear n0_ n1_ n2_ n3_; (try clear hb); (try clear hb2); (try clear hk); (try clear hi); have hcz43_0 : w42.cell? ⟨gb202, 0, none⟩ = some (.int .i64 0) := (blk_cell BK202.out 0).trans rfl; have hcz43_1 : w42.cell? ⟨gb202, 1, none⟩ = some (.slice A0 l0.length c0) := (blk_cell BK202.out 1).trans rfl; have hcz43_2 : w42.cell? ⟨gb202, 2, none⟩ = some (.slice none 0 0) := (blk_cell BK202.out 2).trans rfl; have hfz43_0 := blk_frozen BK202.out 0; have hfz43_1 := blk_frozen BK202.out 1; have hfz43_2 := blk_frozen BK202.out 2) | ((with_reducible refine gate_callee (f := 44) rfl ?_); refine goesL_ (some 72) rfl rfl Try.func44 (by kernel_rfl) rfl #[.agg #[.int .i64 0, .slice A0 l0.length c0, .slice none 0 0], .int .i64 0] rfl (by (try simp only [List.map_toArray, List.map_cons, List.map_nil]); first | done | rfl | (simp only [List.length_drop, List.length_take]; rfl)) ?_; (refine (plan_Frame.calls k2 0 _ _ l0 _ _ ([] : List (S76)) 0 t208 _ ?side1 ?side2 ?side3 ?side4 A40.out).mono ?_); (case side1 => repeat (first | exact (Kd.C_below HR0.out HB.out) | (with_reducible refine Kd.C_alloc ?_ _) | (with_reducible refine Kd.C_drewN ?_ _) | (with_reducible refine Kd.C_drew ?_))); (case side2 => exact HC0.out); (case side3 => exact Kd.C_nil _ _); (case side4 => exact Nat.le_refl _); rintro e w44 ⟨rfl, hb⟩; refine ⟨_, rfl, ?_⟩; have n0_ := Aside0.mk (Kd.R_below (by (with_reducible repeat (first | apply Kd.R_alloc | apply Kd.R_drewN | apply Kd.R_drew)); exact HO_6.out) hb); have n1_ := Aside0.mk (Kd.R_below (by (with_reducible repeat (first | apply Kd.R_alloc | apply Kd.R_drewN | apply Kd.R_drew)); exact HO_27.out) hb); have n2_ := Aside0.mk (blk_below (g := gb202) (o := .cells #[.int .i64 0, .slice A0 l0.length c0, .slice none 0 0] 62 (0, 0)) (by (with_reducible repeat (first | refine blk_drewN ?_ _ | refine blk_drew ?_ | refine blk_alloc ?_ _)); exact BK202.out) hb); have n3_ := Aside0.mk (below_step (by repeat (first | (with_reducible first | exact HB.out | apply below_alloc | apply pw_below_drewN | apply below_drew1 | refine below_set ?_ GE202.out) | exact HB.out)) hb); clear HO_6; clear HO_27; clear BK202; clear HB; have HO_6 := n0_; have HO_27 := n1_; have BK202 := n2_; have HB := n3_; clear n0_ n1_ n2_ n3_; (try clear hb); (try clear hb2); (try clear hk); (try clear hi)) | ((with_reducible refine gate_builtin (b := .append) (xs := #[.tmp 69, .tmp 78]) rfl ?_); at_builtin; refine Kd.R_append (Kd.int .i64) (w0 := w) w.heap.size rfl (.tmp 69) (.tmp 78) 42 3 (.int .i64 0) 8 rfl Try.underlying42 info3 rfl (by decide) (by omega) u6 x6_2 (wrap64 (Int.tdiv (wrap64 ((wrap64 (t208 + t206)) - x7_2)) 20)) [.int .i64 (wrap64 (Int.tdiv (wrap64 ((wrap64 (t208 + t206)) - x7_2)) 20))] (fun _ => True) (fun _ => False) rfl rfl ?aP (fun _ hk => hk.elim) ?aF ?aO ?aB ?aS ?aL ?_; (case aP => exact rfl); (case aB => exact (by repeat (first | (with_reducible first | exact HB.out | apply below_alloc | apply pw_below_drewN | apply below_drew1 | refine below_set ?_ GE202.out) | exact HB.out))); (case aF => exact (fun _ _ => trivial)); (case aO => exact (by (with_reducible repeat (first | apply Kd.R_alloc | apply Kd.R_drewN | apply Kd.R_drew)); exact HO_6.out)); (case aS => exact (below_size (by repeat (first | (with_reducible first | exact HB.out | apply below_alloc | apply pw_below_drewN | apply below_drew1 | refine below_set ?_ GE202.out) | exact HB.out)))); (case aL => have := LMc41.out; omega); intro v210 w45 ho hb hg hat; rw [← Ny209.out] at ho; have n0_ := Aside0.mk (Kd.R_over' (by (with_reducible repeat (first | apply Kd.R_alloc | apply Kd.R_drewN | apply Kd.R_drew)); exact HO_27.out) (Kd.R_typed (by (with_reducible repeat (first | apply Kd.R_alloc | apply Kd.R_drewN | apply Kd.R_drew)); exact HO_6.out)) (by decide) hg); have n1_ := Aside0.mk (blk_grown (g := gb202) (o := .cells #[.int .i64 0, .slice A0 l0.length c0, .slice none 0 0] 62 (0, 0)) (by (with_reducible repeat (first | refine blk_drewN ?_ _ | refine blk_drew ?_ | refine blk_alloc ?_ _)); exact BK202.out) hg (Kd.R_ne HO_6.out BK202.out (by decide))); have n2_ := Aside0.mk (hb); have n3_ := Aside0.mk (ho); clear HO_27; clear BK202; clear HB; clear HO_6; have HO_27 := n0_; have BK202 := n1_; have HB := n2_; have HO211 := n3_; clear n0_ n1_ n2_ n3_; clear ho hb hg hat))
             go_ret
             exact ⟨_, by first | rfl | (simp [errW_none, errW_some] <;> rfl) | (simp [*, errW_none, errW_some] <;> rfl), by (with_reducible repeat (first | apply Kd.R_alloc | apply Kd.R_drewN | apply Kd.R_drew)); exact HO211.out, by repeat (first | (with_reducible first | exact HB.out | apply below_alloc | apply pw_below_drewN | apply below_drew1 | refine below_set ?_ GE202.out) | exact HB.out)⟩
           · rw [if_neg c41] at H
             exact absurd H (by simp)
     · rw [if_neg c8] at H
       have c8b0 : (a1 == 0) = false := beq_eq_false_iff_ne.mpr c8
       by_cases c46 : a1 = 1
       · subst c46
         have H1 : ((plan_View.f kj2 0 ([] : List (S76)) l0 1 (-1)).bind fun t219 => (valid_Spans.l100 kj2 1 ([] : List Int) 0 t219 (t219.length : Int) 0 0 l0)) = some r := by rw [if_pos rfl] at H; exact H
         clear H
         have H := H1
         clear H1
         replace H := Option.bind_eq_some_iff.mp H
         obtain ⟨t219, A470, H⟩ := H
         replace H : (valid_Spans.l100 kj2 1 ([] : List Int) 0 t219 (t219.length : Int) 0 0 l0) = some r := H
         have A47 := Aside0.mk A470
         clear A470
         have H' := Aside0.mk H
         clear H
         have hcz48_0 : wc.cell? ⟨gb202, 0, none⟩ = some (.int .i64 0) := (blk_cell BK202.out 0).trans rfl
         have hcz48_1 : wc.cell? ⟨gb202, 1, none⟩ = some (.slice none 0 0) := (blk_cell BK202.out 1).trans rfl
         have hcz48_2 : wc.cell? ⟨gb202, 2, none⟩ = some (.slice none 0 0) := (blk_cell BK202.out 2).trans rfl
         have hfz48_0 := blk_frozen BK202.out 0
         have hfz48_1 := blk_frozen BK202.out 1
         have hfz48_2 := blk_frozen BK202.out 2
         go_wp2_with (first | ((with_reducible refine gate_callee (f := 27) rfl ?_); refine goesL_ (some 27) rfl rfl Try.func27 (by kernel_rfl) rfl #[.agg #[.int .i64 0, .slice none 0 0, .slice A0 l0.length c0], .int .i64 1, .int .i64 (-1)] rfl (by (try simp only [List.map_toArray, List.map_cons, List.map_nil]); first | done | rfl | (simp only [List.length_drop, List.length_take]; rfl)) ?_; (refine (plan_View.calls kj2 0 _ _ ([] : List (S76)) _ _ l0 1 (-1) t219 _ ?side1 ?side2 ?side3 ?side4 A47.out).mono ?_); (case side1 => exact Kd.C_nil _ _); (case side2 => exact Nat.le_refl _); (case side3 => exact Kd.C_below HR0.out (by repeat (first | (with_reducible first | exact HB.out | apply below_alloc | apply pw_below_drewN | apply below_drew1 | refine below_set ?_ GE202.out) | exact HB.out))); (case side4 => exact HC0.out); rintro e w49 ⟨v220, rfl, ho0, hb⟩; refine ⟨_, rfl, ?_⟩; have n0_ := Aside0.mk (Kd.R_lower ho0 (below_size (by repeat (first | (with_reducible first | exact HB.out | apply below_alloc | apply pw_below_drewN | apply below_drew1 | refine below_set ?_ GE202.out) | exact HB.out)))); have n1_ := Aside0.mk (blk_below (g := gb202) (o := .cells #[.int .i64 0, .slice none 0 0, .slice A0 l0.length c0] 62 (0, 0)) (by (with_reducible repeat (first | refine blk_drewN ?_ _ | refine blk_drew ?_ | refine blk_alloc ?_ _)); refine blk_put (cs := #[.int .i64 0, .slice none 0 0, .slice none 0 0]) ?_ 2 _ rfl; (with_reducible repeat (first | refine blk_drewN ?_ _ | refine blk_drew ?_ | refine blk_alloc ?_ _)); exact BK202.out) hb); have n2_ := Aside0.mk (below_step (by repeat (first | (with_reducible first | exact HB.out | apply below_alloc | apply pw_below_drewN | apply below_drew1 | refine below_set ?_ GE202.out) | exact HB.out)) hb); clear BK202; clear HB; have HO221 := n0_; have BK202 := n1_; have HB := n2_; clear n0_ n1_ n2_; (try clear hb); (try clear hb2); (try clear hk); (try clear hi); (try clear ho0); obtain ⟨Ao50, co50, eo50⟩ := Kd.R_slice HO221.out; subst eo50))
         go_loopg [6, 7, 29] kj2 (fun kq v6 v7 v29 w' => ∃ (x6_2 : List Int) (x7_2 : Int) (x29_2 : Int), v7 = .int .i64 x7_2 ∧ v29 = .int .i64 x29_2 ∧ Aside0 (valid_Spans.l100 kq 1 x6_2 x7_2 t219 (t219.length : Int) x29_2 0 l0 = some r) ∧ Aside0 (kq ≤ kj2) ∧ Aside0 (Kd.R (Kd.int .i64) 3 w' w.heap.size (fun _ => True) v6 x6_2) ∧ Aside0 (Kd.R k47 47 w' w.heap.size (fun _ => True) (.slice Ao50 t219.length co50) t219) ∧ Aside0 (w'.heap[gb202]? = some (.cells #[.int .i64 0, (.slice none 0 0), (.slice A0 l0.length c0)] 62 (0, 0))) ∧ Aside0 (Below w.heap.size w w'))
         case atStart => exact ⟨(([] : List Int)), (0), (0), (by first | rfl | (simp; done) | (simp [*]; done)), (by first | rfl | (simp; done) | (simp [*]; done)), H', ⟨Nat.le_refl _⟩, ⟨by first | exact Kd.R_nil _ _ _ _ _ | exact Kd.N_nil _ _ _ _ _ | exact Kd.V_nil _ _ _ _ _ | exact Kd.Q_nil _ _ _ _ _ | exact Kd.S_nil _ _ _ _ _⟩, ⟨by (with_reducible repeat (first | apply Kd.R_alloc | apply Kd.R_drewN | apply Kd.R_drew)); exact HO221.out⟩, ⟨by (with_reducible repeat (first | refine blk_drewN ?_ _ | refine blk_drew ?_ | refine blk_alloc ?_ _)); exact BK202.out⟩, ⟨by repeat (first | (with_reducible first | exact HB.out | apply below_alloc | apply pw_below_drewN | apply below_drew1 | refine below_set ?_ GE202.out) | exact HB.out)⟩⟩
         case round =>
          clear H'
          try clear c1
          try clear c2
          try clear p2
          try clear q2
          try clear hx2
          try clear c3
          try clear c4
          try clear c6
          try clear c6b0
          try clear p6
          try clear c7
          try clear c8
          try clear c8b0
          try clear c13
          try clear c13b0
          try clear c14
          try clear c14b0
          try clear c15
          try clear c15b0
          try clear c16
          try clear c18
          try clear c20
          try clear c20b0
          try clear c20b1
          try clear c21
          try clear p21
          try clear q21
          try clear hx21
          try clear c23
          try clear c25
          try clear c26
          try clear c27
          try clear c27b0
          try clear c28
          try clear c29
          try clear c35
          try clear c41
          try clear c44
          try clear c46
          try clear hcz10_0
          try clear hcz10_1
          try clear hcz10_2
          try clear hcz19_0
          try clear hcz19_1
          try clear hcz19_2
          try clear hcz19_3
          try clear hcz19_4
          try clear hcz19_5
          try clear hcz19_6
          try clear hcz19_7
          try clear hcz22_0
          try clear hcz22_1
          try clear hcz22_2
          try clear hcz22_3
          try clear hcz22_4
          try clear hcz22_5
          try clear hcz22_6
          try clear hcz22_7
          try clear hcz24_0
          try clear hcz24_1
          try clear hcz24_2
          try clear hcz24_3
          try clear hcz24_4
          try clear hcz24_5
          try clear hcz24_6
          try clear hcz24_7
          try clear hcz30_0
          try clear hcz30_1
          try clear hcz30_2
          try clear hcz30_3
          try clear hcz30_4
          try clear hcz30_5
          try clear hcz30_6
          try clear hcz30_7
          try clear hcz32_0
          try clear hcz32_1
          try clear hcz32_2
          try clear hcz32_3
          try clear hcz32_4
          try clear hcz32_5
          try clear hcz32_6
          try clear hcz32_7
          try clear hcz34_0
          try clear hcz34_1
          try clear hcz34_2
          try clear hcz34_3
          try clear hcz34_4
          try clear hcz34_5
          try clear hcz34_6
          try clear hcz34_7
          try clear hcz36_0
          try clear hcz36_1
          try clear hcz36_2
          try clear hcz36_3
          try clear hcz36_4
          try clear hcz36_5
          try clear hcz36_6
          try clear hcz36_7
          try clear hcz38_0
          try clear hcz38_1
          try clear hcz38_2
          try clear hcz38_3
          try clear hcz38_4
          try clear hcz38_5
          try clear hcz38_6
          try clear hcz38_7
          try clear hcz43_0
          try clear hcz43_1
          try clear hcz43_2
          try clear hcz48_0
          try clear hcz48_1
          try clear hcz48_2
          try clear hcz5_0
          try clear hcz5_1
          try clear hcz5_2
          try clear hfz10_0
          try clear hfz10_1
          try clear hfz10_2
          try clear hfz19_0
          try clear hfz19_1
          try clear hfz19_2
          try clear hfz19_3
          try clear hfz19_4
          try clear hfz19_5
          try clear hfz19_6
          try clear hfz19_7
          try clear hfz22_0
          try clear hfz22_1
          try clear hfz22_2
          try clear hfz22_3
          try clear hfz22_4
          try clear hfz22_5
          try clear hfz22_6
          try clear hfz22_7
          try clear hfz24_0
          try clear hfz24_1
          try clear hfz24_2
          try clear hfz24_3
          try clear hfz24_4
          try clear hfz24_5
          try clear hfz24_6
          try clear hfz24_7
          try clear hfz30_0
          try clear hfz30_1
          try clear hfz30_2
          try clear hfz30_3
          try clear hfz30_4
          try clear hfz30_5
          try clear hfz30_6
          try clear hfz30_7
          try clear hfz32_0
          try clear hfz32_1
          try clear hfz32_2
          try clear hfz32_3
          try clear hfz32_4
          try clear hfz32_5
          try clear hfz32_6
          try clear hfz32_7
          try clear hfz34_0
          try clear hfz34_1
          try clear hfz34_2
          try clear hfz34_3
          try clear hfz34_4
          try clear hfz34_5
          try clear hfz34_6
          try clear hfz34_7
          try clear hfz36_0
          try clear hfz36_1
          try clear hfz36_2
          try clear hfz36_3
          try clear hfz36_4
          try clear hfz36_5
          try clear hfz36_6
          try clear hfz36_7
          try clear hfz38_0
          try clear hfz38_1
          try clear hfz38_2
          try clear hfz38_3
          try clear hfz38_4
          try clear hfz38_5
          try clear hfz38_6
          try clear hfz38_7
          try clear hfz43_0
          try clear hfz43_1
          try clear hfz43_2
          try clear hfz48_0
          try clear hfz48_1
          try clear hfz48_2
          try clear hfz5_0
          try clear hfz5_1
          try clear hfz5_2
          try clear hx212_0
          try clear hx212_1
          try clear hx212_2
          try clear hx212_3
          try clear hx212_4
          try clear hx212_5
          try clear hx212_6
          try clear hx212_7
          try clear p2
          try clear p21
          try clear p212
          try clear q2
          try clear q21
          try clear q212
          obtain ⟨x6_2, x7_2, x29_2, rfl, rfl, HA, HK2, HO_6, HO_27, BK202, HB⟩ := hrel
          cases gk with
          | zero => exact absurd HA.out (by simp [valid_Spans.l100])
          | succ k2 =>
           have H := HA.out
           clear HA
           simp only [valid_Spans.l100] at H
           by_cases c51 : x29_2 < (t219.length : Int)
           · rw [if_pos c51] at H
             have c51b0 : decide (x29_2 < (t219.length : Int)) = true := decide_eq_true c51
             clear c51
             by_cases c52 : 0 ≤ x29_2
             · rw [if_pos c52] at H
               have c52b0 : decide (0 ≤ x29_2) = true := decide_eq_true c52
               clear c52
               by_cases c53 : x29_2 < (t219.length : Int)
               · rw [if_pos c53] at H
                 have c53b0 : decide (x29_2 < (t219.length : Int)) = true := decide_eq_true c53
                 clear c53
                 have HC54 := Aside0.mk H
                 clear H
                 have p228 : 0 ≤ (x29_2 : Int) := of_decide_eq_true (by first | (with_reducible assumption) | assumption)
                 have q228 : x29_2 < (t219.length : Int) := of_decide_eq_true (by first | (with_reducible assumption) | assumption)
                 obtain ⟨ad228, e228, hx228_0, hx228_1, hx228_2, hx228_3, hx228_4, hx228_5, hx228_6, hx228_7⟩ := at_T47 (Kd.R_reads' HO_27.out).2.2 x29_2 p228 q228
                 cases e228
                 replace p228 := eq_true p228
                 replace q228 := eq_true q228
                 go_upto_region 10 with (first | ((with_reducible refine gate_dst (N := 9) rfl ?_); refine box_event ?hg (N := 9) ?hd (cs := #[.int .i64 0, .int .i64 0, .int .i64 0, .int .i64 0, .int .i64 0, .int .i64 0, .int .i64 0, .bool false]) (t := 47) ?hr ?_; (case hd => rfl); (case hg => rfl); (case hr => first | (go_simp; done) | (go_simp; rfl)); intro gb229 hg w55 hbox hb; have n0_ := Aside0.mk (Kd.R_below (by (with_reducible repeat (first | apply Kd.R_alloc | apply Kd.R_drewN | apply Kd.R_drew)); exact HO_6.out) hb); have n1_ := Aside0.mk (Kd.R_below (Kd.R_elderB (by (with_reducible repeat (first | apply Kd.R_alloc | apply Kd.R_drewN | apply Kd.R_drew)); exact HO_27.out) gb229 (Nat.le_of_eq hg.symm)) hb); have n2_ := Aside0.mk (blk_below (g := gb202) (o := .cells #[.int .i64 0, .slice none 0 0, .slice A0 l0.length c0] 62 (0, 0)) (by (with_reducible repeat (first | refine blk_drewN ?_ _ | refine blk_drew ?_ | refine blk_alloc ?_ _)); exact BK202.out) hb); have n3_ := Aside0.mk (below_step (by repeat (first | (with_reducible first | exact HB.out | apply below_alloc | apply pw_below_drewN | apply below_drew1 | refine below_set ?_ GE202.out) | exact HB.out)) hb); have n4_ := Aside0.mk (hbox); have n5_ := Aside0.mk ((by rw [hg]; exact (below_size (by repeat (first | (with_reducible first | exact HB.out | apply below_alloc | apply pw_below_drewN | apply below_drew1 | refine below_set ?_ GE202.out) | exact HB.out))) : w.heap.size ≤ gb229)); have n6_ := Aside0.mk ((by rw [hg]; exact (below_size (by repeat (first | (with_reducible first | exact HB.out | apply below_alloc | apply pw_below_drewN | apply below_drew1 | refine below_set ?_ GE202.out) | exact HB.out))) : w.heap.size ≤ gb229)); have n7_ := Aside0.mk ((by rw [hg]; exact Nat.ne_of_lt (blk_lt (g := gb202) (o := .cells #[.int .i64 0, .slice none 0 0, .slice A0 l0.length c0] 62 (0, 0)) (by (with_reducible repeat (first | refine blk_drewN ?_ _ | refine blk_drew ?_ | refine blk_alloc ?_ _)); exact BK202.out)) : gb202 ≠ gb229)); have n8_ := Aside0.mk ((by rw [hg]; exact Nat.ne_of_gt (blk_lt (g := gb202) (o := .cells #[.int .i64 0, .slice none 0 0, .slice A0 l0.length c0] 62 (0, 0)) (by (with_reducible repeat (first | refine blk_drewN ?_ _ | refine blk_drew ?_ | refine blk_alloc ?_ _)); exact BK202.out)) : gb229 ≠ gb202)); clear HO_6; clear HO_27; clear BK202; clear HB; have HO_6 := n0_; have HO_27 := n1_; have BK202 := n2_; have HB := n3_; have BK229 := n4_; have GW229 := n5_; have GE229 := n6_; have NB202_229 := n7_; have NB229_202 := n8_; clear n0_ n1_ n2_ n3_ n4_ n5_ n6_ n7_ n8_; clear hb hbox hg; have hnb56 := NB229_202.out; have hnc56 := NB202_229.out; have hcz57_0 : w55.cell? ⟨gb229, 0, none⟩ = some (.int .i64 0) := (blk_cell BK229.out 0).trans rfl; have hcz57_1 : w55.cell? ⟨gb229, 1, none⟩ = some (.int .i64 0) := (blk_cell BK229.out 1).trans rfl; have hcz57_2 : w55.cell? ⟨gb229, 2, none⟩ = some (.int .i64 0) := (blk_cell BK229.out 2).trans rfl; have hcz57_3 : w55.cell? ⟨gb229, 3, none⟩ = some (.int .i64 0) := (blk_cell BK229.out 3).trans rfl; have hcz57_4 : w55.cell? ⟨gb229, 4, none⟩ = some (.int .i64 0) := (blk_cell BK229.out 4).trans rfl; have hcz57_5 : w55.cell? ⟨gb229, 5, none⟩ = some (.int .i64 0) := (blk_cell BK229.out 5).trans rfl; have hcz57_6 : w55.cell? ⟨gb229, 6, none⟩ = some (.int .i64 0) := (blk_cell BK229.out 6).trans rfl; have hcz57_7 : w55.cell? ⟨gb229, 7, none⟩ = some (.bool false) := (blk_cell BK229.out 7).trans rfl; have hfz57_0 := blk_frozen BK229.out 0; have hfz57_1 := blk_frozen BK229.out 1; have hfz57_2 := blk_frozen BK229.out 2; have hfz57_3 := blk_frozen BK229.out 3; have hfz57_4 := blk_frozen BK229.out 4; have hfz57_5 := blk_frozen BK229.out 5; have hfz57_6 := blk_frozen BK229.out 6; have hfz57_7 := blk_frozen BK229.out 7))
                 (try simp only [Act.put, List.setIfInBounds_toArray, List.set_cons_zero, List.set_cons_succ])
                 go_cut [41] (fun v41 wc => ∃ (kq : Nat) (x41_53 : Bool), v41 = .bool x41_53 ∧ Aside0 (valid_Spans.j4 kq 1 x6_2 x7_2 x29_2 t219 (t219.length : Int) x29_2 x41_53 0 l0 ((rd_T47 t219 x29_2).f0) ((rd_T47 t219 x29_2).f1) ((rd_T47 t219 x29_2).f2) ((rd_T47 t219 x29_2).f3) ((rd_T47 t219 x29_2).f4) ((rd_T47 t219 x29_2).f5) ((rd_T47 t219 x29_2).f6) ((rd_T47 t219 x29_2).f7) = some r) ∧ Aside0 (kq ≤ k2) ∧ Aside0 (Kd.R (Kd.int .i64) 3 wc w.heap.size (fun _ => True) u6 x6_2) ∧ Aside0 (Kd.R k47 47 wc w.heap.size (fun k_ => k_ ≠ gb229) (.slice (some ad228) t219.length co50) t219) ∧ Aside0 (wc.heap[gb202]? = some (.cells #[.int .i64 0, (.slice none 0 0), (.slice A0 l0.length c0)] 62 (0, 0))) ∧ Aside0 (wc.heap[gb229]? = some (.cells #[.int .i64 ((rd_T47 t219 x29_2).f0), .int .i64 ((rd_T47 t219 x29_2).f1), .int .i64 ((rd_T47 t219 x29_2).f2), .int .i64 ((rd_T47 t219 x29_2).f3), .int .i64 ((rd_T47 t219 x29_2).f4), .int .i64 ((rd_T47 t219 x29_2).f5), .int .i64 ((rd_T47 t219 x29_2).f6), .bool ((rd_T47 t219 x29_2).f7)] 47 (0, 0))) ∧ Aside0 (Below w.heap.size w wc))
                 case first =>
                  have H := HC54.out
                  clear HC54
                  by_cases c58 : ((rd_T47 t219 x29_2).f0) = 2
                  · rw [if_pos c58] at H
                    have c58b0 : (((rd_T47 t219 x29_2).f0) == 2) = true := beq_iff_eq.mpr c58
                    have c58b1 : (((rd_T47 t219 x29_2).f0) != 2) = false := bne_eq_false_iff_eq.mpr c58
                    clear c58
                    (first | rw [c58b0] | (simp only [i64_w, i32_w]; rw [c58b0]) | skip)
                    have H' := Aside0.mk H
                    clear H
                    have hnb59 := NB229_202.out
                    have hnc59 := NB202_229.out
                    have hcz60_0 : w55.cell? ⟨gb229, 0, none⟩ = some (.int .i64 0) := (blk_cell BK229.out 0).trans rfl
                    have hcz60_1 : w55.cell? ⟨gb229, 1, none⟩ = some (.int .i64 0) := (blk_cell BK229.out 1).trans rfl
                    have hcz60_2 : w55.cell? ⟨gb229, 2, none⟩ = some (.int .i64 0) := (blk_cell BK229.out 2).trans rfl
                    have hcz60_3 : w55.cell? ⟨gb229, 3, none⟩ = some (.int .i64 0) := (blk_cell BK229.out 3).trans rfl
                    have hcz60_4 : w55.cell? ⟨gb229, 4, none⟩ = some (.int .i64 0) := (blk_cell BK229.out 4).trans rfl
                    have hcz60_5 : w55.cell? ⟨gb229, 5, none⟩ = some (.int .i64 0) := (blk_cell BK229.out 5).trans rfl
                    have hcz60_6 : w55.cell? ⟨gb229, 6, none⟩ = some (.int .i64 0) := (blk_cell BK229.out 6).trans rfl
                    have hcz60_7 : w55.cell? ⟨gb229, 7, none⟩ = some (.bool false) := (blk_cell BK229.out 7).trans rfl
                    have hfz60_0 := blk_frozen BK229.out 0
                    have hfz60_1 := blk_frozen BK229.out 1
                    have hfz60_2 := blk_frozen BK229.out 2
                    have hfz60_3 := blk_frozen BK229.out 3
                    have hfz60_4 := blk_frozen BK229.out 4
                    have hfz60_5 := blk_frozen BK229.out 5
                    have hfz60_6 := blk_frozen BK229.out 6
                    have hfz60_7 := blk_frozen BK229.out 7
                    go_wp2
                    go_meet
                    case rel => exact ⟨_, (false), (by first | rfl | (simp; done) | (simp [*]; done)), H', ⟨by have := HJ2.out; have := HK2.out; first | omega | exact Nat.le_refl _⟩, ⟨by (with_reducible repeat (first | apply Kd.R_alloc | apply Kd.R_drewN | apply Kd.R_drew)); exact Kd.R_mono (Kd.R_far (p := ⟨gb229, 7, none⟩) (Kd.R_far (p := ⟨gb229, 6, none⟩) (Kd.R_far (p := ⟨gb229, 5, none⟩) (Kd.R_far (p := ⟨gb229, 4, none⟩) (Kd.R_far (p := ⟨gb229, 3, none⟩) (Kd.R_far (p := ⟨gb229, 2, none⟩) (Kd.R_far (p := ⟨gb229, 1, none⟩) (Kd.R_far (p := ⟨gb229, 0, none⟩) (Kd.R_types HO_6.out BK229.out (by decide)) (fun _ hk => hk.2) (.int .i64 ((rd_T47 t219 x29_2).f0))) (fun _ hk => hk.2) (.int .i64 ((rd_T47 t219 x29_2).f1))) (fun _ hk => hk.2) (.int .i64 ((rd_T47 t219 x29_2).f2))) (fun _ hk => hk.2) (.int .i64 ((rd_T47 t219 x29_2).f3))) (fun _ hk => hk.2) (.int .i64 ((rd_T47 t219 x29_2).f4))) (fun _ hk => hk.2) (.int .i64 ((rd_T47 t219 x29_2).f5))) (fun _ hk => hk.2) (.int .i64 ((rd_T47 t219 x29_2).f6))) (fun _ hk => hk.2) (.bool ((rd_T47 t219 x29_2).f7))) (fun _ hk => trivial)⟩, ⟨by (with_reducible repeat (first | apply Kd.R_alloc | apply Kd.R_drewN | apply Kd.R_drew)); exact Kd.R_mono (Kd.R_far (p := ⟨gb229, 7, none⟩) (Kd.R_far (p := ⟨gb229, 6, none⟩) (Kd.R_far (p := ⟨gb229, 5, none⟩) (Kd.R_far (p := ⟨gb229, 4, none⟩) (Kd.R_far (p := ⟨gb229, 3, none⟩) (Kd.R_far (p := ⟨gb229, 2, none⟩) (Kd.R_far (p := ⟨gb229, 1, none⟩) (Kd.R_far (p := ⟨gb229, 0, none⟩) (Kd.R_mono HO_27.out (fun k_ hk => (⟨hk, hk.2⟩ : _ ∧ k_ ≠ gb229))) (fun _ hk => hk.2) (.int .i64 ((rd_T47 t219 x29_2).f0))) (fun _ hk => hk.2) (.int .i64 ((rd_T47 t219 x29_2).f1))) (fun _ hk => hk.2) (.int .i64 ((rd_T47 t219 x29_2).f2))) (fun _ hk => hk.2) (.int .i64 ((rd_T47 t219 x29_2).f3))) (fun _ hk => hk.2) (.int .i64 ((rd_T47 t219 x29_2).f4))) (fun _ hk => hk.2) (.int .i64 ((rd_T47 t219 x29_2).f5))) (fun _ hk => hk.2) (.int .i64 ((rd_T47 t219 x29_2).f6))) (fun _ hk => hk.2) (.bool ((rd_T47 t219 x29_2).f7))) (fun _ hk => hk.1.2)⟩, ⟨by (with_reducible repeat (first | refine blk_drewN ?_ _ | refine blk_drew ?_ | refine blk_alloc ?_ _)); refine blk_far ?_ NB202_229.out _; (with_reducible repeat (first | refine blk_drewN ?_ _ | refine blk_drew ?_ | refine blk_alloc ?_ _)); refine blk_far ?_ NB202_229.out _; (with_reducible repeat (first | refine blk_drewN ?_ _ | refine blk_drew ?_ | refine blk_alloc ?_ _)); refine blk_far ?_ NB202_229.out _; (with_reducible repeat (first | refine blk_drewN ?_ _ | refine blk_drew ?_ | refine blk_alloc ?_ _)); refine blk_far ?_ NB202_229.out _; (with_reducible repeat (first | refine blk_drewN ?_ _ | refine blk_drew ?_ | refine blk_alloc ?_ _)); refine blk_far ?_ NB202_229.out _; (with_reducible repeat (first | refine blk_drewN ?_ _ | refine blk_drew ?_ | refine blk_alloc ?_ _)); refine blk_far ?_ NB202_229.out _; (with_reducible repeat (first | refine blk_drewN ?_ _ | refine blk_drew ?_ | refine blk_alloc ?_ _)); refine blk_far ?_ NB202_229.out _; (with_reducible repeat (first | refine blk_drewN ?_ _ | refine blk_drew ?_ | refine blk_alloc ?_ _)); refine blk_far ?_ NB202_229.out _; (with_reducible repeat (first | refine blk_drewN ?_ _ | refine blk_drew ?_ | refine blk_alloc ?_ _)); exact BK202.out⟩, ⟨by (with_reducible repeat (first | refine blk_drewN ?_ _ | refine blk_drew ?_ | refine blk_alloc ?_ _)); refine blk_put (cs := #[.int .i64 ((rd_T47 t219 x29_2).f0), .int .i64 ((rd_T47 t219 x29_2).f1), .int .i64 ((rd_T47 t219 x29_2).f2), .int .i64 ((rd_T47 t219 x29_2).f3), .int .i64 ((rd_T47 t219 x29_2).f4), .int .i64 ((rd_T47 t219 x29_2).f5), .int .i64 ((rd_T47 t219 x29_2).f6), .bool false]) ?_ 7 _ rfl; (with_reducible repeat (first | refine blk_drewN ?_ _ | refine blk_drew ?_ | refine blk_alloc ?_ _)); refine blk_put (cs := #[.int .i64 ((rd_T47 t219 x29_2).f0), .int .i64 ((rd_T47 t219 x29_2).f1), .int .i64 ((rd_T47 t219 x29_2).f2), .int .i64 ((rd_T47 t219 x29_2).f3), .int .i64 ((rd_T47 t219 x29_2).f4), .int .i64 ((rd_T47 t219 x29_2).f5), .int .i64 0, .bool false]) ?_ 6 _ rfl; (with_reducible repeat (first | refine blk_drewN ?_ _ | refine blk_drew ?_ | refine blk_alloc ?_ _)); refine blk_put (cs := #[.int .i64 ((rd_T47 t219 x29_2).f0), .int .i64 ((rd_T47 t219 x29_2).f1), .int .i64 ((rd_T47 t219 x29_2).f2), .int .i64 ((rd_T47 t219 x29_2).f3), .int .i64 ((rd_T47 t219 x29_2).f4), .int .i64 0, .int .i64 0, .bool false]) ?_ 5 _ rfl; (with_reducible repeat (first | refine blk_drewN ?_ _ | refine blk_drew ?_ | refine blk_alloc ?_ _)); refine blk_put (cs := #[.int .i64 ((rd_T47 t219 x29_2).f0), .int .i64 ((rd_T47 t219 x29_2).f1), .int .i64 ((rd_T47 t219 x29_2).f2), .int .i64 ((rd_T47 t219 x29_2).f3), .int .i64 0, .int .i64 0, .int .i64 0, .bool false]) ?_ 4 _ rfl; (with_reducible repeat (first | refine blk_drewN ?_ _ | refine blk_drew ?_ | refine blk_alloc ?_ _)); refine blk_put (cs := #[.int .i64 ((rd_T47 t219 x29_2).f0), .int .i64 ((rd_T47 t219 x29_2).f1), .int .i64 ((rd_T47 t219 x29_2).f2), .int .i64 0, .int .i64 0, .int .i64 0, .int .i64 0, .bool false]) ?_ 3 _ rfl; (with_reducible repeat (first | refine blk_drewN ?_ _ | refine blk_drew ?_ | refine blk_alloc ?_ _)); refine blk_put (cs := #[.int .i64 ((rd_T47 t219 x29_2).f0), .int .i64 ((rd_T47 t219 x29_2).f1), .int .i64 0, .int .i64 0, .int .i64 0, .int .i64 0, .int .i64 0, .bool false]) ?_ 2 _ rfl; (with_reducible repeat (first | refine blk_drewN ?_ _ | refine blk_drew ?_ | refine blk_alloc ?_ _)); refine blk_put (cs := #[.int .i64 ((rd_T47 t219 x29_2).f0), .int .i64 0, .int .i64 0, .int .i64 0, .int .i64 0, .int .i64 0, .int .i64 0, .bool false]) ?_ 1 _ rfl; (with_reducible repeat (first | refine blk_drewN ?_ _ | refine blk_drew ?_ | refine blk_alloc ?_ _)); refine blk_put (cs := #[.int .i64 0, .int .i64 0, .int .i64 0, .int .i64 0, .int .i64 0, .int .i64 0, .int .i64 0, .bool false]) ?_ 0 _ rfl; (with_reducible repeat (first | refine blk_drewN ?_ _ | refine blk_drew ?_ | refine blk_alloc ?_ _)); exact BK229.out⟩, ⟨by repeat (first | (with_reducible first | exact HB.out | apply below_alloc | apply pw_below_drewN | apply below_drew1 | refine below_set ?_ GE202.out | refine below_set ?_ GE229.out) | exact HB.out)⟩⟩
                  · rw [if_neg c58] at H
                    have c58b0 : (((rd_T47 t219 x29_2).f0) == 2) = false := beq_eq_false_iff_ne.mpr c58
                    have c58b1 : (((rd_T47 t219 x29_2).f0) != 2) = true := bne_iff_ne.mpr c58
                    (first | rw [c58b0] | (simp only [i64_w, i32_w]; rw [c58b0]) | skip)
                    have H' := Aside0.mk H
                    clear H
                    have hnb61 := NB229_202.out
                    have hnc61 := NB202_229.out
                    have hcz62_0 : w55.cell? ⟨gb229, 0, none⟩ = some (.int .i64 0) := (blk_cell BK229.out 0).trans rfl
                    have hcz62_1 : w55.cell? ⟨gb229, 1, none⟩ = some (.int .i64 0) := (blk_cell BK229.out 1).trans rfl
                    have hcz62_2 : w55.cell? ⟨gb229, 2, none⟩ = some (.int .i64 0) := (blk_cell BK229.out 2).trans rfl
                    have hcz62_3 : w55.cell? ⟨gb229, 3, none⟩ = some (.int .i64 0) := (blk_cell BK229.out 3).trans rfl
                    have hcz62_4 : w55.cell? ⟨gb229, 4, none⟩ = some (.int .i64 0) := (blk_cell BK229.out 4).trans rfl
                    have hcz62_5 : w55.cell? ⟨gb229, 5, none⟩ = some (.int .i64 0) := (blk_cell BK229.out 5).trans rfl
                    have hcz62_6 : w55.cell? ⟨gb229, 6, none⟩ = some (.int .i64 0) := (blk_cell BK229.out 6).trans rfl
                    have hcz62_7 : w55.cell? ⟨gb229, 7, none⟩ = some (.bool false) := (blk_cell BK229.out 7).trans rfl
                    have hfz62_0 := blk_frozen BK229.out 0
                    have hfz62_1 := blk_frozen BK229.out 1
                    have hfz62_2 := blk_frozen BK229.out 2
                    have hfz62_3 := blk_frozen BK229.out 3
                    have hfz62_4 := blk_frozen BK229.out 4
                    have hfz62_5 := blk_frozen BK229.out 5
                    have hfz62_6 := blk_frozen BK229.out 6
                    have hfz62_7 := blk_frozen BK229.out 7
                    go_wp2
                    go_meet
                    case rel => exact ⟨_, ((((rd_T47 t219 x29_2).f0) != 3)), (by first | rfl | (simp; done) | (simp [*]; done)), H', ⟨by have := HJ2.out; have := HK2.out; first | omega | exact Nat.le_refl _⟩, ⟨by (with_reducible repeat (first | apply Kd.R_alloc | apply Kd.R_drewN | apply Kd.R_drew)); exact Kd.R_mono (Kd.R_far (p := ⟨gb229, 7, none⟩) (Kd.R_far (p := ⟨gb229, 6, none⟩) (Kd.R_far (p := ⟨gb229, 5, none⟩) (Kd.R_far (p := ⟨gb229, 4, none⟩) (Kd.R_far (p := ⟨gb229, 3, none⟩) (Kd.R_far (p := ⟨gb229, 2, none⟩) (Kd.R_far (p := ⟨gb229, 1, none⟩) (Kd.R_far (p := ⟨gb229, 0, none⟩) (Kd.R_types HO_6.out BK229.out (by decide)) (fun _ hk => hk.2) (.int .i64 ((rd_T47 t219 x29_2).f0))) (fun _ hk => hk.2) (.int .i64 ((rd_T47 t219 x29_2).f1))) (fun _ hk => hk.2) (.int .i64 ((rd_T47 t219 x29_2).f2))) (fun _ hk => hk.2) (.int .i64 ((rd_T47 t219 x29_2).f3))) (fun _ hk => hk.2) (.int .i64 ((rd_T47 t219 x29_2).f4))) (fun _ hk => hk.2) (.int .i64 ((rd_T47 t219 x29_2).f5))) (fun _ hk => hk.2) (.int .i64 ((rd_T47 t219 x29_2).f6))) (fun _ hk => hk.2) (.bool ((rd_T47 t219 x29_2).f7))) (fun _ hk => trivial)⟩, ⟨by (with_reducible repeat (first | apply Kd.R_alloc | apply Kd.R_drewN | apply Kd.R_drew)); exact Kd.R_mono (Kd.R_far (p := ⟨gb229, 7, none⟩) (Kd.R_far (p := ⟨gb229, 6, none⟩) (Kd.R_far (p := ⟨gb229, 5, none⟩) (Kd.R_far (p := ⟨gb229, 4, none⟩) (Kd.R_far (p := ⟨gb229, 3, none⟩) (Kd.R_far (p := ⟨gb229, 2, none⟩) (Kd.R_far (p := ⟨gb229, 1, none⟩) (Kd.R_far (p := ⟨gb229, 0, none⟩) (Kd.R_mono HO_27.out (fun k_ hk => (⟨hk, hk.2⟩ : _ ∧ k_ ≠ gb229))) (fun _ hk => hk.2) (.int .i64 ((rd_T47 t219 x29_2).f0))) (fun _ hk => hk.2) (.int .i64 ((rd_T47 t219 x29_2).f1))) (fun _ hk => hk.2) (.int .i64 ((rd_T47 t219 x29_2).f2))) (fun _ hk => hk.2) (.int .i64 ((rd_T47 t219 x29_2).f3))) (fun _ hk => hk.2) (.int .i64 ((rd_T47 t219 x29_2).f4))) (fun _ hk => hk.2) (.int .i64 ((rd_T47 t219 x29_2).f5))) (fun _ hk => hk.2) (.int .i64 ((rd_T47 t219 x29_2).f6))) (fun _ hk => hk.2) (.bool ((rd_T47 t219 x29_2).f7))) (fun _ hk => hk.1.2)⟩, ⟨by (with_reducible repeat (first | refine blk_drewN ?_ _ | refine blk_drew ?_ | refine blk_alloc ?_ _)); refine blk_far ?_ NB202_229.out _; (with_reducible repeat (first | refine blk_drewN ?_ _ | refine blk_drew ?_ | refine blk_alloc ?_ _)); refine blk_far ?_ NB202_229.out _; (with_reducible repeat (first | refine blk_drewN ?_ _ | refine blk_drew ?_ | refine blk_alloc ?_ _)); refine blk_far ?_ NB202_229.out _; (with_reducible repeat (first | refine blk_drewN ?_ _ | refine blk_drew ?_ | refine blk_alloc ?_ _)); refine blk_far ?_ NB202_229.out _; (with_reducible repeat (first | refine blk_drewN ?_ _ | refine blk_drew ?_ | refine blk_alloc ?_ _)); refine blk_far ?_ NB202_229.out _; (with_reducible repeat (first | refine blk_drewN ?_ _ | refine blk_drew ?_ | refine blk_alloc ?_ _)); refine blk_far ?_ NB202_229.out _; (with_reducible repeat (first | refine blk_drewN ?_ _ | refine blk_drew ?_ | refine blk_alloc ?_ _)); refine blk_far ?_ NB202_229.out _; (with_reducible repeat (first | refine blk_drewN ?_ _ | refine blk_drew ?_ | refine blk_alloc ?_ _)); refine blk_far ?_ NB202_229.out _; (with_reducible repeat (first | refine blk_drewN ?_ _ | refine blk_drew ?_ | refine blk_alloc ?_ _)); exact BK202.out⟩, ⟨by (with_reducible repeat (first | refine blk_drewN ?_ _ | refine blk_drew ?_ | refine blk_alloc ?_ _)); refine blk_put (cs := #[.int .i64 ((rd_T47 t219 x29_2).f0), .int .i64 ((rd_T47 t219 x29_2).f1), .int .i64 ((rd_T47 t219 x29_2).f2), .int .i64 ((rd_T47 t219 x29_2).f3), .int .i64 ((rd_T47 t219 x29_2).f4), .int .i64 ((rd_T47 t219 x29_2).f5), .int .i64 ((rd_T47 t219 x29_2).f6), .bool false]) ?_ 7 _ rfl; (with_reducible repeat (first | refine blk_drewN ?_ _ | refine blk_drew ?_ | refine blk_alloc ?_ _)); refine blk_put (cs := #[.int .i64 ((rd_T47 t219 x29_2).f0), .int .i64 ((rd_T47 t219 x29_2).f1), .int .i64 ((rd_T47 t219 x29_2).f2), .int .i64 ((rd_T47 t219 x29_2).f3), .int .i64 ((rd_T47 t219 x29_2).f4), .int .i64 ((rd_T47 t219 x29_2).f5), .int .i64 0, .bool false]) ?_ 6 _ rfl; (with_reducible repeat (first | refine blk_drewN ?_ _ | refine blk_drew ?_ | refine blk_alloc ?_ _)); refine blk_put (cs := #[.int .i64 ((rd_T47 t219 x29_2).f0), .int .i64 ((rd_T47 t219 x29_2).f1), .int .i64 ((rd_T47 t219 x29_2).f2), .int .i64 ((rd_T47 t219 x29_2).f3), .int .i64 ((rd_T47 t219 x29_2).f4), .int .i64 0, .int .i64 0, .bool false]) ?_ 5 _ rfl; (with_reducible repeat (first | refine blk_drewN ?_ _ | refine blk_drew ?_ | refine blk_alloc ?_ _)); refine blk_put (cs := #[.int .i64 ((rd_T47 t219 x29_2).f0), .int .i64 ((rd_T47 t219 x29_2).f1), .int .i64 ((rd_T47 t219 x29_2).f2), .int .i64 ((rd_T47 t219 x29_2).f3), .int .i64 0, .int .i64 0, .int .i64 0, .bool false]) ?_ 4 _ rfl; (with_reducible repeat (first | refine blk_drewN ?_ _ | refine blk_drew ?_ | refine blk_alloc ?_ _)); refine blk_put (cs := #[.int .i64 ((rd_T47 t219 x29_2).f0), .int .i64 ((rd_T47 t219 x29_2).f1), .int .i64 ((rd_T47 t219 x29_2).f2), .int .i64 0, .int .i64 0, .int .i64 0, .int .i64 0, .bool false]) ?_ 3 _ rfl; (with_reducible repeat (first | refine blk_drewN ?_ _ | refine blk_drew ?_ | refine blk_alloc ?_ _)); refine blk_put (cs := #[.int .i64 ((rd_T47 t219 x29_2).f0), .int .i64 ((rd_T47 t219 x29_2).f1), .int .i64 0, .int .i64 0, .int .i64 0, .int .i64 0, .int .i64 0, .bool false]) ?_ 2 _ rfl; (with_reducible repeat (first | refine blk_drewN ?_ _ | refine blk_drew ?_ | refine blk_alloc ?_ _)); refine blk_put (cs := #[.int .i64 ((rd_T47 t219 x29_2).f0), .int .i64 0, .int .i64 0, .int .i64 0, .int .i64 0, .int .i64 0, .int .i64 0, .bool false]) ?_ 1 _ rfl; (with_reducible repeat (first | refine blk_drewN ?_ _ | refine blk_drew ?_ | refine blk_alloc ?_ _)); refine blk_put (cs := #[.int .i64 0, .int .i64 0, .int .i64 0, .int .i64 0, .int .i64 0, .int .i64 0, .int .i64 0, .bool false]) ?_ 0 _ rfl; (with_reducible repeat (first | refine blk_drewN ?_ _ | refine blk_drew ?_ | refine blk_alloc ?_ _)); exact BK229.out⟩, ⟨by repeat (first | (with_reducible first | exact HB.out | apply below_alloc | apply pw_below_drewN | apply below_drew1 | refine below_set ?_ GE202.out | refine below_set ?_ GE229.out) | exact HB.out)⟩⟩
                 case rest =>
                  clear HC54
                  try clear c1
                  try clear c2
                  try clear p2
                  try clear q2
                  try clear hx2
                  try clear c3
                  try clear c4
                  try clear c5
                  try clear c6
                  try clear c6b0
                  try clear p6
                  try clear c7
                  try clear c8
                  try clear c8b0
                  try clear c13
                  try clear c13b0
                  try clear c14
                  try clear c14b0
                  try clear c15
                  try clear c15b0
                  try clear c16
                  try clear c18
                  try clear c20
                  try clear c20b0
                  try clear c20b1
                  try clear c21
                  try clear p21
                  try clear q21
                  try clear hx21
                  try clear p22
                  try clear q22
                  try clear hx22
                  try clear c23
                  try clear c25
                  try clear c26
                  try clear c27
                  try clear c27b0
                  try clear c28
                  try clear c29
                  try clear c35
                  try clear c41
                  try clear c44
                  try clear c46
                  try clear c51
                  try clear c51b0
                  try clear c52
                  try clear c52b0
                  try clear c53
                  try clear c53b0
                  try clear c56
                  try clear c58
                  try clear c58b0
                  try clear c58b1
                  try clear c59
                  try clear c61
                  try clear hcz10_0
                  try clear hcz10_1
                  try clear hcz10_2
                  try clear hcz19_0
                  try clear hcz19_1
                  try clear hcz19_2
                  try clear hcz19_3
                  try clear hcz19_4
                  try clear hcz19_5
                  try clear hcz19_6
                  try clear hcz19_7
                  try clear hcz22_0
                  try clear hcz22_1
                  try clear hcz22_2
                  try clear hcz22_3
                  try clear hcz22_4
                  try clear hcz22_5
                  try clear hcz22_6
                  try clear hcz22_7
                  try clear hcz24_0
                  try clear hcz24_1
                  try clear hcz24_2
                  try clear hcz24_3
                  try clear hcz24_4
                  try clear hcz24_5
                  try clear hcz24_6
                  try clear hcz24_7
                  try clear hcz30_0
                  try clear hcz30_1
                  try clear hcz30_2
                  try clear hcz30_3
                  try clear hcz30_4
                  try clear hcz30_5
                  try clear hcz30_6
                  try clear hcz30_7
                  try clear hcz32_0
                  try clear hcz32_1
                  try clear hcz32_2
                  try clear hcz32_3
                  try clear hcz32_4
                  try clear hcz32_5
                  try clear hcz32_6
                  try clear hcz32_7
                  try clear hcz34_0
                  try clear hcz34_1
                  try clear hcz34_2
                  try clear hcz34_3
                  try clear hcz34_4
                  try clear hcz34_5
                  try clear hcz34_6
                  try clear hcz34_7
                  try clear hcz36_0
                  try clear hcz36_1
                  try clear hcz36_2
                  try clear hcz36_3
                  try clear hcz36_4
                  try clear hcz36_5
                  try clear hcz36_6
                  try clear hcz36_7
                  try clear hcz38_0
                  try clear hcz38_1
                  try clear hcz38_2
                  try clear hcz38_3
                  try clear hcz38_4
                  try clear hcz38_5
                  try clear hcz38_6
                  try clear hcz38_7
                  try clear hcz43_0
                  try clear hcz43_1
                  try clear hcz43_2
                  try clear hcz48_0
                  try clear hcz48_1
                  try clear hcz48_2
                  try clear hcz57_0
                  try clear hcz57_1
                  try clear hcz57_2
                  try clear hcz57_3
                  try clear hcz57_4
                  try clear hcz57_5
                  try clear hcz57_6
                  try clear hcz57_7
                  try clear hcz5_0
                  try clear hcz5_1
                  try clear hcz5_2
                  try clear hcz60_0
                  try clear hcz60_1
                  try clear hcz60_2
                  try clear hcz60_3
                  try clear hcz60_4
                  try clear hcz60_5
                  try clear hcz60_6
                  try clear hcz60_7
                  try clear hcz62_0
                  try clear hcz62_1
                  try clear hcz62_2
                  try clear hcz62_3
                  try clear hcz62_4
                  try clear hcz62_5
                  try clear hcz62_6
                  try clear hcz62_7
                  try clear hfz10_0
                  try clear hfz10_1
                  try clear hfz10_2
                  try clear hfz19_0
                  try clear hfz19_1
                  try clear hfz19_2
                  try clear hfz19_3
                  try clear hfz19_4
                  try clear hfz19_5
                  try clear hfz19_6
                  try clear hfz19_7
                  try clear hfz22_0
                  try clear hfz22_1
                  try clear hfz22_2
                  try clear hfz22_3
                  try clear hfz22_4
                  try clear hfz22_5
                  try clear hfz22_6
                  try clear hfz22_7
                  try clear hfz24_0
                  try clear hfz24_1
                  try clear hfz24_2
                  try clear hfz24_3
                  try clear hfz24_4
                  try clear hfz24_5
                  try clear hfz24_6
                  try clear hfz24_7
                  try clear hfz30_0
                  try clear hfz30_1
                  try clear hfz30_2
                  try clear hfz30_3
                  try clear hfz30_4
                  try clear hfz30_5
                  try clear hfz30_6
                  try clear hfz30_7
                  try clear hfz32_0
                  try clear hfz32_1
                  try clear hfz32_2
                  try clear hfz32_3
                  try clear hfz32_4
                  try clear hfz32_5
                  try clear hfz32_6
                  try clear hfz32_7
                  try clear hfz34_0
                  try clear hfz34_1
                  try clear hfz34_2
                  try clear hfz34_3
                  try clear hfz34_4
                  try clear hfz34_5
                  try clear hfz34_6
                  try clear hfz34_7
                  try clear hfz36_0
                  try clear hfz36_1
                  try clear hfz36_2
                  try clear hfz36_3
                  try clear hfz36_4
                  try clear hfz36_5
                  try clear hfz36_6
                  try clear hfz36_7
                  try clear hfz38_0
                  try clear hfz38_1
                  try clear hfz38_2
                  try clear hfz38_3
                  try clear hfz38_4
                  try clear hfz38_5
                  try clear hfz38_6
                  try clear hfz38_7
                  try clear hfz43_0
                  try clear hfz43_1
                  try clear hfz43_2
                  try clear hfz48_0
                  try clear hfz48_1
                  try clear hfz48_2
                  try clear hfz57_0
                  try clear hfz57_1
                  try clear hfz57_2
                  try clear hfz57_3
                  try clear hfz57_4
                  try clear hfz57_5
                  try clear hfz57_6
                  try clear hfz57_7
                  try clear hfz5_0
                  try clear hfz5_1
                  try clear hfz5_2
                  try clear hfz60_0
                  try clear hfz60_1
                  try clear hfz60_2
                  try clear hfz60_3
                  try clear hfz60_4
                  try clear hfz60_5
                  try clear hfz60_6
                  try clear hfz60_7
                  try clear hfz62_0
                  try clear hfz62_1
                  try clear hfz62_2
                  try clear hfz62_3
                  try clear hfz62_4
                  try clear hfz62_5
                  try clear hfz62_6
                  try clear hfz62_7
                  try clear hx212_0
                  try clear hx212_1
                  try clear hx212_2
                  try clear hx212_3
                  try clear hx212_4
                  try clear hx212_5
                  try clear hx212_6
                  try clear hx212_7
                  try clear hx228_0
                  try clear hx228_1
                  try clear hx228_2
                  try clear hx228_3
                  try clear hx228_4
                  try clear hx228_5
                  try clear hx228_6
                  try clear hx228_7
                  try clear p2
                  try clear p21
                  try clear p212
                  try clear p228
                  try clear p6
                  try clear q2
                  try clear q21
                  try clear q212
                  try clear q228
                  obtain ⟨kq, x41_53, rfl, HA, HJ53, HO_6, HO_27, BK202, BK229, HB⟩ := hcut
                  cases kq with
                  | zero => exact absurd HA.out (by simp [valid_Spans.j4])
                  | succ kj53 =>
                   have H := HA.out
                   clear HA
                   simp only [valid_Spans.j4] at H
                   by_cases c63 : x41_53 = true
                   · subst c63
                     have H1 : (valid_Spans.l100 kj53 1 x6_2 x7_2 t219 (t219.length : Int) (wrap64 (x29_2 + 1)) 0 l0) = some r := by rw [if_pos rfl] at H; exact H
                     clear H
                     have H := H1
                     clear H1
                     have H' := Aside0.mk H
                     clear H
                     go_wp2
                     go_roundg kj53
                     case measure => have := HJ2.out; have := HK2.out; have := HJ53.out; omega
                     case rel => exact ⟨(x6_2), (x7_2), (wrap64 (x29_2 + 1)), (by first | rfl | (simp; done) | (simp [*]; done)), (by first | rfl | (simp; done) | (simp [*]; done)), H', ⟨by have := HJ2.out; have := HK2.out; have := HJ53.out; omega⟩, ⟨by (with_reducible repeat (first | apply Kd.R_alloc | apply Kd.R_drewN | apply Kd.R_drew)); exact HO_6.out⟩, ⟨by (with_reducible repeat (first | apply Kd.R_alloc | apply Kd.R_drewN | apply Kd.R_drew)); exact Kd.R_mono HO_27.out (fun _ hk => trivial)⟩, ⟨by (with_reducible repeat (first | refine blk_drewN ?_ _ | refine blk_drew ?_ | refine blk_alloc ?_ _)); exact BK202.out⟩, ⟨by repeat (first | (with_reducible first | exact HB.out | apply below_alloc | apply pw_below_drewN | apply below_drew1 | refine below_set ?_ GE202.out | refine below_set ?_ GE229.out) | exact HB.out)⟩⟩
                   · replace c63 := Bool.eq_false_iff.mpr c63
                     subst c63
                     have H1 : ((plan_Slot_Pulse.f kj53 ((rd_T47 t219 x29_2).f0) ((rd_T47 t219 x29_2).f1) ((rd_T47 t219 x29_2).f2) ((rd_T47 t219 x29_2).f3) ((rd_T47 t219 x29_2).f4) ((rd_T47 t219 x29_2).f5) ((rd_T47 t219 x29_2).f6) ((rd_T47 t219 x29_2).f7)).bind fun bt230 => (if x29_2 > 0 then (if x6_2.length < 17592186044416 then (valid_Spans.l100 kj53 1 (x6_2 ++ [wrap64 (Int.tdiv (wrap64 ((wrap64 (((rd_T47 t219 x29_2).f1) + bt230.1)) - x7_2)) 20)]) (wrap64 (((rd_T47 t219 x29_2).f1) + bt230.1)) t219 (t219.length : Int) (wrap64 (x29_2 + 1)) 0 l0) else (none)) else (valid_Spans.l100 kj53 1 x6_2 (wrap64 (((rd_T47 t219 x29_2).f1) + bt230.1)) t219 (t219.length : Int) (wrap64 (x29_2 + 1)) 0 l0))) = some r := by rw [if_neg (show ¬ (false = true) by decide)] at H; exact H
                     clear H
                     have H := H1
                     clear H1
                     replace H := Option.bind_eq_some_iff.mp H
                     obtain ⟨⟨t230, t231⟩, A640, H⟩ := H
                     replace H : (if x29_2 > 0 then (if x6_2.length < 17592186044416 then (valid_Spans.l100 kj53 1 (x6_2 ++ [wrap64 (Int.tdiv (wrap64 ((wrap64 (((rd_T47 t219 x29_2).f1) + t230)) - x7_2)) 20)]) (wrap64 (((rd_T47 t219 x29_2).f1) + t230)) t219 (t219.length : Int) (wrap64 (x29_2 + 1)) 0 l0) else (none)) else (valid_Spans.l100 kj53 1 x6_2 (wrap64 (((rd_T47 t219 x29_2).f1) + t230)) t219 (t219.length : Int) (wrap64 (x29_2 + 1)) 0 l0)) = some r := H
                     have A64 := Aside0.mk A640
                     clear A640
                     by_cases c65 : x29_2 > 0
                     · rw [if_pos c65] at H
                       have c65b0 : decide (0 < x29_2) = true := decide_eq_true c65
                       clear c65
                       by_cases c66 : x6_2.length < 17592186044416
                       · rw [if_pos c66] at H
                         have LMc66 := Aside0.mk c66
                         clear c66
                         obtain ⟨y232, hy232⟩ : ∃ y_ : List Int, y_ = (x6_2 ++ [wrap64 (Int.tdiv (wrap64 ((wrap64 (((rd_T47 t219 x29_2).f1) + t230)) - x7_2)) 20)]) := ⟨_, rfl⟩
                         replace H : (valid_Spans.l100 kj53 1 y232 (wrap64 (((rd_T47 t219 x29_2).f1) + t230)) t219 (t219.length : Int) (wrap64 (x29_2 + 1)) 0 l0) = some r := by first | (rw [hy232]; with_reducible exact H) | (have H2_ := (Option.bind_some _ _).symm.trans H; rw [hy232]; with_reducible exact H2_) | (have H2_ := (Option.bind_some _ _).symm.trans H; with_reducible exact H2_) | with_reducible exact H | (rw [hy232]; exact H) | exact H
                         have Ny232 := Aside0.mk hy232
                         clear hy232
                         have H' := Aside0.mk H
                         clear H
                         have hnb67 := NB229_202.out
                         have hnc67 := NB202_229.out
                         have hcz68_0 : wc.cell? ⟨gb229, 0, none⟩ = some (.int .i64 ((rd_T47 t219 x29_2).f0)) := (blk_cell BK229.out 0).trans rfl
                         have hcz68_1 : wc.cell? ⟨gb229, 1, none⟩ = some (.int .i64 ((rd_T47 t219 x29_2).f1)) := (blk_cell BK229.out 1).trans rfl
                         have hcz68_2 : wc.cell? ⟨gb229, 2, none⟩ = some (.int .i64 ((rd_T47 t219 x29_2).f2)) := (blk_cell BK229.out 2).trans rfl
                         have hcz68_3 : wc.cell? ⟨gb229, 3, none⟩ = some (.int .i64 ((rd_T47 t219 x29_2).f3)) := (blk_cell BK229.out 3).trans rfl
                         have hcz68_4 : wc.cell? ⟨gb229, 4, none⟩ = some (.int .i64 ((rd_T47 t219 x29_2).f4)) := (blk_cell BK229.out 4).trans rfl
                         have hcz68_5 : wc.cell? ⟨gb229, 5, none⟩ = some (.int .i64 ((rd_T47 t219 x29_2).f5)) := (blk_cell BK229.out 5).trans rfl
                         have hcz68_6 : wc.cell? ⟨gb229, 6, none⟩ = some (.int .i64 ((rd_T47 t219 x29_2).f6)) := (blk_cell BK229.out 6).trans rfl
                         have hcz68_7 : wc.cell? ⟨gb229, 7, none⟩ = some (.bool ((rd_T47 t219 x29_2).f7)) := (blk_cell BK229.out 7).trans rfl
                         have hfz68_0 := blk_frozen BK229.out 0
                         have hfz68_1 := blk_frozen BK229.out 1
                         have hfz68_2 := blk_frozen BK229.out 2
                         have hfz68_3 := blk_frozen BK229.out 3
                         have hfz68_4 := blk_frozen BK229.out 4
                         have hfz68_5 := blk_frozen BK229.out 5
                         have hfz68_6 := blk_frozen BK229.out 6
                         have hfz68_7 := blk_frozen BK229.out 7
                         go_wp2_with (first | ((with_reducible refine gate_callee (f := 16) rfl ?_); refine goesL_ (some 44) rfl rfl Try.func16 (by kernel_rfl) rfl #[.agg #[.int .i64 ((rd_T47 t219 x29_2).f0), .int .i64 ((rd_T47 t219 x29_2).f1), .int .i64 ((rd_T47 t219 x29_2).f2), .int .i64 ((rd_T47 t219 x29_2).f3), .int .i64 ((rd_T47 t219 x29_2).f4), .int .i64 ((rd_T47 t219 x29_2).f5), .int .i64 ((rd_T47 t219 x29_2).f6), .bool ((rd_T47 t219 x29_2).f7)]] rfl (by (try simp only [List.map_toArray, List.map_cons, List.map_nil]); first | done | rfl | (simp only [List.length_drop, List.length_take]; rfl)) ?_; (with_reducible refine (plan_Slot_Pulse.calls kj53 ((rd_T47 t219 x29_2).f0) ((rd_T47 t219 x29_2).f1) ((rd_T47 t219 x29_2).f2) ((rd_T47 t219 x29_2).f3) ((rd_T47 t219 x29_2).f4) ((rd_T47 t219 x29_2).f5) ((rd_T47 t219 x29_2).f6) ((rd_T47 t219 x29_2).f7) t230 t231 _ A64.out).mono ?_); rintro e w69 ⟨rfl, hb⟩; refine ⟨_, rfl, ?_⟩; have n0_ := Aside0.mk (Kd.R_below (by (with_reducible repeat (first | apply Kd.R_alloc | apply Kd.R_drewN | apply Kd.R_drew)); exact HO_6.out) hb); have n1_ := Aside0.mk (Kd.R_below (by (with_reducible repeat (first | apply Kd.R_alloc | apply Kd.R_drewN | apply Kd.R_drew)); exact HO_27.out) hb); have n2_ := Aside0.mk (blk_below (g := gb202) (o := .cells #[.int .i64 0, .slice none 0 0, .slice A0 l0.length c0] 62 (0, 0)) (by (with_reducible repeat (first | refine blk_drewN ?_ _ | refine blk_drew ?_ | refine blk_alloc ?_ _)); exact BK202.out) hb); have n3_ := Aside0.mk (blk_below (g := gb229) (o := .cells #[.int .i64 ((rd_T47 t219 x29_2).f0), .int .i64 ((rd_T47 t219 x29_2).f1), .int .i64 ((rd_T47 t219 x29_2).f2), .int .i64 ((rd_T47 t219 x29_2).f3), .int .i64 ((rd_T47 t219 x29_2).f4), .int .i64 ((rd_T47 t219 x29_2).f5), .int .i64 ((rd_T47 t219 x29_2).f6), .bool ((rd_T47 t219 x29_2).f7)] 47 (0, 0)) (by (with_reducible repeat (first | refine blk_drewN ?_ _ | refine blk_drew ?_ | refine blk_alloc ?_ _)); exact BK229.out) hb); have n4_ := Aside0.mk (below_step (by repeat (first | (with_reducible first | exact HB.out | apply below_alloc | apply pw_below_drewN | apply below_drew1 | refine below_set ?_ GE202.out | refine below_set ?_ GE229.out) | exact HB.out)) hb); clear HO_6; clear HO_27; clear BK202; clear BK229; clear HB; have HO_6 := n0_; have HO_27 := n1_; have BK202 := n2_; have BK229 := n3_; have HB := n4_; clear n0_ n1_ n2_ n3_ n4_; (try clear hb); (try clear hb2); (try clear hk); (try clear hi); have hcz70_0 : w69.cell? ⟨gb229, 0, none⟩ = some (.int .i64 ((rd_T47 t219 x29_2).f0)) := (blk_cell BK229.out 0).trans rfl; have hcz70_1 : w69.cell? ⟨gb229, 1, none⟩ = some (.int .i64 ((rd_T47 t219 x29_2).f1)) := (blk_cell BK229.out 1).trans rfl; have hcz70_2 : w69.cell? ⟨gb229, 2, none⟩ = some (.int .i64 ((rd_T47 t219 x29_2).f2)) := (blk_cell BK229.out 2).trans rfl; have hcz70_3 : w69.cell? ⟨gb229, 3, none⟩ = some (.int .i64 ((rd_T47 t219 x29_2).f3)) := (blk_cell BK229.out 3).trans rfl; have hcz70_4 : w69.cell? ⟨gb229, 4, none⟩ = some (.int .i64 ((rd_T47 t219 x29_2).f4)) := (blk_cell BK229.out 4).trans rfl; have hcz70_5 : w69.cell? ⟨gb229, 5, none⟩ = some (.int .i64 ((rd_T47 t219 x29_2).f5)) := (blk_cell BK229.out 5).trans rfl; have hcz70_6 : w69.cell? ⟨gb229, 6, none⟩ = some (.int .i64 ((rd_T47 t219 x29_2).f6)) := (blk_cell BK229.out 6).trans rfl; have hcz70_7 : w69.cell? ⟨gb229, 7, none⟩ = some (.bool ((rd_T47 t219 x29_2).f7)) := (blk_cell BK229.out 7).trans rfl; have hfz70_0 := blk_frozen BK229.out 0; have hfz70_1 := blk_frozen BK229.out 1; have hfz70_2 := blk_frozen BK229.out 2; have hfz70_3 := blk_frozen BK229.out 3; have hfz70_4 := blk_frozen BK229.out 4; have hfz70_5 := blk_frozen BK229.out 5; have hfz70_6 := blk_frozen BK229.out 6; have hfz70_7 := blk_frozen BK229.out 7) | ((with_reducible refine gate_builtin (b := .append) (xs := #[.tmp 49, .tmp 57]) rfl ?_); at_builtin; refine Kd.R_append (Kd.int .i64) (w0 := w) w.heap.size rfl (.tmp 49) (.tmp 57) 42 3 (.int .i64 0) 8 rfl Try.underlying42 info3 rfl (by decide) (by omega) u6 x6_2 (wrap64 (Int.tdiv (wrap64 ((wrap64 (((rd_T47 t219 x29_2).f1) + t230)) - x7_2)) 20)) [.int .i64 (wrap64 (Int.tdiv (wrap64 ((wrap64 (((rd_T47 t219 x29_2).f1) + t230)) - x7_2)) 20))] (fun _ => True) (fun _ => False) rfl rfl ?aP (fun _ hk => hk.elim) ?aF ?aO ?aB ?aS ?aL ?_; (case aP => exact rfl); (case aB => exact (by repeat (first | (with_reducible first | exact HB.out | apply below_alloc | apply pw_below_drewN | apply below_drew1 | refine below_set ?_ GE202.out | refine below_set ?_ GE229.out) | exact HB.out))); (case aF => exact (fun _ _ => trivial)); (case aO => exact (by (with_reducible repeat (first | apply Kd.R_alloc | apply Kd.R_drewN | apply Kd.R_drew)); exact HO_6.out)); (case aS => exact (below_size (by repeat (first | (with_reducible first | exact HB.out | apply below_alloc | apply pw_below_drewN | apply below_drew1 | refine below_set ?_ GE202.out | refine below_set ?_ GE229.out) | exact HB.out)))); (case aL => have := LMc66.out; omega); intro v233 w71 ho hb hg hat; rw [← Ny232.out] at ho; have n0_ := Aside0.mk (Kd.R_over' (by (with_reducible repeat (first | apply Kd.R_alloc | apply Kd.R_drewN | apply Kd.R_drew)); exact HO_27.out) (Kd.R_typed (by (with_reducible repeat (first | apply Kd.R_alloc | apply Kd.R_drewN | apply Kd.R_drew)); exact HO_6.out)) (by decide) hg); have n1_ := Aside0.mk (blk_grown (g := gb202) (o := .cells #[.int .i64 0, .slice none 0 0, .slice A0 l0.length c0] 62 (0, 0)) (by (with_reducible repeat (first | refine blk_drewN ?_ _ | refine blk_drew ?_ | refine blk_alloc ?_ _)); exact BK202.out) hg (Kd.R_ne HO_6.out BK202.out (by decide))); have n2_ := Aside0.mk (blk_grown (g := gb229) (o := .cells #[.int .i64 ((rd_T47 t219 x29_2).f0), .int .i64 ((rd_T47 t219 x29_2).f1), .int .i64 ((rd_T47 t219 x29_2).f2), .int .i64 ((rd_T47 t219 x29_2).f3), .int .i64 ((rd_T47 t219 x29_2).f4), .int .i64 ((rd_T47 t219 x29_2).f5), .int .i64 ((rd_T47 t219 x29_2).f6), .bool ((rd_T47 t219 x29_2).f7)] 47 (0, 0)) (by (with_reducible repeat (first | refine blk_drewN ?_ _ | refine blk_drew ?_ | refine blk_alloc ?_ _)); exact BK229.out) hg (Kd.R_ne HO_6.out BK229.out (by decide))); have n3_ := Aside0.mk (hb); have n4_ := Aside0.mk (ho); clear HO_27; clear BK202; clear BK229; clear HB; clear HO_6; have HO_27 := n0_; have BK202 := n1_; have BK229 := n2_; have HB := n3_; have HO234 := n4_; clear n0_ n1_ n2_ n3_ n4_; clear ho hb hg hat; have hcz72_0 : w71.cell? ⟨gb229, 0, none⟩ = some (.int .i64 ((rd_T47 t219 x29_2).f0)) := (blk_cell BK229.out 0).trans rfl; have hcz72_1 : w71.cell? ⟨gb229, 1, none⟩ = some (.int .i64 ((rd_T47 t219 x29_2).f1)) := (blk_cell BK229.out 1).trans rfl; have hcz72_2 : w71.cell? ⟨gb229, 2, none⟩ = some (.int .i64 ((rd_T47 t219 x29_2).f2)) := (blk_cell BK229.out 2).trans rfl; have hcz72_3 : w71.cell? ⟨gb229, 3, none⟩ = some (.int .i64 ((rd_T47 t219 x29_2).f3)) := (blk_cell BK229.out 3).trans rfl; have hcz72_4 : w71.cell? ⟨gb229, 4, none⟩ = some (.int .i64 ((rd_T47 t219 x29_2).f4)) := (blk_cell BK229.out 4).trans rfl; have hcz72_5 : w71.cell? ⟨gb229, 5, none⟩ = some (.int .i64 ((rd_T47 t219 x29_2).f5)) := (blk_cell BK229.out 5).trans rfl; have hcz72_6 : w71.cell? ⟨gb229, 6, none⟩ = some (.int .i64 ((rd_T47 t219 x29_2).f6)) := (blk_cell BK229.out 6).trans rfl; have hcz72_7 : w71.cell? ⟨gb229, 7, none⟩ = some (.bool ((rd_T47 t219 x29_2).f7)) := (blk_cell BK229.out 7).trans rfl; have hfz72_0 := blk_frozen BK229.out 0; have hfz72_1 := blk_frozen BK229.out 1; have hfz72_2 := blk_frozen BK229.out 2; have hfz72_3 := blk_frozen BK229.out 3; have hfz72_4 := blk_frozen BK229.out 4; have hfz72_5 := blk_frozen BK229.out 5; have hfz72_6 := blk_frozen BK229.out 6; have hfz72_7 := blk_frozen BK229.out 7))
                         go_roundg kj53
                         case measure => have := HJ2.out; have := HK2.out; have := HJ53.out; omega
                         case rel => exact ⟨(y232), (wrap64 (((rd_T47 t219 x29_2).f1) + t230)), (wrap64 (x29_2 + 1)), (by first | rfl | (simp; done) | (simp [*]; done)), (by first | rfl | (simp; done) | (simp [*]; done)), H', ⟨by have := HJ2.out; have := HK2.out; have := HJ53.out; omega⟩, ⟨by (with_reducible repeat (first | apply Kd.R_alloc | apply Kd.R_drewN | apply Kd.R_drew)); exact HO234.out⟩, ⟨by (with_reducible repeat (first | apply Kd.R_alloc | apply Kd.R_drewN | apply Kd.R_drew)); exact Kd.R_mono HO_27.out (fun _ hk => trivial)⟩, ⟨by (with_reducible repeat (first | refine blk_drewN ?_ _ | refine blk_drew ?_ | refine blk_alloc ?_ _)); exact BK202.out⟩, ⟨by repeat (first | (with_reducible first | exact HB.out | apply below_alloc | apply pw_below_drewN | apply below_drew1 | refine below_set ?_ GE202.out | refine below_set ?_ GE229.out) | exact HB.out)⟩⟩
                       · rw [if_neg c66] at H
                         exact absurd H (by simp)
                     · rw [if_neg c65] at H
                       have c65b0 : decide (0 < x29_2) = false := decide_eq_false c65
                       clear c65
                       have H' := Aside0.mk H
                       clear H
                       have hnb73 := NB229_202.out
                       have hnc73 := NB202_229.out
                       have hcz74_0 : wc.cell? ⟨gb229, 0, none⟩ = some (.int .i64 ((rd_T47 t219 x29_2).f0)) := (blk_cell BK229.out 0).trans rfl
                       have hcz74_1 : wc.cell? ⟨gb229, 1, none⟩ = some (.int .i64 ((rd_T47 t219 x29_2).f1)) := (blk_cell BK229.out 1).trans rfl
                       have hcz74_2 : wc.cell? ⟨gb229, 2, none⟩ = some (.int .i64 ((rd_T47 t219 x29_2).f2)) := (blk_cell BK229.out 2).trans rfl
                       have hcz74_3 : wc.cell? ⟨gb229, 3, none⟩ = some (.int .i64 ((rd_T47 t219 x29_2).f3)) := (blk_cell BK229.out 3).trans rfl
                       have hcz74_4 : wc.cell? ⟨gb229, 4, none⟩ = some (.int .i64 ((rd_T47 t219 x29_2).f4)) := (blk_cell BK229.out 4).trans rfl
                       have hcz74_5 : wc.cell? ⟨gb229, 5, none⟩ = some (.int .i64 ((rd_T47 t219 x29_2).f5)) := (blk_cell BK229.out 5).trans rfl
                       have hcz74_6 : wc.cell? ⟨gb229, 6, none⟩ = some (.int .i64 ((rd_T47 t219 x29_2).f6)) := (blk_cell BK229.out 6).trans rfl
                       have hcz74_7 : wc.cell? ⟨gb229, 7, none⟩ = some (.bool ((rd_T47 t219 x29_2).f7)) := (blk_cell BK229.out 7).trans rfl
                       have hfz74_0 := blk_frozen BK229.out 0
                       have hfz74_1 := blk_frozen BK229.out 1
                       have hfz74_2 := blk_frozen BK229.out 2
                       have hfz74_3 := blk_frozen BK229.out 3
                       have hfz74_4 := blk_frozen BK229.out 4
                       have hfz74_5 := blk_frozen BK229.out 5
                       have hfz74_6 := blk_frozen BK229.out 6
                       have hfz74_7 := blk_frozen BK229.out 7
                       go_wp2_with (first | ((with_reducible refine gate_callee (f := 16) rfl ?_); refine goesL_ (some 44) rfl rfl Try.func16 (by kernel_rfl) rfl #[.agg #[.int .i64 ((rd_T47 t219 x29_2).f0), .int .i64 ((rd_T47 t219 x29_2).f1), .int .i64 ((rd_T47 t219 x29_2).f2), .int .i64 ((rd_T47 t219 x29_2).f3), .int .i64 ((rd_T47 t219 x29_2).f4), .int .i64 ((rd_T47 t219 x29_2).f5), .int .i64 ((rd_T47 t219 x29_2).f6), .bool ((rd_T47 t219 x29_2).f7)]] rfl (by (try simp only [List.map_toArray, List.map_cons, List.map_nil]); first | done | rfl | (simp only [List.length_drop, List.length_take]; rfl)) ?_; (with_reducible refine (plan_Slot_Pulse.calls kj53 ((rd_T47 t219 x29_2).f0) ((rd_T47 t219 x29_2).f1) ((rd_T47 t219 x29_2).f2) ((rd_T47 t219 x29_2).f3) ((rd_T47 t219 x29_2).f4) ((rd_T47 t219 x29_2).f5) ((rd_T47 t219 x29_2).f6) ((rd_T47 t219 x29_2).f7) t230 t231 _ A64.out).mono ?_); rintro e w75 ⟨rfl, hb⟩; refine ⟨_, rfl, ?_⟩; have n0_ := Aside0.mk (Kd.R_below (by (with_reducible repeat (first | apply Kd.R_alloc | apply Kd.R_drewN | apply Kd.R_drew)); exact HO_6.out) hb); have n1_ := Aside0.mk (Kd.R_below (by (with_reducible repeat (first | apply Kd.R_alloc | apply Kd.R_drewN | apply Kd.R_drew)); exact HO_27.out) hb); have n2_ := Aside0.mk (blk_below (g := gb202) (o := .cells #[.int .i64 0, .slice none 0 0, .slice A0 l0.length c0] 62 (0, 0)) (by (with_reducible repeat (first | refine blk_drewN ?_ _ | refine blk_drew ?_ | refine blk_alloc ?_ _)); exact BK202.out) hb); have n3_ := Aside0.mk (blk_below (g := gb229) (o := .cells #[.int .i64 ((rd_T47 t219 x29_2).f0), .int .i64 ((rd_T47 t219 x29_2).f1), .int .i64 ((rd_T47 t219 x29_2).f2), .int .i64 ((rd_T47 t219 x29_2).f3), .int .i64 ((rd_T47 t219 x29_2).f4), .int .i64 ((rd_T47 t219 x29_2).f5), .int .i64 ((rd_T47 t219 x29_2).f6), .bool ((rd_T47 t219 x29_2).f7)] 47 (0, 0)) (by (with_reducible repeat (first | refine blk_drewN ?_ _ | refine blk_drew ?_ | refine blk_alloc ?_ _)); exact BK229.out) hb); have n4_ := Aside0.mk (below_step (by repeat (first | (with_reducible first | exact HB.out | apply below_alloc | apply pw_below_drewN | apply below_drew1 | refine below_set ?_ GE202.out | refine below_set ?_ GE229.out) | exact HB.out)) hb); clear HO_6; clear HO_27; clear BK202; clear BK229; clear HB; have HO_6 := n0_; have HO_27 := n1_; have BK202 := n2_; have BK229 := n3_; have HB := n4_; clear n0_ n1_ n2_ n3_ n4_; (try clear hb); (try clear hb2); (try clear hk); (try clear hi); have hcz76_0 : w75.cell? ⟨gb229, 0, none⟩ = some (.int .i64 ((rd_T47 t219 x29_2).f0)) := (blk_cell BK229.out 0).trans rfl; have hcz76_1 : w75.cell? ⟨gb229, 1, none⟩ = some (.int .i64 ((rd_T47 t219 x29_2).f1)) := (blk_cell BK229.out 1).trans rfl; have hcz76_2 : w75.cell? ⟨gb229, 2, none⟩ = some (.int .i64 ((rd_T47 t219 x29_2).f2)) := (blk_cell BK229.out 2).trans rfl; have hcz76_3 : w75.cell? ⟨gb229, 3, none⟩ = some (.int .i64 ((rd_T47 t219 x29_2).f3)) := (blk_cell BK229.out 3).trans rfl; have hcz76_4 : w75.cell? ⟨gb229, 4, none⟩ = some (.int .i64 ((rd_T47 t219 x29_2).f4)) := (blk_cell BK229.out 4).trans rfl; have hcz76_5 : w75.cell? ⟨gb229, 5, none⟩ = some (.int .i64 ((rd_T47 t219 x29_2).f5)) := (blk_cell BK229.out 5).trans rfl; have hcz76_6 : w75.cell? ⟨gb229, 6, none⟩ = some (.int .i64 ((rd_T47 t219 x29_2).f6)) := (blk_cell BK229.out 6).trans rfl; have hcz76_7 : w75.cell? ⟨gb229, 7, none⟩ = some (.bool ((rd_T47 t219 x29_2).f7)) := (blk_cell BK229.out 7).trans rfl; have hfz76_0 := blk_frozen BK229.out 0; have hfz76_1 := blk_frozen BK229.out 1; have hfz76_2 := blk_frozen BK229.out 2; have hfz76_3 := blk_frozen BK229.out 3; have hfz76_4 := blk_frozen BK229.out 4; have hfz76_5 := blk_frozen BK229.out 5; have hfz76_6 := blk_frozen BK229.out 6; have hfz76_7 := blk_frozen BK229.out 7))
                       go_roundg kj53
                       case measure => have := HJ2.out; have := HK2.out; have := HJ53.out; omega
                       case rel => exact ⟨(x6_2), (wrap64 (((rd_T47 t219 x29_2).f1) + t230)), (wrap64 (x29_2 + 1)), (by first | rfl | (simp; done) | (simp [*]; done)), (by first | rfl | (simp; done) | (simp [*]; done)), H', ⟨by have := HJ2.out; have := HK2.out; have := HJ53.out; omega⟩, ⟨by (with_reducible repeat (first | apply Kd.R_alloc | apply Kd.R_drewN | apply Kd.R_drew)); exact HO_6.out⟩, ⟨by (with_reducible repeat (first | apply Kd.R_alloc | apply Kd.R_drewN | apply Kd.R_drew)); exact Kd.R_mono HO_27.out (fun _ hk => trivial)⟩, ⟨by (with_reducible repeat (first | refine blk_drewN ?_ _ | refine blk_drew ?_ | refine blk_alloc ?_ _)); exact BK202.out⟩, ⟨by repeat (first | (with_reducible first | exact HB.out | apply below_alloc | apply pw_below_drewN | apply below_drew1 | refine below_set ?_ GE202.out | refine below_set ?_ GE229.out) | exact HB.out)⟩⟩
               · rw [if_neg c53] at H
                 exact absurd H (by simp)
             · rw [if_neg c52] at H
               exact absurd H (by simp)
           · rw [if_neg c51] at H
             have c51b0 : decide (x29_2 < (t219.length : Int)) = false := decide_eq_false c51
             clear c51
             replace H := Option.bind_eq_some_iff.mp H
             obtain ⟨⟨t222, t223⟩, A770, H⟩ := H
             replace H : ((plan_Frame.f k2 0 ([] : List (S76)) l0 1).bind fun t224 => (if x6_2.length < 17592186044416 then (some (x6_2 ++ [wrap64 (Int.tdiv (wrap64 ((wrap64 (t224 + t222)) - x7_2)) 20)])) else (none))) = some r := H
             have A77 := Aside0.mk A770
             clear A770
             replace H := Option.bind_eq_some_iff.mp H
             obtain ⟨t224, A780, H⟩ := H
             replace H : (if x6_2.length < 17592186044416 then (some (x6_2 ++ [wrap64 (Int.tdiv (wrap64 ((wrap64 (t224 + t222)) - x7_2)) 20)])) else (none)) = some r := H
             have A78 := Aside0.mk A780
             clear A780
             by_cases c79 : x6_2.length < 17592186044416
             · rw [if_pos c79] at H
               have LMc79 := Aside0.mk c79
               clear c79
               obtain ⟨y225, hy225⟩ : ∃ y_ : List Int, y_ = (x6_2 ++ [wrap64 (Int.tdiv (wrap64 ((wrap64 (t224 + t222)) - x7_2)) 20)]) := ⟨_, rfl⟩
               replace H : (some y225) = some r := by first | (rw [hy225]; with_reducible exact H) | (have H2_ := (Option.bind_some _ _).symm.trans H; rw [hy225]; with_reducible exact H2_) | (have H2_ := (Option.bind_some _ _).symm.trans H; with_reducible exact H2_) | with_reducible exact H | (rw [hy225]; exact H) | exact H
               have Ny225 := Aside0.mk hy225
               clear hy225
               obtain rfl := Option.some.inj H
               go_wp2_with (first | ((with_reducible refine gate_callee (f := 16) rfl ?_); refine goesL_ (some 66) rfl rfl Try.func16 (by kernel_rfl) rfl #[.agg #[.int .i64 3, .int .i64 0, .int .i64 0, .int .i64 0, .int .i64 0, .int .i64 0, .int .i64 0, .bool false]] rfl (by (try simp only [List.map_toArray, List.map_cons, List.map_nil]); first | done | rfl | (simp only [List.length_drop, List.length_take]; rfl)) ?_; (with_reducible refine (plan_Slot_Pulse.calls k2 3 0 0 0 0 0 0 false t222 t223 _ A77.out).mono ?_); rintro e w80 ⟨rfl, hb⟩; refine ⟨_, rfl, ?_⟩; have n0_ := Aside0.mk (Kd.R_below (by (with_reducible repeat (first | apply Kd.R_alloc | apply Kd.R_drewN | apply Kd.R_drew)); exact HO_6.out) hb); have n1_ := Aside0.mk (Kd.R_below (by (with_reducible repeat (first | apply Kd.R_alloc | apply Kd.R_drewN | apply Kd.R_drew)); exact HO_27.out) hb); have n2_ := Aside0.mk (blk_below (g := gb202) (o := .cells #[.int .i64 0, .slice none 0 0, .slice A0 l0.length c0] 62 (0, 0)) (by (with_reducible repeat (first | refine blk_drewN ?_ _ | refine blk_drew ?_ | refine blk_alloc ?_ _)); exact BK202.out) hb); have n3_ := Aside0.mk (below_step (by repeat (first | (with_reducible first | exact HB.out | apply below_alloc | apply pw_below_drewN | apply below_drew1 | refine below_set ?_ GE202.out) | exact HB.out)) hb); clear HO_6; clear HO_27; clear BK202; clear HB; have HO_6 := n0_; have HO_27 := n1_; have BK202 := n2_; have HB := n3_; clear n0_ n1_ n2_ n3_; (try clear hb); (try clear hb2); (try clear hk); (try clear hi); have hcz81_0 : w80.cell? ⟨gb202, 0, none⟩ = some (.int .i64 0) := (blk_cell BK202.out 0).trans rfl; have hcz81_1 : w80.cell? ⟨gb202, 1, none⟩ = some (.slice none 0 0) := (blk_cell BK202.out 1).trans rfl; have hcz81_2 : w80.cell? ⟨gb202, 2, none⟩ = some (.slice A0 l0.length c0) := (blk_cell BK202.out 2).trans rfl; have hfz81_0 := blk_frozen BK202.out 0; have hfz81_1 := blk_frozen BK202.out 1; have hfz81_2 := blk_frozen BK202.out 2) | ((with_reducible refine gate_callee (f := 44) rfl ?_); refine goesL_ (some 72) rfl rfl Try.func44 (by kernel_rfl) rfl #[.agg #[.int .i64 0, .slice none 0 0, .slice A0 l0.length c0], .int .i64 1] rfl (by (try simp only [List.map_toArray, List.map_cons, List.map_nil]); first | done | rfl | (simp only [List.length_drop, List.length_take]; rfl)) ?_; (refine (plan_Frame.calls k2 0 _ _ ([] : List (S76)) _ _ l0 1 t224 _ ?side1 ?side2 ?side3 ?side4 A78.out).mono ?_); (case side1 => exact Kd.C_nil _ _); (case side2 => exact Nat.le_refl _); (case side3 => repeat (first | exact (Kd.C_below HR0.out HB.out) | (with_reducible refine Kd.C_alloc ?_ _) | (with_reducible refine Kd.C_drewN ?_ _) | (with_reducible refine Kd.C_drew ?_))); (case side4 => exact HC0.out); rintro e w82 ⟨rfl, hb⟩; refine ⟨_, rfl, ?_⟩; have n0_ := Aside0.mk (Kd.R_below (by (with_reducible repeat (first | apply Kd.R_alloc | apply Kd.R_drewN | apply Kd.R_drew)); exact HO_6.out) hb); have n1_ := Aside0.mk (Kd.R_below (by (with_reducible repeat (first | apply Kd.R_alloc | apply Kd.R_drewN | apply Kd.R_drew)); exact HO_27.out) hb); have n2_ := Aside0.mk (blk_below (g := gb202) (o := .cells #[.int .i64 0, .slice none 0 0, .slice A0 l0.length c0] 62 (0, 0)) (by (with_reducible repeat (first | refine blk_drewN ?_ _ | refine blk_drew ?_ | refine blk_alloc ?_ _)); exact BK202.out) hb); have n3_ := Aside0.mk (below_step (by repeat (first | (with_reducible first | exact HB.out | apply below_alloc | apply pw_below_drewN | apply below_drew1 | refine below_set ?_ GE202.out) | exact HB.out)) hb); clear HO_6; clear HO_27; clear BK202; clear HB; have HO_6 := n0_; have HO_27 := n1_; have BK202 := n2_; have HB := n3_; clear n0_ n1_ n2_ n3_; (try clear hb); (try clear hb2); (try clear hk); (try clear hi)) | ((with_reducible refine gate_builtin (b := .append) (xs := #[.tmp 69, .tmp 78]) rfl ?_); at_builtin; refine Kd.R_append (Kd.int .i64) (w0 := w) w.heap.size rfl (.tmp 69) (.tmp 78) 42 3 (.int .i64 0) 8 rfl Try.underlying42 info3 rfl (by decide) (by omega) u6 x6_2 (wrap64 (Int.tdiv (wrap64 ((wrap64 (t224 + t222)) - x7_2)) 20)) [.int .i64 (wrap64 (Int.tdiv (wrap64 ((wrap64 (t224 + t222)) - x7_2)) 20))] (fun _ => True) (fun _ => False) rfl rfl ?aP (fun _ hk => hk.elim) ?aF ?aO ?aB ?aS ?aL ?_; (case aP => exact rfl); (case aB => exact (by repeat (first | (with_reducible first | exact HB.out | apply below_alloc | apply pw_below_drewN | apply below_drew1 | refine below_set ?_ GE202.out) | exact HB.out))); (case aF => exact (fun _ _ => trivial)); (case aO => exact (by (with_reducible repeat (first | apply Kd.R_alloc | apply Kd.R_drewN | apply Kd.R_drew)); exact HO_6.out)); (case aS => exact (below_size (by repeat (first | (with_reducible first | exact HB.out | apply below_alloc | apply pw_below_drewN | apply below_drew1 | refine below_set ?_ GE202.out) | exact HB.out)))); (case aL => have := LMc79.out; omega); intro v226 w83 ho hb hg hat; rw [← Ny225.out] at ho; have n0_ := Aside0.mk (Kd.R_over' (by (with_reducible repeat (first | apply Kd.R_alloc | apply Kd.R_drewN | apply Kd.R_drew)); exact HO_27.out) (Kd.R_typed (by (with_reducible repeat (first | apply Kd.R_alloc | apply Kd.R_drewN | apply Kd.R_drew)); exact HO_6.out)) (by decide) hg); have n1_ := Aside0.mk (blk_grown (g := gb202) (o := .cells #[.int .i64 0, .slice none 0 0, .slice A0 l0.length c0] 62 (0, 0)) (by (with_reducible repeat (first | refine blk_drewN ?_ _ | refine blk_drew ?_ | refine blk_alloc ?_ _)); exact BK202.out) hg (Kd.R_ne HO_6.out BK202.out (by decide))); have n2_ := Aside0.mk (hb); have n3_ := Aside0.mk (ho); clear HO_27; clear BK202; clear HB; clear HO_6; have HO_27 := n0_; have BK202 := n1_; have HB := n2_; have HO227 := n3_; clear n0_ n1_ n2_ n3_; clear ho hb hg hat))
               go_ret
               exact ⟨_, by first | rfl | (simp [errW_none, errW_some] <;> rfl) | (simp [*, errW_none, errW_some] <;> rfl), by (with_reducible repeat (first | apply Kd.R_alloc | apply Kd.R_drewN | apply Kd.R_drew)); exact HO227.out, by repeat (first | (with_reducible first | exact HB.out | apply below_alloc | apply pw_below_drewN | apply below_drew1 | refine below_set ?_ GE202.out) | exact HB.out)⟩
             · rw [if_neg c79] at H
               exact absurd H (by simp)
       · rw [if_neg c46] at H
         have c46b0 : (a1 == 1) = false := beq_eq_false_iff_ne.mpr c46
         exact absurd H (by simp)

end Go.Proofs.Ytekbaconbemgpaa.PWe
