/- Functions of the given program as plain Lean functions, each with its walk: printed by a program of this claim's own over the kit's print. Helper text. -/
import Derived.Test.YtekbaconbemgpaaPWex0
import Derived.Test.YtekbaconbemgpaaPWex5
import Derived.Test.YtekbaconbemgpaaPWex10
import Derived.Test.YtekbaconbemgpaaPWex11
namespace Go.Proofs.Ytekbaconbemgpaa.PWe
open Go.RowKit Go.Proofs.YtekbaconbemgpaaW.PrintWords Go.Proofs.YtekbaconbemgpaaW.PrintLast Go.Proofs.YtekbaconbemgpaaW.PrintMore
attribute [local go_sem] max2_int min2_int max_two min_two max_three min_three max_four min_four   -- for this text's walks alone
set_option linter.unusedVariables false
set_option linter.unusedSimpArgs false

/-! ### busbarlaw11_WalkEnds: function 4 -/
mutual
def busbarlaw11_WalkEnds.j0 : Nat → List (S47) → Bool → Option (Bool)
 | 0, _, _ => none
 | k + 1, x5, x78 => if x78 = true then (some false) else (busbarlaw11_WalkEnds.l0 k x5 0 60 0)
def busbarlaw11_WalkEnds.l0 : Nat → List (S47) → Int → Int → Int → Option (Bool)
 | 0, _, _, _, _ => none
 | k + 1, x5, x7, x8, x9 => if x9 < (x5.length : Int) then (if 0 ≤ x9 then (if ((rd_T47 x5 x9).f1) = x7 then (if (rd_T47 x5 x9).f7 = true then (busbarlaw11_WalkEnds.j2 k x5 x7 x8 x9 (decide (((rd_T47 x5 x9).f6) ≥ 0))) else (busbarlaw11_WalkEnds.j2 k x5 x7 x8 x9 false)) else (busbarlaw11_WalkEnds.j2 k x5 x7 x8 x9 true)) else (none)) else (if (wrap64 ((wrap64 (x7 + 60)) - x8)) ≤ 4000 then ((busbarlaw11_one.f k).bind fun t286 => (some t286)) else (some false))
def busbarlaw11_WalkEnds.j2 : Nat → List (S47) → Int → Int → Int → Bool → Option (Bool)
 | 0, _, _, _, _, _ => none
 | k + 1, x5, x7, x8, x9, x106 => if x106 = true then (some false) else (if 0 ≤ x9 then (if x9 < (x5.length : Int) then ((plan_Slot_Pulse.f k ((rd_T47 x5 x9).f0) ((rd_T47 x5 x9).f1) ((rd_T47 x5 x9).f2) ((rd_T47 x5 x9).f3) ((rd_T47 x5 x9).f4) ((rd_T47 x5 x9).f5) ((rd_T47 x5 x9).f6) ((rd_T47 x5 x9).f7)).bind fun bt291 => (if ((rd_T47 x5 x9).f0) = 2 then (if (wrap64 ((wrap64 (x7 + bt291.1)) - x8)) > 4000 then (some false) else (busbarlaw11_WalkEnds.l0 k x5 (wrap64 (x7 + ((rd_T47 x5 x9).f2))) (wrap64 (x7 + bt291.1)) (wrap64 (x9 + 1)))) else (busbarlaw11_WalkEnds.l0 k x5 (wrap64 (x7 + ((rd_T47 x5 x9).f2))) x8 (wrap64 (x9 + 1))))) else (none)) else (none))
end
def busbarlaw11_WalkEnds.f (k : Nat) (a0_0 : Int) (a0_1 : Int) (a0_2 : Int) (l0_3 : List Int) (a1 : Int) : Option (Bool) := if (l0_3.length : Int) > 1100 then (some true) else ((walk_Run.f k a0_0 a0_1 a0_2 l0_3 a1).bind fun bt274 => (if bt274.2 = 0 then (if (bt274.1.length : Int) < 2 then (busbarlaw11_WalkEnds.j0 k bt274.1 true) else (if (bt274.1.length : Int) > 34 then (busbarlaw11_WalkEnds.j0 k bt274.1 true) else (if 0 < (bt274.1.length : Int) then (if ((rd_T47 bt274.1 0).f0) = 3 then (if 0 ≤ (wrap64 ((bt274.1.length : Int) - 1)) then (if (wrap64 ((bt274.1.length : Int) - 1)) < (bt274.1.length : Int) then (busbarlaw11_WalkEnds.j0 k bt274.1 (((rd_T47 bt274.1 (wrap64 ((bt274.1.length : Int) - 1))).f0) != 4)) else (none)) else (none)) else (busbarlaw11_WalkEnds.j0 k bt274.1 true)) else (none)))) else (if (bt274.1.length : Int) = 0 then (if bt274.2 = 2 then ((busbarlaw11_one.f k).bind fun t278 => (some t278)) else (if bt274.2 = 10 then ((busbarlaw11_one.f k).bind fun t279 => (some t279)) else (if bt274.2 = 11 then ((busbarlaw11_one.f k).bind fun t280 => (some t280)) else (if bt274.2 = 14 then ((busbarlaw11_one.f k).bind fun t281 => (some t281)) else (if bt274.2 = 15 then ((busbarlaw11_one.f k).bind fun t282 => (some t282)) else (if bt274.2 = 16 then ((busbarlaw11_one.f k).bind fun t283 => (some t283)) else (some false))))))) else (some false))))
theorem busbarlaw11_WalkEnds.mono_l : ∀ k, (∀ y0 y1, LeO (busbarlaw11_WalkEnds.j0 k y0 y1) (busbarlaw11_WalkEnds.j0 (k + 1) y0 y1)) ∧ (∀ y0 y1 y2 y3, LeO (busbarlaw11_WalkEnds.l0 k y0 y1 y2 y3) (busbarlaw11_WalkEnds.l0 (k + 1) y0 y1 y2 y3)) ∧ (∀ y0 y1 y2 y3 y4, LeO (busbarlaw11_WalkEnds.j2 k y0 y1 y2 y3 y4) (busbarlaw11_WalkEnds.j2 (k + 1) y0 y1 y2 y3 y4))
 | 0 => ⟨fun _ _ r h => by simp [busbarlaw11_WalkEnds.j0] at h, fun _ _ _ _ r h => by simp [busbarlaw11_WalkEnds.l0] at h, fun _ _ _ _ _ r h => by simp [busbarlaw11_WalkEnds.j2] at h⟩
 | k + 1 => by
  obtain ⟨ih0, ih1, ih2⟩ := busbarlaw11_WalkEnds.mono_l k
  refine ⟨?_, ?_, ?_⟩
  · intro y0 y1
    unfold busbarlaw11_WalkEnds.j0
    repeat' first
    | (with_reducible exact ih0 _ _)
    | (with_reducible exact ih1 _ _ _ _)
    | (with_reducible exact ih2 _ _ _ _ _)
    | (with_reducible exact busbarlaw11_one.mono _)
    | (with_reducible exact plan_Slot_Pulse.mono _ _ _ _ _ _ _ _ _)
    | (with_reducible exact walk_Run.mono _ _ _ _ _ _)
    | (with_reducible exact LeO.refl _)
    | (with_reducible exact LeO.none _)
    | (with_reducible refine LeO.ite ?_ ?_)
    | (with_reducible refine LeO.bind ?_ (fun _ => ?_))
    | exact ih0 _ _
    | exact ih1 _ _ _ _
    | exact ih2 _ _ _ _ _
    | exact busbarlaw11_one.mono _
    | exact plan_Slot_Pulse.mono _ _ _ _ _ _ _ _ _
    | exact walk_Run.mono _ _ _ _ _ _
    | exact LeO.none _
    | refine LeO.ite ?_ ?_
    | refine LeO.bind ?_ (fun _ => ?_)
  · intro y0 y1 y2 y3
    unfold busbarlaw11_WalkEnds.l0
    repeat' first
    | (with_reducible exact ih0 _ _)
    | (with_reducible exact ih1 _ _ _ _)
    | (with_reducible exact ih2 _ _ _ _ _)
    | (with_reducible exact busbarlaw11_one.mono _)
    | (with_reducible exact plan_Slot_Pulse.mono _ _ _ _ _ _ _ _ _)
    | (with_reducible exact walk_Run.mono _ _ _ _ _ _)
    | (with_reducible exact LeO.refl _)
    | (with_reducible exact LeO.none _)
    | (with_reducible refine LeO.ite ?_ ?_)
    | (with_reducible refine LeO.bind ?_ (fun _ => ?_))
    | exact ih0 _ _
    | exact ih1 _ _ _ _
    | exact ih2 _ _ _ _ _
    | exact busbarlaw11_one.mono _
    | exact plan_Slot_Pulse.mono _ _ _ _ _ _ _ _ _
    | exact walk_Run.mono _ _ _ _ _ _
    | exact LeO.none _
    | refine LeO.ite ?_ ?_
    | refine LeO.bind ?_ (fun _ => ?_)
  · intro y0 y1 y2 y3 y4
    unfold busbarlaw11_WalkEnds.j2
    repeat' first
    | (with_reducible exact ih0 _ _)
    | (with_reducible exact ih1 _ _ _ _)
    | (with_reducible exact ih2 _ _ _ _ _)
    | (with_reducible exact busbarlaw11_one.mono _)
    | (with_reducible exact plan_Slot_Pulse.mono _ _ _ _ _ _ _ _ _)
    | (with_reducible exact walk_Run.mono _ _ _ _ _ _)
    | (with_reducible exact LeO.refl _)
    | (with_reducible exact LeO.none _)
    | (with_reducible refine LeO.ite ?_ ?_)
    | (with_reducible refine LeO.bind ?_ (fun _ => ?_))
    | exact ih0 _ _
    | exact ih1 _ _ _ _
    | exact ih2 _ _ _ _ _
    | exact busbarlaw11_one.mono _
    | exact plan_Slot_Pulse.mono _ _ _ _ _ _ _ _ _
    | exact walk_Run.mono _ _ _ _ _ _
    | exact LeO.none _
    | refine LeO.ite ?_ ?_
    | refine LeO.bind ?_ (fun _ => ?_)
theorem busbarlaw11_WalkEnds.mono : ∀ a0 a1 a2 a3 a4 k, LeO (busbarlaw11_WalkEnds.f k a0 a1 a2 a3 a4) (busbarlaw11_WalkEnds.f (k + 1) a0 a1 a2 a3 a4) := by
 intro a0 a1 a2 a3 a4 k
 obtain ⟨ih0, ih1, ih2⟩ := busbarlaw11_WalkEnds.mono_l k
 unfold busbarlaw11_WalkEnds.f
 repeat' first
  | (with_reducible exact ih0 _ _)
  | (with_reducible exact ih1 _ _ _ _)
  | (with_reducible exact ih2 _ _ _ _ _)
  | (with_reducible exact busbarlaw11_one.mono _)
  | (with_reducible exact plan_Slot_Pulse.mono _ _ _ _ _ _ _ _ _)
  | (with_reducible exact walk_Run.mono _ _ _ _ _ _)
  | (with_reducible exact LeO.refl _)
  | (with_reducible exact LeO.none _)
  | (with_reducible refine LeO.ite ?_ ?_)
  | (with_reducible refine LeO.bind ?_ (fun _ => ?_))
  | exact ih0 _ _
  | exact ih1 _ _ _ _
  | exact ih2 _ _ _ _ _
  | exact busbarlaw11_one.mono _
  | exact plan_Slot_Pulse.mono _ _ _ _ _ _ _ _ _
  | exact walk_Run.mono _ _ _ _ _ _
  | exact LeO.none _
  | refine LeO.ite ?_ ?_
  | refine LeO.bind ?_ (fun _ => ?_)
set_option maxHeartbeats 8000000 in
set_option maxRecDepth 100000 in
theorem busbarlaw11_WalkEnds.calls (k : Nat) (a0_0 : Int) (a0_1 : Int) (a0_2 : Int) (A0_3 : Option Addr) (c0_3 : Nat) (l0_3 : List Int) (a1 : Int) (r : Bool) (w : World) (hr0_3 : Kd.C (Kd.int .u8) w A0_3 l0_3.length l0_3) (hc0_3 : l0_3.length ≤ c0_3) (h : busbarlaw11_WalkEnds.f k a0_0 a0_1 a0_2 l0_3 a1 = some r) :
 Calls Try.prog 4 #[.agg #[.int .i64 a0_0, .int .i64 a0_1, .int .i64 a0_2, .slice A0_3 l0_3.length c0_3], .int .i64 a1] w fun e w' => e = .returned (.bool r) ∧ Below w.heap.size w w' := by
 have hu25 := Try.underlying25
 have hu47 := Try.underlying47
 have HR0_3 := Aside0.mk hr0_3
 have HC0_3 := Aside0.mk hc0_3
 clear hr0_3 hc0_3
 have HB := Aside0.mk (Below.refl w.heap.size w)
 have H : (if (l0_3.length : Int) > 1100 then (some true) else ((walk_Run.f k a0_0 a0_1 a0_2 l0_3 a1).bind fun bt274 => (if bt274.2 = 0 then (if (bt274.1.length : Int) < 2 then (busbarlaw11_WalkEnds.j0 k bt274.1 true) else (if (bt274.1.length : Int) > 34 then (busbarlaw11_WalkEnds.j0 k bt274.1 true) else (if 0 < (bt274.1.length : Int) then (if ((rd_T47 bt274.1 0).f0) = 3 then (if 0 ≤ (wrap64 ((bt274.1.length : Int) - 1)) then (if (wrap64 ((bt274.1.length : Int) - 1)) < (bt274.1.length : Int) then (busbarlaw11_WalkEnds.j0 k bt274.1 (((rd_T47 bt274.1 (wrap64 ((bt274.1.length : Int) - 1))).f0) != 4)) else (none)) else (none)) else (busbarlaw11_WalkEnds.j0 k bt274.1 true)) else (none)))) else (if (bt274.1.length : Int) = 0 then (if bt274.2 = 2 then ((busbarlaw11_one.f k).bind fun t278 => (some t278)) else (if bt274.2 = 10 then ((busbarlaw11_one.f k).bind fun t279 => (some t279)) else (if bt274.2 = 11 then ((busbarlaw11_one.f k).bind fun t280 => (some t280)) else (if bt274.2 = 14 then ((busbarlaw11_one.f k).bind fun t281 => (some t281)) else (if bt274.2 = 15 then ((busbarlaw11_one.f k).bind fun t282 => (some t282)) else (if bt274.2 = 16 then ((busbarlaw11_one.f k).bind fun t283 => (some t283)) else (some false))))))) else (some false))))) = some r := h
 clear h
 by_cases c3 : (l0_3.length : Int) > 1100
 · rw [if_pos c3] at H
   have c3b0 : decide (1100 < (l0_3.length : Int)) = true := decide_eq_true c3
   have c3b1 : decide (1100 < l0_3.length) = true := decide_eq_true (by omega)
   clear c3
   obtain rfl := Option.some.inj H
   go_enter Try.func4, Try.ntmps4
   go_wp2_with (first | ((with_reducible refine gate_dst (N := 2) rfl ?_); (try (refine gate_guard (by rfl) ?_; dsimp only)); refine box_event ?hg (N := 2) ?hd (cs := #[.int .i64 a0_0, .int .i64 a0_1, .int .i64 a0_2, .slice A0_3 l0_3.length c0_3]) (t := 25) ?hr ?_; (case hd => rfl); (case hg => rfl); (case hr => first | (go_simp; done) | (go_simp; rfl)); intro gb273 hg w4 hbox hb; have n0_ := Aside0.mk (below_step (by repeat (first | (with_reducible first | exact HB.out | apply below_alloc | apply pw_below_drewN | apply below_drew1) | exact HB.out)) hb); have n1_ := Aside0.mk (hbox); have n2_ := Aside0.mk ((by rw [hg]; exact (below_size (by repeat (first | (with_reducible first | exact HB.out | apply below_alloc | apply pw_below_drewN | apply below_drew1) | exact HB.out))) : w.heap.size ≤ gb273)); have n3_ := Aside0.mk ((by rw [hg]; exact (below_size (by repeat (first | (with_reducible first | exact HB.out | apply below_alloc | apply pw_below_drewN | apply below_drew1) | exact HB.out))) : w.heap.size ≤ gb273)); clear HB; have HB := n0_; have BK273 := n1_; have GW273 := n2_; have GE273 := n3_; clear n0_ n1_ n2_ n3_; clear hb hbox hg; have hcz5_0 : w4.cell? ⟨gb273, 0, none⟩ = some (.int .i64 a0_0) := (blk_cell BK273.out 0).trans rfl; have hcz5_1 : w4.cell? ⟨gb273, 1, none⟩ = some (.int .i64 a0_1) := (blk_cell BK273.out 1).trans rfl; have hcz5_2 : w4.cell? ⟨gb273, 2, none⟩ = some (.int .i64 a0_2) := (blk_cell BK273.out 2).trans rfl; have hcz5_3 : w4.cell? ⟨gb273, 3, none⟩ = some (.slice A0_3 l0_3.length c0_3) := (blk_cell BK273.out 3).trans rfl; have hfz5_0 := blk_frozen BK273.out 0; have hfz5_1 := blk_frozen BK273.out 1; have hfz5_2 := blk_frozen BK273.out 2; have hfz5_3 := blk_frozen BK273.out 3))
   go_ret
   exact ⟨by first | rfl | (simp [errW_none, errW_some] <;> rfl) | (simp [*, errW_none, errW_some] <;> rfl), by repeat (first | (with_reducible first | exact HB.out | apply below_alloc | apply pw_below_drewN | apply below_drew1 | refine below_set ?_ GE273.out) | exact HB.out)⟩
 · rw [if_neg c3] at H
   have c3b0 : decide (1100 < (l0_3.length : Int)) = false := decide_eq_false c3
   have c3b1 : decide (1100 < l0_3.length) = false := decide_eq_false (by omega)
   clear c3
   replace H := Option.bind_eq_some_iff.mp H
   obtain ⟨⟨t274, t277⟩, A60, H⟩ := H
   replace H : (if t277 = 0 then (if (t274.length : Int) < 2 then (busbarlaw11_WalkEnds.j0 k t274 true) else (if (t274.length : Int) > 34 then (busbarlaw11_WalkEnds.j0 k t274 true) else (if 0 < (t274.length : Int) then (if ((rd_T47 t274 0).f0) = 3 then (if 0 ≤ (wrap64 ((t274.length : Int) - 1)) then (if (wrap64 ((t274.length : Int) - 1)) < (t274.length : Int) then (busbarlaw11_WalkEnds.j0 k t274 (((rd_T47 t274 (wrap64 ((t274.length : Int) - 1))).f0) != 4)) else (none)) else (none)) else (busbarlaw11_WalkEnds.j0 k t274 true)) else (none)))) else (if (t274.length : Int) = 0 then (if t277 = 2 then ((busbarlaw11_one.f k).bind fun t278 => (some t278)) else (if t277 = 10 then ((busbarlaw11_one.f k).bind fun t279 => (some t279)) else (if t277 = 11 then ((busbarlaw11_one.f k).bind fun t280 => (some t280)) else (if t277 = 14 then ((busbarlaw11_one.f k).bind fun t281 => (some t281)) else (if t277 = 15 then ((busbarlaw11_one.f k).bind fun t282 => (some t282)) else (if t277 = 16 then ((busbarlaw11_one.f k).bind fun t283 => (some t283)) else (some false))))))) else (some false))) = some r := H
   have A6 := Aside0.mk A60
   clear A60
   by_cases c7 : t277 = 0
   · rw [if_pos c7] at H
     have c7b0 : (t277 == 0) = true := beq_iff_eq.mpr c7
     have c7b1 : (t277 != 0) = false := bne_eq_false_iff_eq.mpr c7
     clear c7
     have HC8 := Aside0.mk H
     clear H
     go_enter Try.func4, Try.ntmps4
     go_upto_region 6 with (first | ((with_reducible refine gate_dst (N := 2) rfl ?_); (try (refine gate_guard (by rfl) ?_; dsimp only)); refine box_event ?hg (N := 2) ?hd (cs := #[.int .i64 a0_0, .int .i64 a0_1, .int .i64 a0_2, .slice A0_3 l0_3.length c0_3]) (t := 25) ?hr ?_; (case hd => rfl); (case hg => rfl); (case hr => first | (go_simp; done) | (go_simp; rfl)); intro gb273 hg w9 hbox hb; have n0_ := Aside0.mk (below_step (by repeat (first | (with_reducible first | exact HB.out | apply below_alloc | apply pw_below_drewN | apply below_drew1) | exact HB.out)) hb); have n1_ := Aside0.mk (hbox); have n2_ := Aside0.mk ((by rw [hg]; exact (below_size (by repeat (first | (with_reducible first | exact HB.out | apply below_alloc | apply pw_below_drewN | apply below_drew1) | exact HB.out))) : w.heap.size ≤ gb273)); have n3_ := Aside0.mk ((by rw [hg]; exact (below_size (by repeat (first | (with_reducible first | exact HB.out | apply below_alloc | apply pw_below_drewN | apply below_drew1) | exact HB.out))) : w.heap.size ≤ gb273)); clear HB; have HB := n0_; have BK273 := n1_; have GW273 := n2_; have GE273 := n3_; clear n0_ n1_ n2_ n3_; clear hb hbox hg; have hcz10_0 : w9.cell? ⟨gb273, 0, none⟩ = some (.int .i64 a0_0) := (blk_cell BK273.out 0).trans rfl; have hcz10_1 : w9.cell? ⟨gb273, 1, none⟩ = some (.int .i64 a0_1) := (blk_cell BK273.out 1).trans rfl; have hcz10_2 : w9.cell? ⟨gb273, 2, none⟩ = some (.int .i64 a0_2) := (blk_cell BK273.out 2).trans rfl; have hcz10_3 : w9.cell? ⟨gb273, 3, none⟩ = some (.slice A0_3 l0_3.length c0_3) := (blk_cell BK273.out 3).trans rfl; have hfz10_0 := blk_frozen BK273.out 0; have hfz10_1 := blk_frozen BK273.out 1; have hfz10_2 := blk_frozen BK273.out 2; have hfz10_3 := blk_frozen BK273.out 3) | ((with_reducible refine gate_callee (f := 9) rfl ?_); refine goesL_ (some 19) rfl rfl Try.func9 (by kernel_rfl) rfl #[.agg #[.int .i64 a0_0, .int .i64 a0_1, .int .i64 a0_2, .slice A0_3 l0_3.length c0_3], .int .i64 a1] rfl (by (try simp only [List.map_toArray, List.map_cons, List.map_nil]); first | done | rfl | (simp only [List.length_drop, List.length_take]; rfl)) ?_; (with_reducible refine (walk_Run.calls k a0_0 a0_1 a0_2 _ _ l0_3 a1 t274 t277 _ ?side1 ?side2 A6.out).mono ?_); (case side1 => repeat (first | exact (Kd.C_below HR0_3.out HB.out) | (with_reducible refine Kd.C_alloc ?_ _) | (with_reducible refine Kd.C_drewN ?_ _) | (with_reducible refine Kd.C_drew ?_))); (case side2 => exact HC0_3.out); rintro e w11 ⟨v275, rfl, ho0, hb⟩; refine ⟨_, rfl, ?_⟩; have n0_ := Aside0.mk (Kd.R_lower ho0 (below_size (by repeat (first | (with_reducible first | exact HB.out | apply below_alloc | apply pw_below_drewN | apply below_drew1 | refine below_set ?_ GE273.out) | exact HB.out)))); have n1_ := Aside0.mk (blk_below (g := gb273) (o := .cells #[.int .i64 a0_0, .int .i64 a0_1, .int .i64 a0_2, .slice A0_3 l0_3.length c0_3] 25 (0, 0)) (by (with_reducible repeat (first | refine blk_drewN ?_ _ | refine blk_drew ?_ | refine blk_alloc ?_ _)); exact BK273.out) hb); have n2_ := Aside0.mk (below_step (by repeat (first | (with_reducible first | exact HB.out | apply below_alloc | apply pw_below_drewN | apply below_drew1 | refine below_set ?_ GE273.out) | exact HB.out)) hb); clear BK273; clear HB; have HO276 := n0_; have BK273 := n1_; have HB := n2_; clear n0_ n1_ n2_; (try clear hb); (try clear hb2); (try clear hk); (try clear hi); (try clear ho0)))
     (try simp only [Act.put, List.setIfInBounds_toArray, List.set_cons_zero, List.set_cons_succ])
     go_cut [78] (fun v78 wc => ∃ (kq : Nat) (x78_7 : Bool), v78 = .bool x78_7 ∧ Aside0 (busbarlaw11_WalkEnds.j0 kq t274 x78_7 = some r) ∧ Aside0 (kq ≤ k) ∧ Aside0 (Kd.R k47 47 wc w.heap.size (fun _ => True) v275 t274) ∧ Aside0 (wc.heap[gb273]? = some (.cells #[.int .i64 a0_0, .int .i64 a0_1, .int .i64 a0_2, (.slice A0_3 l0_3.length c0_3)] 25 (0, 0))) ∧ Aside0 (Below w.heap.size w wc))
     case first =>
      have H := HC8.out
      clear HC8
      by_cases c12 : (t274.length : Int) < 2
      · rw [if_pos c12] at H
        have c12b0 : decide ((t274.length : Int) < 2) = true := decide_eq_true c12
        have c12b1 : decide (t274.length < 2) = true := decide_eq_true (by omega)
        clear c12
        (first | rw [c12b0] | (simp only [i64_w, i32_w]; rw [c12b0]) | skip)
        have H' := Aside0.mk H
        clear H
        obtain ⟨Ao13, co13, eo13⟩ := Kd.R_slice HO276.out
        subst eo13
        go_wp2
        go_meet
        case rel => exact ⟨_, (true), (by first | rfl | (simp; done) | (simp [*]; done)), H', ⟨by first | omega | exact Nat.le_refl _⟩, ⟨by (with_reducible repeat (first | apply Kd.R_alloc | apply Kd.R_drewN | apply Kd.R_drew)); exact HO276.out⟩, ⟨by (with_reducible repeat (first | refine blk_drewN ?_ _ | refine blk_drew ?_ | refine blk_alloc ?_ _)); exact BK273.out⟩, ⟨by repeat (first | (with_reducible first | exact HB.out | apply below_alloc | apply pw_below_drewN | apply below_drew1 | refine below_set ?_ GE273.out) | exact HB.out)⟩⟩
      · rw [if_neg c12] at H
        have c12b0 : decide ((t274.length : Int) < 2) = false := decide_eq_false c12
        have c12b1 : decide (t274.length < 2) = false := decide_eq_false (by omega)
        clear c12
        (first | rw [c12b0] | (simp only [i64_w, i32_w]; rw [c12b0]) | skip)
        by_cases c14 : (t274.length : Int) > 34
        · rw [if_pos c14] at H
          have c14b0 : decide (34 < (t274.length : Int)) = true := decide_eq_true c14
          have c14b1 : decide (34 < t274.length) = true := decide_eq_true (by omega)
          clear c14
          have H' := Aside0.mk H
          clear H
          obtain ⟨Ao15, co15, eo15⟩ := Kd.R_slice HO276.out
          subst eo15
          go_wp2
          go_meet
          case rel => exact ⟨_, (true), (by first | rfl | (simp; done) | (simp [*]; done)), H', ⟨by first | omega | exact Nat.le_refl _⟩, ⟨by (with_reducible repeat (first | apply Kd.R_alloc | apply Kd.R_drewN | apply Kd.R_drew)); exact HO276.out⟩, ⟨by (with_reducible repeat (first | refine blk_drewN ?_ _ | refine blk_drew ?_ | refine blk_alloc ?_ _)); exact BK273.out⟩, ⟨by repeat (first | (with_reducible first | exact HB.out | apply below_alloc | apply pw_below_drewN | apply below_drew1 | refine below_set ?_ GE273.out) | exact HB.out)⟩⟩
        · rw [if_neg c14] at H
          have c14b0 : decide (34 < (t274.length : Int)) = false := decide_eq_false c14
          have c14b1 : decide (34 < t274.length) = false := decide_eq_false (by omega)
          clear c14
          by_cases c16 : 0 < (t274.length : Int)
          · rw [if_pos c16] at H
            have c16b0 : decide (0 < (t274.length : Int)) = true := decide_eq_true c16
            have c16b1 : decide (0 < t274.length) = true := decide_eq_true (by omega)
            clear c16
            by_cases c17 : ((rd_T47 t274 0).f0) = 3
            · rw [if_pos c17] at H
              have c17b0 : (((rd_T47 t274 0).f0) == 3) = true := beq_iff_eq.mpr c17
              have c17b1 : (((rd_T47 t274 0).f0) != 3) = false := bne_eq_false_iff_eq.mpr c17
              clear c17
              obtain ⟨ji18, hji18⟩ : ∃ j_ : Int, (wrap64 ((t274.length : Int) - 1)) = j_ := ⟨_, rfl⟩
              replace H : (if 0 ≤ (ji18) then (if (ji18) < (t274.length : Int) then (busbarlaw11_WalkEnds.j0 k t274 (((rd_T47 t274 (ji18)).f0) != 4)) else (none)) else (none)) = some r := by first | (rw [hji18] at H; exact H) | (simp only [hji18] at H ⊢; exact H)
              have hji18w : (IntKind.i64.wrap ((t274.length : Int) - 1)) = ji18 := (i64_w _).trans hji18
              by_cases c19 : 0 ≤ (ji18)
              · rw [if_pos c19] at H
                have c19b0 : decide (0 ≤ (ji18)) = true := decide_eq_true c19
                clear c19
                by_cases c20 : (ji18) < (t274.length : Int)
                · rw [if_pos c20] at H
                  have c20b0 : decide ((ji18) < (t274.length : Int)) = true := decide_eq_true c20
                  clear c20
                  have H' := Aside0.mk H
                  clear H
                  obtain ⟨Ao21, co21, eo21⟩ := Kd.R_slice HO276.out
                  subst eo21
                  have p284 : 0 ≤ (0 : Int) := (by omega)
                  have q284 : 0 < (t274.length : Int) := of_decide_eq_true (by first | (with_reducible assumption) | assumption)
                  obtain ⟨ad284, e284, hx284_0, hx284_1, hx284_2, hx284_3, hx284_4, hx284_5, hx284_6, hx284_7⟩ := at_T47 (Kd.R_reads' HO276.out).2.2 0 p284 q284
                  cases e284
                  have qi284 : (0 < t274.length) = True := eq_true (by omega)
                  (try rw [show ((0 : Int)).toNat = 0 from rfl] at hx284_0)
                  (try rw [show 0 * 8 = 0 from rfl] at hx284_0)
                  (try rw [Addr.add_zero'] at hx284_0)
                  (try rw [show ((0 : Int)).toNat = 0 from rfl] at hx284_1)
                  (try rw [show 0 * 8 = 0 from rfl] at hx284_1)
                  (try rw [Addr.add_zero'] at hx284_1)
                  (try rw [show ((0 : Int)).toNat = 0 from rfl] at hx284_2)
                  (try rw [show 0 * 8 = 0 from rfl] at hx284_2)
                  (try rw [Addr.add_zero'] at hx284_2)
                  (try rw [show ((0 : Int)).toNat = 0 from rfl] at hx284_3)
                  (try rw [show 0 * 8 = 0 from rfl] at hx284_3)
                  (try rw [Addr.add_zero'] at hx284_3)
                  (try rw [show ((0 : Int)).toNat = 0 from rfl] at hx284_4)
                  (try rw [show 0 * 8 = 0 from rfl] at hx284_4)
                  (try rw [Addr.add_zero'] at hx284_4)
                  (try rw [show ((0 : Int)).toNat = 0 from rfl] at hx284_5)
                  (try rw [show 0 * 8 = 0 from rfl] at hx284_5)
                  (try rw [Addr.add_zero'] at hx284_5)
                  (try rw [show ((0 : Int)).toNat = 0 from rfl] at hx284_6)
                  (try rw [show 0 * 8 = 0 from rfl] at hx284_6)
                  (try rw [Addr.add_zero'] at hx284_6)
                  (try rw [show ((0 : Int)).toNat = 0 from rfl] at hx284_7)
                  (try rw [show 0 * 8 = 0 from rfl] at hx284_7)
                  (try rw [Addr.add_zero'] at hx284_7)
                  replace p284 := eq_true p284
                  replace q284 := eq_true q284
                  have p285 : 0 ≤ ((ji18) : Int) := of_decide_eq_true (by first | (with_reducible assumption) | assumption)
                  have q285 : (ji18) < (t274.length : Int) := of_decide_eq_true (by first | (with_reducible assumption) | assumption)
                  obtain ⟨ad285, e285, hx285_0, hx285_1, hx285_2, hx285_3, hx285_4, hx285_5, hx285_6, hx285_7⟩ := at_T47 (Kd.R_reads' HO276.out).2.2 (ji18) p285 q285
                  obtain rfl : ad284 = ad285 := (by injection e285)
                  replace p285 := eq_true p285
                  replace q285 := eq_true q285
                  go_wp2
                  go_meet
                  case rel => exact ⟨_, ((((rd_T47 t274 (ji18)).f0) != 4)), (by first | rfl | (simp; done) | (simp only [← hji18] <;> (first | rfl | simp)) | (simp [*]; done)), H', ⟨by first | omega | exact Nat.le_refl _⟩, ⟨by (with_reducible repeat (first | apply Kd.R_alloc | apply Kd.R_drewN | apply Kd.R_drew)); exact HO276.out⟩, ⟨by (with_reducible repeat (first | refine blk_drewN ?_ _ | refine blk_drew ?_ | refine blk_alloc ?_ _)); exact BK273.out⟩, ⟨by repeat (first | (with_reducible first | exact HB.out | apply below_alloc | apply pw_below_drewN | apply below_drew1 | refine below_set ?_ GE273.out) | exact HB.out)⟩⟩
                · rw [if_neg c20] at H
                  exact absurd H (by simp)
              · rw [if_neg c19] at H
                exact absurd H (by simp)
            · rw [if_neg c17] at H
              have c17b0 : (((rd_T47 t274 0).f0) == 3) = false := beq_eq_false_iff_ne.mpr c17
              have c17b1 : (((rd_T47 t274 0).f0) != 3) = true := bne_iff_ne.mpr c17
              have H' := Aside0.mk H
              clear H
              obtain ⟨Ao22, co22, eo22⟩ := Kd.R_slice HO276.out
              subst eo22
              have p284 : 0 ≤ (0 : Int) := (by omega)
              have q284 : 0 < (t274.length : Int) := of_decide_eq_true (by first | (with_reducible assumption) | assumption)
              obtain ⟨ad284, e284, hx284_0, hx284_1, hx284_2, hx284_3, hx284_4, hx284_5, hx284_6, hx284_7⟩ := at_T47 (Kd.R_reads' HO276.out).2.2 0 p284 q284
              cases e284
              have qi284 : (0 < t274.length) = True := eq_true (by omega)
              (try rw [show ((0 : Int)).toNat = 0 from rfl] at hx284_0)
              (try rw [show 0 * 8 = 0 from rfl] at hx284_0)
              (try rw [Addr.add_zero'] at hx284_0)
              (try rw [show ((0 : Int)).toNat = 0 from rfl] at hx284_1)
              (try rw [show 0 * 8 = 0 from rfl] at hx284_1)
              (try rw [Addr.add_zero'] at hx284_1)
              (try rw [show ((0 : Int)).toNat = 0 from rfl] at hx284_2)
              (try rw [show 0 * 8 = 0 from rfl] at hx284_2)
              (try rw [Addr.add_zero'] at hx284_2)
              (try rw [show ((0 : Int)).toNat = 0 from rfl] at hx284_3)
              (try rw [show 0 * 8 = 0 from rfl] at hx284_3)
              (try rw [Addr.add_zero'] at hx284_3)
              (try rw [show ((0 : Int)).toNat = 0 from rfl] at hx284_4)
              (try rw [show 0 * 8 = 0 from rfl] at hx284_4)
              (try rw [Addr.add_zero'] at hx284_4)
              (try rw [show ((0 : Int)).toNat = 0 from rfl] at hx284_5)
              (try rw [show 0 * 8 = 0 from rfl] at hx284_5)
              (try rw [Addr.add_zero'] at hx284_5)
              (try rw [show ((0 : Int)).toNat = 0 from rfl] at hx284_6)
              (try rw [show 0 * 8 = 0 from rfl] at hx284_6)
              (try rw [Addr.add_zero'] at hx284_6)
              (try rw [show ((0 : Int)).toNat = 0 from rfl] at hx284_7)
              (try rw [show 0 * 8 = 0 from rfl] at hx284_7)
              (try rw [Addr.add_zero'] at hx284_7)
              replace p284 := eq_true p284
              replace q284 := eq_true q284
              go_wp2
              go_meet
              case rel => exact ⟨_, (true), (by first | rfl | (simp; done) | (simp [*]; done)), H', ⟨by first | omega | exact Nat.le_refl _⟩, ⟨by (with_reducible repeat (first | apply Kd.R_alloc | apply Kd.R_drewN | apply Kd.R_drew)); exact HO276.out⟩, ⟨by (with_reducible repeat (first | refine blk_drewN ?_ _ | refine blk_drew ?_ | refine blk_alloc ?_ _)); exact BK273.out⟩, ⟨by repeat (first | (with_reducible first | exact HB.out | apply below_alloc | apply pw_below_drewN | apply below_drew1 | refine below_set ?_ GE273.out) | exact HB.out)⟩⟩
          · rw [if_neg c16] at H
            exact absurd H (by simp)
     case rest =>
      clear HC8
      try clear c1
      try clear c2
      try clear p2
      try clear q2
      try clear hx2
      try clear qi2
      try clear c3
      try clear c3b0
      try clear c3b1
      try clear c4
      try clear p6
      try clear c7
      try clear c7b0
      try clear c7b1
      try clear c9
      try clear c12
      try clear c12b0
      try clear c12b1
      try clear c14
      try clear c14b0
      try clear c14b1
      try clear c16
      try clear c16b0
      try clear c16b1
      try clear c17
      try clear c17b0
      try clear c17b1
      try clear c19
      try clear c19b0
      try clear c20
      try clear c20b0
      try clear hcz10_0
      try clear hcz10_1
      try clear hcz10_2
      try clear hcz10_3
      try clear hcz5_0
      try clear hcz5_1
      try clear hcz5_2
      try clear hcz5_3
      try clear hfz10_0
      try clear hfz10_1
      try clear hfz10_2
      try clear hfz10_3
      try clear hfz5_0
      try clear hfz5_1
      try clear hfz5_2
      try clear hfz5_3
      try clear hx284_0
      try clear hx284_1
      try clear hx284_2
      try clear hx284_3
      try clear hx284_4
      try clear hx284_5
      try clear hx284_6
      try clear hx284_7
      try clear hx285_0
      try clear hx285_1
      try clear hx285_2
      try clear hx285_3
      try clear hx285_4
      try clear hx285_5
      try clear hx285_6
      try clear hx285_7
      try clear p284
      try clear p285
      try clear q284
      try clear q285
      obtain ⟨kq, x78_7, rfl, HA, HJ7, HO_5, BK273, HB⟩ := hcut
      cases kq with
      | zero => exact absurd HA.out (by simp [busbarlaw11_WalkEnds.j0])
      | succ kj7 =>
       have H := HA.out
       clear HA
       simp only [busbarlaw11_WalkEnds.j0] at H
       by_cases c23 : x78_7 = true
       · subst c23
         have H1 : (some false) = some r := by rw [if_pos rfl] at H; exact H
         clear H
         have H := H1
         clear H1
         obtain rfl := Option.some.inj H
         go_wp2
         go_ret
         exact ⟨by first | rfl | (simp [errW_none, errW_some] <;> rfl) | (simp [*, errW_none, errW_some] <;> rfl), by repeat (first | (with_reducible first | exact HB.out | apply below_alloc | apply pw_below_drewN | apply below_drew1 | refine below_set ?_ GE273.out) | exact HB.out)⟩
       · replace c23 := Bool.eq_false_iff.mpr c23
         subst c23
         have H1 : (busbarlaw11_WalkEnds.l0 kj7 t274 0 60 0) = some r := by rw [if_neg (show ¬ (false = true) by decide)] at H; exact H
         clear H
         have H := H1
         clear H1
         have H' := Aside0.mk H
         clear H
         go_wp2
         go_loopg [7, 8, 9] kj7 (fun kq v7 v8 v9 w' => ∃ (x7_2 : Int) (x8_2 : Int) (x9_2 : Int), v7 = .int .i64 x7_2 ∧ v8 = .int .i64 x8_2 ∧ v9 = .int .i64 x9_2 ∧ Aside0 (busbarlaw11_WalkEnds.l0 kq t274 x7_2 x8_2 x9_2 = some r) ∧ Aside0 (kq ≤ kj7) ∧ Aside0 (Kd.R k47 47 w' w.heap.size (fun _ => True) v275 t274) ∧ Aside0 (w'.heap[gb273]? = some (.cells #[.int .i64 a0_0, .int .i64 a0_1, .int .i64 a0_2, (.slice A0_3 l0_3.length c0_3)] 25 (0, 0))) ∧ Aside0 (Below w.heap.size w w'))
         case atStart => exact ⟨(0), (60), (0), (by first | rfl | (simp; done) | (simp [*]; done)), (by first | rfl | (simp; done) | (simp [*]; done)), (by first | rfl | (simp; done) | (simp [*]; done)), H', ⟨Nat.le_refl _⟩, ⟨by (with_reducible repeat (first | apply Kd.R_alloc | apply Kd.R_drewN | apply Kd.R_drew)); exact HO_5.out⟩, ⟨by (with_reducible repeat (first | refine blk_drewN ?_ _ | refine blk_drew ?_ | refine blk_alloc ?_ _)); exact BK273.out⟩, ⟨by repeat (first | (with_reducible first | exact HB.out | apply below_alloc | apply pw_below_drewN | apply below_drew1 | refine below_set ?_ GE273.out) | exact HB.out)⟩⟩
         case round =>
          clear H'
          try clear c1
          try clear c2
          try clear p2
          try clear q2
          try clear hx2
          try clear qi2
          try clear c3
          try clear c3b0
          try clear c3b1
          try clear c4
          try clear p6
          try clear c7
          try clear c7b0
          try clear c7b1
          try clear c9
          try clear c12
          try clear c12b0
          try clear c12b1
          try clear c14
          try clear c14b0
          try clear c14b1
          try clear c16
          try clear c16b0
          try clear c16b1
          try clear c17
          try clear c17b0
          try clear c17b1
          try clear c19
          try clear c19b0
          try clear c20
          try clear c20b0
          try clear c23
          try clear hcz10_0
          try clear hcz10_1
          try clear hcz10_2
          try clear hcz10_3
          try clear hcz5_0
          try clear hcz5_1
          try clear hcz5_2
          try clear hcz5_3
          try clear hfz10_0
          try clear hfz10_1
          try clear hfz10_2
          try clear hfz10_3
          try clear hfz5_0
          try clear hfz5_1
          try clear hfz5_2
          try clear hfz5_3
          try clear hx284_0
          try clear hx284_1
          try clear hx284_2
          try clear hx284_3
          try clear hx284_4
          try clear hx284_5
          try clear hx284_6
          try clear hx284_7
          try clear hx285_0
          try clear hx285_1
          try clear hx285_2
          try clear hx285_3
          try clear hx285_4
          try clear hx285_5
          try clear hx285_6
          try clear hx285_7
          try clear p2
          try clear p284
          try clear p285
          try clear p6
          try clear q2
          try clear q284
          try clear q285
          obtain ⟨x7_2, x8_2, x9_2, rfl, rfl, rfl, HA, HK2, HO_5, BK273, HB⟩ := hrel
          cases gk with
          | zero => exact absurd HA.out (by simp [busbarlaw11_WalkEnds.l0])
          | succ k2 =>
           have H := HA.out
           clear HA
           simp only [busbarlaw11_WalkEnds.l0] at H
           by_cases c24 : x9_2 < (t274.length : Int)
           · rw [if_pos c24] at H
             have c24b0 : decide (x9_2 < (t274.length : Int)) = true := decide_eq_true c24
             clear c24
             have HC25 := Aside0.mk H
             clear H
             obtain ⟨Ao26, co26, eo26⟩ := Kd.R_slice HO_5.out
             subst eo26
             go_upto_region 12 with (fail)
             go_cut [106] (fun v106 wc => ∃ (kq : Nat) (x106_24 : Bool), v106 = .bool x106_24 ∧ Aside0 (busbarlaw11_WalkEnds.j2 kq t274 x7_2 x8_2 x9_2 x106_24 = some r) ∧ Aside0 (kq ≤ k2) ∧ Aside0 (Kd.R k47 47 wc w.heap.size (fun _ => True) (.slice Ao26 t274.length co26) t274) ∧ Aside0 (wc.heap[gb273]? = some (.cells #[.int .i64 a0_0, .int .i64 a0_1, .int .i64 a0_2, (.slice A0_3 l0_3.length c0_3)] 25 (0, 0))) ∧ Aside0 (Below w.heap.size w wc))
             case first =>
              have H := HC25.out
              clear HC25
              by_cases c27 : 0 ≤ x9_2
              · rw [if_pos c27] at H
                have c27b0 : decide (0 ≤ x9_2) = true := decide_eq_true c27
                clear c27
                (first | rw [c27b0] | (simp only [i64_w, i32_w]; rw [c27b0]) | skip)
                by_cases c28 : ((rd_T47 t274 x9_2).f1) = x7_2
                · rw [if_pos c28] at H
                  have c28b0 : (((rd_T47 t274 x9_2).f1) == x7_2) = true := beq_iff_eq.mpr c28
                  have c28b1 : (((rd_T47 t274 x9_2).f1) != x7_2) = false := bne_eq_false_iff_eq.mpr c28
                  clear c28
                  obtain ⟨bq29, hbq29⟩ : ∃ b_ : Bool, b_ = ((rd_T47 t274 x9_2).f7) := ⟨_, rfl⟩
                  replace H : (if bq29 = true then (busbarlaw11_WalkEnds.j2 k2 t274 x7_2 x8_2 x9_2 (decide (((rd_T47 t274 x9_2).f6) ≥ 0))) else (busbarlaw11_WalkEnds.j2 k2 t274 x7_2 x8_2 x9_2 false)) = some r := by rw [← hbq29] at H; exact H
                  have Nbq29 := Aside0.mk hbq29
                  clear hbq29
                  by_cases c30 : bq29 = true
                  · subst c30
                    have H1 : (busbarlaw11_WalkEnds.j2 k2 t274 x7_2 x8_2 x9_2 (decide (((rd_T47 t274 x9_2).f6) ≥ 0))) = some r := by rw [if_pos rfl] at H; exact H
                    clear H
                    have H := H1
                    clear H1
                    have H' := Aside0.mk H
                    clear H
                    have p287 : 0 ≤ (x9_2 : Int) := of_decide_eq_true (by first | (with_reducible assumption) | assumption)
                    have q287 : x9_2 < (t274.length : Int) := of_decide_eq_true (by first | (with_reducible assumption) | assumption)
                    obtain ⟨ad287, e287, hx287_0, hx287_1, hx287_2, hx287_3, hx287_4, hx287_5, hx287_6, hx287_7⟩ := at_T47 (Kd.R_reads' HO_5.out).2.2 x9_2 p287 q287
                    (try rw [← Nbq29.out] at hx287_7)
                    cases e287
                    replace p287 := eq_true p287
                    replace q287 := eq_true q287
                    have p288 : 0 ≤ (x9_2 : Int) := of_decide_eq_true (by first | (with_reducible assumption) | assumption)
                    have q288 : x9_2 < (t274.length : Int) := of_decide_eq_true (by first | (with_reducible assumption) | assumption)
                    obtain ⟨ad288, e288, hx288_0, hx288_1, hx288_2, hx288_3, hx288_4, hx288_5, hx288_6, hx288_7⟩ := at_T47 (Kd.R_reads' HO_5.out).2.2 x9_2 p288 q288
                    (try rw [← Nbq29.out] at hx288_7)
                    obtain rfl : ad287 = ad288 := (by injection e288)
                    replace p288 := eq_true p288
                    replace q288 := eq_true q288
                    have p289 : 0 ≤ (x9_2 : Int) := of_decide_eq_true (by first | (with_reducible assumption) | assumption)
                    have q289 : x9_2 < (t274.length : Int) := of_decide_eq_true (by first | (with_reducible assumption) | assumption)
                    obtain ⟨ad289, e289, hx289_0, hx289_1, hx289_2, hx289_3, hx289_4, hx289_5, hx289_6, hx289_7⟩ := at_T47 (Kd.R_reads' HO_5.out).2.2 x9_2 p289 q289
                    (try rw [← Nbq29.out] at hx289_7)
                    obtain rfl : ad287 = ad289 := (by injection e289)
                    replace p289 := eq_true p289
                    replace q289 := eq_true q289
                    go_wp2
                    go_meet
                    case rel => exact ⟨_, (decide (((rd_T47 t274 x9_2).f6) ≥ 0)), (by first | rfl | (simp; done) | (simp [*]; done)), H', ⟨by have := HJ7.out; have := HK2.out; first | omega | exact Nat.le_refl _⟩, ⟨by (with_reducible repeat (first | apply Kd.R_alloc | apply Kd.R_drewN | apply Kd.R_drew)); exact HO_5.out⟩, ⟨by (with_reducible repeat (first | refine blk_drewN ?_ _ | refine blk_drew ?_ | refine blk_alloc ?_ _)); exact BK273.out⟩, ⟨by repeat (first | (with_reducible first | exact HB.out | apply below_alloc | apply pw_below_drewN | apply below_drew1 | refine below_set ?_ GE273.out) | exact HB.out)⟩⟩
                  · replace c30 := Bool.eq_false_iff.mpr c30
                    subst c30
                    have H1 : (busbarlaw11_WalkEnds.j2 k2 t274 x7_2 x8_2 x9_2 false) = some r := by rw [if_neg (show ¬ (false = true) by decide)] at H; exact H
                    clear H
                    have H := H1
                    clear H1
                    have H' := Aside0.mk H
                    clear H
                    have p287 : 0 ≤ (x9_2 : Int) := of_decide_eq_true (by first | (with_reducible assumption) | assumption)
                    have q287 : x9_2 < (t274.length : Int) := of_decide_eq_true (by first | (with_reducible assumption) | assumption)
                    obtain ⟨ad287, e287, hx287_0, hx287_1, hx287_2, hx287_3, hx287_4, hx287_5, hx287_6, hx287_7⟩ := at_T47 (Kd.R_reads' HO_5.out).2.2 x9_2 p287 q287
                    (try rw [← Nbq29.out] at hx287_7)
                    cases e287
                    replace p287 := eq_true p287
                    replace q287 := eq_true q287
                    have p288 : 0 ≤ (x9_2 : Int) := of_decide_eq_true (by first | (with_reducible assumption) | assumption)
                    have q288 : x9_2 < (t274.length : Int) := of_decide_eq_true (by first | (with_reducible assumption) | assumption)
                    obtain ⟨ad288, e288, hx288_0, hx288_1, hx288_2, hx288_3, hx288_4, hx288_5, hx288_6, hx288_7⟩ := at_T47 (Kd.R_reads' HO_5.out).2.2 x9_2 p288 q288
                    (try rw [← Nbq29.out] at hx288_7)
                    obtain rfl : ad287 = ad288 := (by injection e288)
                    replace p288 := eq_true p288
                    replace q288 := eq_true q288
                    go_wp2
                    go_meet
                    case rel => exact ⟨_, (false), (by first | rfl | (simp; done) | (simp [*]; done)), H', ⟨by have := HJ7.out; have := HK2.out; first | omega | exact Nat.le_refl _⟩, ⟨by (with_reducible repeat (first | apply Kd.R_alloc | apply Kd.R_drewN | apply Kd.R_drew)); exact HO_5.out⟩, ⟨by (with_reducible repeat (first | refine blk_drewN ?_ _ | refine blk_drew ?_ | refine blk_alloc ?_ _)); exact BK273.out⟩, ⟨by repeat (first | (with_reducible first | exact HB.out | apply below_alloc | apply pw_below_drewN | apply below_drew1 | refine below_set ?_ GE273.out) | exact HB.out)⟩⟩
                · rw [if_neg c28] at H
                  have c28b0 : (((rd_T47 t274 x9_2).f1) == x7_2) = false := beq_eq_false_iff_ne.mpr c28
                  have c28b1 : (((rd_T47 t274 x9_2).f1) != x7_2) = true := bne_iff_ne.mpr c28
                  have H' := Aside0.mk H
                  clear H
                  have p287 : 0 ≤ (x9_2 : Int) := of_decide_eq_true (by first | (with_reducible assumption) | assumption)
                  have q287 : x9_2 < (t274.length : Int) := of_decide_eq_true (by first | (with_reducible assumption) | assumption)
                  obtain ⟨ad287, e287, hx287_0, hx287_1, hx287_2, hx287_3, hx287_4, hx287_5, hx287_6, hx287_7⟩ := at_T47 (Kd.R_reads' HO_5.out).2.2 x9_2 p287 q287
                  cases e287
                  replace p287 := eq_true p287
                  replace q287 := eq_true q287
                  go_wp2
                  go_meet
                  case rel => exact ⟨_, (true), (by first | rfl | (simp; done) | (simp [*]; done)), H', ⟨by have := HJ7.out; have := HK2.out; first | omega | exact Nat.le_refl _⟩, ⟨by (with_reducible repeat (first | apply Kd.R_alloc | apply Kd.R_drewN | apply Kd.R_drew)); exact HO_5.out⟩, ⟨by (with_reducible repeat (first | refine blk_drewN ?_ _ | refine blk_drew ?_ | refine blk_alloc ?_ _)); exact BK273.out⟩, ⟨by repeat (first | (with_reducible first | exact HB.out | apply below_alloc | apply pw_below_drewN | apply below_drew1 | refine below_set ?_ GE273.out) | exact HB.out)⟩⟩
              · rw [if_neg c27] at H
                exact absurd H (by simp)
             case rest =>
              clear HC25
              try clear c1
              try clear c2
              try clear p2
              try clear q2
              try clear hx2
              try clear qi2
              try clear c3
              try clear c3b0
              try clear c3b1
              try clear c4
              try clear p6
              try clear c7
              try clear c7b0
              try clear c7b1
              try clear c9
              try clear c12
              try clear c12b0
              try clear c12b1
              try clear c14
              try clear c14b0
              try clear c14b1
              try clear c16
              try clear c16b0
              try clear c16b1
              try clear c17
              try clear c17b0
              try clear c17b1
              try clear c19
              try clear c19b0
              try clear c20
              try clear c20b0
              try clear c23
              try clear c24
              try clear c24b0
              try clear c27
              try clear c27b0
              try clear c28
              try clear c28b0
              try clear c28b1
              try clear p28
              try clear q28
              try clear hx28
              try clear qi28
              try clear q29
              try clear c30
              try clear hcz10_0
              try clear hcz10_1
              try clear hcz10_2
              try clear hcz10_3
              try clear hcz5_0
              try clear hcz5_1
              try clear hcz5_2
              try clear hcz5_3
              try clear hfz10_0
              try clear hfz10_1
              try clear hfz10_2
              try clear hfz10_3
              try clear hfz5_0
              try clear hfz5_1
              try clear hfz5_2
              try clear hfz5_3
              try clear hx284_0
              try clear hx284_1
              try clear hx284_2
              try clear hx284_3
              try clear hx284_4
              try clear hx284_5
              try clear hx284_6
              try clear hx284_7
              try clear hx285_0
              try clear hx285_1
              try clear hx285_2
              try clear hx285_3
              try clear hx285_4
              try clear hx285_5
              try clear hx285_6
              try clear hx285_7
              try clear hx287_0
              try clear hx287_1
              try clear hx287_2
              try clear hx287_3
              try clear hx287_4
              try clear hx287_5
              try clear hx287_6
              try clear hx287_7
              try clear hx288_0
              try clear hx288_1
              try clear hx288_2
              try clear hx288_3
              try clear hx288_4
              try clear hx288_5
              try clear hx288_6
              try clear hx288_7
              try clear hx289_0
              try clear hx289_1
              try clear hx289_2
              try clear hx289_3
              try clear hx289_4
              try clear hx289_5
              try clear hx289_6
              try clear hx289_7
              try clear p2
              try clear p284
              try clear p285
              try clear p287
              try clear p288
              try clear p289
              try clear p6
              try clear q2
              try clear q284
              try clear q285
              try clear q287
              try clear q288
              try clear q289
              obtain ⟨kq, x106_24, rfl, HA, HJ24, HO_5, BK273, HB⟩ := hcut
              cases kq with
              | zero => exact absurd HA.out (by simp [busbarlaw11_WalkEnds.j2])
              | succ kj24 =>
               have H := HA.out
               clear HA
               simp only [busbarlaw11_WalkEnds.j2] at H
               by_cases c31 : x106_24 = true
               · subst c31
                 have H1 : (some false) = some r := by rw [if_pos rfl] at H; exact H
                 clear H
                 have H := H1
                 clear H1
                 obtain rfl := Option.some.inj H
                 go_wp2
                 go_ret
                 exact ⟨by first | rfl | (simp [errW_none, errW_some] <;> rfl) | (simp [*, errW_none, errW_some] <;> rfl), by repeat (first | (with_reducible first | exact HB.out | apply below_alloc | apply pw_below_drewN | apply below_drew1 | refine below_set ?_ GE273.out) | exact HB.out)⟩
               · replace c31 := Bool.eq_false_iff.mpr c31
                 subst c31
                 have H1 : (if 0 ≤ x9_2 then (if x9_2 < (t274.length : Int) then ((plan_Slot_Pulse.f kj24 ((rd_T47 t274 x9_2).f0) ((rd_T47 t274 x9_2).f1) ((rd_T47 t274 x9_2).f2) ((rd_T47 t274 x9_2).f3) ((rd_T47 t274 x9_2).f4) ((rd_T47 t274 x9_2).f5) ((rd_T47 t274 x9_2).f6) ((rd_T47 t274 x9_2).f7)).bind fun bt291 => (if ((rd_T47 t274 x9_2).f0) = 2 then (if (wrap64 ((wrap64 (x7_2 + bt291.1)) - x8_2)) > 4000 then (some false) else (busbarlaw11_WalkEnds.l0 kj24 t274 (wrap64 (x7_2 + ((rd_T47 t274 x9_2).f2))) (wrap64 (x7_2 + bt291.1)) (wrap64 (x9_2 + 1)))) else (busbarlaw11_WalkEnds.l0 kj24 t274 (wrap64 (x7_2 + ((rd_T47 t274 x9_2).f2))) x8_2 (wrap64 (x9_2 + 1))))) else (none)) else (none)) = some r := by rw [if_neg (show ¬ (false = true) by decide)] at H; exact H
                 clear H
                 have H := H1
                 clear H1
                 by_cases c32 : 0 ≤ x9_2
                 · rw [if_pos c32] at H
                   have c32b0 : decide (0 ≤ x9_2) = true := decide_eq_true c32
                   clear c32
                   by_cases c33 : x9_2 < (t274.length : Int)
                   · rw [if_pos c33] at H
                     have c33b0 : decide (x9_2 < (t274.length : Int)) = true := decide_eq_true c33
                     clear c33
                     replace H := Option.bind_eq_some_iff.mp H
                     obtain ⟨⟨t291, t292⟩, A340, H⟩ := H
                     replace H : (if ((rd_T47 t274 x9_2).f0) = 2 then (if (wrap64 ((wrap64 (x7_2 + t291)) - x8_2)) > 4000 then (some false) else (busbarlaw11_WalkEnds.l0 kj24 t274 (wrap64 (x7_2 + ((rd_T47 t274 x9_2).f2))) (wrap64 (x7_2 + t291)) (wrap64 (x9_2 + 1)))) else (busbarlaw11_WalkEnds.l0 kj24 t274 (wrap64 (x7_2 + ((rd_T47 t274 x9_2).f2))) x8_2 (wrap64 (x9_2 + 1)))) = some r := H
                     have A34 := Aside0.mk A340
                     clear A340
                     by_cases c35 : ((rd_T47 t274 x9_2).f0) = 2
                     · rw [if_pos c35] at H
                       have c35b0 : (((rd_T47 t274 x9_2).f0) == 2) = true := beq_iff_eq.mpr c35
                       have c35b1 : (((rd_T47 t274 x9_2).f0) != 2) = false := bne_eq_false_iff_eq.mpr c35
                       clear c35
                       by_cases c36 : (wrap64 ((wrap64 (x7_2 + t291)) - x8_2)) > 4000
                       · rw [if_pos c36] at H
                         have c36b0 : decide (4000 < (wrap64 ((wrap64 (x7_2 + t291)) - x8_2))) = true := decide_eq_true c36
                         clear c36
                         obtain rfl := Option.some.inj H
                         have p290 : 0 ≤ (x9_2 : Int) := of_decide_eq_true (by first | (with_reducible assumption) | assumption)
                         have q290 : x9_2 < (t274.length : Int) := of_decide_eq_true (by first | (with_reducible assumption) | assumption)
                         obtain ⟨ad290, e290, hx290_0, hx290_1, hx290_2, hx290_3, hx290_4, hx290_5, hx290_6, hx290_7⟩ := at_T47 (Kd.R_reads' HO_5.out).2.2 x9_2 p290 q290
                         cases e290
                         replace p290 := eq_true p290
                         replace q290 := eq_true q290
                         go_wp2_with (first | ((with_reducible refine gate_callee (f := 16) rfl ?_); refine goesL_ (some 112) rfl rfl Try.func16 (by kernel_rfl) rfl #[.agg #[.int .i64 ((rd_T47 t274 x9_2).f0), .int .i64 ((rd_T47 t274 x9_2).f1), .int .i64 ((rd_T47 t274 x9_2).f2), .int .i64 ((rd_T47 t274 x9_2).f3), .int .i64 ((rd_T47 t274 x9_2).f4), .int .i64 ((rd_T47 t274 x9_2).f5), .int .i64 ((rd_T47 t274 x9_2).f6), .bool ((rd_T47 t274 x9_2).f7)]] rfl (by (try simp only [List.map_toArray, List.map_cons, List.map_nil]); first | done | rfl | (simp only [List.length_drop, List.length_take]; rfl)) ?_; (with_reducible refine (plan_Slot_Pulse.calls kj24 ((rd_T47 t274 x9_2).f0) ((rd_T47 t274 x9_2).f1) ((rd_T47 t274 x9_2).f2) ((rd_T47 t274 x9_2).f3) ((rd_T47 t274 x9_2).f4) ((rd_T47 t274 x9_2).f5) ((rd_T47 t274 x9_2).f6) ((rd_T47 t274 x9_2).f7) t291 t292 _ A34.out).mono ?_); rintro e w37 ⟨rfl, hb⟩; refine ⟨_, rfl, ?_⟩; have n0_ := Aside0.mk (Kd.R_below (by (with_reducible repeat (first | apply Kd.R_alloc | apply Kd.R_drewN | apply Kd.R_drew)); exact HO_5.out) hb); have n1_ := Aside0.mk (blk_below (g := gb273) (o := .cells #[.int .i64 a0_0, .int .i64 a0_1, .int .i64 a0_2, .slice A0_3 l0_3.length c0_3] 25 (0, 0)) (by (with_reducible repeat (first | refine blk_drewN ?_ _ | refine blk_drew ?_ | refine blk_alloc ?_ _)); exact BK273.out) hb); have n2_ := Aside0.mk (below_step (by repeat (first | (with_reducible first | exact HB.out | apply below_alloc | apply pw_below_drewN | apply below_drew1 | refine below_set ?_ GE273.out) | exact HB.out)) hb); clear HO_5; clear BK273; clear HB; have HO_5 := n0_; have BK273 := n1_; have HB := n2_; clear n0_ n1_ n2_; (try clear hb); (try clear hb2); (try clear hk); (try clear hi); have p293 : 0 ≤ (x9_2 : Int) := of_decide_eq_true (by first | (with_reducible assumption) | assumption); have q293 : x9_2 < (t274.length : Int) := of_decide_eq_true (by first | (with_reducible assumption) | assumption); obtain ⟨ad293, e293, hx293_0, hx293_1, hx293_2, hx293_3, hx293_4, hx293_5, hx293_6, hx293_7⟩ := at_T47 (Kd.R_reads' HO_5.out).2.2 x9_2 p293 q293; obtain rfl : ad290 = ad293 := (by injection e293); replace p293 := eq_true p293; replace q293 := eq_true q293))
                         go_ret
                         exact ⟨by first | rfl | (simp [errW_none, errW_some] <;> rfl) | (simp [*, errW_none, errW_some] <;> rfl), by repeat (first | (with_reducible first | exact HB.out | apply below_alloc | apply pw_below_drewN | apply below_drew1 | refine below_set ?_ GE273.out) | exact HB.out)⟩
                       · rw [if_neg c36] at H
                         have c36b0 : decide (4000 < (wrap64 ((wrap64 (x7_2 + t291)) - x8_2))) = false := decide_eq_false c36
                         clear c36
                         have H' := Aside0.mk H
                         clear H
                         have p290 : 0 ≤ (x9_2 : Int) := of_decide_eq_true (by first | (with_reducible assumption) | assumption)
                         have q290 : x9_2 < (t274.length : Int) := of_decide_eq_true (by first | (with_reducible assumption) | assumption)
                         obtain ⟨ad290, e290, hx290_0, hx290_1, hx290_2, hx290_3, hx290_4, hx290_5, hx290_6, hx290_7⟩ := at_T47 (Kd.R_reads' HO_5.out).2.2 x9_2 p290 q290
                         cases e290
                         replace p290 := eq_true p290
                         replace q290 := eq_true q290
                         go_wp2_with (first | ((with_reducible refine gate_callee (f := 16) rfl ?_); refine goesL_ (some 112) rfl rfl Try.func16 (by kernel_rfl) rfl #[.agg #[.int .i64 ((rd_T47 t274 x9_2).f0), .int .i64 ((rd_T47 t274 x9_2).f1), .int .i64 ((rd_T47 t274 x9_2).f2), .int .i64 ((rd_T47 t274 x9_2).f3), .int .i64 ((rd_T47 t274 x9_2).f4), .int .i64 ((rd_T47 t274 x9_2).f5), .int .i64 ((rd_T47 t274 x9_2).f6), .bool ((rd_T47 t274 x9_2).f7)]] rfl (by (try simp only [List.map_toArray, List.map_cons, List.map_nil]); first | done | rfl | (simp only [List.length_drop, List.length_take]; rfl)) ?_; (with_reducible refine (plan_Slot_Pulse.calls kj24 ((rd_T47 t274 x9_2).f0) ((rd_T47 t274 x9_2).f1) ((rd_T47 t274 x9_2).f2) ((rd_T47 t274 x9_2).f3) ((rd_T47 t274 x9_2).f4) ((rd_T47 t274 x9_2).f5) ((rd_T47 t274 x9_2).f6) ((rd_T47 t274 x9_2).f7) t291 t292 _ A34.out).mono ?_); rintro e w38 ⟨rfl, hb⟩; refine ⟨_, rfl, ?_⟩; have n0_ := Aside0.mk (Kd.R_below (by (with_reducible repeat (first | apply Kd.R_alloc | apply Kd.R_drewN | apply Kd.R_drew)); exact HO_5.out) hb); have n1_ := Aside0.mk (blk_below (g := gb273) (o := .cells #[.int .i64 a0_0, .int .i64 a0_1, .int .i64 a0_2, .slice A0_3 l0_3.length c0_3] 25 (0, 0)) (by (with_reducible repeat (first | refine blk_drewN ?_ _ | refine blk_drew ?_ | refine blk_alloc ?_ _)); exact BK273.out) hb); have n2_ := Aside0.mk (below_step (by repeat (first | (with_reducible first | exact HB.out | apply below_alloc | apply pw_below_drewN | apply below_drew1 | refine below_set ?_ GE273.out) | exact HB.out)) hb); clear HO_5; clear BK273; clear HB; have HO_5 := n0_; have BK273 := n1_; have HB := n2_; clear n0_ n1_ n2_; (try clear hb); (try clear hb2); (try clear hk); (try clear hi); have p293 : 0 ≤ (x9_2 : Int) := of_decide_eq_true (by first | (with_reducible assumption) | assumption); have q293 : x9_2 < (t274.length : Int) := of_decide_eq_true (by first | (with_reducible assumption) | assumption); obtain ⟨ad293, e293, hx293_0, hx293_1, hx293_2, hx293_3, hx293_4, hx293_5, hx293_6, hx293_7⟩ := at_T47 (Kd.R_reads' HO_5.out).2.2 x9_2 p293 q293; obtain rfl : ad290 = ad293 := (by injection e293); replace p293 := eq_true p293; replace q293 := eq_true q293; have p294 : 0 ≤ (x9_2 : Int) := of_decide_eq_true (by first | (with_reducible assumption) | assumption); have q294 : x9_2 < (t274.length : Int) := of_decide_eq_true (by first | (with_reducible assumption) | assumption); obtain ⟨ad294, e294, hx294_0, hx294_1, hx294_2, hx294_3, hx294_4, hx294_5, hx294_6, hx294_7⟩ := at_T47 (Kd.R_reads' HO_5.out).2.2 x9_2 p294 q294; obtain rfl : ad290 = ad294 := (by injection e294); replace p294 := eq_true p294; replace q294 := eq_true q294))
                         go_roundg kj24
                         case measure => have := HJ7.out; have := HK2.out; have := HJ24.out; omega
                         case rel => exact ⟨(wrap64 (x7_2 + ((rd_T47 t274 x9_2).f2))), (wrap64 (x7_2 + t291)), (wrap64 (x9_2 + 1)), (by first | rfl | (simp; done) | (simp [*]; done)), (by first | rfl | (simp; done) | (simp [*]; done)), (by first | rfl | (simp; done) | (simp [*]; done)), H', ⟨by have := HJ7.out; have := HK2.out; have := HJ24.out; omega⟩, ⟨by (with_reducible repeat (first | apply Kd.R_alloc | apply Kd.R_drewN | apply Kd.R_drew)); exact HO_5.out⟩, ⟨by (with_reducible repeat (first | refine blk_drewN ?_ _ | refine blk_drew ?_ | refine blk_alloc ?_ _)); exact BK273.out⟩, ⟨by repeat (first | (with_reducible first | exact HB.out | apply below_alloc | apply pw_below_drewN | apply below_drew1 | refine below_set ?_ GE273.out) | exact HB.out)⟩⟩
                     · rw [if_neg c35] at H
                       have c35b0 : (((rd_T47 t274 x9_2).f0) == 2) = false := beq_eq_false_iff_ne.mpr c35
                       have c35b1 : (((rd_T47 t274 x9_2).f0) != 2) = true := bne_iff_ne.mpr c35
                       have H' := Aside0.mk H
                       clear H
                       have p290 : 0 ≤ (x9_2 : Int) := of_decide_eq_true (by first | (with_reducible assumption) | assumption)
                       have q290 : x9_2 < (t274.length : Int) := of_decide_eq_true (by first | (with_reducible assumption) | assumption)
                       obtain ⟨ad290, e290, hx290_0, hx290_1, hx290_2, hx290_3, hx290_4, hx290_5, hx290_6, hx290_7⟩ := at_T47 (Kd.R_reads' HO_5.out).2.2 x9_2 p290 q290
                       cases e290
                       replace p290 := eq_true p290
                       replace q290 := eq_true q290
                       go_wp2_with (first | ((with_reducible refine gate_callee (f := 16) rfl ?_); refine goesL_ (some 112) rfl rfl Try.func16 (by kernel_rfl) rfl #[.agg #[.int .i64 ((rd_T47 t274 x9_2).f0), .int .i64 ((rd_T47 t274 x9_2).f1), .int .i64 ((rd_T47 t274 x9_2).f2), .int .i64 ((rd_T47 t274 x9_2).f3), .int .i64 ((rd_T47 t274 x9_2).f4), .int .i64 ((rd_T47 t274 x9_2).f5), .int .i64 ((rd_T47 t274 x9_2).f6), .bool ((rd_T47 t274 x9_2).f7)]] rfl (by (try simp only [List.map_toArray, List.map_cons, List.map_nil]); first | done | rfl | (simp only [List.length_drop, List.length_take]; rfl)) ?_; (with_reducible refine (plan_Slot_Pulse.calls kj24 ((rd_T47 t274 x9_2).f0) ((rd_T47 t274 x9_2).f1) ((rd_T47 t274 x9_2).f2) ((rd_T47 t274 x9_2).f3) ((rd_T47 t274 x9_2).f4) ((rd_T47 t274 x9_2).f5) ((rd_T47 t274 x9_2).f6) ((rd_T47 t274 x9_2).f7) t291 t292 _ A34.out).mono ?_); rintro e w39 ⟨rfl, hb⟩; refine ⟨_, rfl, ?_⟩; have n0_ := Aside0.mk (Kd.R_below (by (with_reducible repeat (first | apply Kd.R_alloc | apply Kd.R_drewN | apply Kd.R_drew)); exact HO_5.out) hb); have n1_ := Aside0.mk (blk_below (g := gb273) (o := .cells #[.int .i64 a0_0, .int .i64 a0_1, .int .i64 a0_2, .slice A0_3 l0_3.length c0_3] 25 (0, 0)) (by (with_reducible repeat (first | refine blk_drewN ?_ _ | refine blk_drew ?_ | refine blk_alloc ?_ _)); exact BK273.out) hb); have n2_ := Aside0.mk (below_step (by repeat (first | (with_reducible first | exact HB.out | apply below_alloc | apply pw_below_drewN | apply below_drew1 | refine below_set ?_ GE273.out) | exact HB.out)) hb); clear HO_5; clear BK273; clear HB; have HO_5 := n0_; have BK273 := n1_; have HB := n2_; clear n0_ n1_ n2_; (try clear hb); (try clear hb2); (try clear hk); (try clear hi); have p293 : 0 ≤ (x9_2 : Int) := of_decide_eq_true (by first | (with_reducible assumption) | assumption); have q293 : x9_2 < (t274.length : Int) := of_decide_eq_true (by first | (with_reducible assumption) | assumption); obtain ⟨ad293, e293, hx293_0, hx293_1, hx293_2, hx293_3, hx293_4, hx293_5, hx293_6, hx293_7⟩ := at_T47 (Kd.R_reads' HO_5.out).2.2 x9_2 p293 q293; obtain rfl : ad290 = ad293 := (by injection e293); replace p293 := eq_true p293; replace q293 := eq_true q293; have p295 : 0 ≤ (x9_2 : Int) := of_decide_eq_true (by first | (with_reducible assumption) | assumption); have q295 : x9_2 < (t274.length : Int) := of_decide_eq_true (by first | (with_reducible assumption) | assumption); obtain ⟨ad295, e295, hx295_0, hx295_1, hx295_2, hx295_3, hx295_4, hx295_5, hx295_6, hx295_7⟩ := at_T47 (Kd.R_reads' HO_5.out).2.2 x9_2 p295 q295; obtain rfl : ad290 = ad295 := (by injection e295); replace p295 := eq_true p295; replace q295 := eq_true q295))
                       go_roundg kj24
                       case measure => have := HJ7.out; have := HK2.out; have := HJ24.out; omega
                       case rel => exact ⟨(wrap64 (x7_2 + ((rd_T47 t274 x9_2).f2))), (x8_2), (wrap64 (x9_2 + 1)), (by first | rfl | (simp; done) | (simp [*]; done)), (by first | rfl | (simp; done) | (simp [*]; done)), (by first | rfl | (simp; done) | (simp [*]; done)), H', ⟨by have := HJ7.out; have := HK2.out; have := HJ24.out; omega⟩, ⟨by (with_reducible repeat (first | apply Kd.R_alloc | apply Kd.R_drewN | apply Kd.R_drew)); exact HO_5.out⟩, ⟨by (with_reducible repeat (first | refine blk_drewN ?_ _ | refine blk_drew ?_ | refine blk_alloc ?_ _)); exact BK273.out⟩, ⟨by repeat (first | (with_reducible first | exact HB.out | apply below_alloc | apply pw_below_drewN | apply below_drew1 | refine below_set ?_ GE273.out) | exact HB.out)⟩⟩
                   · rw [if_neg c33] at H
                     exact absurd H (by simp)
                 · rw [if_neg c32] at H
                   exact absurd H (by simp)
           · rw [if_neg c24] at H
             have c24b0 : decide (x9_2 < (t274.length : Int)) = false := decide_eq_false c24
             clear c24
             by_cases c40 : (wrap64 ((wrap64 (x7_2 + 60)) - x8_2)) ≤ 4000
             · rw [if_pos c40] at H
               have c40b0 : decide ((wrap64 ((wrap64 (x7_2 + 60)) - x8_2)) ≤ 4000) = true := decide_eq_true c40
               clear c40
               replace H := Option.bind_eq_some_iff.mp H
               obtain ⟨t286, A410, H⟩ := H
               replace H : (some t286) = some r := H
               have A41 := Aside0.mk A410
               clear A410
               obtain rfl := Option.some.inj H
               obtain ⟨Ao42, co42, eo42⟩ := Kd.R_slice HO_5.out
               subst eo42
               go_wp2_with (first | (go_at_call 11; (with_reducible refine (busbarlaw11_one.calls k2  t286 _ A41.out).mono ?_); rintro e w43 ⟨rfl, hb⟩; have n0_ := Aside0.mk (Kd.R_below (by (with_reducible repeat (first | apply Kd.R_alloc | apply Kd.R_drewN | apply Kd.R_drew)); exact HO_5.out) hb); have n1_ := Aside0.mk (blk_below (g := gb273) (o := .cells #[.int .i64 a0_0, .int .i64 a0_1, .int .i64 a0_2, .slice A0_3 l0_3.length c0_3] 25 (0, 0)) (by (with_reducible repeat (first | refine blk_drewN ?_ _ | refine blk_drew ?_ | refine blk_alloc ?_ _)); exact BK273.out) hb); have n2_ := Aside0.mk (below_step (by repeat (first | (with_reducible first | exact HB.out | apply below_alloc | apply pw_below_drewN | apply below_drew1 | refine below_set ?_ GE273.out) | exact HB.out)) hb); clear HO_5; clear BK273; clear HB; have HO_5 := n0_; have BK273 := n1_; have HB := n2_; clear n0_ n1_ n2_; (try clear hb); (try clear hb2); (try clear hk); (try clear hi)))
               go_ret
               exact ⟨by first | rfl | (simp [errW_none, errW_some] <;> rfl) | (simp [*, errW_none, errW_some] <;> rfl), by repeat (first | (with_reducible first | exact HB.out | apply below_alloc | apply pw_below_drewN | apply below_drew1 | refine below_set ?_ GE273.out) | exact HB.out)⟩
             · rw [if_neg c40] at H
               have c40b0 : decide ((wrap64 ((wrap64 (x7_2 + 60)) - x8_2)) ≤ 4000) = false := decide_eq_false c40
               clear c40
               obtain rfl := Option.some.inj H
               obtain ⟨Ao44, co44, eo44⟩ := Kd.R_slice HO_5.out
               subst eo44
               go_wp2
               go_ret
               exact ⟨by first | rfl | (simp [errW_none, errW_some] <;> rfl) | (simp [*, errW_none, errW_some] <;> rfl), by repeat (first | (with_reducible first | exact HB.out | apply below_alloc | apply pw_below_drewN | apply below_drew1 | refine below_set ?_ GE273.out) | exact HB.out)⟩
   · rw [if_neg c7] at H
     have c7b0 : (t277 == 0) = false := beq_eq_false_iff_ne.mpr c7
     have c7b1 : (t277 != 0) = true := bne_iff_ne.mpr c7
     by_cases c45 : (t274.length : Int) = 0
     · rw [if_pos c45] at H
       have c45b0 : ((t274.length : Int) == 0) = true := beq_iff_eq.mpr c45
       have c45b1 : ((t274.length : Int) != 0) = false := bne_eq_false_iff_eq.mpr c45
       clear c45
       by_cases c46 : t277 = 2
       · rw [if_pos c46] at H
         have c46b0 : (t277 == 2) = true := beq_iff_eq.mpr c46
         have c46b1 : (t277 != 2) = false := bne_eq_false_iff_eq.mpr c46
         clear c46
         replace H := Option.bind_eq_some_iff.mp H
         obtain ⟨t278, A470, H⟩ := H
         replace H : (some t278) = some r := H
         have A47 := Aside0.mk A470
         clear A470
         obtain rfl := Option.some.inj H
         go_enter Try.func4, Try.ntmps4
         go_wp2_with (first | ((with_reducible refine gate_dst (N := 2) rfl ?_); (try (refine gate_guard (by rfl) ?_; dsimp only)); refine box_event ?hg (N := 2) ?hd (cs := #[.int .i64 a0_0, .int .i64 a0_1, .int .i64 a0_2, .slice A0_3 l0_3.length c0_3]) (t := 25) ?hr ?_; (case hd => rfl); (case hg => rfl); (case hr => first | (go_simp; done) | (go_simp; rfl)); intro gb273 hg w48 hbox hb; have n0_ := Aside0.mk (below_step (by repeat (first | (with_reducible first | exact HB.out | apply below_alloc | apply pw_below_drewN | apply below_drew1) | exact HB.out)) hb); have n1_ := Aside0.mk (hbox); have n2_ := Aside0.mk ((by rw [hg]; exact (below_size (by repeat (first | (with_reducible first | exact HB.out | apply below_alloc | apply pw_below_drewN | apply below_drew1) | exact HB.out))) : w.heap.size ≤ gb273)); have n3_ := Aside0.mk ((by rw [hg]; exact (below_size (by repeat (first | (with_reducible first | exact HB.out | apply below_alloc | apply pw_below_drewN | apply below_drew1) | exact HB.out))) : w.heap.size ≤ gb273)); clear HB; have HB := n0_; have BK273 := n1_; have GW273 := n2_; have GE273 := n3_; clear n0_ n1_ n2_ n3_; clear hb hbox hg; have hcz49_0 : w48.cell? ⟨gb273, 0, none⟩ = some (.int .i64 a0_0) := (blk_cell BK273.out 0).trans rfl; have hcz49_1 : w48.cell? ⟨gb273, 1, none⟩ = some (.int .i64 a0_1) := (blk_cell BK273.out 1).trans rfl; have hcz49_2 : w48.cell? ⟨gb273, 2, none⟩ = some (.int .i64 a0_2) := (blk_cell BK273.out 2).trans rfl; have hcz49_3 : w48.cell? ⟨gb273, 3, none⟩ = some (.slice A0_3 l0_3.length c0_3) := (blk_cell BK273.out 3).trans rfl; have hfz49_0 := blk_frozen BK273.out 0; have hfz49_1 := blk_frozen BK273.out 1; have hfz49_2 := blk_frozen BK273.out 2; have hfz49_3 := blk_frozen BK273.out 3) | ((with_reducible refine gate_callee (f := 9) rfl ?_); refine goesL_ (some 19) rfl rfl Try.func9 (by kernel_rfl) rfl #[.agg #[.int .i64 a0_0, .int .i64 a0_1, .int .i64 a0_2, .slice A0_3 l0_3.length c0_3], .int .i64 a1] rfl (by (try simp only [List.map_toArray, List.map_cons, List.map_nil]); first | done | rfl | (simp only [List.length_drop, List.length_take]; rfl)) ?_; (with_reducible refine (walk_Run.calls k a0_0 a0_1 a0_2 _ _ l0_3 a1 t274 t277 _ ?side1 ?side2 A6.out).mono ?_); (case side1 => repeat (first | exact (Kd.C_below HR0_3.out HB.out) | (with_reducible refine Kd.C_alloc ?_ _) | (with_reducible refine Kd.C_drewN ?_ _) | (with_reducible refine Kd.C_drew ?_))); (case side2 => exact HC0_3.out); rintro e w50 ⟨v275, rfl, ho0, hb⟩; refine ⟨_, rfl, ?_⟩; have n0_ := Aside0.mk (Kd.R_lower ho0 (below_size (by repeat (first | (with_reducible first | exact HB.out | apply below_alloc | apply pw_below_drewN | apply below_drew1 | refine below_set ?_ GE273.out) | exact HB.out)))); have n1_ := Aside0.mk (blk_below (g := gb273) (o := .cells #[.int .i64 a0_0, .int .i64 a0_1, .int .i64 a0_2, .slice A0_3 l0_3.length c0_3] 25 (0, 0)) (by (with_reducible repeat (first | refine blk_drewN ?_ _ | refine blk_drew ?_ | refine blk_alloc ?_ _)); exact BK273.out) hb); have n2_ := Aside0.mk (below_step (by repeat (first | (with_reducible first | exact HB.out | apply below_alloc | apply pw_below_drewN | apply below_drew1 | refine below_set ?_ GE273.out) | exact HB.out)) hb); clear BK273; clear HB; have HO276 := n0_; have BK273 := n1_; have HB := n2_; clear n0_ n1_ n2_; (try clear hb); (try clear hb2); (try clear hk); (try clear hi); (try clear ho0); obtain ⟨Ao51, co51, eo51⟩ := Kd.R_slice HO276.out; subst eo51) | (go_at_call 11; (with_reducible refine (busbarlaw11_one.calls k  t278 _ A47.out).mono ?_); rintro e w52 ⟨rfl, hb⟩; have n0_ := Aside0.mk (Kd.R_below (by (with_reducible repeat (first | apply Kd.R_alloc | apply Kd.R_drewN | apply Kd.R_drew)); exact HO276.out) hb); have n1_ := Aside0.mk (blk_below (g := gb273) (o := .cells #[.int .i64 a0_0, .int .i64 a0_1, .int .i64 a0_2, .slice A0_3 l0_3.length c0_3] 25 (0, 0)) (by (with_reducible repeat (first | refine blk_drewN ?_ _ | refine blk_drew ?_ | refine blk_alloc ?_ _)); exact BK273.out) hb); have n2_ := Aside0.mk (below_step (by repeat (first | (with_reducible first | exact HB.out | apply below_alloc | apply pw_below_drewN | apply below_drew1 | refine below_set ?_ GE273.out) | exact HB.out)) hb); clear HO276; clear BK273; clear HB; have HO276 := n0_; have BK273 := n1_; have HB := n2_; clear n0_ n1_ n2_; (try clear hb); (try clear hb2); (try clear hk); (try clear hi)))
         go_ret
         exact ⟨by first | rfl | (simp [errW_none, errW_some] <;> rfl) | (simp [*, errW_none, errW_some] <;> rfl), by repeat (first | (with_reducible first | exact HB.out | apply below_alloc | apply pw_below_drewN | apply below_drew1 | refine below_set ?_ GE273.out) | exact HB.out)⟩
       · rw [if_neg c46] at H
         have c46b0 : (t277 == 2) = false := beq_eq_false_iff_ne.mpr c46
         have c46b1 : (t277 != 2) = true := bne_iff_ne.mpr c46
         by_cases c53 : t277 = 10
         · rw [if_pos c53] at H
           have c53b0 : (t277 == 10) = true := beq_iff_eq.mpr c53
           have c53b1 : (t277 != 10) = false := bne_eq_false_iff_eq.mpr c53
           clear c53
           replace H := Option.bind_eq_some_iff.mp H
           obtain ⟨t279, A540, H⟩ := H
           replace H : (some t279) = some r := H
           have A54 := Aside0.mk A540
           clear A540
           obtain rfl := Option.some.inj H
           go_enter Try.func4, Try.ntmps4
           go_wp2_with (first | ((with_reducible refine gate_dst (N := 2) rfl ?_); (try (refine gate_guard (by rfl) ?_; dsimp only)); refine box_event ?hg (N := 2) ?hd (cs := #[.int .i64 a0_0, .int .i64 a0_1, .int .i64 a0_2, .slice A0_3 l0_3.length c0_3]) (t := 25) ?hr ?_; (case hd => rfl); (case hg => rfl); (case hr => first | (go_simp; done) | (go_simp; rfl)); intro gb273 hg w55 hbox hb; have n0_ := Aside0.mk (below_step (by repeat (first | (with_reducible first | exact HB.out | apply below_alloc | apply pw_below_drewN | apply below_drew1) | exact HB.out)) hb); have n1_ := Aside0.mk (hbox); have n2_ := Aside0.mk ((by rw [hg]; exact (below_size (by repeat (first | (with_reducible first | exact HB.out | apply below_alloc | apply pw_below_drewN | apply below_drew1) | exact HB.out))) : w.heap.size ≤ gb273)); have n3_ := Aside0.mk ((by rw [hg]; exact (below_size (by repeat (first | (with_reducible first | exact HB.out | apply below_alloc | apply pw_below_drewN | apply below_drew1) | exact HB.out))) : w.heap.size ≤ gb273)); clear HB; have HB := n0_; have BK273 := n1_; have GW273 := n2_; have GE273 := n3_; clear n0_ n1_ n2_ n3_; clear hb hbox hg; have hcz56_0 : w55.cell? ⟨gb273, 0, none⟩ = some (.int .i64 a0_0) := (blk_cell BK273.out 0).trans rfl; have hcz56_1 : w55.cell? ⟨gb273, 1, none⟩ = some (.int .i64 a0_1) := (blk_cell BK273.out 1).trans rfl; have hcz56_2 : w55.cell? ⟨gb273, 2, none⟩ = some (.int .i64 a0_2) := (blk_cell BK273.out 2).trans rfl; have hcz56_3 : w55.cell? ⟨gb273, 3, none⟩ = some (.slice A0_3 l0_3.length c0_3) := (blk_cell BK273.out 3).trans rfl; have hfz56_0 := blk_frozen BK273.out 0; have hfz56_1 := blk_frozen BK273.out 1; have hfz56_2 := blk_frozen BK273.out 2; have hfz56_3 := blk_frozen BK273.out 3) | ((with_reducible refine gate_callee (f := 9) rfl ?_); refine goesL_ (some 19) rfl rfl Try.func9 (by kernel_rfl) rfl #[.agg #[.int .i64 a0_0, .int .i64 a0_1, .int .i64 a0_2, .slice A0_3 l0_3.length c0_3], .int .i64 a1] rfl (by (try simp only [List.map_toArray, List.map_cons, List.map_nil]); first | done | rfl | (simp only [List.length_drop, List.length_take]; rfl)) ?_; (with_reducible refine (walk_Run.calls k a0_0 a0_1 a0_2 _ _ l0_3 a1 t274 t277 _ ?side1 ?side2 A6.out).mono ?_); (case side1 => repeat (first | exact (Kd.C_below HR0_3.out HB.out) | (with_reducible refine Kd.C_alloc ?_ _) | (with_reducible refine Kd.C_drewN ?_ _) | (with_reducible refine Kd.C_drew ?_))); (case side2 => exact HC0_3.out); rintro e w57 ⟨v275, rfl, ho0, hb⟩; refine ⟨_, rfl, ?_⟩; have n0_ := Aside0.mk (Kd.R_lower ho0 (below_size (by repeat (first | (with_reducible first | exact HB.out | apply below_alloc | apply pw_below_drewN | apply below_drew1 | refine below_set ?_ GE273.out) | exact HB.out)))); have n1_ := Aside0.mk (blk_below (g := gb273) (o := .cells #[.int .i64 a0_0, .int .i64 a0_1, .int .i64 a0_2, .slice A0_3 l0_3.length c0_3] 25 (0, 0)) (by (with_reducible repeat (first | refine blk_drewN ?_ _ | refine blk_drew ?_ | refine blk_alloc ?_ _)); exact BK273.out) hb); have n2_ := Aside0.mk (below_step (by repeat (first | (with_reducible first | exact HB.out | apply below_alloc | apply pw_below_drewN | apply below_drew1 | refine below_set ?_ GE273.out) | exact HB.out)) hb); clear BK273; clear HB; have HO276 := n0_; have BK273 := n1_; have HB := n2_; clear n0_ n1_ n2_; (try clear hb); (try clear hb2); (try clear hk); (try clear hi); (try clear ho0); obtain ⟨Ao58, co58, eo58⟩ := Kd.R_slice HO276.out; subst eo58) | (go_at_call 11; (with_reducible refine (busbarlaw11_one.calls k  t279 _ A54.out).mono ?_); rintro e w59 ⟨rfl, hb⟩; have n0_ := Aside0.mk (Kd.R_below (by (with_reducible repeat (first | apply Kd.R_alloc | apply Kd.R_drewN | apply Kd.R_drew)); exact HO276.out) hb); have n1_ := Aside0.mk (blk_below (g := gb273) (o := .cells #[.int .i64 a0_0, .int .i64 a0_1, .int .i64 a0_2, .slice A0_3 l0_3.length c0_3] 25 (0, 0)) (by (with_reducible repeat (first | refine blk_drewN ?_ _ | refine blk_drew ?_ | refine blk_alloc ?_ _)); exact BK273.out) hb); have n2_ := Aside0.mk (below_step (by repeat (first | (with_reducible first | exact HB.out | apply below_alloc | apply pw_below_drewN | apply below_drew1 | refine below_set ?_ GE273.out) | exact HB.out)) hb); clear HO276; clear BK273; clear HB; have HO276 := n0_; have BK273 := n1_; have HB := n2_; clear n0_ n1_ n2_; (try clear hb); (try clear hb2); (try clear hk); (try clear hi)))
           go_ret
           exact ⟨by first | rfl | (simp [errW_none, errW_some] <;> rfl) | (simp [*, errW_none, errW_some] <;> rfl), by repeat (first | (with_reducible first | exact HB.out | apply below_alloc | apply pw_below_drewN | apply below_drew1 | refine below_set ?_ GE273.out) | exact HB.out)⟩
         · rw [if_neg c53] at H
           have c53b0 : (t277 == 10) = false := beq_eq_false_iff_ne.mpr c53
           have c53b1 : (t277 != 10) = true := bne_iff_ne.mpr c53
           by_cases c60 : t277 = 11
           · rw [if_pos c60] at H
             have c60b0 : (t277 == 11) = true := beq_iff_eq.mpr c60
             have c60b1 : (t277 != 11) = false := bne_eq_false_iff_eq.mpr c60
             clear c60
             replace H := Option.bind_eq_some_iff.mp H
             obtain ⟨t280, A610, H⟩ := H
             replace H : (some t280) = some r := H
             have A61 := Aside0.mk A610
             clear A610
             obtain rfl := Option.some.inj H
             go_enter Try.func4, Try.ntmps4
             go_wp2_with (first | ((with_reducible refine gate_dst (N := 2) rfl ?_); (try (refine gate_guard (by rfl) ?_; dsimp only)); refine box_event ?hg (N := 2) ?hd (cs := #[.int .i64 a0_0, .int .i64 a0_1, .int .i64 a0_2, .slice A0_3 l0_3.length c0_3]) (t := 25) ?hr ?_; (case hd => rfl); (case hg => rfl); (case hr => first | (go_simp; done) | (go_simp; rfl)); intro gb273 hg w62 hbox hb; have n0_ := Aside0.mk (below_step (by repeat (first | (with_reducible first | exact HB.out | apply below_alloc | apply pw_below_drewN | apply below_drew1) | exact HB.out)) hb); have n1_ := Aside0.mk (hbox); have n2_ := Aside0.mk ((by rw [hg]; exact (below_size (by repeat (first | (with_reducible first | exact HB.out | apply below_alloc | apply pw_below_drewN | apply below_drew1) | exact HB.out))) : w.heap.size ≤ gb273)); have n3_ := Aside0.mk ((by rw [hg]; exact (below_size (by repeat (first | (with_reducible first | exact HB.out | apply below_alloc | apply pw_below_drewN | apply below_drew1) | exact HB.out))) : w.heap.size ≤ gb273)); clear HB; have HB := n0_; have BK273 := n1_; have GW273 := n2_; have GE273 := n3_; clear n0_ n1_ n2_ n3_; clear hb hbox hg; have hcz63_0 : w62.cell? ⟨gb273, 0, none⟩ = some (.int .i64 a0_0) := (blk_cell BK273.out 0).trans rfl; have hcz63_1 : w62.cell? ⟨gb273, 1, none⟩ = some (.int .i64 a0_1) := (blk_cell BK273.out 1).trans rfl; have hcz63_2 : w62.cell? ⟨gb273, 2, none⟩ = some (.int .i64 a0_2) := (blk_cell BK273.out 2).trans rfl; have hcz63_3 : w62.cell? ⟨gb273, 3, none⟩ = some (.slice A0_3 l0_3.length c0_3) := (blk_cell BK273.out 3).trans rfl; have hfz63_0 := blk_frozen BK273.out 0; have hfz63_1 := blk_frozen BK273.out 1; have hfz63_2 := blk_frozen BK273.out 2; have hfz63_3 := blk_frozen BK273.out 3) | ((with_reducible refine gate_callee (f := 9) rfl ?_); refine goesL_ (some 19) rfl rfl Try.func9 (by kernel_rfl) rfl #[.agg #[.int .i64 a0_0, .int .i64 a0_1, .int .i64 a0_2, .slice A0_3 l0_3.length c0_3], .int .i64 a1] rfl (by (try simp only [List.map_toArray, List.map_cons, List.map_nil]); first | done | rfl | (simp only [List.length_drop, List.length_take]; rfl)) ?_; (with_reducible refine (walk_Run.calls k a0_0 a0_1 a0_2 _ _ l0_3 a1 t274 t277 _ ?side1 ?side2 A6.out).mono ?_); (case side1 => repeat (first | exact (Kd.C_below HR0_3.out HB.out) | (with_reducible refine Kd.C_alloc ?_ _) | (with_reducible refine Kd.C_drewN ?_ _) | (with_reducible refine Kd.C_drew ?_))); (case side2 => exact HC0_3.out); rintro e w64 ⟨v275, rfl, ho0, hb⟩; refine ⟨_, rfl, ?_⟩; have n0_ := Aside0.mk (Kd.R_lower ho0 (below_size (by repeat (first | (with_reducible first | exact HB.out | apply below_alloc | apply pw_below_drewN | apply below_drew1 | refine below_set ?_ GE273.out) | exact HB.out)))); have n1_ := Aside0.mk (blk_below (g := gb273) (o := .cells #[.int .i64 a0_0, .int .i64 a0_1, .int .i64 a0_2, .slice A0_3 l0_3.length c0_3] 25 (0, 0)) (by (with_reducible repeat (first | refine blk_drewN ?_ _ | refine blk_drew ?_ | refine blk_alloc ?_ _)); exact BK273.out) hb); have n2_ := Aside0.mk (below_step (by repeat (first | (with_reducible first | exact HB.out | apply below_alloc | apply pw_below_drewN | apply below_drew1 | refine below_set ?_ GE273.out) | exact HB.out)) hb); clear BK273; clear HB; have HO276 := n0_; have BK273 := n1_; have HB := n2_; clear n0_ n1_ n2_; (try clear hb); (try clear hb2); (try clear hk); (try clear hi); (try clear ho0); obtain ⟨Ao65, co65, eo65⟩ := Kd.R_slice HO276.out; subst eo65) | (go_at_call 11; (with_reducible refine (busbarlaw11_one.calls k  t280 _ A61.out).mono ?_); rintro e w66 ⟨rfl, hb⟩; have n0_ := Aside0.mk (Kd.R_below (by (with_reducible repeat (first | apply Kd.R_alloc | apply Kd.R_drewN | apply Kd.R_drew)); exact HO276.out) hb); have n1_ := Aside0.mk (blk_below (g := gb273) (o := .cells #[.int .i64 a0_0, .int .i64 a0_1, .int .i64 a0_2, .slice A0_3 l0_3.length c0_3] 25 (0, 0)) (by (with_reducible repeat (first | refine blk_drewN ?_ _ | refine blk_drew ?_ | refine blk_alloc ?_ _)); exact BK273.out) hb); have n2_ := Aside0.mk (below_step (by repeat (first | (with_reducible first | exact HB.out | apply below_alloc | apply pw_below_drewN | apply below_drew1 | refine below_set ?_ GE273.out) | exact HB.out)) hb); clear HO276; clear BK273; clear HB; have HO276 := n0_; have BK273 := n1_; have HB := n2_; clear n0_ n1_ n2_; (try clear hb); (try clear hb2); (try clear hk); (try clear hi)))
             go_ret
             exact ⟨by first | rfl | (simp [errW_none, errW_some] <;> rfl) | (simp [*, errW_none, errW_some] <;> rfl), by repeat (first | (with_reducible first | exact HB.out | apply below_alloc | apply pw_below_drewN | apply below_drew1 | refine below_set ?_ GE273.out) | exact HB.out)⟩
           · rw [if_neg c60] at H
             have c60b0 : (t277 == 11) = false := beq_eq_false_iff_ne.mpr c60
             have c60b1 : (t277 != 11) = true := bne_iff_ne.mpr c60
             by_cases c67 : t277 = 14
             · rw [if_pos c67] at H
               have c67b0 : (t277 == 14) = true := beq_iff_eq.mpr c67
               have c67b1 : (t277 != 14) = false := bne_eq_false_iff_eq.mpr c67
               clear c67
               replace H := Option.bind_eq_some_iff.mp H
               obtain ⟨t281, A680, H⟩ := H
               replace H : (some t281) = some r := H
               have A68 := Aside0.mk A680
               clear A680
               obtain rfl := Option.some.inj H
               go_enter Try.func4, Try.ntmps4
               go_wp2_with (first | ((with_reducible refine gate_dst (N := 2) rfl ?_); (try (refine gate_guard (by rfl) ?_; dsimp only)); refine box_event ?hg (N := 2) ?hd (cs := #[.int .i64 a0_0, .int .i64 a0_1, .int .i64 a0_2, .slice A0_3 l0_3.length c0_3]) (t := 25) ?hr ?_; (case hd => rfl); (case hg => rfl); (case hr => first | (go_simp; done) | (go_simp; rfl)); intro gb273 hg w69 hbox hb; have n0_ := Aside0.mk (below_step (by repeat (first | (with_reducible first | exact HB.out | apply below_alloc | apply pw_below_drewN | apply below_drew1) | exact HB.out)) hb); have n1_ := Aside0.mk (hbox); have n2_ := Aside0.mk ((by rw [hg]; exact (below_size (by repeat (first | (with_reducible first | exact HB.out | apply below_alloc | apply pw_below_drewN | apply below_drew1) | exact HB.out))) : w.heap.size ≤ gb273)); have n3_ := Aside0.mk ((by rw [hg]; exact (below_size (by repeat (first | (with_reducible first | exact HB.out | apply below_alloc | apply pw_below_drewN | apply below_drew1) | exact HB.out))) : w.heap.size ≤ gb273)); clear HB; have HB := n0_; have BK273 := n1_; have GW273 := n2_; have GE273 := n3_; clear n0_ n1_ n2_ n3_; clear hb hbox hg; have hcz70_0 : w69.cell? ⟨gb273, 0, none⟩ = some (.int .i64 a0_0) := (blk_cell BK273.out 0).trans rfl; have hcz70_1 : w69.cell? ⟨gb273, 1, none⟩ = some (.int .i64 a0_1) := (blk_cell BK273.out 1).trans rfl; have hcz70_2 : w69.cell? ⟨gb273, 2, none⟩ = some (.int .i64 a0_2) := (blk_cell BK273.out 2).trans rfl; have hcz70_3 : w69.cell? ⟨gb273, 3, none⟩ = some (.slice A0_3 l0_3.length c0_3) := (blk_cell BK273.out 3).trans rfl; have hfz70_0 := blk_frozen BK273.out 0; have hfz70_1 := blk_frozen BK273.out 1; have hfz70_2 := blk_frozen BK273.out 2; have hfz70_3 := blk_frozen BK273.out 3) | ((with_reducible refine gate_callee (f := 9) rfl ?_); refine goesL_ (some 19) rfl rfl Try.func9 (by kernel_rfl) rfl #[.agg #[.int .i64 a0_0, .int .i64 a0_1, .int .i64 a0_2, .slice A0_3 l0_3.length c0_3], .int .i64 a1] rfl (by (try simp only [List.map_toArray, List.map_cons, List.map_nil]); first | done | rfl | (simp only [List.length_drop, List.length_take]; rfl)) ?_; (with_reducible refine (walk_Run.calls k a0_0 a0_1 a0_2 _ _ l0_3 a1 t274 t277 _ ?side1 ?side2 A6.out).mono ?_); (case side1 => repeat (first | exact (Kd.C_below HR0_3.out HB.out) | (with_reducible refine Kd.C_alloc ?_ _) | (with_reducible refine Kd.C_drewN ?_ _) | (with_reducible refine Kd.C_drew ?_))); (case side2 => exact HC0_3.out); rintro e w71 ⟨v275, rfl, ho0, hb⟩; refine ⟨_, rfl, ?_⟩; have n0_ := Aside0.mk (Kd.R_lower ho0 (below_size (by repeat (first | (with_reducible first | exact HB.out | apply below_alloc | apply pw_below_drewN | apply below_drew1 | refine below_set ?_ GE273.out) | exact HB.out)))); have n1_ := Aside0.mk (blk_below (g := gb273) (o := .cells #[.int .i64 a0_0, .int .i64 a0_1, .int .i64 a0_2, .slice A0_3 l0_3.length c0_3] 25 (0, 0)) (by (with_reducible repeat (first | refine blk_drewN ?_ _ | refine blk_drew ?_ | refine blk_alloc ?_ _)); exact BK273.out) hb); have n2_ := Aside0.mk (below_step (by repeat (first | (with_reducible first | exact HB.out | apply below_alloc | apply pw_below_drewN | apply below_drew1 | refine below_set ?_ GE273.out) | exact HB.out)) hb); clear BK273; clear HB; have HO276 := n0_; have BK273 := n1_; have HB := n2_; clear n0_ n1_ n2_; (try clear hb); (try clear hb2); (try clear hk); (try clear hi); (try clear ho0); obtain ⟨Ao72, co72, eo72⟩ := Kd.R_slice HO276.out; subst eo72) | (go_at_call 11; (with_reducible refine (busbarlaw11_one.calls k  t281 _ A68.out).mono ?_); rintro e w73 ⟨rfl, hb⟩; have n0_ := Aside0.mk (Kd.R_below (by (with_reducible repeat (first | apply Kd.R_alloc | apply Kd.R_drewN | apply Kd.R_drew)); exact HO276.out) hb); have n1_ := Aside0.mk (blk_below (g := gb273) (o := .cells #[.int .i64 a0_0, .int .i64 a0_1, .int .i64 a0_2, .slice A0_3 l0_3.length c0_3] 25 (0, 0)) (by (with_reducible repeat (first | refine blk_drewN ?_ _ | refine blk_drew ?_ | refine blk_alloc ?_ _)); exact BK273.out) hb); have n2_ := Aside0.mk (below_step (by repeat (first | (with_reducible first | exact HB.out | apply below_alloc | apply pw_below_drewN | apply below_drew1 | refine below_set ?_ GE273.out) | exact HB.out)) hb); clear HO276; clear BK273; clear HB; have HO276 := n0_; have BK273 := n1_; have HB := n2_; clear n0_ n1_ n2_; (try clear hb); (try clear hb2); (try clear hk); (try clear hi)))
               go_ret
               exact ⟨by first | rfl | (simp [errW_none, errW_some] <;> rfl) | (simp [*, errW_none, errW_some] <;> rfl), by repeat (first | (with_reducible first | exact HB.out | apply below_alloc | apply pw_below_drewN | apply below_drew1 | refine below_set ?_ GE273.out) | exact HB.out)⟩
             · rw [if_neg c67] at H
               have c67b0 : (t277 == 14) = false := beq_eq_false_iff_ne.mpr c67
               have c67b1 : (t277 != 14) = true := bne_iff_ne.mpr c67
               by_cases c74 : t277 = 15
               · rw [if_pos c74] at H
                 have c74b0 : (t277 == 15) = true := beq_iff_eq.mpr c74
                 have c74b1 : (t277 != 15) = false := bne_eq_false_iff_eq.mpr c74
                 clear c74
                 replace H := Option.bind_eq_some_iff.mp H
                 obtain ⟨t282, A750, H⟩ := H
                 replace H : (some t282) = some r := H
                 have A75 := Aside0.mk A750
                 clear A750
                 obtain rfl := Option.some.inj H
                 go_enter Try.func4, Try.ntmps4
                 go_wp2_with (first | ((with_reducible refine gate_dst (N := 2) rfl ?_); (try (refine gate_guard (by rfl) ?_; dsimp only)); refine box_event ?hg (N := 2) ?hd (cs := #[.int .i64 a0_0, .int .i64 a0_1, .int .i64 a0_2, .slice A0_3 l0_3.length c0_3]) (t := 25) ?hr ?_; (case hd => rfl); (case hg => rfl); (case hr => first | (go_simp; done) | (go_simp; rfl)); intro gb273 hg w76 hbox hb; have n0_ := Aside0.mk (below_step (by repeat (first | (with_reducible first | exact HB.out | apply below_alloc | apply pw_below_drewN | apply below_drew1) | exact HB.out)) hb); have n1_ := Aside0.mk (hbox); have n2_ := Aside0.mk ((by rw [hg]; exact (below_size (by repeat (first | (with_reducible first | exact HB.out | apply below_alloc | apply pw_below_drewN | apply below_drew1) | exact HB.out))) : w.heap.size ≤ gb273)); have n3_ := Aside0.mk ((by rw [hg]; exact (below_size (by repeat (first | (with_reducible first | exact HB.out | apply below_alloc | apply pw_below_drewN | apply below_drew1) | exact HB.out))) : w.heap.size ≤ gb273)); clear HB; have HB := n0_; have BK273 := n1_; have GW273 := n2_; have GE273 := n3_; clear n0_ n1_ n2_ n3_; clear hb hbox hg; have hcz77_0 : w76.cell? ⟨gb273, 0, none⟩ = some (.int .i64 a0_0) := (blk_cell BK273.out 0).trans rfl; have hcz77_1 : w76.cell? ⟨gb273, 1, none⟩ = some (.int .i64 a0_1) := (blk_cell BK273.out 1).trans rfl; have hcz77_2 : w76.cell? ⟨gb273, 2, none⟩ = some (.int .i64 a0_2) := (blk_cell BK273.out 2).trans rfl; have hcz77_3 : w76.cell? ⟨gb273, 3, none⟩ = some (.slice A0_3 l0_3.length c0_3) := (blk_cell BK273.out 3).trans rfl; have hfz77_0 := blk_frozen BK273.out 0; have hfz77_1 := blk_frozen BK273.out 1; have hfz77_2 := blk_frozen BK273.out 2; have hfz77_3 := blk_frozen BK273.out 3) | ((with_reducible refine gate_callee (f := 9) rfl ?_); refine goesL_ (some 19) rfl rfl Try.func9 (by kernel_rfl) rfl #[.agg #[.int .i64 a0_0, .int .i64 a0_1, .int .i64 a0_2, .slice A0_3 l0_3.length c0_3], .int .i64 a1] rfl (by (try simp only [List.map_toArray, List.map_cons, List.map_nil]); first | done | rfl | (simp only [List.length_drop, List.length_take]; rfl)) ?_; (with_reducible refine (walk_Run.calls k a0_0 a0_1 a0_2 _ _ l0_3 a1 t274 t277 _ ?side1 ?side2 A6.out).mono ?_); (case side1 => repeat (first | exact (Kd.C_below HR0_3.out HB.out) | (with_reducible refine Kd.C_alloc ?_ _) | (with_reducible refine Kd.C_drewN ?_ _) | (with_reducible refine Kd.C_drew ?_))); (case side2 => exact HC0_3.out); rintro e w78 ⟨v275, rfl, ho0, hb⟩; refine ⟨_, rfl, ?_⟩; have n0_ := Aside0.mk (Kd.R_lower ho0 (below_size (by repeat (first | (with_reducible first | exact HB.out | apply below_alloc | apply pw_below_drewN | apply below_drew1 | refine below_set ?_ GE273.out) | exact HB.out)))); have n1_ := Aside0.mk (blk_below (g := gb273) (o := .cells #[.int .i64 a0_0, .int .i64 a0_1, .int .i64 a0_2, .slice A0_3 l0_3.length c0_3] 25 (0, 0)) (by (with_reducible repeat (first | refine blk_drewN ?_ _ | refine blk_drew ?_ | refine blk_alloc ?_ _)); exact BK273.out) hb); have n2_ := Aside0.mk (below_step (by repeat (first | (with_reducible first | exact HB.out | apply below_alloc | apply pw_below_drewN | apply below_drew1 | refine below_set ?_ GE273.out) | exact HB.out)) hb); clear BK273; clear HB; have HO276 := n0_; have BK273 := n1_; have HB := n2_; clear n0_ n1_ n2_; (try clear hb); (try clear hb2); (try clear hk); (try clear hi); (try clear ho0); obtain ⟨Ao79, co79, eo79⟩ := Kd.R_slice HO276.out; subst eo79) | (go_at_call 11; (with_reducible refine (busbarlaw11_one.calls k  t282 _ A75.out).mono ?_); rintro e w80 ⟨rfl, hb⟩; have n0_ := Aside0.mk (Kd.R_below (by (with_reducible repeat (first | apply Kd.R_alloc | apply Kd.R_drewN | apply Kd.R_drew)); exact HO276.out) hb); have n1_ := Aside0.mk (blk_below (g := gb273) (o := .cells #[.int .i64 a0_0, .int .i64 a0_1, .int .i64 a0_2, .slice A0_3 l0_3.length c0_3] 25 (0, 0)) (by (with_reducible repeat (first | refine blk_drewN ?_ _ | refine blk_drew ?_ | refine blk_alloc ?_ _)); exact BK273.out) hb); have n2_ := Aside0.mk (below_step (by repeat (first | (with_reducible first | exact HB.out | apply below_alloc | apply pw_below_drewN | apply below_drew1 | refine below_set ?_ GE273.out) | exact HB.out)) hb); clear HO276; clear BK273; clear HB; have HO276 := n0_; have BK273 := n1_; have HB := n2_; clear n0_ n1_ n2_; (try clear hb); (try clear hb2); (try clear hk); (try clear hi)))
                 go_ret
                 exact ⟨by first | rfl | (simp [errW_none, errW_some] <;> rfl) | (simp [*, errW_none, errW_some] <;> rfl), by repeat (first | (with_reducible first | exact HB.out | apply below_alloc | apply pw_below_drewN | apply below_drew1 | refine below_set ?_ GE273.out) | exact HB.out)⟩
               · rw [if_neg c74] at H
                 have c74b0 : (t277 == 15) = false := beq_eq_false_iff_ne.mpr c74
                 have c74b1 : (t277 != 15) = true := bne_iff_ne.mpr c74
                 by_cases c81 : t277 = 16
                 · rw [if_pos c81] at H
                   have c81b0 : (t277 == 16) = true := beq_iff_eq.mpr c81
                   have c81b1 : (t277 != 16) = false := bne_eq_false_iff_eq.mpr c81
                   clear c81
                   replace H := Option.bind_eq_some_iff.mp H
                   obtain ⟨t283, A820, H⟩ := H
                   replace H : (some t283) = some r := H
                   have A82 := Aside0.mk A820
                   clear A820
                   obtain rfl := Option.some.inj H
                   go_enter Try.func4, Try.ntmps4
                   go_wp2_with (first | ((with_reducible refine gate_dst (N := 2) rfl ?_); (try (refine gate_guard (by rfl) ?_; dsimp only)); refine box_event ?hg (N := 2) ?hd (cs := #[.int .i64 a0_0, .int .i64 a0_1, .int .i64 a0_2, .slice A0_3 l0_3.length c0_3]) (t := 25) ?hr ?_; (case hd => rfl); (case hg => rfl); (case hr => first | (go_simp; done) | (go_simp; rfl)); intro gb273 hg w83 hbox hb; have n0_ := Aside0.mk (below_step (by repeat (first | (with_reducible first | exact HB.out | apply below_alloc | apply pw_below_drewN | apply below_drew1) | exact HB.out)) hb); have n1_ := Aside0.mk (hbox); have n2_ := Aside0.mk ((by rw [hg]; exact (below_size (by repeat (first | (with_reducible first | exact HB.out | apply below_alloc | apply pw_below_drewN | apply below_drew1) | exact HB.out))) : w.heap.size ≤ gb273)); have n3_ := Aside0.mk ((by rw [hg]; exact (below_size (by repeat (first | (with_reducible first | exact HB.out | apply below_alloc | apply pw_below_drewN | apply below_drew1) | exact HB.out))) : w.heap.size ≤ gb273)); clear HB; have HB := n0_; have BK273 := n1_; have GW273 := n2_; have GE273 := n3_; clear n0_ n1_ n2_ n3_; clear hb hbox hg; have hcz84_0 : w83.cell? ⟨gb273, 0, none⟩ = some (.int .i64 a0_0) := (blk_cell BK273.out 0).trans rfl; have hcz84_1 : w83.cell? ⟨gb273, 1, none⟩ = some (.int .i64 a0_1) := (blk_cell BK273.out 1).trans rfl; have hcz84_2 : w83.cell? ⟨gb273, 2, none⟩ = some (.int .i64 a0_2) := (blk_cell BK273.out 2).trans rfl; have hcz84_3 : w83.cell? ⟨gb273, 3, none⟩ = some (.slice A0_3 l0_3.length c0_3) := (blk_cell BK273.out 3).trans rfl; have hfz84_0 := blk_frozen BK273.out 0; have hfz84_1 := blk_frozen BK273.out 1; have hfz84_2 := blk_frozen BK273.out 2; have hfz84_3 := blk_frozen BK273.out 3) | ((with_reducible refine gate_callee (f := 9) rfl ?_); refine goesL_ (some 19) rfl rfl Try.func9 (by kernel_rfl) rfl #[.agg #[.int .i64 a0_0, .int .i64 a0_1, .int .i64 a0_2, .slice A0_3 l0_3.length c0_3], .int .i64 a1] rfl (by (try simp only [List.map_toArray, List.map_cons, List.map_nil]); first | done | rfl | (simp only [List.length_drop, List.length_take]; rfl)) ?_; (with_reducible refine (walk_Run.calls k a0_0 a0_1 a0_2 _ _ l0_3 a1 t274 t277 _ ?side1 ?side2 A6.out).mono ?_); (case side1 => repeat (first | exact (Kd.C_below HR0_3.out HB.out) | (with_reducible refine Kd.C_alloc ?_ _) | (with_reducible refine Kd.C_drewN ?_ _) | (with_reducible refine Kd.C_drew ?_))); (case side2 => exact HC0_3.out); rintro e w85 ⟨v275, rfl, ho0, hb⟩; refine ⟨_, rfl, ?_⟩; have n0_ := Aside0.mk (Kd.R_lower ho0 (below_size (by repeat (first | (with_reducible first | exact HB.out | apply below_alloc | apply pw_below_drewN | apply below_drew1 | refine below_set ?_ GE273.out) | exact HB.out)))); have n1_ := Aside0.mk (blk_below (g := gb273) (o := .cells #[.int .i64 a0_0, .int .i64 a0_1, .int .i64 a0_2, .slice A0_3 l0_3.length c0_3] 25 (0, 0)) (by (with_reducible repeat (first | refine blk_drewN ?_ _ | refine blk_drew ?_ | refine blk_alloc ?_ _)); exact BK273.out) hb); have n2_ := Aside0.mk (below_step (by repeat (first | (with_reducible first | exact HB.out | apply below_alloc | apply pw_below_drewN | apply below_drew1 | refine below_set ?_ GE273.out) | exact HB.out)) hb); clear BK273; clear HB; have HO276 := n0_; have BK273 := n1_; have HB := n2_; clear n0_ n1_ n2_; (try clear hb); (try clear hb2); (try clear hk); (try clear hi); (try clear ho0); obtain ⟨Ao86, co86, eo86⟩ := Kd.R_slice HO276.out; subst eo86) | (go_at_call 11; (with_reducible refine (busbarlaw11_one.calls k  t283 _ A82.out).mono ?_); rintro e w87 ⟨rfl, hb⟩; have n0_ := Aside0.mk (Kd.R_below (by (with_reducible repeat (first | apply Kd.R_alloc | apply Kd.R_drewN | apply Kd.R_drew)); exact HO276.out) hb); have n1_ := Aside0.mk (blk_below (g := gb273) (o := .cells #[.int .i64 a0_0, .int .i64 a0_1, .int .i64 a0_2, .slice A0_3 l0_3.length c0_3] 25 (0, 0)) (by (with_reducible repeat (first | refine blk_drewN ?_ _ | refine blk_drew ?_ | refine blk_alloc ?_ _)); exact BK273.out) hb); have n2_ := Aside0.mk (below_step (by repeat (first | (with_reducible first | exact HB.out | apply below_alloc | apply pw_below_drewN | apply below_drew1 | refine below_set ?_ GE273.out) | exact HB.out)) hb); clear HO276; clear BK273; clear HB; have HO276 := n0_; have BK273 := n1_; have HB := n2_; clear n0_ n1_ n2_; (try clear hb); (try clear hb2); (try clear hk); (try clear hi)))
                   go_ret
                   exact ⟨by first | rfl | (simp [errW_none, errW_some] <;> rfl) | (simp [*, errW_none, errW_some] <;> rfl), by repeat (first | (with_reducible first | exact HB.out | apply below_alloc | apply pw_below_drewN | apply below_drew1 | refine below_set ?_ GE273.out) | exact HB.out)⟩
                 · rw [if_neg c81] at H
                   have c81b0 : (t277 == 16) = false := beq_eq_false_iff_ne.mpr c81
                   have c81b1 : (t277 != 16) = true := bne_iff_ne.mpr c81
                   obtain rfl := Option.some.inj H
                   go_enter Try.func4, Try.ntmps4
                   go_wp2_with (first | ((with_reducible refine gate_dst (N := 2) rfl ?_); (try (refine gate_guard (by rfl) ?_; dsimp only)); refine box_event ?hg (N := 2) ?hd (cs := #[.int .i64 a0_0, .int .i64 a0_1, .int .i64 a0_2, .slice A0_3 l0_3.length c0_3]) (t := 25) ?hr ?_; (case hd => rfl); (case hg => rfl); (case hr => first | (go_simp; done) | (go_simp; rfl)); intro gb273 hg w88 hbox hb; have n0_ := Aside0.mk (below_step (by repeat (first | (with_reducible first | exact HB.out | apply below_alloc | apply pw_below_drewN | apply below_drew1) | exact HB.out)) hb); have n1_ := Aside0.mk (hbox); have n2_ := Aside0.mk ((by rw [hg]; exact (below_size (by repeat (first | (with_reducible first | exact HB.out | apply below_alloc | apply pw_below_drewN | apply below_drew1) | exact HB.out))) : w.heap.size ≤ gb273)); have n3_ := Aside0.mk ((by rw [hg]; exact (below_size (by repeat (first | (with_reducible first | exact HB.out | apply below_alloc | apply pw_below_drewN | apply below_drew1) | exact HB.out))) : w.heap.size ≤ gb273)); clear HB; have HB := n0_; have BK273 := n1_; have GW273 := n2_; have GE273 := n3_; clear n0_ n1_ n2_ n3_; clear hb hbox hg; have hcz89_0 : w88.cell? ⟨gb273, 0, none⟩ = some (.int .i64 a0_0) := (blk_cell BK273.out 0).trans rfl; have hcz89_1 : w88.cell? ⟨gb273, 1, none⟩ = some (.int .i64 a0_1) := (blk_cell BK273.out 1).trans rfl; have hcz89_2 : w88.cell? ⟨gb273, 2, none⟩ = some (.int .i64 a0_2) := (blk_cell BK273.out 2).trans rfl; have hcz89_3 : w88.cell? ⟨gb273, 3, none⟩ = some (.slice A0_3 l0_3.length c0_3) := (blk_cell BK273.out 3).trans rfl; have hfz89_0 := blk_frozen BK273.out 0; have hfz89_1 := blk_frozen BK273.out 1; have hfz89_2 := blk_frozen BK273.out 2; have hfz89_3 := blk_frozen BK273.out 3) | ((with_reducible refine gate_callee (f := 9) rfl ?_); refine goesL_ (some 19) rfl rfl Try.func9 (by kernel_rfl) rfl #[.agg #[.int .i64 a0_0, .int .i64 a0_1, .int .i64 a0_2, .slice A0_3 l0_3.length c0_3], .int .i64 a1] rfl (by (try simp only [List.map_toArray, List.map_cons, List.map_nil]); first | done | rfl | (simp only [List.length_drop, List.length_take]; rfl)) ?_; (with_reducible refine (walk_Run.calls k a0_0 a0_1 a0_2 _ _ l0_3 a1 t274 t277 _ ?side1 ?side2 A6.out).mono ?_); (case side1 => repeat (first | exact (Kd.C_below HR0_3.out HB.out) | (with_reducible refine Kd.C_alloc ?_ _) | (with_reducible refine Kd.C_drewN ?_ _) | (with_reducible refine Kd.C_drew ?_))); (case side2 => exact HC0_3.out); rintro e w90 ⟨v275, rfl, ho0, hb⟩; refine ⟨_, rfl, ?_⟩; have n0_ := Aside0.mk (Kd.R_lower ho0 (below_size (by repeat (first | (with_reducible first | exact HB.out | apply below_alloc | apply pw_below_drewN | apply below_drew1 | refine below_set ?_ GE273.out) | exact HB.out)))); have n1_ := Aside0.mk (blk_below (g := gb273) (o := .cells #[.int .i64 a0_0, .int .i64 a0_1, .int .i64 a0_2, .slice A0_3 l0_3.length c0_3] 25 (0, 0)) (by (with_reducible repeat (first | refine blk_drewN ?_ _ | refine blk_drew ?_ | refine blk_alloc ?_ _)); exact BK273.out) hb); have n2_ := Aside0.mk (below_step (by repeat (first | (with_reducible first | exact HB.out | apply below_alloc | apply pw_below_drewN | apply below_drew1 | refine below_set ?_ GE273.out) | exact HB.out)) hb); clear BK273; clear HB; have HO276 := n0_; have BK273 := n1_; have HB := n2_; clear n0_ n1_ n2_; (try clear hb); (try clear hb2); (try clear hk); (try clear hi); (try clear ho0); obtain ⟨Ao91, co91, eo91⟩ := Kd.R_slice HO276.out; subst eo91))
                   go_ret
                   exact ⟨by first | rfl | (simp [errW_none, errW_some] <;> rfl) | (simp [*, errW_none, errW_some] <;> rfl), by repeat (first | (with_reducible first | exact HB.out | apply below_alloc | apply pw_below_drewN | apply below_drew1 | refine below_set ?_ GE273.out) | exact HB.out)⟩
     · rw [if_neg c45] at H
       have c45b0 : ((t274.length : Int) == 0) = false := beq_eq_false_iff_ne.mpr c45
       have c45b1 : ((t274.length : Int) != 0) = true := bne_iff_ne.mpr c45
       have c45b2 : ¬ (t274 = []) := fun h_ => c45 (by rw [h_]; rfl)
       obtain rfl := Option.some.inj H
       go_enter Try.func4, Try.ntmps4
       go_wp2_with (first | ((with_reducible refine gate_dst (N := 2) rfl ?_); (try (refine gate_guard (by rfl) ?_; dsimp only)); refine box_event ?hg (N := 2) ?hd (cs := #[.int .i64 a0_0, .int .i64 a0_1, .int .i64 a0_2, .slice A0_3 l0_3.length c0_3]) (t := 25) ?hr ?_; (case hd => rfl); (case hg => rfl); (case hr => first | (go_simp; done) | (go_simp; rfl)); intro gb273 hg w92 hbox hb; have n0_ := Aside0.mk (below_step (by repeat (first | (with_reducible first | exact HB.out | apply below_alloc | apply pw_below_drewN | apply below_drew1) | exact HB.out)) hb); have n1_ := Aside0.mk (hbox); have n2_ := Aside0.mk ((by rw [hg]; exact (below_size (by repeat (first | (with_reducible first | exact HB.out | apply below_alloc | apply pw_below_drewN | apply below_drew1) | exact HB.out))) : w.heap.size ≤ gb273)); have n3_ := Aside0.mk ((by rw [hg]; exact (below_size (by repeat (first | (with_reducible first | exact HB.out | apply below_alloc | apply pw_below_drewN | apply below_drew1) | exact HB.out))) : w.heap.size ≤ gb273)); clear HB; have HB := n0_; have BK273 := n1_; have GW273 := n2_; have GE273 := n3_; clear n0_ n1_ n2_ n3_; clear hb hbox hg; have hcz93_0 : w92.cell? ⟨gb273, 0, none⟩ = some (.int .i64 a0_0) := (blk_cell BK273.out 0).trans rfl; have hcz93_1 : w92.cell? ⟨gb273, 1, none⟩ = some (.int .i64 a0_1) := (blk_cell BK273.out 1).trans rfl; have hcz93_2 : w92.cell? ⟨gb273, 2, none⟩ = some (.int .i64 a0_2) := (blk_cell BK273.out 2).trans rfl; have hcz93_3 : w92.cell? ⟨gb273, 3, none⟩ = some (.slice A0_3 l0_3.length c0_3) := (blk_cell BK273.out 3).trans rfl; have hfz93_0 := blk_frozen BK273.out 0; have hfz93_1 := blk_frozen BK273.out 1; have hfz93_2 := blk_frozen BK273.out 2; have hfz93_3 := blk_frozen BK273.out 3) | ((with_reducible refine gate_callee (f := 9) rfl ?_); refine goesL_ (some 19) rfl rfl Try.func9 (by kernel_rfl) rfl #[.agg #[.int .i64 a0_0, .int .i64 a0_1, .int .i64 a0_2, .slice A0_3 l0_3.length c0_3], .int .i64 a1] rfl (by (try simp only [List.map_toArray, List.map_cons, List.map_nil]); first | done | rfl | (simp only [List.length_drop, List.length_take]; rfl)) ?_; (with_reducible refine (walk_Run.calls k a0_0 a0_1 a0_2 _ _ l0_3 a1 t274 t277 _ ?side1 ?side2 A6.out).mono ?_); (case side1 => repeat (first | exact (Kd.C_below HR0_3.out HB.out) | (with_reducible refine Kd.C_alloc ?_ _) | (with_reducible refine Kd.C_drewN ?_ _) | (with_reducible refine Kd.C_drew ?_))); (case side2 => exact HC0_3.out); rintro e w94 ⟨v275, rfl, ho0, hb⟩; refine ⟨_, rfl, ?_⟩; have n0_ := Aside0.mk (Kd.R_lower ho0 (below_size (by repeat (first | (with_reducible first | exact HB.out | apply below_alloc | apply pw_below_drewN | apply below_drew1 | refine below_set ?_ GE273.out) | exact HB.out)))); have n1_ := Aside0.mk (blk_below (g := gb273) (o := .cells #[.int .i64 a0_0, .int .i64 a0_1, .int .i64 a0_2, .slice A0_3 l0_3.length c0_3] 25 (0, 0)) (by (with_reducible repeat (first | refine blk_drewN ?_ _ | refine blk_drew ?_ | refine blk_alloc ?_ _)); exact BK273.out) hb); have n2_ := Aside0.mk (below_step (by repeat (first | (with_reducible first | exact HB.out | apply below_alloc | apply pw_below_drewN | apply below_drew1 | refine below_set ?_ GE273.out) | exact HB.out)) hb); clear BK273; clear HB; have HO276 := n0_; have BK273 := n1_; have HB := n2_; clear n0_ n1_ n2_; (try clear hb); (try clear hb2); (try clear hk); (try clear hi); (try clear ho0); obtain ⟨Ao95, co95, eo95⟩ := Kd.R_slice HO276.out; subst eo95))
       go_ret
       exact ⟨by first | rfl | (simp [errW_none, errW_some] <;> rfl) | (simp [*, errW_none, errW_some] <;> rfl), by repeat (first | (with_reducible first | exact HB.out | apply below_alloc | apply pw_below_drewN | apply below_drew1 | refine below_set ?_ GE273.out) | exact HB.out)⟩

end Go.Proofs.Ytekbaconbemgpaa.PWe
