/- Functions of the given program as plain Lean functions, each with its walk: printed by a program of this claim's own over the kit's print. Helper text. -/
import Derived.Test.YtekbaconbemgpaaPWex0
import Derived.Test.YtekbaconbemgpaaPWex5
import Derived.Test.YtekbaconbemgpaaPWex6
namespace Go.Proofs.Ytekbaconbemgpaa.PWe
open Go.RowKit Go.Proofs.YtekbaconbemgpaaW.PrintWords Go.Proofs.YtekbaconbemgpaaW.PrintLast Go.Proofs.YtekbaconbemgpaaW.PrintMore
attribute [local go_sem] max2_int min2_int max_two min_two max_three min_three max_four min_four   -- for this text's walks alone
set_option linter.unusedVariables false
set_option linter.unusedSimpArgs false

/-! ### plan_View: function 27 -/
mutual
def plan_View.l0 : Nat → Int → Int → List (S47) → List (S76) → Int → Int → Option ((List (S47)))
 | 0, _, _, _, _, _, _ => none
 | k + 1, x2, x7, x8, x22, x23, x24 => if x24 < x23 then (if 0 ≤ x24 then (if x24 < (x22.length : Int) then (if ((rd_T76 x22 x24).f0) < 0 then (plan_View.j1 k x2 x7 x8 x22 x23 x24 true ((rd_T76 x22 x24).f0) ((rd_T76 x22 x24).f1) ((rd_T76 x22 x24).f2) ((rd_T76 x22 x24).f3) ((rd_T76 x22 x24).f4) ((rd_T76 x22 x24).f5)) else (plan_View.j1 k x2 x7 x8 x22 x23 x24 (decide (((rd_T76 x22 x24).f0) > 2)) ((rd_T76 x22 x24).f0) ((rd_T76 x22 x24).f1) ((rd_T76 x22 x24).f2) ((rd_T76 x22 x24).f3) ((rd_T76 x22 x24).f4) ((rd_T76 x22 x24).f5))) else (none)) else (none)) else (if x8.length < 2199023255552 then (some (x8 ++ [(⟨4, x7, 120, 0, 0, 0, (-1), false⟩ : S47)])) else (none))
def plan_View.j1 : Nat → Int → Int → List (S47) → List (S76) → Int → Int → Bool → Int → Int → Int → Int → List Int → List Int → Option ((List (S47)))
 | 0, _, _, _, _, _, _, _, _, _, _, _, _, _ => none
 | k + 1, x2, x7, x8, x22, x23, x24, x35, x164000, x164001, x164002, x164003, x164004, x164005 => if x35 = true then (plan_View.l0 k x2 x7 x8 x22 x23 (wrap64 (x24 + 1))) else ((plan_Window_slot.f k x164000 x164001 x164002 x164003 x164004 x164005 x7 x2).bind fun bt164 => (if x8.length < 2199023255552 then ((plan_Ticks.f x164000 x164001 x164002 x164003 x164004 x164005).bind fun t175 => (plan_View.l0 k x2 (wrap64 (x7 + t175)) (x8 ++ [(⟨bt164.1, bt164.2.1, bt164.2.2.1, bt164.2.2.2.1, bt164.2.2.2.2.1, bt164.2.2.2.2.2.1, bt164.2.2.2.2.2.2.1, bt164.2.2.2.2.2.2.2⟩ : S47)]) x22 x23 (wrap64 (x24 + 1)))) else (none)))
def plan_View.l100 : Nat → Int → Int → List (S47) → List (S76) → Int → Int → Option ((List (S47)))
 | 0, _, _, _, _, _, _ => none
 | k + 1, x2, x7, x8, x22, x23, x24 => if x24 < x23 then (if 0 ≤ x24 then (if x24 < (x22.length : Int) then (if ((rd_T76 x22 x24).f0) < 0 then (plan_View.j3 k x2 x7 x8 x22 x23 x24 true ((rd_T76 x22 x24).f0) ((rd_T76 x22 x24).f1) ((rd_T76 x22 x24).f2) ((rd_T76 x22 x24).f3) ((rd_T76 x22 x24).f4) ((rd_T76 x22 x24).f5)) else (plan_View.j3 k x2 x7 x8 x22 x23 x24 (decide (((rd_T76 x22 x24).f0) > 2)) ((rd_T76 x22 x24).f0) ((rd_T76 x22 x24).f1) ((rd_T76 x22 x24).f2) ((rd_T76 x22 x24).f3) ((rd_T76 x22 x24).f4) ((rd_T76 x22 x24).f5))) else (none)) else (none)) else (if x8.length < 2199023255552 then (some (x8 ++ [(⟨4, x7, 120, 0, 0, 0, (-1), false⟩ : S47)])) else (none))
def plan_View.j3 : Nat → Int → Int → List (S47) → List (S76) → Int → Int → Bool → Int → Int → Int → Int → List Int → List Int → Option ((List (S47)))
 | 0, _, _, _, _, _, _, _, _, _, _, _, _, _ => none
 | k + 1, x2, x7, x8, x22, x23, x24, x35, x181000, x181001, x181002, x181003, x181004, x181005 => if x35 = true then (plan_View.l100 k x2 x7 x8 x22 x23 (wrap64 (x24 + 1))) else ((plan_Window_slot.f k x181000 x181001 x181002 x181003 x181004 x181005 x7 x2).bind fun bt181 => (if x8.length < 2199023255552 then ((plan_Ticks.f x181000 x181001 x181002 x181003 x181004 x181005).bind fun t192 => (plan_View.l100 k x2 (wrap64 (x7 + t192)) (x8 ++ [(⟨bt181.1, bt181.2.1, bt181.2.2.1, bt181.2.2.2.1, bt181.2.2.2.2.1, bt181.2.2.2.2.2.1, bt181.2.2.2.2.2.2.1, bt181.2.2.2.2.2.2.2⟩ : S47)]) x22 x23 (wrap64 (x24 + 1)))) else (none)))
end
def plan_View.f (k : Nat) (a0_0 : Int) (l0_1 : List (S76)) (l0_2 : List (S76)) (a1 : Int) (a2 : Int) : Option ((List (S47))) := (plan_is.f a1).bind fun t154 => (if t154 = true then ((plan_start.f a1).bind fun t155 => ((some (([(⟨3, 0, t155, 0, 0, 0, (-1), false⟩ : S47)] : List (S47)) : List (S47))).bind fun y156 => (if a1 = 0 then (plan_View.l0 k a2 t155 y156 l0_1 (l0_1.length : Int) 0) else (if a1 = 1 then (plan_View.l100 k a2 t155 y156 l0_2 (l0_2.length : Int) 0) else (none))))) else (some ([] : List (S47))))
theorem plan_View.mono_l : ∀ k, (∀ y0 y1 y2 y3 y4 y5, LeO (plan_View.l0 k y0 y1 y2 y3 y4 y5) (plan_View.l0 (k + 1) y0 y1 y2 y3 y4 y5)) ∧ (∀ y0 y1 y2 y3 y4 y5 y6 y7 y8 y9 y10 y11 y12, LeO (plan_View.j1 k y0 y1 y2 y3 y4 y5 y6 y7 y8 y9 y10 y11 y12) (plan_View.j1 (k + 1) y0 y1 y2 y3 y4 y5 y6 y7 y8 y9 y10 y11 y12)) ∧ (∀ y0 y1 y2 y3 y4 y5, LeO (plan_View.l100 k y0 y1 y2 y3 y4 y5) (plan_View.l100 (k + 1) y0 y1 y2 y3 y4 y5)) ∧ (∀ y0 y1 y2 y3 y4 y5 y6 y7 y8 y9 y10 y11 y12, LeO (plan_View.j3 k y0 y1 y2 y3 y4 y5 y6 y7 y8 y9 y10 y11 y12) (plan_View.j3 (k + 1) y0 y1 y2 y3 y4 y5 y6 y7 y8 y9 y10 y11 y12))
 | 0 => ⟨fun _ _ _ _ _ _ r h => by simp [plan_View.l0] at h, fun _ _ _ _ _ _ _ _ _ _ _ _ _ r h => by simp [plan_View.j1] at h, fun _ _ _ _ _ _ r h => by simp [plan_View.l100] at h, fun _ _ _ _ _ _ _ _ _ _ _ _ _ r h => by simp [plan_View.j3] at h⟩
 | k + 1 => by
  obtain ⟨ih0, ih1, ih2, ih3⟩ := plan_View.mono_l k
  refine ⟨?_, ?_, ?_, ?_⟩
  · intro y0 y1 y2 y3 y4 y5
    unfold plan_View.l0
    repeat' first
    | (with_reducible exact ih0 _ _ _ _ _ _)
    | (with_reducible exact ih1 _ _ _ _ _ _ _ _ _ _ _ _ _)
    | (with_reducible exact ih2 _ _ _ _ _ _)
    | (with_reducible exact ih3 _ _ _ _ _ _ _ _ _ _ _ _ _)
    | (with_reducible exact plan_Window_slot.mono _ _ _ _ _ _ _ _ _)
    | (with_reducible exact LeO.refl _)
    | (with_reducible exact LeO.none _)
    | (with_reducible refine LeO.ite ?_ ?_)
    | (with_reducible refine LeO.bind ?_ (fun _ => ?_))
    | exact ih0 _ _ _ _ _ _
    | exact ih1 _ _ _ _ _ _ _ _ _ _ _ _ _
    | exact ih2 _ _ _ _ _ _
    | exact ih3 _ _ _ _ _ _ _ _ _ _ _ _ _
    | exact plan_Window_slot.mono _ _ _ _ _ _ _ _ _
    | exact LeO.none _
    | refine LeO.ite ?_ ?_
    | refine LeO.bind ?_ (fun _ => ?_)
  · intro y0 y1 y2 y3 y4 y5 y6 y7 y8 y9 y10 y11 y12
    unfold plan_View.j1
    repeat' first
    | (with_reducible exact ih0 _ _ _ _ _ _)
    | (with_reducible exact ih1 _ _ _ _ _ _ _ _ _ _ _ _ _)
    | (with_reducible exact ih2 _ _ _ _ _ _)
    | (with_reducible exact ih3 _ _ _ _ _ _ _ _ _ _ _ _ _)
    | (with_reducible exact plan_Window_slot.mono _ _ _ _ _ _ _ _ _)
    | (with_reducible exact LeO.refl _)
    | (with_reducible exact LeO.none _)
    | (with_reducible refine LeO.ite ?_ ?_)
    | (with_reducible refine LeO.bind ?_ (fun _ => ?_))
    | exact ih0 _ _ _ _ _ _
    | exact ih1 _ _ _ _ _ _ _ _ _ _ _ _ _
    | exact ih2 _ _ _ _ _ _
    | exact ih3 _ _ _ _ _ _ _ _ _ _ _ _ _
    | exact plan_Window_slot.mono _ _ _ _ _ _ _ _ _
    | exact LeO.none _
    | refine LeO.ite ?_ ?_
    | refine LeO.bind ?_ (fun _ => ?_)
  · intro y0 y1 y2 y3 y4 y5
    unfold plan_View.l100
    repeat' first
    | (with_reducible exact ih0 _ _ _ _ _ _)
    | (with_reducible exact ih1 _ _ _ _ _ _ _ _ _ _ _ _ _)
    | (with_reducible exact ih2 _ _ _ _ _ _)
    | (with_reducible exact ih3 _ _ _ _ _ _ _ _ _ _ _ _ _)
    | (with_reducible exact plan_Window_slot.mono _ _ _ _ _ _ _ _ _)
    | (with_reducible exact LeO.refl _)
    | (with_reducible exact LeO.none _)
    | (with_reducible refine LeO.ite ?_ ?_)
    | (with_reducible refine LeO.bind ?_ (fun _ => ?_))
    | exact ih0 _ _ _ _ _ _
    | exact ih1 _ _ _ _ _ _ _ _ _ _ _ _ _
    | exact ih2 _ _ _ _ _ _
    | exact ih3 _ _ _ _ _ _ _ _ _ _ _ _ _
    | exact plan_Window_slot.mono _ _ _ _ _ _ _ _ _
    | exact LeO.none _
    | refine LeO.ite ?_ ?_
    | refine LeO.bind ?_ (fun _ => ?_)
  · intro y0 y1 y2 y3 y4 y5 y6 y7 y8 y9 y10 y11 y12
    unfold plan_View.j3
    repeat' first
    | (with_reducible exact ih0 _ _ _ _ _ _)
    | (with_reducible exact ih1 _ _ _ _ _ _ _ _ _ _ _ _ _)
    | (with_reducible exact ih2 _ _ _ _ _ _)
    | (with_reducible exact ih3 _ _ _ _ _ _ _ _ _ _ _ _ _)
    | (with_reducible exact plan_Window_slot.mono _ _ _ _ _ _ _ _ _)
    | (with_reducible exact LeO.refl _)
    | (with_reducible exact LeO.none _)
    | (with_reducible refine LeO.ite ?_ ?_)
    | (with_reducible refine LeO.bind ?_ (fun _ => ?_))
    | exact ih0 _ _ _ _ _ _
    | exact ih1 _ _ _ _ _ _ _ _ _ _ _ _ _
    | exact ih2 _ _ _ _ _ _
    | exact ih3 _ _ _ _ _ _ _ _ _ _ _ _ _
    | exact plan_Window_slot.mono _ _ _ _ _ _ _ _ _
    | exact LeO.none _
    | refine LeO.ite ?_ ?_
    | refine LeO.bind ?_ (fun _ => ?_)
theorem plan_View.mono : ∀ a0 a1 a2 a3 a4 k, LeO (plan_View.f k a0 a1 a2 a3 a4) (plan_View.f (k + 1) a0 a1 a2 a3 a4) := by
 intro a0 a1 a2 a3 a4 k
 obtain ⟨ih0, ih1, ih2, ih3⟩ := plan_View.mono_l k
 unfold plan_View.f
 repeat' first
  | (with_reducible exact ih0 _ _ _ _ _ _)
  | (with_reducible exact ih1 _ _ _ _ _ _ _ _ _ _ _ _ _)
  | (with_reducible exact ih2 _ _ _ _ _ _)
  | (with_reducible exact ih3 _ _ _ _ _ _ _ _ _ _ _ _ _)
  | (with_reducible exact plan_Window_slot.mono _ _ _ _ _ _ _ _ _)
  | (with_reducible exact LeO.refl _)
  | (with_reducible exact LeO.none _)
  | (with_reducible refine LeO.ite ?_ ?_)
  | (with_reducible refine LeO.bind ?_ (fun _ => ?_))
  | exact ih0 _ _ _ _ _ _
  | exact ih1 _ _ _ _ _ _ _ _ _ _ _ _ _
  | exact ih2 _ _ _ _ _ _
  | exact ih3 _ _ _ _ _ _ _ _ _ _ _ _ _
  | exact plan_Window_slot.mono _ _ _ _ _ _ _ _ _
  | exact LeO.none _
  | refine LeO.ite ?_ ?_
  | refine LeO.bind ?_ (fun _ => ?_)
set_option maxHeartbeats 8000000 in
set_option maxRecDepth 100000 in
theorem plan_View.calls (k : Nat) (a0_0 : Int) (A0_1 : Option Addr) (c0_1 : Nat) (l0_1 : List (S76)) (A0_2 : Option Addr) (c0_2 : Nat) (l0_2 : List (S76)) (a1 : Int) (a2 : Int) (r : List (S47)) (w : World) (hr0_1 : Kd.C k76 w A0_1 l0_1.length l0_1) (hc0_1 : l0_1.length ≤ c0_1) (hr0_2 : Kd.C k76 w A0_2 l0_2.length l0_2) (hc0_2 : l0_2.length ≤ c0_2) (h : plan_View.f k a0_0 l0_1 l0_2 a1 a2 = some r) :
 Calls Try.prog 27 #[.agg #[.int .i64 a0_0, .slice A0_1 l0_1.length c0_1, .slice A0_2 l0_2.length c0_2], .int .i64 a1, .int .i64 a2] w fun e w' => ∃ v0_ : Value, e = .returned (v0_) ∧ Kd.R k47 47 w' w.heap.size (fun _ => True) v0_ r ∧ Below w.heap.size w w' := by
 have hu62 := Try.underlying62
 have hu47 := Try.underlying47
 have hu76 := Try.underlying76
 have HR0_1 := Aside0.mk hr0_1
 have HC0_1 := Aside0.mk hc0_1
 clear hr0_1 hc0_1
 have HR0_2 := Aside0.mk hr0_2
 have HC0_2 := Aside0.mk hc0_2
 clear hr0_2 hc0_2
 have HB := Aside0.mk (Below.refl w.heap.size w)
 have H : ((plan_is.f a1).bind fun t154 => (if t154 = true then ((plan_start.f a1).bind fun t155 => ((some (([(⟨3, 0, t155, 0, 0, 0, (-1), false⟩ : S47)] : List (S47)) : List (S47))).bind fun y156 => (if a1 = 0 then (plan_View.l0 k a2 t155 y156 l0_1 (l0_1.length : Int) 0) else (if a1 = 1 then (plan_View.l100 k a2 t155 y156 l0_2 (l0_2.length : Int) 0) else (none))))) else (some ([] : List (S47))))) = some r := h
 clear h
 replace H := Option.bind_eq_some_iff.mp H
 obtain ⟨t154, A40, H⟩ := H
 replace H : (if t154 = true then ((plan_start.f a1).bind fun t155 => ((some (([(⟨3, 0, t155, 0, 0, 0, (-1), false⟩ : S47)] : List (S47)) : List (S47))).bind fun y156 => (if a1 = 0 then (plan_View.l0 k a2 t155 y156 l0_1 (l0_1.length : Int) 0) else (if a1 = 1 then (plan_View.l100 k a2 t155 y156 l0_2 (l0_2.length : Int) 0) else (none))))) else (some ([] : List (S47)))) = some r := H
 have A4 := Aside0.mk A40
 clear A40
 by_cases c5 : t154 = true
 · subst c5
   have H1 : ((plan_start.f a1).bind fun t155 => ((some (([(⟨3, 0, t155, 0, 0, 0, (-1), false⟩ : S47)] : List (S47)) : List (S47))).bind fun y156 => (if a1 = 0 then (plan_View.l0 k a2 t155 y156 l0_1 (l0_1.length : Int) 0) else (if a1 = 1 then (plan_View.l100 k a2 t155 y156 l0_2 (l0_2.length : Int) 0) else (none))))) = some r := by rw [if_pos rfl] at H; exact H
   clear H
   have H := H1
   clear H1
   replace H := Option.bind_eq_some_iff.mp H
   obtain ⟨t155, A60, H⟩ := H
   replace H : ((some (([(⟨3, 0, t155, 0, 0, 0, (-1), false⟩ : S47)] : List (S47)) : List (S47))).bind fun y156 => (if a1 = 0 then (plan_View.l0 k a2 t155 y156 l0_1 (l0_1.length : Int) 0) else (if a1 = 1 then (plan_View.l100 k a2 t155 y156 l0_2 (l0_2.length : Int) 0) else (none)))) = some r := H
   have A6 := Aside0.mk A60
   clear A60
   obtain ⟨y156, hy156⟩ : ∃ y_ : List (S47), y_ = (([(⟨3, 0, t155, 0, 0, 0, (-1), false⟩ : S47)] : List (S47))) := ⟨_, rfl⟩
   replace H : (if a1 = 0 then (plan_View.l0 k a2 t155 y156 l0_1 (l0_1.length : Int) 0) else (if a1 = 1 then (plan_View.l100 k a2 t155 y156 l0_2 (l0_2.length : Int) 0) else (none))) = some r := by first | (rw [hy156]; with_reducible exact H) | (have H2_ := (Option.bind_some _ _).symm.trans H; rw [hy156]; with_reducible exact H2_) | (have H2_ := (Option.bind_some _ _).symm.trans H; with_reducible exact H2_) | with_reducible exact H | (rw [hy156]; exact H) | exact H
   have Ny156 := Aside0.mk hy156
   clear hy156
   by_cases c7 : a1 = 0
   · subst c7
     have H1 : (plan_View.l0 k a2 t155 y156 l0_1 (l0_1.length : Int) 0) = some r := by rw [if_pos rfl] at H; exact H
     clear H
     have H := H1
     clear H1
     have H' := Aside0.mk H
     clear H
     go_enter Try.func27, Try.ntmps27
     go_wp2_with (first | ((with_reducible refine gate_dst (N := 3) rfl ?_); refine box_event ?hg (N := 3) ?hd (cs := #[.int .i64 a0_0, .slice A0_1 l0_1.length c0_1, .slice A0_2 l0_2.length c0_2]) (t := 62) ?hr ?_; (case hd => rfl); (case hg => rfl); (case hr => first | (go_simp; done) | (go_simp; rfl)); intro gb153 hg w8 hbox hb; have n0_ := Aside0.mk (below_step (by repeat (first | (with_reducible first | exact HB.out | apply below_alloc | apply pw_below_drewN | apply below_drew1) | exact HB.out)) hb); have n1_ := Aside0.mk (hbox); have n2_ := Aside0.mk ((by rw [hg]; exact (below_size (by repeat (first | (with_reducible first | exact HB.out | apply below_alloc | apply pw_below_drewN | apply below_drew1) | exact HB.out))) : w.heap.size ≤ gb153)); have n3_ := Aside0.mk ((by rw [hg]; exact (below_size (by repeat (first | (with_reducible first | exact HB.out | apply below_alloc | apply pw_below_drewN | apply below_drew1) | exact HB.out))) : w.heap.size ≤ gb153)); clear HB; have HB := n0_; have BK153 := n1_; have GW153 := n2_; have GE153 := n3_; clear n0_ n1_ n2_ n3_; clear hb hbox hg) | ((with_reducible refine gate_callee (f := 45) rfl ?_); refine goesL_ (some 12) rfl rfl Try.func45 (by kernel_rfl) rfl #[.int .i64 0] rfl (by (try simp only [List.map_toArray, List.map_cons, List.map_nil]); first | done | rfl | (simp only [List.length_drop, List.length_take]; rfl)) ?_; (with_reducible refine (plan_is.calls 0 true _ A4.out).mono ?_); rintro e w' ⟨rfl, ⟨nd, rfl⟩⟩; refine ⟨_, rfl, ?_⟩) | ((with_reducible refine gate_callee (f := 46) rfl ?_); refine goesL_ (some 15) rfl rfl Try.func46 (by kernel_rfl) rfl #[.int .i64 0] rfl (by (try simp only [List.map_toArray, List.map_cons, List.map_nil]); first | done | rfl | (simp only [List.length_drop, List.length_take]; rfl)) ?_; (with_reducible refine (plan_start.calls 0 t155 _ A6.out).mono ?_); rintro e w' ⟨rfl, ⟨nd, rfl⟩⟩; refine ⟨_, rfl, ?_⟩) | ((with_reducible refine gate_dst (N := 18) rfl ?_); refine Kd.R_lit k47 _ 47 ?hg (N := 18) ?hd (xs := ([(⟨3, 0, t155, 0, 0, 0, (-1), false⟩ : S47)] : List (S47))) (inner := [.int .i64 3, .int .i64 0, .int .i64 t155, .int .i64 0, .int .i64 0, .int .i64 0, .int .i64 (-1), .bool false]) (ok := fun _ => True) (okp := fun _ => True) ?hr ?hp (fun _ hk => hk) trivial (Below.refl _ _) (Nat.le_refl _) (by simp) ?_; (case hd => rfl); (case hg => rfl); (case hr => first | (go_simp; done) | (go_simp; rfl)); (case hp => exact (Reps.c8 (show Kd.M k47 _ _ _ (⟨3, 0, t155, 0, 0, 0, (-1), false⟩ : S47) [.int .i64 3, .int .i64 0, .int .i64 t155, .int .i64 0, .int .i64 0, .int .i64 0, .int .i64 (-1), .bool false] from (k47_mkM _ _ _ (⟨3, 0, t155, 0, 0, 0, (-1), false⟩ : S47) )) (Reps.none _ _))); intro v157 w9 ho10 hb hg_ hnew_; clear hg_ hnew_; (first | rw [← Ny156.out] at ho10 | (simp only [Int.reduceToNat] at ho10; rw [← Ny156.out] at ho10)); have n0_ := Aside0.mk (Kd.R_lower ho10 (below_size (by repeat (first | (with_reducible first | exact HB.out | apply below_alloc | apply pw_below_drewN | apply below_drew1 | refine below_set ?_ GE153.out) | exact HB.out)))); have n1_ := Aside0.mk (blk_below (g := gb153) (o := .cells #[.int .i64 a0_0, .slice A0_1 l0_1.length c0_1, .slice A0_2 l0_2.length c0_2] 62 (0, 0)) (by (with_reducible repeat (first | refine blk_drewN ?_ _ | refine blk_drew ?_ | refine blk_alloc ?_ _)); exact BK153.out) hb); have n2_ := Aside0.mk (below_step (by repeat (first | (with_reducible first | exact HB.out | apply below_alloc | apply pw_below_drewN | apply below_drew1 | refine below_set ?_ GE153.out) | exact HB.out)) hb); clear BK153; clear HB; have HO158 := n0_; have BK153 := n1_; have HB := n2_; clear n0_ n1_ n2_; clear hb ho10; have hcz11_0 : w9.cell? ⟨gb153, 0, none⟩ = some (.int .i64 a0_0) := (blk_cell BK153.out 0).trans rfl; have hcz11_1 : w9.cell? ⟨gb153, 1, none⟩ = some (.slice A0_1 l0_1.length c0_1) := (blk_cell BK153.out 1).trans rfl; have hcz11_2 : w9.cell? ⟨gb153, 2, none⟩ = some (.slice A0_2 l0_2.length c0_2) := (blk_cell BK153.out 2).trans rfl; have hfz11_0 := blk_frozen BK153.out 0; have hfz11_1 := blk_frozen BK153.out 1; have hfz11_2 := blk_frozen BK153.out 2))
     go_loopg [7, 8, 24] k (fun kq v7 v8 v24 w' => ∃ (x7_1 : Int) (x8_1 : List (S47)) (x24_1 : Int), v7 = .int .i64 x7_1 ∧ v24 = .int .i64 x24_1 ∧ Aside0 (plan_View.l0 kq a2 x7_1 x8_1 l0_1 (l0_1.length : Int) x24_1 = some r) ∧ Aside0 (kq ≤ k) ∧ Aside0 (Kd.R k47 47 w' w.heap.size (fun _ => True) v8 x8_1) ∧ Aside0 (w'.heap[gb153]? = some (.cells #[.int .i64 a0_0, (.slice A0_1 l0_1.length c0_1), (.slice A0_2 l0_2.length c0_2)] 62 (0, 0))) ∧ Aside0 (Below w.heap.size w w'))
     case atStart => exact ⟨(t155), (y156), (0), (by first | rfl | (simp; done) | (simp [*]; done)), (by first | rfl | (simp; done) | (simp [*]; done)), H', ⟨Nat.le_refl _⟩, ⟨by (with_reducible repeat (first | apply Kd.R_alloc | apply Kd.R_drewN | apply Kd.R_drew)); exact HO158.out⟩, ⟨by (with_reducible repeat (first | refine blk_drewN ?_ _ | refine blk_drew ?_ | refine blk_alloc ?_ _)); exact BK153.out⟩, ⟨by repeat (first | (with_reducible first | exact HB.out | apply below_alloc | apply pw_below_drewN | apply below_drew1 | refine below_set ?_ GE153.out) | exact HB.out)⟩⟩
     case round =>
      clear H'
      try clear c2
      try clear p2
      try clear c4
      try clear c5
      try clear c7
      try clear c8
      try clear hcz11_0
      try clear hcz11_1
      try clear hcz11_2
      try clear hfz11_0
      try clear hfz11_1
      try clear hfz11_2
      obtain ⟨x7_1, x8_1, x24_1, rfl, rfl, HA, HK1, HO_8, BK153, HB⟩ := hrel
      cases gk with
      | zero => exact absurd HA.out (by simp [plan_View.l0])
      | succ k1 =>
       have H := HA.out
       clear HA
       simp only [plan_View.l0] at H
       by_cases c12 : x24_1 < (l0_1.length : Int)
       · rw [if_pos c12] at H
         have c12b0 : decide (x24_1 < (l0_1.length : Int)) = true := decide_eq_true c12
         clear c12
         by_cases c13 : 0 ≤ x24_1
         · rw [if_pos c13] at H
           have c13b0 : decide (0 ≤ x24_1) = true := decide_eq_true c13
           clear c13
           by_cases c14 : x24_1 < (l0_1.length : Int)
           · rw [if_pos c14] at H
             have c14b0 : decide (x24_1 < (l0_1.length : Int)) = true := decide_eq_true c14
             clear c14
             have HC15 := Aside0.mk H
             clear H
             have p162 : 0 ≤ (x24_1 : Int) := of_decide_eq_true (by first | (with_reducible assumption) | assumption)
             have q162 : x24_1 < (l0_1.length : Int) := of_decide_eq_true (by first | (with_reducible assumption) | assumption)
             obtain ⟨ad162, A162_4, c162_4, A162_5, c162_5, e162, hx162_0, hx162_1, hx162_2, hx162_3, hx162_4, hx162_5, hl162_4, hi162_4, hl162_5, hi162_5⟩ := at_T76 HR0_1.out x24_1 p162 q162
             cases e162
             replace hx162_0 := (HB.out.cell (World.block_lt_of_cell? w _ hx162_0)).trans hx162_0
             replace hx162_1 := (HB.out.cell (World.block_lt_of_cell? w _ hx162_1)).trans hx162_1
             replace hx162_2 := (HB.out.cell (World.block_lt_of_cell? w _ hx162_2)).trans hx162_2
             replace hx162_3 := (HB.out.cell (World.block_lt_of_cell? w _ hx162_3)).trans hx162_3
             replace hx162_4 := (HB.out.cell (World.block_lt_of_cell? w _ hx162_4)).trans hx162_4
             replace hx162_5 := (HB.out.cell (World.block_lt_of_cell? w _ hx162_5)).trans hx162_5
             have HR162_4 := Aside0.mk hi162_4
             have HC162_4 := Aside0.mk hl162_4
             clear hi162_4 hl162_4
             have HR162_5 := Aside0.mk hi162_5
             have HC162_5 := Aside0.mk hl162_5
             clear hi162_5 hl162_5
             replace p162 := eq_true p162
             replace q162 := eq_true q162
             go_upto_region 8 with (first | ((with_reducible refine gate_dst (N := 10) rfl ?_); refine box_event ?hg (N := 10) ?hd (cs := #[.int .i64 0, .int .i64 0, .int .i64 0, .int .i64 0, .slice none 0 0, .slice none 0 0]) (t := 76) ?hr ?_; (case hd => rfl); (case hg => rfl); (case hr => first | (go_simp; done) | (go_simp; rfl)); intro gb163 hg w16 hbox hb; have n0_ := Aside0.mk (Kd.R_below (by (with_reducible repeat (first | apply Kd.R_alloc | apply Kd.R_drewN | apply Kd.R_drew)); exact HO_8.out) hb); have n1_ := Aside0.mk (blk_below (g := gb153) (o := .cells #[.int .i64 a0_0, .slice (some ad162) l0_1.length c0_1, .slice A0_2 l0_2.length c0_2] 62 (0, 0)) (by (with_reducible repeat (first | refine blk_drewN ?_ _ | refine blk_drew ?_ | refine blk_alloc ?_ _)); exact BK153.out) hb); have n2_ := Aside0.mk (below_step (by repeat (first | (with_reducible first | exact HB.out | apply below_alloc | apply pw_below_drewN | apply below_drew1 | refine below_set ?_ GE153.out) | exact HB.out)) hb); have n3_ := Aside0.mk (hbox); have n4_ := Aside0.mk ((by rw [hg]; exact (below_size (by repeat (first | (with_reducible first | exact HB.out | apply below_alloc | apply pw_below_drewN | apply below_drew1 | refine below_set ?_ GE153.out) | exact HB.out))) : w.heap.size ≤ gb163)); have n5_ := Aside0.mk ((by rw [hg]; exact (below_size (by repeat (first | (with_reducible first | exact HB.out | apply below_alloc | apply pw_below_drewN | apply below_drew1 | refine below_set ?_ GE153.out) | exact HB.out))) : w.heap.size ≤ gb163)); have n6_ := Aside0.mk ((by rw [hg]; exact Nat.ne_of_lt (blk_lt (g := gb153) (o := .cells #[.int .i64 a0_0, .slice (some ad162) l0_1.length c0_1, .slice A0_2 l0_2.length c0_2] 62 (0, 0)) (by (with_reducible repeat (first | refine blk_drewN ?_ _ | refine blk_drew ?_ | refine blk_alloc ?_ _)); exact BK153.out)) : gb153 ≠ gb163)); have n7_ := Aside0.mk ((by rw [hg]; exact Nat.ne_of_gt (blk_lt (g := gb153) (o := .cells #[.int .i64 a0_0, .slice (some ad162) l0_1.length c0_1, .slice A0_2 l0_2.length c0_2] 62 (0, 0)) (by (with_reducible repeat (first | refine blk_drewN ?_ _ | refine blk_drew ?_ | refine blk_alloc ?_ _)); exact BK153.out)) : gb163 ≠ gb153)); clear HO_8; clear BK153; clear HB; have HO_8 := n0_; have BK153 := n1_; have HB := n2_; have BK163 := n3_; have GW163 := n4_; have GE163 := n5_; have NB153_163 := n6_; have NB163_153 := n7_; clear n0_ n1_ n2_ n3_ n4_ n5_ n6_ n7_; clear hb hbox hg; have hnb17 := NB163_153.out; have hnc17 := NB153_163.out; have hcz18_0 : w16.cell? ⟨gb163, 0, none⟩ = some (.int .i64 0) := (blk_cell BK163.out 0).trans rfl; have hcz18_1 : w16.cell? ⟨gb163, 1, none⟩ = some (.int .i64 0) := (blk_cell BK163.out 1).trans rfl; have hcz18_2 : w16.cell? ⟨gb163, 2, none⟩ = some (.int .i64 0) := (blk_cell BK163.out 2).trans rfl; have hcz18_3 : w16.cell? ⟨gb163, 3, none⟩ = some (.int .i64 0) := (blk_cell BK163.out 3).trans rfl; have hcz18_4 : w16.cell? ⟨gb163, 4, none⟩ = some (.slice none 0 0) := (blk_cell BK163.out 4).trans rfl; have hcz18_5 : w16.cell? ⟨gb163, 5, none⟩ = some (.slice none 0 0) := (blk_cell BK163.out 5).trans rfl; have hfz18_0 := blk_frozen BK163.out 0; have hfz18_1 := blk_frozen BK163.out 1; have hfz18_2 := blk_frozen BK163.out 2; have hfz18_3 := blk_frozen BK163.out 3; have hfz18_4 := blk_frozen BK163.out 4; have hfz18_5 := blk_frozen BK163.out 5))
             (try simp only [Act.put, List.setIfInBounds_toArray, List.set_cons_zero, List.set_cons_succ])
             go_cut [35] (fun v35 wc => ∃ (kq : Nat) (x35_14 : Bool), v35 = .bool x35_14 ∧ Aside0 (plan_View.j1 kq a2 x7_1 x8_1 l0_1 (l0_1.length : Int) x24_1 x35_14 ((rd_T76 l0_1 x24_1).f0) ((rd_T76 l0_1 x24_1).f1) ((rd_T76 l0_1 x24_1).f2) ((rd_T76 l0_1 x24_1).f3) ((rd_T76 l0_1 x24_1).f4) ((rd_T76 l0_1 x24_1).f5) = some r) ∧ Aside0 (kq ≤ k1) ∧ Aside0 (Kd.R k47 47 wc w.heap.size (fun _ => True) u8 x8_1) ∧ Aside0 (wc.heap[gb153]? = some (.cells #[.int .i64 a0_0, (.slice (some ad162) l0_1.length c0_1), (.slice A0_2 l0_2.length c0_2)] 62 (0, 0))) ∧ Aside0 (wc.heap[gb163]? = some (.cells #[.int .i64 ((rd_T76 l0_1 x24_1).f0), .int .i64 ((rd_T76 l0_1 x24_1).f1), .int .i64 ((rd_T76 l0_1 x24_1).f2), .int .i64 ((rd_T76 l0_1 x24_1).f3), (.slice A162_4 ((rd_T76 l0_1 x24_1).f4).length c162_4), (.slice A162_5 ((rd_T76 l0_1 x24_1).f5).length c162_5)] 76 (0, 0))) ∧ Aside0 (Below w.heap.size w wc))
             case first =>
              have H := HC15.out
              clear HC15
              by_cases c19 : ((rd_T76 l0_1 x24_1).f0) < 0
              · rw [if_pos c19] at H
                have c19b0 : decide (((rd_T76 l0_1 x24_1).f0) < 0) = true := decide_eq_true c19
                clear c19
                (first | rw [c19b0] | (simp only [i64_w, i32_w]; rw [c19b0]) | skip)
                have H' := Aside0.mk H
                clear H
                have hnb20 := NB163_153.out
                have hnc20 := NB153_163.out
                have hcz21_0 : w16.cell? ⟨gb163, 0, none⟩ = some (.int .i64 0) := (blk_cell BK163.out 0).trans rfl
                have hcz21_1 : w16.cell? ⟨gb163, 1, none⟩ = some (.int .i64 0) := (blk_cell BK163.out 1).trans rfl
                have hcz21_2 : w16.cell? ⟨gb163, 2, none⟩ = some (.int .i64 0) := (blk_cell BK163.out 2).trans rfl
                have hcz21_3 : w16.cell? ⟨gb163, 3, none⟩ = some (.int .i64 0) := (blk_cell BK163.out 3).trans rfl
                have hcz21_4 : w16.cell? ⟨gb163, 4, none⟩ = some (.slice none 0 0) := (blk_cell BK163.out 4).trans rfl
                have hcz21_5 : w16.cell? ⟨gb163, 5, none⟩ = some (.slice none 0 0) := (blk_cell BK163.out 5).trans rfl
                have hfz21_0 := blk_frozen BK163.out 0
                have hfz21_1 := blk_frozen BK163.out 1
                have hfz21_2 := blk_frozen BK163.out 2
                have hfz21_3 := blk_frozen BK163.out 3
                have hfz21_4 := blk_frozen BK163.out 4
                have hfz21_5 := blk_frozen BK163.out 5
                go_wp2
                go_meet
                case rel => exact ⟨_, (true), (by first | rfl | (simp; done) | (simp [*]; done)), H', ⟨by have := HK1.out; first | omega | exact Nat.le_refl _⟩, ⟨by (with_reducible repeat (first | apply Kd.R_alloc | apply Kd.R_drewN | apply Kd.R_drew)); exact Kd.R_mono (Kd.R_far (p := ⟨gb163, 5, none⟩) (Kd.R_far (p := ⟨gb163, 4, none⟩) (Kd.R_far (p := ⟨gb163, 3, none⟩) (Kd.R_far (p := ⟨gb163, 2, none⟩) (Kd.R_far (p := ⟨gb163, 1, none⟩) (Kd.R_far (p := ⟨gb163, 0, none⟩) (Kd.R_types HO_8.out BK163.out (by decide)) (fun _ hk => hk.2) (.int .i64 ((rd_T76 l0_1 x24_1).f0))) (fun _ hk => hk.2) (.int .i64 ((rd_T76 l0_1 x24_1).f1))) (fun _ hk => hk.2) (.int .i64 ((rd_T76 l0_1 x24_1).f2))) (fun _ hk => hk.2) (.int .i64 ((rd_T76 l0_1 x24_1).f3))) (fun _ hk => hk.2) (.slice A162_4 ((rd_T76 l0_1 x24_1).f4).length c162_4)) (fun _ hk => hk.2) (.slice A162_5 ((rd_T76 l0_1 x24_1).f5).length c162_5)) (fun _ hk => trivial)⟩, ⟨by (with_reducible repeat (first | refine blk_drewN ?_ _ | refine blk_drew ?_ | refine blk_alloc ?_ _)); refine blk_far ?_ NB153_163.out _; (with_reducible repeat (first | refine blk_drewN ?_ _ | refine blk_drew ?_ | refine blk_alloc ?_ _)); refine blk_far ?_ NB153_163.out _; (with_reducible repeat (first | refine blk_drewN ?_ _ | refine blk_drew ?_ | refine blk_alloc ?_ _)); refine blk_far ?_ NB153_163.out _; (with_reducible repeat (first | refine blk_drewN ?_ _ | refine blk_drew ?_ | refine blk_alloc ?_ _)); refine blk_far ?_ NB153_163.out _; (with_reducible repeat (first | refine blk_drewN ?_ _ | refine blk_drew ?_ | refine blk_alloc ?_ _)); refine blk_far ?_ NB153_163.out _; (with_reducible repeat (first | refine blk_drewN ?_ _ | refine blk_drew ?_ | refine blk_alloc ?_ _)); refine blk_far ?_ NB153_163.out _; (with_reducible repeat (first | refine blk_drewN ?_ _ | refine blk_drew ?_ | refine blk_alloc ?_ _)); exact BK153.out⟩, ⟨by (with_reducible repeat (first | refine blk_drewN ?_ _ | refine blk_drew ?_ | refine blk_alloc ?_ _)); refine blk_put (cs := #[.int .i64 ((rd_T76 l0_1 x24_1).f0), .int .i64 ((rd_T76 l0_1 x24_1).f1), .int .i64 ((rd_T76 l0_1 x24_1).f2), .int .i64 ((rd_T76 l0_1 x24_1).f3), .slice A162_4 ((rd_T76 l0_1 x24_1).f4).length c162_4, .slice none 0 0]) ?_ 5 _ rfl; (with_reducible repeat (first | refine blk_drewN ?_ _ | refine blk_drew ?_ | refine blk_alloc ?_ _)); refine blk_put (cs := #[.int .i64 ((rd_T76 l0_1 x24_1).f0), .int .i64 ((rd_T76 l0_1 x24_1).f1), .int .i64 ((rd_T76 l0_1 x24_1).f2), .int .i64 ((rd_T76 l0_1 x24_1).f3), .slice none 0 0, .slice none 0 0]) ?_ 4 _ rfl; (with_reducible repeat (first | refine blk_drewN ?_ _ | refine blk_drew ?_ | refine blk_alloc ?_ _)); refine blk_put (cs := #[.int .i64 ((rd_T76 l0_1 x24_1).f0), .int .i64 ((rd_T76 l0_1 x24_1).f1), .int .i64 ((rd_T76 l0_1 x24_1).f2), .int .i64 0, .slice none 0 0, .slice none 0 0]) ?_ 3 _ rfl; (with_reducible repeat (first | refine blk_drewN ?_ _ | refine blk_drew ?_ | refine blk_alloc ?_ _)); refine blk_put (cs := #[.int .i64 ((rd_T76 l0_1 x24_1).f0), .int .i64 ((rd_T76 l0_1 x24_1).f1), .int .i64 0, .int .i64 0, .slice none 0 0, .slice none 0 0]) ?_ 2 _ rfl; (with_reducible repeat (first | refine blk_drewN ?_ _ | refine blk_drew ?_ | refine blk_alloc ?_ _)); refine blk_put (cs := #[.int .i64 ((rd_T76 l0_1 x24_1).f0), .int .i64 0, .int .i64 0, .int .i64 0, .slice none 0 0, .slice none 0 0]) ?_ 1 _ rfl; (with_reducible repeat (first | refine blk_drewN ?_ _ | refine blk_drew ?_ | refine blk_alloc ?_ _)); refine blk_put (cs := #[.int .i64 0, .int .i64 0, .int .i64 0, .int .i64 0, .slice none 0 0, .slice none 0 0]) ?_ 0 _ rfl; (with_reducible repeat (first | refine blk_drewN ?_ _ | refine blk_drew ?_ | refine blk_alloc ?_ _)); exact BK163.out⟩, ⟨by repeat (first | (with_reducible first | exact HB.out | apply below_alloc | apply pw_below_drewN | apply below_drew1 | refine below_set ?_ GE153.out | refine below_set ?_ GE163.out) | exact HB.out)⟩⟩
              · rw [if_neg c19] at H
                have c19b0 : decide (((rd_T76 l0_1 x24_1).f0) < 0) = false := decide_eq_false c19
                clear c19
                (first | rw [c19b0] | (simp only [i64_w, i32_w]; rw [c19b0]) | skip)
                have H' := Aside0.mk H
                clear H
                have hnb22 := NB163_153.out
                have hnc22 := NB153_163.out
                have hcz23_0 : w16.cell? ⟨gb163, 0, none⟩ = some (.int .i64 0) := (blk_cell BK163.out 0).trans rfl
                have hcz23_1 : w16.cell? ⟨gb163, 1, none⟩ = some (.int .i64 0) := (blk_cell BK163.out 1).trans rfl
                have hcz23_2 : w16.cell? ⟨gb163, 2, none⟩ = some (.int .i64 0) := (blk_cell BK163.out 2).trans rfl
                have hcz23_3 : w16.cell? ⟨gb163, 3, none⟩ = some (.int .i64 0) := (blk_cell BK163.out 3).trans rfl
                have hcz23_4 : w16.cell? ⟨gb163, 4, none⟩ = some (.slice none 0 0) := (blk_cell BK163.out 4).trans rfl
                have hcz23_5 : w16.cell? ⟨gb163, 5, none⟩ = some (.slice none 0 0) := (blk_cell BK163.out 5).trans rfl
                have hfz23_0 := blk_frozen BK163.out 0
                have hfz23_1 := blk_frozen BK163.out 1
                have hfz23_2 := blk_frozen BK163.out 2
                have hfz23_3 := blk_frozen BK163.out 3
                have hfz23_4 := blk_frozen BK163.out 4
                have hfz23_5 := blk_frozen BK163.out 5
                go_wp2
                go_meet
                case rel => exact ⟨_, (decide (((rd_T76 l0_1 x24_1).f0) > 2)), (by first | rfl | (simp; done) | (simp [*]; done)), H', ⟨by have := HK1.out; first | omega | exact Nat.le_refl _⟩, ⟨by (with_reducible repeat (first | apply Kd.R_alloc | apply Kd.R_drewN | apply Kd.R_drew)); exact Kd.R_mono (Kd.R_far (p := ⟨gb163, 5, none⟩) (Kd.R_far (p := ⟨gb163, 4, none⟩) (Kd.R_far (p := ⟨gb163, 3, none⟩) (Kd.R_far (p := ⟨gb163, 2, none⟩) (Kd.R_far (p := ⟨gb163, 1, none⟩) (Kd.R_far (p := ⟨gb163, 0, none⟩) (Kd.R_types HO_8.out BK163.out (by decide)) (fun _ hk => hk.2) (.int .i64 ((rd_T76 l0_1 x24_1).f0))) (fun _ hk => hk.2) (.int .i64 ((rd_T76 l0_1 x24_1).f1))) (fun _ hk => hk.2) (.int .i64 ((rd_T76 l0_1 x24_1).f2))) (fun _ hk => hk.2) (.int .i64 ((rd_T76 l0_1 x24_1).f3))) (fun _ hk => hk.2) (.slice A162_4 ((rd_T76 l0_1 x24_1).f4).length c162_4)) (fun _ hk => hk.2) (.slice A162_5 ((rd_T76 l0_1 x24_1).f5).length c162_5)) (fun _ hk => trivial)⟩, ⟨by (with_reducible repeat (first | refine blk_drewN ?_ _ | refine blk_drew ?_ | refine blk_alloc ?_ _)); refine blk_far ?_ NB153_163.out _; (with_reducible repeat (first | refine blk_drewN ?_ _ | refine blk_drew ?_ | refine blk_alloc ?_ _)); refine blk_far ?_ NB153_163.out _; (with_reducible repeat (first | refine blk_drewN ?_ _ | refine blk_drew ?_ | refine blk_alloc ?_ _)); refine blk_far ?_ NB153_163.out _; (with_reducible repeat (first | refine blk_drewN ?_ _ | refine blk_drew ?_ | refine blk_alloc ?_ _)); refine blk_far ?_ NB153_163.out _; (with_reducible repeat (first | refine blk_drewN ?_ _ | refine blk_drew ?_ | refine blk_alloc ?_ _)); refine blk_far ?_ NB153_163.out _; (with_reducible repeat (first | refine blk_drewN ?_ _ | refine blk_drew ?_ | refine blk_alloc ?_ _)); refine blk_far ?_ NB153_163.out _; (with_reducible repeat (first | refine blk_drewN ?_ _ | refine blk_drew ?_ | refine blk_alloc ?_ _)); exact BK153.out⟩, ⟨by (with_reducible repeat (first | refine blk_drewN ?_ _ | refine blk_drew ?_ | refine blk_alloc ?_ _)); refine blk_put (cs := #[.int .i64 ((rd_T76 l0_1 x24_1).f0), .int .i64 ((rd_T76 l0_1 x24_1).f1), .int .i64 ((rd_T76 l0_1 x24_1).f2), .int .i64 ((rd_T76 l0_1 x24_1).f3), .slice A162_4 ((rd_T76 l0_1 x24_1).f4).length c162_4, .slice none 0 0]) ?_ 5 _ rfl; (with_reducible repeat (first | refine blk_drewN ?_ _ | refine blk_drew ?_ | refine blk_alloc ?_ _)); refine blk_put (cs := #[.int .i64 ((rd_T76 l0_1 x24_1).f0), .int .i64 ((rd_T76 l0_1 x24_1).f1), .int .i64 ((rd_T76 l0_1 x24_1).f2), .int .i64 ((rd_T76 l0_1 x24_1).f3), .slice none 0 0, .slice none 0 0]) ?_ 4 _ rfl; (with_reducible repeat (first | refine blk_drewN ?_ _ | refine blk_drew ?_ | refine blk_alloc ?_ _)); refine blk_put (cs := #[.int .i64 ((rd_T76 l0_1 x24_1).f0), .int .i64 ((rd_T76 l0_1 x24_1).f1), .int .i64 ((rd_T76 l0_1 x24_1).f2), .int .i64 0, .slice none 0 0, .slice none 0 0]) ?_ 3 _ rfl; (with_reducible repeat (first | refine blk_drewN ?_ _ | refine blk_drew ?_ | refine blk_alloc ?_ _)); refine blk_put (cs := #[.int .i64 ((rd_T76 l0_1 x24_1).f0), .int .i64 ((rd_T76 l0_1 x24_1).f1), .int .i64 0, .int .i64 0, .slice none 0 0, .slice none 0 0]) ?_ 2 _ rfl; (with_reducible repeat (first | refine blk_drewN ?_ _ | refine blk_drew ?_ | refine blk_alloc ?_ _)); refine blk_put (cs := #[.int .i64 ((rd_T76 l0_1 x24_1).f0), .int .i64 0, .int .i64 0, .int .i64 0, .slice none 0 0, .slice none 0 0]) ?_ 1 _ rfl; (with_reducible repeat (first | refine blk_drewN ?_ _ | refine blk_drew ?_ | refine blk_alloc ?_ _)); refine blk_put (cs := #[.int .i64 0, .int .i64 0, .int .i64 0, .int .i64 0, .slice none 0 0, .slice none 0 0]) ?_ 0 _ rfl; (with_reducible repeat (first | refine blk_drewN ?_ _ | refine blk_drew ?_ | refine blk_alloc ?_ _)); exact BK163.out⟩, ⟨by repeat (first | (with_reducible first | exact HB.out | apply below_alloc | apply pw_below_drewN | apply below_drew1 | refine below_set ?_ GE153.out | refine below_set ?_ GE163.out) | exact HB.out)⟩⟩
             case rest =>
              clear HC15
              try clear c1
              try clear p1
              try clear q1
              try clear hx1
              try clear c2
              try clear p2
              try clear c4
              try clear c5
              try clear c7
              try clear c8
              try clear c12
              try clear c12b0
              try clear c13
              try clear c13b0
              try clear c14
              try clear c14b0
              try clear c16
              try clear p16
              try clear q16
              try clear hx16
              try clear c17
              try clear c19
              try clear c19b0
              try clear c20
              try clear c22
              try clear hcz11_0
              try clear hcz11_1
              try clear hcz11_2
              try clear hcz18_0
              try clear hcz18_1
              try clear hcz18_2
              try clear hcz18_3
              try clear hcz18_4
              try clear hcz18_5
              try clear hcz21_0
              try clear hcz21_1
              try clear hcz21_2
              try clear hcz21_3
              try clear hcz21_4
              try clear hcz21_5
              try clear hcz23_0
              try clear hcz23_1
              try clear hcz23_2
              try clear hcz23_3
              try clear hcz23_4
              try clear hcz23_5
              try clear hfz11_0
              try clear hfz11_1
              try clear hfz11_2
              try clear hfz18_0
              try clear hfz18_1
              try clear hfz18_2
              try clear hfz18_3
              try clear hfz18_4
              try clear hfz18_5
              try clear hfz21_0
              try clear hfz21_1
              try clear hfz21_2
              try clear hfz21_3
              try clear hfz21_4
              try clear hfz21_5
              try clear hfz23_0
              try clear hfz23_1
              try clear hfz23_2
              try clear hfz23_3
              try clear hfz23_4
              try clear hfz23_5
              try clear hx162_0
              try clear hx162_1
              try clear hx162_2
              try clear hx162_3
              try clear hx162_4
              try clear hx162_5
              try clear p162
              try clear p2
              try clear q162
              obtain ⟨kq, x35_14, rfl, HA, HJ14, HO_8, BK153, BK163, HB⟩ := hcut
              cases kq with
              | zero => exact absurd HA.out (by simp [plan_View.j1])
              | succ kj14 =>
               have H := HA.out
               clear HA
               simp only [plan_View.j1] at H
               by_cases c24 : x35_14 = true
               · subst c24
                 have H1 : (plan_View.l0 kj14 a2 x7_1 x8_1 l0_1 (l0_1.length : Int) (wrap64 (x24_1 + 1))) = some r := by rw [if_pos rfl] at H; exact H
                 clear H
                 have H := H1
                 clear H1
                 have H' := Aside0.mk H
                 clear H
                 go_wp2
                 go_roundg kj14
                 case measure => have := HK1.out; have := HJ14.out; omega
                 case rel => exact ⟨(x7_1), (x8_1), (wrap64 (x24_1 + 1)), (by first | rfl | (simp; done) | (simp [*]; done)), (by first | rfl | (simp; done) | (simp [*]; done)), H', ⟨by have := HK1.out; have := HJ14.out; omega⟩, ⟨by (with_reducible repeat (first | apply Kd.R_alloc | apply Kd.R_drewN | apply Kd.R_drew)); exact HO_8.out⟩, ⟨by (with_reducible repeat (first | refine blk_drewN ?_ _ | refine blk_drew ?_ | refine blk_alloc ?_ _)); exact BK153.out⟩, ⟨by repeat (first | (with_reducible first | exact HB.out | apply below_alloc | apply pw_below_drewN | apply below_drew1 | refine below_set ?_ GE153.out | refine below_set ?_ GE163.out) | exact HB.out)⟩⟩
               · replace c24 := Bool.eq_false_iff.mpr c24
                 subst c24
                 have H1 : ((plan_Window_slot.f kj14 ((rd_T76 l0_1 x24_1).f0) ((rd_T76 l0_1 x24_1).f1) ((rd_T76 l0_1 x24_1).f2) ((rd_T76 l0_1 x24_1).f3) ((rd_T76 l0_1 x24_1).f4) ((rd_T76 l0_1 x24_1).f5) x7_1 a2).bind fun bt164 => (if x8_1.length < 2199023255552 then ((plan_Ticks.f ((rd_T76 l0_1 x24_1).f0) ((rd_T76 l0_1 x24_1).f1) ((rd_T76 l0_1 x24_1).f2) ((rd_T76 l0_1 x24_1).f3) ((rd_T76 l0_1 x24_1).f4) ((rd_T76 l0_1 x24_1).f5)).bind fun t175 => (plan_View.l0 kj14 a2 (wrap64 (x7_1 + t175)) (x8_1 ++ [(⟨bt164.1, bt164.2.1, bt164.2.2.1, bt164.2.2.2.1, bt164.2.2.2.2.1, bt164.2.2.2.2.2.1, bt164.2.2.2.2.2.2.1, bt164.2.2.2.2.2.2.2⟩ : S47)]) l0_1 (l0_1.length : Int) (wrap64 (x24_1 + 1)))) else (none))) = some r := by rw [if_neg (show ¬ (false = true) by decide)] at H; exact H
                 clear H
                 have H := H1
                 clear H1
                 replace H := Option.bind_eq_some_iff.mp H
                 obtain ⟨⟨t164, t165, t166, t167, t168, t169, t170, t171⟩, A250, H⟩ := H
                 replace H : (if x8_1.length < 2199023255552 then ((plan_Ticks.f ((rd_T76 l0_1 x24_1).f0) ((rd_T76 l0_1 x24_1).f1) ((rd_T76 l0_1 x24_1).f2) ((rd_T76 l0_1 x24_1).f3) ((rd_T76 l0_1 x24_1).f4) ((rd_T76 l0_1 x24_1).f5)).bind fun t175 => (plan_View.l0 kj14 a2 (wrap64 (x7_1 + t175)) (x8_1 ++ [(⟨t164, t165, t166, t167, t168, t169, t170, t171⟩ : S47)]) l0_1 (l0_1.length : Int) (wrap64 (x24_1 + 1)))) else (none)) = some r := H
                 have A25 := Aside0.mk A250
                 clear A250
                 by_cases c26 : x8_1.length < 2199023255552
                 · rw [if_pos c26] at H
                   have LMc26 := Aside0.mk c26
                   clear c26
                   obtain ⟨y172, hy172⟩ : ∃ y_ : List (S47), y_ = (x8_1 ++ [(⟨t164, t165, t166, t167, t168, t169, t170, t171⟩ : S47)]) := ⟨_, rfl⟩
                   replace H : ((plan_Ticks.f ((rd_T76 l0_1 x24_1).f0) ((rd_T76 l0_1 x24_1).f1) ((rd_T76 l0_1 x24_1).f2) ((rd_T76 l0_1 x24_1).f3) ((rd_T76 l0_1 x24_1).f4) ((rd_T76 l0_1 x24_1).f5)).bind fun t175 => (plan_View.l0 kj14 a2 (wrap64 (x7_1 + t175)) y172 l0_1 (l0_1.length : Int) (wrap64 (x24_1 + 1)))) = some r := by first | (rw [hy172]; with_reducible exact H) | (have H2_ := (Option.bind_some _ _).symm.trans H; rw [hy172]; with_reducible exact H2_) | (have H2_ := (Option.bind_some _ _).symm.trans H; with_reducible exact H2_) | with_reducible exact H | (rw [hy172]; exact H) | exact H
                   have Ny172 := Aside0.mk hy172
                   clear hy172
                   replace H := Option.bind_eq_some_iff.mp H
                   obtain ⟨t175, A270, H⟩ := H
                   replace H : (plan_View.l0 kj14 a2 (wrap64 (x7_1 + t175)) y172 l0_1 (l0_1.length : Int) (wrap64 (x24_1 + 1))) = some r := H
                   have A27 := Aside0.mk A270
                   clear A270
                   have H' := Aside0.mk H
                   clear H
                   have hnb28 := NB163_153.out
                   have hnc28 := NB153_163.out
                   have hcz29_0 : wc.cell? ⟨gb163, 0, none⟩ = some (.int .i64 ((rd_T76 l0_1 x24_1).f0)) := (blk_cell BK163.out 0).trans rfl
                   have hcz29_1 : wc.cell? ⟨gb163, 1, none⟩ = some (.int .i64 ((rd_T76 l0_1 x24_1).f1)) := (blk_cell BK163.out 1).trans rfl
                   have hcz29_2 : wc.cell? ⟨gb163, 2, none⟩ = some (.int .i64 ((rd_T76 l0_1 x24_1).f2)) := (blk_cell BK163.out 2).trans rfl
                   have hcz29_3 : wc.cell? ⟨gb163, 3, none⟩ = some (.int .i64 ((rd_T76 l0_1 x24_1).f3)) := (blk_cell BK163.out 3).trans rfl
                   have hcz29_4 : wc.cell? ⟨gb163, 4, none⟩ = some (.slice A162_4 ((rd_T76 l0_1 x24_1).f4).length c162_4) := (blk_cell BK163.out 4).trans rfl
                   have hcz29_5 : wc.cell? ⟨gb163, 5, none⟩ = some (.slice A162_5 ((rd_T76 l0_1 x24_1).f5).length c162_5) := (blk_cell BK163.out 5).trans rfl
                   have hfz29_0 := blk_frozen BK163.out 0
                   have hfz29_1 := blk_frozen BK163.out 1
                   have hfz29_2 := blk_frozen BK163.out 2
                   have hfz29_3 := blk_frozen BK163.out 3
                   have hfz29_4 := blk_frozen BK163.out 4
                   have hfz29_5 := blk_frozen BK163.out 5
                   go_wp2_with (first | ((with_reducible refine gate_callee (f := 47) rfl ?_); refine goesL_ (some 40) rfl rfl Try.func47 (by kernel_rfl) rfl #[.agg #[.int .i64 ((rd_T76 l0_1 x24_1).f0), .int .i64 ((rd_T76 l0_1 x24_1).f1), .int .i64 ((rd_T76 l0_1 x24_1).f2), .int .i64 ((rd_T76 l0_1 x24_1).f3), .slice A162_4 ((rd_T76 l0_1 x24_1).f4).length c162_4, .slice A162_5 ((rd_T76 l0_1 x24_1).f5).length c162_5], .int .i64 x7_1, .int .i64 a2] rfl (by (try simp only [List.map_toArray, List.map_cons, List.map_nil]); first | done | rfl | (simp only [List.length_drop, List.length_take]; rfl)) ?_; (with_reducible refine (plan_Window_slot.calls kj14 ((rd_T76 l0_1 x24_1).f0) ((rd_T76 l0_1 x24_1).f1) ((rd_T76 l0_1 x24_1).f2) ((rd_T76 l0_1 x24_1).f3) _ _ ((rd_T76 l0_1 x24_1).f4) _ _ ((rd_T76 l0_1 x24_1).f5) x7_1 a2 t164 t165 t166 t167 t168 t169 t170 t171 _ ?side1 ?side2 ?side3 ?side4 A25.out).mono ?_); (case side1 => repeat (first | exact (Kd.C_below HR162_4.out HB.out) | (with_reducible refine Kd.C_alloc ?_ _) | (with_reducible refine Kd.C_drewN ?_ _) | (with_reducible refine Kd.C_drew ?_))); (case side2 => exact HC162_4.out); (case side3 => repeat (first | exact (Kd.C_below HR162_5.out HB.out) | (with_reducible refine Kd.C_alloc ?_ _) | (with_reducible refine Kd.C_drewN ?_ _) | (with_reducible refine Kd.C_drew ?_))); (case side4 => exact HC162_5.out); rintro e w30 ⟨rfl, hb⟩; refine ⟨_, rfl, ?_⟩; have n0_ := Aside0.mk (Kd.R_below (by (with_reducible repeat (first | apply Kd.R_alloc | apply Kd.R_drewN | apply Kd.R_drew)); exact HO_8.out) hb); have n1_ := Aside0.mk (blk_below (g := gb153) (o := .cells #[.int .i64 a0_0, .slice (some ad162) l0_1.length c0_1, .slice A0_2 l0_2.length c0_2] 62 (0, 0)) (by (with_reducible repeat (first | refine blk_drewN ?_ _ | refine blk_drew ?_ | refine blk_alloc ?_ _)); exact BK153.out) hb); have n2_ := Aside0.mk (blk_below (g := gb163) (o := .cells #[.int .i64 ((rd_T76 l0_1 x24_1).f0), .int .i64 ((rd_T76 l0_1 x24_1).f1), .int .i64 ((rd_T76 l0_1 x24_1).f2), .int .i64 ((rd_T76 l0_1 x24_1).f3), .slice A162_4 ((rd_T76 l0_1 x24_1).f4).length c162_4, .slice A162_5 ((rd_T76 l0_1 x24_1).f5).length c162_5] 76 (0, 0)) (by (with_reducible repeat (first | refine blk_drewN ?_ _ | refine blk_drew ?_ | refine blk_alloc ?_ _)); exact BK163.out) hb); have n3_ := Aside0.mk (below_step (by repeat (first | (with_reducible first | exact HB.out | apply below_alloc | apply pw_below_drewN | apply below_drew1 | refine below_set ?_ GE153.out | refine below_set ?_ GE163.out) | exact HB.out)) hb); clear HO_8; clear BK153; clear BK163; clear HB; have HO_8 := n0_; have BK153 := n1_; have BK163 := n2_; have HB := n3_; clear n0_ n1_ n2_ n3_; (try clear hb); (try clear hb2); (try clear hk); (try clear hi)) | ((with_reducible refine gate_builtin (b := .append) (xs := #[.tmp 36, .tmp 41]) rfl ?_); at_builtin; refine Kd.R_append k47 (w0 := w) w.heap.size rfl (.tmp 36) (.tmp 41) 30 47 (.agg #[(.int .i64 0), (.int .i64 0), (.int .i64 0), (.int .i64 0), (.int .i64 0), (.int .i64 0), (.int .i64 0), (.bool false)]) 64 rfl Try.underlying30 info47 rfl (by decide) (by omega) u8 x8_1 (⟨t164, t165, t166, t167, t168, t169, t170, t171⟩ : S47) [.int .i64 t164, .int .i64 t165, .int .i64 t166, .int .i64 t167, .int .i64 t168, .int .i64 t169, .int .i64 t170, .bool t171] (fun _ => True) (fun _ => False) rfl rfl ?aP (fun _ hk => hk.elim) ?aF ?aO ?aB ?aS ?aL ?_; (case aP => exact k47_mkM _ _ _ (⟨t164, t165, t166, t167, t168, t169, t170, t171⟩ : S47)); (case aB => exact (by repeat (first | (with_reducible first | exact HB.out | apply below_alloc | apply pw_below_drewN | apply below_drew1 | refine below_set ?_ GE153.out | refine below_set ?_ GE163.out) | exact HB.out))); (case aF => exact (fun _ _ => trivial)); (case aO => exact (by (with_reducible repeat (first | apply Kd.R_alloc | apply Kd.R_drewN | apply Kd.R_drew)); exact HO_8.out)); (case aS => exact (below_size (by repeat (first | (with_reducible first | exact HB.out | apply below_alloc | apply pw_below_drewN | apply below_drew1 | refine below_set ?_ GE153.out | refine below_set ?_ GE163.out) | exact HB.out)))); (case aL => have := LMc26.out; omega); intro v173 w31 ho hb hg hat; rw [← Ny172.out] at ho; have n0_ := Aside0.mk (blk_grown (g := gb153) (o := .cells #[.int .i64 a0_0, .slice (some ad162) l0_1.length c0_1, .slice A0_2 l0_2.length c0_2] 62 (0, 0)) (by (with_reducible repeat (first | refine blk_drewN ?_ _ | refine blk_drew ?_ | refine blk_alloc ?_ _)); exact BK153.out) hg (Kd.R_ne HO_8.out BK153.out (by decide))); have n1_ := Aside0.mk (blk_grown (g := gb163) (o := .cells #[.int .i64 ((rd_T76 l0_1 x24_1).f0), .int .i64 ((rd_T76 l0_1 x24_1).f1), .int .i64 ((rd_T76 l0_1 x24_1).f2), .int .i64 ((rd_T76 l0_1 x24_1).f3), .slice A162_4 ((rd_T76 l0_1 x24_1).f4).length c162_4, .slice A162_5 ((rd_T76 l0_1 x24_1).f5).length c162_5] 76 (0, 0)) (by (with_reducible repeat (first | refine blk_drewN ?_ _ | refine blk_drew ?_ | refine blk_alloc ?_ _)); exact BK163.out) hg (Kd.R_ne HO_8.out BK163.out (by decide))); have n2_ := Aside0.mk (hb); have n3_ := Aside0.mk (ho); clear BK153; clear BK163; clear HB; clear HO_8; have BK153 := n0_; have BK163 := n1_; have HB := n2_; have HO174 := n3_; clear n0_ n1_ n2_ n3_; clear ho hb hg hat; have hcz32_0 : w31.cell? ⟨gb163, 0, none⟩ = some (.int .i64 ((rd_T76 l0_1 x24_1).f0)) := (blk_cell BK163.out 0).trans rfl; have hcz32_1 : w31.cell? ⟨gb163, 1, none⟩ = some (.int .i64 ((rd_T76 l0_1 x24_1).f1)) := (blk_cell BK163.out 1).trans rfl; have hcz32_2 : w31.cell? ⟨gb163, 2, none⟩ = some (.int .i64 ((rd_T76 l0_1 x24_1).f2)) := (blk_cell BK163.out 2).trans rfl; have hcz32_3 : w31.cell? ⟨gb163, 3, none⟩ = some (.int .i64 ((rd_T76 l0_1 x24_1).f3)) := (blk_cell BK163.out 3).trans rfl; have hcz32_4 : w31.cell? ⟨gb163, 4, none⟩ = some (.slice A162_4 ((rd_T76 l0_1 x24_1).f4).length c162_4) := (blk_cell BK163.out 4).trans rfl; have hcz32_5 : w31.cell? ⟨gb163, 5, none⟩ = some (.slice A162_5 ((rd_T76 l0_1 x24_1).f5).length c162_5) := (blk_cell BK163.out 5).trans rfl; have hfz32_0 := blk_frozen BK163.out 0; have hfz32_1 := blk_frozen BK163.out 1; have hfz32_2 := blk_frozen BK163.out 2; have hfz32_3 := blk_frozen BK163.out 3; have hfz32_4 := blk_frozen BK163.out 4; have hfz32_5 := blk_frozen BK163.out 5) | ((with_reducible refine gate_callee (f := 48) rfl ?_); refine goesL_ (some 45) rfl rfl Try.func48 (by kernel_rfl) rfl #[.agg #[.int .i64 ((rd_T76 l0_1 x24_1).f0), .int .i64 ((rd_T76 l0_1 x24_1).f1), .int .i64 ((rd_T76 l0_1 x24_1).f2), .int .i64 ((rd_T76 l0_1 x24_1).f3), .slice A162_4 ((rd_T76 l0_1 x24_1).f4).length c162_4, .slice A162_5 ((rd_T76 l0_1 x24_1).f5).length c162_5]] rfl (by (try simp only [List.map_toArray, List.map_cons, List.map_nil]); first | done | rfl | (simp only [List.length_drop, List.length_take]; rfl)) ?_; (with_reducible refine (plan_Ticks.calls ((rd_T76 l0_1 x24_1).f0) ((rd_T76 l0_1 x24_1).f1) ((rd_T76 l0_1 x24_1).f2) ((rd_T76 l0_1 x24_1).f3) _ _ ((rd_T76 l0_1 x24_1).f4) _ _ ((rd_T76 l0_1 x24_1).f5) t175 _ ?side1 ?side2 ?side3 ?side4 A27.out).mono ?_); (case side1 => repeat (first | exact (Kd.C_below HR162_4.out HB.out) | (with_reducible refine Kd.C_alloc ?_ _) | (with_reducible refine Kd.C_drewN ?_ _) | (with_reducible refine Kd.C_drew ?_))); (case side2 => exact HC162_4.out); (case side3 => repeat (first | exact (Kd.C_below HR162_5.out HB.out) | (with_reducible refine Kd.C_alloc ?_ _) | (with_reducible refine Kd.C_drewN ?_ _) | (with_reducible refine Kd.C_drew ?_))); (case side4 => exact HC162_5.out); rintro e w33 ⟨rfl, hb⟩; refine ⟨_, rfl, ?_⟩; have n0_ := Aside0.mk (Kd.R_below (by (with_reducible repeat (first | apply Kd.R_alloc | apply Kd.R_drewN | apply Kd.R_drew)); exact HO174.out) hb); have n1_ := Aside0.mk (blk_below (g := gb153) (o := .cells #[.int .i64 a0_0, .slice (some ad162) l0_1.length c0_1, .slice A0_2 l0_2.length c0_2] 62 (0, 0)) (by (with_reducible repeat (first | refine blk_drewN ?_ _ | refine blk_drew ?_ | refine blk_alloc ?_ _)); exact BK153.out) hb); have n2_ := Aside0.mk (blk_below (g := gb163) (o := .cells #[.int .i64 ((rd_T76 l0_1 x24_1).f0), .int .i64 ((rd_T76 l0_1 x24_1).f1), .int .i64 ((rd_T76 l0_1 x24_1).f2), .int .i64 ((rd_T76 l0_1 x24_1).f3), .slice A162_4 ((rd_T76 l0_1 x24_1).f4).length c162_4, .slice A162_5 ((rd_T76 l0_1 x24_1).f5).length c162_5] 76 (0, 0)) (by (with_reducible repeat (first | refine blk_drewN ?_ _ | refine blk_drew ?_ | refine blk_alloc ?_ _)); exact BK163.out) hb); have n3_ := Aside0.mk (below_step (by repeat (first | (with_reducible first | exact HB.out | apply below_alloc | apply pw_below_drewN | apply below_drew1 | refine below_set ?_ GE153.out | refine below_set ?_ GE163.out) | exact HB.out)) hb); clear HO174; clear BK153; clear BK163; clear HB; have HO174 := n0_; have BK153 := n1_; have BK163 := n2_; have HB := n3_; clear n0_ n1_ n2_ n3_; (try clear hb); (try clear hb2); (try clear hk); (try clear hi)))
                   go_roundg kj14
                   case measure => have := HK1.out; have := HJ14.out; omega
                   case rel => exact ⟨(wrap64 (x7_1 + t175)), (y172), (wrap64 (x24_1 + 1)), (by first | rfl | (simp; done) | (simp [*]; done)), (by first | rfl | (simp; done) | (simp [*]; done)), H', ⟨by have := HK1.out; have := HJ14.out; omega⟩, ⟨by (with_reducible repeat (first | apply Kd.R_alloc | apply Kd.R_drewN | apply Kd.R_drew)); exact HO174.out⟩, ⟨by (with_reducible repeat (first | refine blk_drewN ?_ _ | refine blk_drew ?_ | refine blk_alloc ?_ _)); exact BK153.out⟩, ⟨by repeat (first | (with_reducible first | exact HB.out | apply below_alloc | apply pw_below_drewN | apply below_drew1 | refine below_set ?_ GE153.out | refine below_set ?_ GE163.out) | exact HB.out)⟩⟩
                 · rw [if_neg c26] at H
                   exact absurd H (by simp)
           · rw [if_neg c14] at H
             exact absurd H (by simp)
         · rw [if_neg c13] at H
           exact absurd H (by simp)
       · rw [if_neg c12] at H
         have c12b0 : decide (x24_1 < (l0_1.length : Int)) = false := decide_eq_false c12
         clear c12
         by_cases c34 : x8_1.length < 2199023255552
         · rw [if_pos c34] at H
           have LMc34 := Aside0.mk c34
           clear c34
           obtain ⟨y159, hy159⟩ : ∃ y_ : List (S47), y_ = (x8_1 ++ [(⟨4, x7_1, 120, 0, 0, 0, (-1), false⟩ : S47)]) := ⟨_, rfl⟩
           replace H : (some y159) = some r := by first | (rw [hy159]; with_reducible exact H) | (have H2_ := (Option.bind_some _ _).symm.trans H; rw [hy159]; with_reducible exact H2_) | (have H2_ := (Option.bind_some _ _).symm.trans H; with_reducible exact H2_) | with_reducible exact H | (rw [hy159]; exact H) | exact H
           have Ny159 := Aside0.mk hy159
           clear hy159
           obtain rfl := Option.some.inj H
           go_wp2_with (first | ((with_reducible refine gate_builtin (b := .append) (xs := #[.tmp 48, .tmp 51]) rfl ?_); at_builtin; refine Kd.R_append k47 (w0 := w) w.heap.size rfl (.tmp 48) (.tmp 51) 30 47 (.agg #[(.int .i64 0), (.int .i64 0), (.int .i64 0), (.int .i64 0), (.int .i64 0), (.int .i64 0), (.int .i64 0), (.bool false)]) 64 rfl Try.underlying30 info47 rfl (by decide) (by omega) u8 x8_1 (⟨4, x7_1, 120, 0, 0, 0, (-1), false⟩ : S47) [.int .i64 4, .int .i64 x7_1, .int .i64 120, .int .i64 0, .int .i64 0, .int .i64 0, .int .i64 (-1), .bool false] (fun _ => True) (fun _ => False) rfl rfl ?aP (fun _ hk => hk.elim) ?aF ?aO ?aB ?aS ?aL ?_; (case aP => exact k47_mkM _ _ _ (⟨4, x7_1, 120, 0, 0, 0, (-1), false⟩ : S47)); (case aB => exact (by repeat (first | (with_reducible first | exact HB.out | apply below_alloc | apply pw_below_drewN | apply below_drew1 | refine below_set ?_ GE153.out) | exact HB.out))); (case aF => exact (fun _ _ => trivial)); (case aO => exact (by (with_reducible repeat (first | apply Kd.R_alloc | apply Kd.R_drewN | apply Kd.R_drew)); exact HO_8.out)); (case aS => exact (below_size (by repeat (first | (with_reducible first | exact HB.out | apply below_alloc | apply pw_below_drewN | apply below_drew1 | refine below_set ?_ GE153.out) | exact HB.out)))); (case aL => have := LMc34.out; omega); intro v160 w35 ho hb hg hat; rw [← Ny159.out] at ho; have n0_ := Aside0.mk (blk_grown (g := gb153) (o := .cells #[.int .i64 a0_0, .slice A0_1 l0_1.length c0_1, .slice A0_2 l0_2.length c0_2] 62 (0, 0)) (by (with_reducible repeat (first | refine blk_drewN ?_ _ | refine blk_drew ?_ | refine blk_alloc ?_ _)); exact BK153.out) hg (Kd.R_ne HO_8.out BK153.out (by decide))); have n1_ := Aside0.mk (hb); have n2_ := Aside0.mk (ho); clear BK153; clear HB; clear HO_8; have BK153 := n0_; have HB := n1_; have HO161 := n2_; clear n0_ n1_ n2_; clear ho hb hg hat))
           go_ret
           exact ⟨_, by first | rfl | (simp [errW_none, errW_some] <;> rfl) | (simp [*, errW_none, errW_some] <;> rfl), by (with_reducible repeat (first | apply Kd.R_alloc | apply Kd.R_drewN | apply Kd.R_drew)); exact HO161.out, by repeat (first | (with_reducible first | exact HB.out | apply below_alloc | apply pw_below_drewN | apply below_drew1 | refine below_set ?_ GE153.out) | exact HB.out)⟩
         · rw [if_neg c34] at H
           exact absurd H (by simp)
   · rw [if_neg c7] at H
     have c7b0 : (a1 == 0) = false := beq_eq_false_iff_ne.mpr c7
     by_cases c36 : a1 = 1
     · subst c36
       have H1 : (plan_View.l100 k a2 t155 y156 l0_2 (l0_2.length : Int) 0) = some r := by rw [if_pos rfl] at H; exact H
       clear H
       have H := H1
       clear H1
       have H' := Aside0.mk H
       clear H
       go_enter Try.func27, Try.ntmps27
       go_wp2_with (first | ((with_reducible refine gate_dst (N := 3) rfl ?_); refine box_event ?hg (N := 3) ?hd (cs := #[.int .i64 a0_0, .slice A0_1 l0_1.length c0_1, .slice A0_2 l0_2.length c0_2]) (t := 62) ?hr ?_; (case hd => rfl); (case hg => rfl); (case hr => first | (go_simp; done) | (go_simp; rfl)); intro gb153 hg w37 hbox hb; have n0_ := Aside0.mk (below_step (by repeat (first | (with_reducible first | exact HB.out | apply below_alloc | apply pw_below_drewN | apply below_drew1) | exact HB.out)) hb); have n1_ := Aside0.mk (hbox); have n2_ := Aside0.mk ((by rw [hg]; exact (below_size (by repeat (first | (with_reducible first | exact HB.out | apply below_alloc | apply pw_below_drewN | apply below_drew1) | exact HB.out))) : w.heap.size ≤ gb153)); have n3_ := Aside0.mk ((by rw [hg]; exact (below_size (by repeat (first | (with_reducible first | exact HB.out | apply below_alloc | apply pw_below_drewN | apply below_drew1) | exact HB.out))) : w.heap.size ≤ gb153)); clear HB; have HB := n0_; have BK153 := n1_; have GW153 := n2_; have GE153 := n3_; clear n0_ n1_ n2_ n3_; clear hb hbox hg) | ((with_reducible refine gate_callee (f := 45) rfl ?_); refine goesL_ (some 12) rfl rfl Try.func45 (by kernel_rfl) rfl #[.int .i64 1] rfl (by (try simp only [List.map_toArray, List.map_cons, List.map_nil]); first | done | rfl | (simp only [List.length_drop, List.length_take]; rfl)) ?_; (with_reducible refine (plan_is.calls 1 true _ A4.out).mono ?_); rintro e w' ⟨rfl, ⟨nd, rfl⟩⟩; refine ⟨_, rfl, ?_⟩) | ((with_reducible refine gate_callee (f := 46) rfl ?_); refine goesL_ (some 15) rfl rfl Try.func46 (by kernel_rfl) rfl #[.int .i64 1] rfl (by (try simp only [List.map_toArray, List.map_cons, List.map_nil]); first | done | rfl | (simp only [List.length_drop, List.length_take]; rfl)) ?_; (with_reducible refine (plan_start.calls 1 t155 _ A6.out).mono ?_); rintro e w' ⟨rfl, ⟨nd, rfl⟩⟩; refine ⟨_, rfl, ?_⟩) | ((with_reducible refine gate_dst (N := 18) rfl ?_); refine Kd.R_lit k47 _ 47 ?hg (N := 18) ?hd (xs := ([(⟨3, 0, t155, 0, 0, 0, (-1), false⟩ : S47)] : List (S47))) (inner := [.int .i64 3, .int .i64 0, .int .i64 t155, .int .i64 0, .int .i64 0, .int .i64 0, .int .i64 (-1), .bool false]) (ok := fun _ => True) (okp := fun _ => True) ?hr ?hp (fun _ hk => hk) trivial (Below.refl _ _) (Nat.le_refl _) (by simp) ?_; (case hd => rfl); (case hg => rfl); (case hr => first | (go_simp; done) | (go_simp; rfl)); (case hp => exact (Reps.c8 (show Kd.M k47 _ _ _ (⟨3, 0, t155, 0, 0, 0, (-1), false⟩ : S47) [.int .i64 3, .int .i64 0, .int .i64 t155, .int .i64 0, .int .i64 0, .int .i64 0, .int .i64 (-1), .bool false] from (k47_mkM _ _ _ (⟨3, 0, t155, 0, 0, 0, (-1), false⟩ : S47) )) (Reps.none _ _))); intro v157 w38 ho39 hb hg_ hnew_; clear hg_ hnew_; (first | rw [← Ny156.out] at ho39 | (simp only [Int.reduceToNat] at ho39; rw [← Ny156.out] at ho39)); have n0_ := Aside0.mk (Kd.R_lower ho39 (below_size (by repeat (first | (with_reducible first | exact HB.out | apply below_alloc | apply pw_below_drewN | apply below_drew1 | refine below_set ?_ GE153.out) | exact HB.out)))); have n1_ := Aside0.mk (blk_below (g := gb153) (o := .cells #[.int .i64 a0_0, .slice A0_1 l0_1.length c0_1, .slice A0_2 l0_2.length c0_2] 62 (0, 0)) (by (with_reducible repeat (first | refine blk_drewN ?_ _ | refine blk_drew ?_ | refine blk_alloc ?_ _)); exact BK153.out) hb); have n2_ := Aside0.mk (below_step (by repeat (first | (with_reducible first | exact HB.out | apply below_alloc | apply pw_below_drewN | apply below_drew1 | refine below_set ?_ GE153.out) | exact HB.out)) hb); clear BK153; clear HB; have HO158 := n0_; have BK153 := n1_; have HB := n2_; clear n0_ n1_ n2_; clear hb ho39; have hcz40_0 : w38.cell? ⟨gb153, 0, none⟩ = some (.int .i64 a0_0) := (blk_cell BK153.out 0).trans rfl; have hcz40_1 : w38.cell? ⟨gb153, 1, none⟩ = some (.slice A0_1 l0_1.length c0_1) := (blk_cell BK153.out 1).trans rfl; have hcz40_2 : w38.cell? ⟨gb153, 2, none⟩ = some (.slice A0_2 l0_2.length c0_2) := (blk_cell BK153.out 2).trans rfl; have hfz40_0 := blk_frozen BK153.out 0; have hfz40_1 := blk_frozen BK153.out 1; have hfz40_2 := blk_frozen BK153.out 2))
       go_loopg [7, 8, 24] k (fun kq v7 v8 v24 w' => ∃ (x7_1 : Int) (x8_1 : List (S47)) (x24_1 : Int), v7 = .int .i64 x7_1 ∧ v24 = .int .i64 x24_1 ∧ Aside0 (plan_View.l100 kq a2 x7_1 x8_1 l0_2 (l0_2.length : Int) x24_1 = some r) ∧ Aside0 (kq ≤ k) ∧ Aside0 (Kd.R k47 47 w' w.heap.size (fun _ => True) v8 x8_1) ∧ Aside0 (w'.heap[gb153]? = some (.cells #[.int .i64 a0_0, (.slice A0_1 l0_1.length c0_1), (.slice A0_2 l0_2.length c0_2)] 62 (0, 0))) ∧ Aside0 (Below w.heap.size w w'))
       case atStart => exact ⟨(t155), (y156), (0), (by first | rfl | (simp; done) | (simp [*]; done)), (by first | rfl | (simp; done) | (simp [*]; done)), H', ⟨Nat.le_refl _⟩, ⟨by (with_reducible repeat (first | apply Kd.R_alloc | apply Kd.R_drewN | apply Kd.R_drew)); exact HO158.out⟩, ⟨by (with_reducible repeat (first | refine blk_drewN ?_ _ | refine blk_drew ?_ | refine blk_alloc ?_ _)); exact BK153.out⟩, ⟨by repeat (first | (with_reducible first | exact HB.out | apply below_alloc | apply pw_below_drewN | apply below_drew1 | refine below_set ?_ GE153.out) | exact HB.out)⟩⟩
       case round =>
        clear H'
        try clear c1
        try clear p1
        try clear q1
        try clear hx1
        try clear c2
        try clear p2
        try clear c3
        try clear c4
        try clear c5
        try clear p6
        try clear c7
        try clear c7b0
        try clear c8
        try clear c12
        try clear c12b0
        try clear c13
        try clear c13b0
        try clear c14
        try clear c14b0
        try clear c16
        try clear p16
        try clear q16
        try clear hx16
        try clear c17
        try clear c19
        try clear c19b0
        try clear c20
        try clear c22
        try clear c24
        try clear c26
        try clear c27
        try clear c28
        try clear c34
        try clear c36
        try clear hcz11_0
        try clear hcz11_1
        try clear hcz11_2
        try clear hcz18_0
        try clear hcz18_1
        try clear hcz18_2
        try clear hcz18_3
        try clear hcz18_4
        try clear hcz18_5
        try clear hcz21_0
        try clear hcz21_1
        try clear hcz21_2
        try clear hcz21_3
        try clear hcz21_4
        try clear hcz21_5
        try clear hcz23_0
        try clear hcz23_1
        try clear hcz23_2
        try clear hcz23_3
        try clear hcz23_4
        try clear hcz23_5
        try clear hcz29_0
        try clear hcz29_1
        try clear hcz29_2
        try clear hcz29_3
        try clear hcz29_4
        try clear hcz29_5
        try clear hcz32_0
        try clear hcz32_1
        try clear hcz32_2
        try clear hcz32_3
        try clear hcz32_4
        try clear hcz32_5
        try clear hcz40_0
        try clear hcz40_1
        try clear hcz40_2
        try clear hfz11_0
        try clear hfz11_1
        try clear hfz11_2
        try clear hfz18_0
        try clear hfz18_1
        try clear hfz18_2
        try clear hfz18_3
        try clear hfz18_4
        try clear hfz18_5
        try clear hfz21_0
        try clear hfz21_1
        try clear hfz21_2
        try clear hfz21_3
        try clear hfz21_4
        try clear hfz21_5
        try clear hfz23_0
        try clear hfz23_1
        try clear hfz23_2
        try clear hfz23_3
        try clear hfz23_4
        try clear hfz23_5
        try clear hfz29_0
        try clear hfz29_1
        try clear hfz29_2
        try clear hfz29_3
        try clear hfz29_4
        try clear hfz29_5
        try clear hfz32_0
        try clear hfz32_1
        try clear hfz32_2
        try clear hfz32_3
        try clear hfz32_4
        try clear hfz32_5
        try clear hfz40_0
        try clear hfz40_1
        try clear hfz40_2
        try clear hx162_0
        try clear hx162_1
        try clear hx162_2
        try clear hx162_3
        try clear hx162_4
        try clear hx162_5
        try clear p1
        try clear p16
        try clear p162
        try clear p2
        try clear q1
        try clear q16
        try clear q162
        obtain ⟨x7_1, x8_1, x24_1, rfl, rfl, HA, HK1, HO_8, BK153, HB⟩ := hrel
        cases gk with
        | zero => exact absurd HA.out (by simp [plan_View.l100])
        | succ k1 =>
         have H := HA.out
         clear HA
         simp only [plan_View.l100] at H
         by_cases c41 : x24_1 < (l0_2.length : Int)
         · rw [if_pos c41] at H
           have c41b0 : decide (x24_1 < (l0_2.length : Int)) = true := decide_eq_true c41
           clear c41
           by_cases c42 : 0 ≤ x24_1
           · rw [if_pos c42] at H
             have c42b0 : decide (0 ≤ x24_1) = true := decide_eq_true c42
             clear c42
             by_cases c43 : x24_1 < (l0_2.length : Int)
             · rw [if_pos c43] at H
               have c43b0 : decide (x24_1 < (l0_2.length : Int)) = true := decide_eq_true c43
               clear c43
               have HC44 := Aside0.mk H
               clear H
               have p179 : 0 ≤ (x24_1 : Int) := of_decide_eq_true (by first | (with_reducible assumption) | assumption)
               have q179 : x24_1 < (l0_2.length : Int) := of_decide_eq_true (by first | (with_reducible assumption) | assumption)
               obtain ⟨ad179, A179_4, c179_4, A179_5, c179_5, e179, hx179_0, hx179_1, hx179_2, hx179_3, hx179_4, hx179_5, hl179_4, hi179_4, hl179_5, hi179_5⟩ := at_T76 HR0_2.out x24_1 p179 q179
               cases e179
               replace hx179_0 := (HB.out.cell (World.block_lt_of_cell? w _ hx179_0)).trans hx179_0
               replace hx179_1 := (HB.out.cell (World.block_lt_of_cell? w _ hx179_1)).trans hx179_1
               replace hx179_2 := (HB.out.cell (World.block_lt_of_cell? w _ hx179_2)).trans hx179_2
               replace hx179_3 := (HB.out.cell (World.block_lt_of_cell? w _ hx179_3)).trans hx179_3
               replace hx179_4 := (HB.out.cell (World.block_lt_of_cell? w _ hx179_4)).trans hx179_4
               replace hx179_5 := (HB.out.cell (World.block_lt_of_cell? w _ hx179_5)).trans hx179_5
               have HR179_4 := Aside0.mk hi179_4
               have HC179_4 := Aside0.mk hl179_4
               clear hi179_4 hl179_4
               have HR179_5 := Aside0.mk hi179_5
               have HC179_5 := Aside0.mk hl179_5
               clear hi179_5 hl179_5
               replace p179 := eq_true p179
               replace q179 := eq_true q179
               go_upto_region 8 with (first | ((with_reducible refine gate_dst (N := 10) rfl ?_); refine box_event ?hg (N := 10) ?hd (cs := #[.int .i64 0, .int .i64 0, .int .i64 0, .int .i64 0, .slice none 0 0, .slice none 0 0]) (t := 76) ?hr ?_; (case hd => rfl); (case hg => rfl); (case hr => first | (go_simp; done) | (go_simp; rfl)); intro gb180 hg w45 hbox hb; have n0_ := Aside0.mk (Kd.R_below (by (with_reducible repeat (first | apply Kd.R_alloc | apply Kd.R_drewN | apply Kd.R_drew)); exact HO_8.out) hb); have n1_ := Aside0.mk (blk_below (g := gb153) (o := .cells #[.int .i64 a0_0, .slice A0_1 l0_1.length c0_1, .slice (some ad179) l0_2.length c0_2] 62 (0, 0)) (by (with_reducible repeat (first | refine blk_drewN ?_ _ | refine blk_drew ?_ | refine blk_alloc ?_ _)); exact BK153.out) hb); have n2_ := Aside0.mk (below_step (by repeat (first | (with_reducible first | exact HB.out | apply below_alloc | apply pw_below_drewN | apply below_drew1 | refine below_set ?_ GE153.out) | exact HB.out)) hb); have n3_ := Aside0.mk (hbox); have n4_ := Aside0.mk ((by rw [hg]; exact (below_size (by repeat (first | (with_reducible first | exact HB.out | apply below_alloc | apply pw_below_drewN | apply below_drew1 | refine below_set ?_ GE153.out) | exact HB.out))) : w.heap.size ≤ gb180)); have n5_ := Aside0.mk ((by rw [hg]; exact (below_size (by repeat (first | (with_reducible first | exact HB.out | apply below_alloc | apply pw_below_drewN | apply below_drew1 | refine below_set ?_ GE153.out) | exact HB.out))) : w.heap.size ≤ gb180)); have n6_ := Aside0.mk ((by rw [hg]; exact Nat.ne_of_lt (blk_lt (g := gb153) (o := .cells #[.int .i64 a0_0, .slice A0_1 l0_1.length c0_1, .slice (some ad179) l0_2.length c0_2] 62 (0, 0)) (by (with_reducible repeat (first | refine blk_drewN ?_ _ | refine blk_drew ?_ | refine blk_alloc ?_ _)); exact BK153.out)) : gb153 ≠ gb180)); have n7_ := Aside0.mk ((by rw [hg]; exact Nat.ne_of_gt (blk_lt (g := gb153) (o := .cells #[.int .i64 a0_0, .slice A0_1 l0_1.length c0_1, .slice (some ad179) l0_2.length c0_2] 62 (0, 0)) (by (with_reducible repeat (first | refine blk_drewN ?_ _ | refine blk_drew ?_ | refine blk_alloc ?_ _)); exact BK153.out)) : gb180 ≠ gb153)); clear HO_8; clear BK153; clear HB; have HO_8 := n0_; have BK153 := n1_; have HB := n2_; have BK180 := n3_; have GW180 := n4_; have GE180 := n5_; have NB153_180 := n6_; have NB180_153 := n7_; clear n0_ n1_ n2_ n3_ n4_ n5_ n6_ n7_; clear hb hbox hg; have hnb46 := NB180_153.out; have hnc46 := NB153_180.out; have hcz47_0 : w45.cell? ⟨gb180, 0, none⟩ = some (.int .i64 0) := (blk_cell BK180.out 0).trans rfl; have hcz47_1 : w45.cell? ⟨gb180, 1, none⟩ = some (.int .i64 0) := (blk_cell BK180.out 1).trans rfl; have hcz47_2 : w45.cell? ⟨gb180, 2, none⟩ = some (.int .i64 0) := (blk_cell BK180.out 2).trans rfl; have hcz47_3 : w45.cell? ⟨gb180, 3, none⟩ = some (.int .i64 0) := (blk_cell BK180.out 3).trans rfl; have hcz47_4 : w45.cell? ⟨gb180, 4, none⟩ = some (.slice none 0 0) := (blk_cell BK180.out 4).trans rfl; have hcz47_5 : w45.cell? ⟨gb180, 5, none⟩ = some (.slice none 0 0) := (blk_cell BK180.out 5).trans rfl; have hfz47_0 := blk_frozen BK180.out 0; have hfz47_1 := blk_frozen BK180.out 1; have hfz47_2 := blk_frozen BK180.out 2; have hfz47_3 := blk_frozen BK180.out 3; have hfz47_4 := blk_frozen BK180.out 4; have hfz47_5 := blk_frozen BK180.out 5))
               (try simp only [Act.put, List.setIfInBounds_toArray, List.set_cons_zero, List.set_cons_succ])
               go_cut [35] (fun v35 wc => ∃ (kq : Nat) (x35_43 : Bool), v35 = .bool x35_43 ∧ Aside0 (plan_View.j3 kq a2 x7_1 x8_1 l0_2 (l0_2.length : Int) x24_1 x35_43 ((rd_T76 l0_2 x24_1).f0) ((rd_T76 l0_2 x24_1).f1) ((rd_T76 l0_2 x24_1).f2) ((rd_T76 l0_2 x24_1).f3) ((rd_T76 l0_2 x24_1).f4) ((rd_T76 l0_2 x24_1).f5) = some r) ∧ Aside0 (kq ≤ k1) ∧ Aside0 (Kd.R k47 47 wc w.heap.size (fun _ => True) u8 x8_1) ∧ Aside0 (wc.heap[gb153]? = some (.cells #[.int .i64 a0_0, (.slice A0_1 l0_1.length c0_1), (.slice (some ad179) l0_2.length c0_2)] 62 (0, 0))) ∧ Aside0 (wc.heap[gb180]? = some (.cells #[.int .i64 ((rd_T76 l0_2 x24_1).f0), .int .i64 ((rd_T76 l0_2 x24_1).f1), .int .i64 ((rd_T76 l0_2 x24_1).f2), .int .i64 ((rd_T76 l0_2 x24_1).f3), (.slice A179_4 ((rd_T76 l0_2 x24_1).f4).length c179_4), (.slice A179_5 ((rd_T76 l0_2 x24_1).f5).length c179_5)] 76 (0, 0))) ∧ Aside0 (Below w.heap.size w wc))
               case first =>
                have H := HC44.out
                clear HC44
                by_cases c48 : ((rd_T76 l0_2 x24_1).f0) < 0
                · rw [if_pos c48] at H
                  have c48b0 : decide (((rd_T76 l0_2 x24_1).f0) < 0) = true := decide_eq_true c48
                  clear c48
                  (first | rw [c48b0] | (simp only [i64_w, i32_w]; rw [c48b0]) | skip)
                  have H' := Aside0.mk H
                  clear H
                  have hnb49 := NB180_153.out
                  have hnc49 := NB153_180.out
                  have hcz50_0 : w45.cell? ⟨gb180, 0, none⟩ = some (.int .i64 0) := (blk_cell BK180.out 0).trans rfl
                  have hcz50_1 : w45.cell? ⟨gb180, 1, none⟩ = some (.int .i64 0) := (blk_cell BK180.out 1).trans rfl
                  have hcz50_2 : w45.cell? ⟨gb180, 2, none⟩ = some (.int .i64 0) := (blk_cell BK180.out 2).trans rfl
                  have hcz50_3 : w45.cell? ⟨gb180, 3, none⟩ = some (.int .i64 0) := (blk_cell BK180.out 3).trans rfl
                  have hcz50_4 : w45.cell? ⟨gb180, 4, none⟩ = some (.slice none 0 0) := (blk_cell BK180.out 4).trans rfl
                  have hcz50_5 : w45.cell? ⟨gb180, 5, none⟩ = some (.slice none 0 0) := (blk_cell BK180.out 5).trans rfl
                  have hfz50_0 := blk_frozen BK180.out 0
                  have hfz50_1 := blk_frozen BK180.out 1
                  have hfz50_2 := blk_frozen BK180.out 2
                  have hfz50_3 := blk_frozen BK180.out 3
                  have hfz50_4 := blk_frozen BK180.out 4
                  have hfz50_5 := blk_frozen BK180.out 5
                  go_wp2
                  go_meet
                  case rel => exact ⟨_, (true), (by first | rfl | (simp; done) | (simp [*]; done)), H', ⟨by have := HK1.out; first | omega | exact Nat.le_refl _⟩, ⟨by (with_reducible repeat (first | apply Kd.R_alloc | apply Kd.R_drewN | apply Kd.R_drew)); exact Kd.R_mono (Kd.R_far (p := ⟨gb180, 5, none⟩) (Kd.R_far (p := ⟨gb180, 4, none⟩) (Kd.R_far (p := ⟨gb180, 3, none⟩) (Kd.R_far (p := ⟨gb180, 2, none⟩) (Kd.R_far (p := ⟨gb180, 1, none⟩) (Kd.R_far (p := ⟨gb180, 0, none⟩) (Kd.R_types HO_8.out BK180.out (by decide)) (fun _ hk => hk.2) (.int .i64 ((rd_T76 l0_2 x24_1).f0))) (fun _ hk => hk.2) (.int .i64 ((rd_T76 l0_2 x24_1).f1))) (fun _ hk => hk.2) (.int .i64 ((rd_T76 l0_2 x24_1).f2))) (fun _ hk => hk.2) (.int .i64 ((rd_T76 l0_2 x24_1).f3))) (fun _ hk => hk.2) (.slice A179_4 ((rd_T76 l0_2 x24_1).f4).length c179_4)) (fun _ hk => hk.2) (.slice A179_5 ((rd_T76 l0_2 x24_1).f5).length c179_5)) (fun _ hk => trivial)⟩, ⟨by (with_reducible repeat (first | refine blk_drewN ?_ _ | refine blk_drew ?_ | refine blk_alloc ?_ _)); refine blk_far ?_ NB153_180.out _; (with_reducible repeat (first | refine blk_drewN ?_ _ | refine blk_drew ?_ | refine blk_alloc ?_ _)); refine blk_far ?_ NB153_180.out _; (with_reducible repeat (first | refine blk_drewN ?_ _ | refine blk_drew ?_ | refine blk_alloc ?_ _)); refine blk_far ?_ NB153_180.out _; (with_reducible repeat (first | refine blk_drewN ?_ _ | refine blk_drew ?_ | refine blk_alloc ?_ _)); refine blk_far ?_ NB153_180.out _; (with_reducible repeat (first | refine blk_drewN ?_ _ | refine blk_drew ?_ | refine blk_alloc ?_ _)); refine blk_far ?_ NB153_180.out _; (with_reducible repeat (first | refine blk_drewN ?_ _ | refine blk_drew ?_ | refine blk_alloc ?_ _)); refine blk_far ?_ NB153_180.out _; (with_reducible repeat (first | refine blk_drewN ?_ _ | refine blk_drew ?_ | refine blk_alloc ?_ _)); exact BK153.out⟩, ⟨by (with_reducible repeat (first | refine blk_drewN ?_ _ | refine blk_drew ?_ | refine blk_alloc ?_ _)); refine blk_put (cs := #[.int .i64 ((rd_T76 l0_2 x24_1).f0), .int .i64 ((rd_T76 l0_2 x24_1).f1), .int .i64 ((rd_T76 l0_2 x24_1).f2), .int .i64 ((rd_T76 l0_2 x24_1).f3), .slice A179_4 ((rd_T76 l0_2 x24_1).f4).length c179_4, .slice none 0 0]) ?_ 5 _ rfl; (with_reducible repeat (first | refine blk_drewN ?_ _ | refine blk_drew ?_ | refine blk_alloc ?_ _)); refine blk_put (cs := #[.int .i64 ((rd_T76 l0_2 x24_1).f0), .int .i64 ((rd_T76 l0_2 x24_1).f1), .int .i64 ((rd_T76 l0_2 x24_1).f2), .int .i64 ((rd_T76 l0_2 x24_1).f3), .slice none 0 0, .slice none 0 0]) ?_ 4 _ rfl; (with_reducible repeat (first | refine blk_drewN ?_ _ | refine blk_drew ?_ | refine blk_alloc ?_ _)); refine blk_put (cs := #[.int .i64 ((rd_T76 l0_2 x24_1).f0), .int .i64 ((rd_T76 l0_2 x24_1).f1), .int .i64 ((rd_T76 l0_2 x24_1).f2), .int .i64 0, .slice none 0 0, .slice none 0 0]) ?_ 3 _ rfl; (with_reducible repeat (first | refine blk_drewN ?_ _ | refine blk_drew ?_ | refine blk_alloc ?_ _)); refine blk_put (cs := #[.int .i64 ((rd_T76 l0_2 x24_1).f0), .int .i64 ((rd_T76 l0_2 x24_1).f1), .int .i64 0, .int .i64 0, .slice none 0 0, .slice none 0 0]) ?_ 2 _ rfl; (with_reducible repeat (first | refine blk_drewN ?_ _ | refine blk_drew ?_ | refine blk_alloc ?_ _)); refine blk_put (cs := #[.int .i64 ((rd_T76 l0_2 x24_1).f0), .int .i64 0, .int .i64 0, .int .i64 0, .slice none 0 0, .slice none 0 0]) ?_ 1 _ rfl; (with_reducible repeat (first | refine blk_drewN ?_ _ | refine blk_drew ?_ | refine blk_alloc ?_ _)); refine blk_put (cs := #[.int .i64 0, .int .i64 0, .int .i64 0, .int .i64 0, .slice none 0 0, .slice none 0 0]) ?_ 0 _ rfl; (with_reducible repeat (first | refine blk_drewN ?_ _ | refine blk_drew ?_ | refine blk_alloc ?_ _)); exact BK180.out⟩, ⟨by repeat (first | (with_reducible first | exact HB.out | apply below_alloc | apply pw_below_drewN | apply below_drew1 | refine below_set ?_ GE153.out | refine below_set ?_ GE180.out) | exact HB.out)⟩⟩
                · rw [if_neg c48] at H
                  have c48b0 : decide (((rd_T76 l0_2 x24_1).f0) < 0) = false := decide_eq_false c48
                  clear c48
                  (first | rw [c48b0] | (simp only [i64_w, i32_w]; rw [c48b0]) | skip)
                  have H' := Aside0.mk H
                  clear H
                  have hnb51 := NB180_153.out
                  have hnc51 := NB153_180.out
                  have hcz52_0 : w45.cell? ⟨gb180, 0, none⟩ = some (.int .i64 0) := (blk_cell BK180.out 0).trans rfl
                  have hcz52_1 : w45.cell? ⟨gb180, 1, none⟩ = some (.int .i64 0) := (blk_cell BK180.out 1).trans rfl
                  have hcz52_2 : w45.cell? ⟨gb180, 2, none⟩ = some (.int .i64 0) := (blk_cell BK180.out 2).trans rfl
                  have hcz52_3 : w45.cell? ⟨gb180, 3, none⟩ = some (.int .i64 0) := (blk_cell BK180.out 3).trans rfl
                  have hcz52_4 : w45.cell? ⟨gb180, 4, none⟩ = some (.slice none 0 0) := (blk_cell BK180.out 4).trans rfl
                  have hcz52_5 : w45.cell? ⟨gb180, 5, none⟩ = some (.slice none 0 0) := (blk_cell BK180.out 5).trans rfl
                  have hfz52_0 := blk_frozen BK180.out 0
                  have hfz52_1 := blk_frozen BK180.out 1
                  have hfz52_2 := blk_frozen BK180.out 2
                  have hfz52_3 := blk_frozen BK180.out 3
                  have hfz52_4 := blk_frozen BK180.out 4
                  have hfz52_5 := blk_frozen BK180.out 5
                  go_wp2
                  go_meet
                  case rel => exact ⟨_, (decide (((rd_T76 l0_2 x24_1).f0) > 2)), (by first | rfl | (simp; done) | (simp [*]; done)), H', ⟨by have := HK1.out; first | omega | exact Nat.le_refl _⟩, ⟨by (with_reducible repeat (first | apply Kd.R_alloc | apply Kd.R_drewN | apply Kd.R_drew)); exact Kd.R_mono (Kd.R_far (p := ⟨gb180, 5, none⟩) (Kd.R_far (p := ⟨gb180, 4, none⟩) (Kd.R_far (p := ⟨gb180, 3, none⟩) (Kd.R_far (p := ⟨gb180, 2, none⟩) (Kd.R_far (p := ⟨gb180, 1, none⟩) (Kd.R_far (p := ⟨gb180, 0, none⟩) (Kd.R_types HO_8.out BK180.out (by decide)) (fun _ hk => hk.2) (.int .i64 ((rd_T76 l0_2 x24_1).f0))) (fun _ hk => hk.2) (.int .i64 ((rd_T76 l0_2 x24_1).f1))) (fun _ hk => hk.2) (.int .i64 ((rd_T76 l0_2 x24_1).f2))) (fun _ hk => hk.2) (.int .i64 ((rd_T76 l0_2 x24_1).f3))) (fun _ hk => hk.2) (.slice A179_4 ((rd_T76 l0_2 x24_1).f4).length c179_4)) (fun _ hk => hk.2) (.slice A179_5 ((rd_T76 l0_2 x24_1).f5).length c179_5)) (fun _ hk => trivial)⟩, ⟨by (with_reducible repeat (first | refine blk_drewN ?_ _ | refine blk_drew ?_ | refine blk_alloc ?_ _)); refine blk_far ?_ NB153_180.out _; (with_reducible repeat (first | refine blk_drewN ?_ _ | refine blk_drew ?_ | refine blk_alloc ?_ _)); refine blk_far ?_ NB153_180.out _; (with_reducible repeat (first | refine blk_drewN ?_ _ | refine blk_drew ?_ | refine blk_alloc ?_ _)); refine blk_far ?_ NB153_180.out _; (with_reducible repeat (first | refine blk_drewN ?_ _ | refine blk_drew ?_ | refine blk_alloc ?_ _)); refine blk_far ?_ NB153_180.out _; (with_reducible repeat (first | refine blk_drewN ?_ _ | refine blk_drew ?_ | refine blk_alloc ?_ _)); refine blk_far ?_ NB153_180.out _; (with_reducible repeat (first | refine blk_drewN ?_ _ | refine blk_drew ?_ | refine blk_alloc ?_ _)); refine blk_far ?_ NB153_180.out _; (with_reducible repeat (first | refine blk_drewN ?_ _ | refine blk_drew ?_ | refine blk_alloc ?_ _)); exact BK153.out⟩, ⟨by (with_reducible repeat (first | refine blk_drewN ?_ _ | refine blk_drew ?_ | refine blk_alloc ?_ _)); refine blk_put (cs := #[.int .i64 ((rd_T76 l0_2 x24_1).f0), .int .i64 ((rd_T76 l0_2 x24_1).f1), .int .i64 ((rd_T76 l0_2 x24_1).f2), .int .i64 ((rd_T76 l0_2 x24_1).f3), .slice A179_4 ((rd_T76 l0_2 x24_1).f4).length c179_4, .slice none 0 0]) ?_ 5 _ rfl; (with_reducible repeat (first | refine blk_drewN ?_ _ | refine blk_drew ?_ | refine blk_alloc ?_ _)); refine blk_put (cs := #[.int .i64 ((rd_T76 l0_2 x24_1).f0), .int .i64 ((rd_T76 l0_2 x24_1).f1), .int .i64 ((rd_T76 l0_2 x24_1).f2), .int .i64 ((rd_T76 l0_2 x24_1).f3), .slice none 0 0, .slice none 0 0]) ?_ 4 _ rfl; (with_reducible repeat (first | refine blk_drewN ?_ _ | refine blk_drew ?_ | refine blk_alloc ?_ _)); refine blk_put (cs := #[.int .i64 ((rd_T76 l0_2 x24_1).f0), .int .i64 ((rd_T76 l0_2 x24_1).f1), .int .i64 ((rd_T76 l0_2 x24_1).f2), .int .i64 0, .slice none 0 0, .slice none 0 0]) ?_ 3 _ rfl; (with_reducible repeat (first | refine blk_drewN ?_ _ | refine blk_drew ?_ | refine blk_alloc ?_ _)); refine blk_put (cs := #[.int .i64 ((rd_T76 l0_2 x24_1).f0), .int .i64 ((rd_T76 l0_2 x24_1).f1), .int .i64 0, .int .i64 0, .slice none 0 0, .slice none 0 0]) ?_ 2 _ rfl; (with_reducible repeat (first | refine blk_drewN ?_ _ | refine blk_drew ?_ | refine blk_alloc ?_ _)); refine blk_put (cs := #[.int .i64 ((rd_T76 l0_2 x24_1).f0), .int .i64 0, .int .i64 0, .int .i64 0, .slice none 0 0, .slice none 0 0]) ?_ 1 _ rfl; (with_reducible repeat (first | refine blk_drewN ?_ _ | refine blk_drew ?_ | refine blk_alloc ?_ _)); refine blk_put (cs := #[.int .i64 0, .int .i64 0, .int .i64 0, .int .i64 0, .slice none 0 0, .slice none 0 0]) ?_ 0 _ rfl; (with_reducible repeat (first | refine blk_drewN ?_ _ | refine blk_drew ?_ | refine blk_alloc ?_ _)); exact BK180.out⟩, ⟨by repeat (first | (with_reducible first | exact HB.out | apply below_alloc | apply pw_below_drewN | apply below_drew1 | refine below_set ?_ GE153.out | refine below_set ?_ GE180.out) | exact HB.out)⟩⟩
               case rest =>
                clear HC44
                try clear c1
                try clear p1
                try clear q1
                try clear hx1
                try clear c2
                try clear p2
                try clear c3
                try clear c4
                try clear c5
                try clear p6
                try clear c7
                try clear c7b0
                try clear c8
                try clear c12
                try clear c12b0
                try clear c13
                try clear c13b0
                try clear c14
                try clear c14b0
                try clear c16
                try clear p16
                try clear q16
                try clear hx16
                try clear c17
                try clear p17
                try clear q17
                try clear hx17
                try clear c19
                try clear c19b0
                try clear c20
                try clear c22
                try clear c24
                try clear c26
                try clear c27
                try clear c28
                try clear c34
                try clear c36
                try clear c41
                try clear c41b0
                try clear c42
                try clear c42b0
                try clear c43
                try clear c43b0
                try clear c45
                try clear c46
                try clear c47
                try clear c48
                try clear c48b0
                try clear c49
                try clear c51
                try clear hcz11_0
                try clear hcz11_1
                try clear hcz11_2
                try clear hcz18_0
                try clear hcz18_1
                try clear hcz18_2
                try clear hcz18_3
                try clear hcz18_4
                try clear hcz18_5
                try clear hcz21_0
                try clear hcz21_1
                try clear hcz21_2
                try clear hcz21_3
                try clear hcz21_4
                try clear hcz21_5
                try clear hcz23_0
                try clear hcz23_1
                try clear hcz23_2
                try clear hcz23_3
                try clear hcz23_4
                try clear hcz23_5
                try clear hcz29_0
                try clear hcz29_1
                try clear hcz29_2
                try clear hcz29_3
                try clear hcz29_4
                try clear hcz29_5
                try clear hcz32_0
                try clear hcz32_1
                try clear hcz32_2
                try clear hcz32_3
                try clear hcz32_4
                try clear hcz32_5
                try clear hcz40_0
                try clear hcz40_1
                try clear hcz40_2
                try clear hcz47_0
                try clear hcz47_1
                try clear hcz47_2
                try clear hcz47_3
                try clear hcz47_4
                try clear hcz47_5
                try clear hcz50_0
                try clear hcz50_1
                try clear hcz50_2
                try clear hcz50_3
                try clear hcz50_4
                try clear hcz50_5
                try clear hcz52_0
                try clear hcz52_1
                try clear hcz52_2
                try clear hcz52_3
                try clear hcz52_4
                try clear hcz52_5
                try clear hfz11_0
                try clear hfz11_1
                try clear hfz11_2
                try clear hfz18_0
                try clear hfz18_1
                try clear hfz18_2
                try clear hfz18_3
                try clear hfz18_4
                try clear hfz18_5
                try clear hfz21_0
                try clear hfz21_1
                try clear hfz21_2
                try clear hfz21_3
                try clear hfz21_4
                try clear hfz21_5
                try clear hfz23_0
                try clear hfz23_1
                try clear hfz23_2
                try clear hfz23_3
                try clear hfz23_4
                try clear hfz23_5
                try clear hfz29_0
                try clear hfz29_1
                try clear hfz29_2
                try clear hfz29_3
                try clear hfz29_4
                try clear hfz29_5
                try clear hfz32_0
                try clear hfz32_1
                try clear hfz32_2
                try clear hfz32_3
                try clear hfz32_4
                try clear hfz32_5
                try clear hfz40_0
                try clear hfz40_1
                try clear hfz40_2
                try clear hfz47_0
                try clear hfz47_1
                try clear hfz47_2
                try clear hfz47_3
                try clear hfz47_4
                try clear hfz47_5
                try clear hfz50_0
                try clear hfz50_1
                try clear hfz50_2
                try clear hfz50_3
                try clear hfz50_4
                try clear hfz50_5
                try clear hfz52_0
                try clear hfz52_1
                try clear hfz52_2
                try clear hfz52_3
                try clear hfz52_4
                try clear hfz52_5
                try clear hx162_0
                try clear hx162_1
                try clear hx162_2
                try clear hx162_3
                try clear hx162_4
                try clear hx162_5
                try clear hx179_0
                try clear hx179_1
                try clear hx179_2
                try clear hx179_3
                try clear hx179_4
                try clear hx179_5
                try clear p1
                try clear p16
                try clear p162
                try clear p179
                try clear p2
                try clear p6
                try clear q1
                try clear q16
                try clear q162
                try clear q179
                obtain ⟨kq, x35_43, rfl, HA, HJ43, HO_8, BK153, BK180, HB⟩ := hcut
                cases kq with
                | zero => exact absurd HA.out (by simp [plan_View.j3])
                | succ kj43 =>
                 have H := HA.out
                 clear HA
                 simp only [plan_View.j3] at H
                 by_cases c53 : x35_43 = true
                 · subst c53
                   have H1 : (plan_View.l100 kj43 a2 x7_1 x8_1 l0_2 (l0_2.length : Int) (wrap64 (x24_1 + 1))) = some r := by rw [if_pos rfl] at H; exact H
                   clear H
                   have H := H1
                   clear H1
                   have H' := Aside0.mk H
                   clear H
                   go_wp2
                   go_roundg kj43
                   case measure => have := HK1.out; have := HJ43.out; omega
                   case rel => exact ⟨(x7_1), (x8_1), (wrap64 (x24_1 + 1)), (by first | rfl | (simp; done) | (simp [*]; done)), (by first | rfl | (simp; done) | (simp [*]; done)), H', ⟨by have := HK1.out; have := HJ43.out; omega⟩, ⟨by (with_reducible repeat (first | apply Kd.R_alloc | apply Kd.R_drewN | apply Kd.R_drew)); exact HO_8.out⟩, ⟨by (with_reducible repeat (first | refine blk_drewN ?_ _ | refine blk_drew ?_ | refine blk_alloc ?_ _)); exact BK153.out⟩, ⟨by repeat (first | (with_reducible first | exact HB.out | apply below_alloc | apply pw_below_drewN | apply below_drew1 | refine below_set ?_ GE153.out | refine below_set ?_ GE180.out) | exact HB.out)⟩⟩
                 · replace c53 := Bool.eq_false_iff.mpr c53
                   subst c53
                   have H1 : ((plan_Window_slot.f kj43 ((rd_T76 l0_2 x24_1).f0) ((rd_T76 l0_2 x24_1).f1) ((rd_T76 l0_2 x24_1).f2) ((rd_T76 l0_2 x24_1).f3) ((rd_T76 l0_2 x24_1).f4) ((rd_T76 l0_2 x24_1).f5) x7_1 a2).bind fun bt181 => (if x8_1.length < 2199023255552 then ((plan_Ticks.f ((rd_T76 l0_2 x24_1).f0) ((rd_T76 l0_2 x24_1).f1) ((rd_T76 l0_2 x24_1).f2) ((rd_T76 l0_2 x24_1).f3) ((rd_T76 l0_2 x24_1).f4) ((rd_T76 l0_2 x24_1).f5)).bind fun t192 => (plan_View.l100 kj43 a2 (wrap64 (x7_1 + t192)) (x8_1 ++ [(⟨bt181.1, bt181.2.1, bt181.2.2.1, bt181.2.2.2.1, bt181.2.2.2.2.1, bt181.2.2.2.2.2.1, bt181.2.2.2.2.2.2.1, bt181.2.2.2.2.2.2.2⟩ : S47)]) l0_2 (l0_2.length : Int) (wrap64 (x24_1 + 1)))) else (none))) = some r := by rw [if_neg (show ¬ (false = true) by decide)] at H; exact H
                   clear H
                   have H := H1
                   clear H1
                   replace H := Option.bind_eq_some_iff.mp H
                   obtain ⟨⟨t181, t182, t183, t184, t185, t186, t187, t188⟩, A540, H⟩ := H
                   replace H : (if x8_1.length < 2199023255552 then ((plan_Ticks.f ((rd_T76 l0_2 x24_1).f0) ((rd_T76 l0_2 x24_1).f1) ((rd_T76 l0_2 x24_1).f2) ((rd_T76 l0_2 x24_1).f3) ((rd_T76 l0_2 x24_1).f4) ((rd_T76 l0_2 x24_1).f5)).bind fun t192 => (plan_View.l100 kj43 a2 (wrap64 (x7_1 + t192)) (x8_1 ++ [(⟨t181, t182, t183, t184, t185, t186, t187, t188⟩ : S47)]) l0_2 (l0_2.length : Int) (wrap64 (x24_1 + 1)))) else (none)) = some r := H
                   have A54 := Aside0.mk A540
                   clear A540
                   by_cases c55 : x8_1.length < 2199023255552
                   · rw [if_pos c55] at H
                     have LMc55 := Aside0.mk c55
                     clear c55
                     obtain ⟨y189, hy189⟩ : ∃ y_ : List (S47), y_ = (x8_1 ++ [(⟨t181, t182, t183, t184, t185, t186, t187, t188⟩ : S47)]) := ⟨_, rfl⟩
                     replace H : ((plan_Ticks.f ((rd_T76 l0_2 x24_1).f0) ((rd_T76 l0_2 x24_1).f1) ((rd_T76 l0_2 x24_1).f2) ((rd_T76 l0_2 x24_1).f3) ((rd_T76 l0_2 x24_1).f4) ((rd_T76 l0_2 x24_1).f5)).bind fun t192 => (plan_View.l100 kj43 a2 (wrap64 (x7_1 + t192)) y189 l0_2 (l0_2.length : Int) (wrap64 (x24_1 + 1)))) = some r := by first | (rw [hy189]; with_reducible exact H) | (have H2_ := (Option.bind_some _ _).symm.trans H; rw [hy189]; with_reducible exact H2_) | (have H2_ := (Option.bind_some _ _).symm.trans H; with_reducible exact H2_) | with_reducible exact H | (rw [hy189]; exact H) | exact H
                     have Ny189 := Aside0.mk hy189
                     clear hy189
                     replace H := Option.bind_eq_some_iff.mp H
                     obtain ⟨t192, A560, H⟩ := H
                     replace H : (plan_View.l100 kj43 a2 (wrap64 (x7_1 + t192)) y189 l0_2 (l0_2.length : Int) (wrap64 (x24_1 + 1))) = some r := H
                     have A56 := Aside0.mk A560
                     clear A560
                     have H' := Aside0.mk H
                     clear H
                     have hnb57 := NB180_153.out
                     have hnc57 := NB153_180.out
                     have hcz58_0 : wc.cell? ⟨gb180, 0, none⟩ = some (.int .i64 ((rd_T76 l0_2 x24_1).f0)) := (blk_cell BK180.out 0).trans rfl
                     have hcz58_1 : wc.cell? ⟨gb180, 1, none⟩ = some (.int .i64 ((rd_T76 l0_2 x24_1).f1)) := (blk_cell BK180.out 1).trans rfl
                     have hcz58_2 : wc.cell? ⟨gb180, 2, none⟩ = some (.int .i64 ((rd_T76 l0_2 x24_1).f2)) := (blk_cell BK180.out 2).trans rfl
                     have hcz58_3 : wc.cell? ⟨gb180, 3, none⟩ = some (.int .i64 ((rd_T76 l0_2 x24_1).f3)) := (blk_cell BK180.out 3).trans rfl
                     have hcz58_4 : wc.cell? ⟨gb180, 4, none⟩ = some (.slice A179_4 ((rd_T76 l0_2 x24_1).f4).length c179_4) := (blk_cell BK180.out 4).trans rfl
                     have hcz58_5 : wc.cell? ⟨gb180, 5, none⟩ = some (.slice A179_5 ((rd_T76 l0_2 x24_1).f5).length c179_5) := (blk_cell BK180.out 5).trans rfl
                     have hfz58_0 := blk_frozen BK180.out 0
                     have hfz58_1 := blk_frozen BK180.out 1
                     have hfz58_2 := blk_frozen BK180.out 2
                     have hfz58_3 := blk_frozen BK180.out 3
                     have hfz58_4 := blk_frozen BK180.out 4
                     have hfz58_5 := blk_frozen BK180.out 5
                     go_wp2_with (first | ((with_reducible refine gate_callee (f := 47) rfl ?_); refine goesL_ (some 40) rfl rfl Try.func47 (by kernel_rfl) rfl #[.agg #[.int .i64 ((rd_T76 l0_2 x24_1).f0), .int .i64 ((rd_T76 l0_2 x24_1).f1), .int .i64 ((rd_T76 l0_2 x24_1).f2), .int .i64 ((rd_T76 l0_2 x24_1).f3), .slice A179_4 ((rd_T76 l0_2 x24_1).f4).length c179_4, .slice A179_5 ((rd_T76 l0_2 x24_1).f5).length c179_5], .int .i64 x7_1, .int .i64 a2] rfl (by (try simp only [List.map_toArray, List.map_cons, List.map_nil]); first | done | rfl | (simp only [List.length_drop, List.length_take]; rfl)) ?_; (with_reducible refine (plan_Window_slot.calls kj43 ((rd_T76 l0_2 x24_1).f0) ((rd_T76 l0_2 x24_1).f1) ((rd_T76 l0_2 x24_1).f2) ((rd_T76 l0_2 x24_1).f3) _ _ ((rd_T76 l0_2 x24_1).f4) _ _ ((rd_T76 l0_2 x24_1).f5) x7_1 a2 t181 t182 t183 t184 t185 t186 t187 t188 _ ?side1 ?side2 ?side3 ?side4 A54.out).mono ?_); (case side1 => repeat (first | exact (Kd.C_below HR179_4.out HB.out) | (with_reducible refine Kd.C_alloc ?_ _) | (with_reducible refine Kd.C_drewN ?_ _) | (with_reducible refine Kd.C_drew ?_))); (case side2 => exact HC179_4.out); (case side3 => repeat (first | exact (Kd.C_below HR179_5.out HB.out) | (with_reducible refine Kd.C_alloc ?_ _) | (with_reducible refine Kd.C_drewN ?_ _) | (with_reducible refine Kd.C_drew ?_))); (case side4 => exact HC179_5.out); rintro e w59 ⟨rfl, hb⟩; refine ⟨_, rfl, ?_⟩; have n0_ := Aside0.mk (Kd.R_below (by (with_reducible repeat (first | apply Kd.R_alloc | apply Kd.R_drewN | apply Kd.R_drew)); exact HO_8.out) hb); have n1_ := Aside0.mk (blk_below (g := gb153) (o := .cells #[.int .i64 a0_0, .slice A0_1 l0_1.length c0_1, .slice (some ad179) l0_2.length c0_2] 62 (0, 0)) (by (with_reducible repeat (first | refine blk_drewN ?_ _ | refine blk_drew ?_ | refine blk_alloc ?_ _)); exact BK153.out) hb); have n2_ := Aside0.mk (blk_below (g := gb180) (o := .cells #[.int .i64 ((rd_T76 l0_2 x24_1).f0), .int .i64 ((rd_T76 l0_2 x24_1).f1), .int .i64 ((rd_T76 l0_2 x24_1).f2), .int .i64 ((rd_T76 l0_2 x24_1).f3), .slice A179_4 ((rd_T76 l0_2 x24_1).f4).length c179_4, .slice A179_5 ((rd_T76 l0_2 x24_1).f5).length c179_5] 76 (0, 0)) (by (with_reducible repeat (first | refine blk_drewN ?_ _ | refine blk_drew ?_ | refine blk_alloc ?_ _)); exact BK180.out) hb); have n3_ := Aside0.mk (below_step (by repeat (first | (with_reducible first | exact HB.out | apply below_alloc | apply pw_below_drewN | apply below_drew1 | refine below_set ?_ GE153.out | refine below_set ?_ GE180.out) | exact HB.out)) hb); clear HO_8; clear BK153; clear BK180; clear HB; have HO_8 := n0_; have BK153 := n1_; have BK180 := n2_; have HB := n3_; clear n0_ n1_ n2_ n3_; (try clear hb); (try clear hb2); (try clear hk); (try clear hi)) | ((with_reducible refine gate_builtin (b := .append) (xs := #[.tmp 36, .tmp 41]) rfl ?_); at_builtin; refine Kd.R_append k47 (w0 := w) w.heap.size rfl (.tmp 36) (.tmp 41) 30 47 (.agg #[(.int .i64 0), (.int .i64 0), (.int .i64 0), (.int .i64 0), (.int .i64 0), (.int .i64 0), (.int .i64 0), (.bool false)]) 64 rfl Try.underlying30 info47 rfl (by decide) (by omega) u8 x8_1 (⟨t181, t182, t183, t184, t185, t186, t187, t188⟩ : S47) [.int .i64 t181, .int .i64 t182, .int .i64 t183, .int .i64 t184, .int .i64 t185, .int .i64 t186, .int .i64 t187, .bool t188] (fun _ => True) (fun _ => False) rfl rfl ?aP (fun _ hk => hk.elim) ?aF ?aO ?aB ?aS ?aL ?_; (case aP => exact k47_mkM _ _ _ (⟨t181, t182, t183, t184, t185, t186, t187, t188⟩ : S47)); (case aB => exact (by repeat (first | (with_reducible first | exact HB.out | apply below_alloc | apply pw_below_drewN | apply below_drew1 | refine below_set ?_ GE153.out | refine below_set ?_ GE180.out) | exact HB.out))); (case aF => exact (fun _ _ => trivial)); (case aO => exact (by (with_reducible repeat (first | apply Kd.R_alloc | apply Kd.R_drewN | apply Kd.R_drew)); exact HO_8.out)); (case aS => exact (below_size (by repeat (first | (with_reducible first | exact HB.out | apply below_alloc | apply pw_below_drewN | apply below_drew1 | refine below_set ?_ GE153.out | refine below_set ?_ GE180.out) | exact HB.out)))); (case aL => have := LMc55.out; omega); intro v190 w60 ho hb hg hat; rw [← Ny189.out] at ho; have n0_ := Aside0.mk (blk_grown (g := gb153) (o := .cells #[.int .i64 a0_0, .slice A0_1 l0_1.length c0_1, .slice (some ad179) l0_2.length c0_2] 62 (0, 0)) (by (with_reducible repeat (first | refine blk_drewN ?_ _ | refine blk_drew ?_ | refine blk_alloc ?_ _)); exact BK153.out) hg (Kd.R_ne HO_8.out BK153.out (by decide))); have n1_ := Aside0.mk (blk_grown (g := gb180) (o := .cells #[.int .i64 ((rd_T76 l0_2 x24_1).f0), .int .i64 ((rd_T76 l0_2 x24_1).f1), .int .i64 ((rd_T76 l0_2 x24_1).f2), .int .i64 ((rd_T76 l0_2 x24_1).f3), .slice A179_4 ((rd_T76 l0_2 x24_1).f4).length c179_4, .slice A179_5 ((rd_T76 l0_2 x24_1).f5).length c179_5] 76 (0, 0)) (by (with_reducible repeat (first | refine blk_drewN ?_ _ | refine blk_drew ?_ | refine blk_alloc ?_ _)); exact BK180.out) hg (Kd.R_ne HO_8.out BK180.out (by decide))); have n2_ := Aside0.mk (hb); have n3_ := Aside0.mk (ho); clear BK153; clear BK180; clear HB; clear HO_8; have BK153 := n0_; have BK180 := n1_; have HB := n2_; have HO191 := n3_; clear n0_ n1_ n2_ n3_; clear ho hb hg hat; have hcz61_0 : w60.cell? ⟨gb180, 0, none⟩ = some (.int .i64 ((rd_T76 l0_2 x24_1).f0)) := (blk_cell BK180.out 0).trans rfl; have hcz61_1 : w60.cell? ⟨gb180, 1, none⟩ = some (.int .i64 ((rd_T76 l0_2 x24_1).f1)) := (blk_cell BK180.out 1).trans rfl; have hcz61_2 : w60.cell? ⟨gb180, 2, none⟩ = some (.int .i64 ((rd_T76 l0_2 x24_1).f2)) := (blk_cell BK180.out 2).trans rfl; have hcz61_3 : w60.cell? ⟨gb180, 3, none⟩ = some (.int .i64 ((rd_T76 l0_2 x24_1).f3)) := (blk_cell BK180.out 3).trans rfl; have hcz61_4 : w60.cell? ⟨gb180, 4, none⟩ = some (.slice A179_4 ((rd_T76 l0_2 x24_1).f4).length c179_4) := (blk_cell BK180.out 4).trans rfl; have hcz61_5 : w60.cell? ⟨gb180, 5, none⟩ = some (.slice A179_5 ((rd_T76 l0_2 x24_1).f5).length c179_5) := (blk_cell BK180.out 5).trans rfl; have hfz61_0 := blk_frozen BK180.out 0; have hfz61_1 := blk_frozen BK180.out 1; have hfz61_2 := blk_frozen BK180.out 2; have hfz61_3 := blk_frozen BK180.out 3; have hfz61_4 := blk_frozen BK180.out 4; have hfz61_5 := blk_frozen BK180.out 5) | ((with_reducible refine gate_callee (f := 48) rfl ?_); refine goesL_ (some 45) rfl rfl Try.func48 (by kernel_rfl) rfl #[.agg #[.int .i64 ((rd_T76 l0_2 x24_1).f0), .int .i64 ((rd_T76 l0_2 x24_1).f1), .int .i64 ((rd_T76 l0_2 x24_1).f2), .int .i64 ((rd_T76 l0_2 x24_1).f3), .slice A179_4 ((rd_T76 l0_2 x24_1).f4).length c179_4, .slice A179_5 ((rd_T76 l0_2 x24_1).f5).length c179_5]] rfl (by (try simp only [List.map_toArray, List.map_cons, List.map_nil]); first | done | rfl | (simp only [List.length_drop, List.length_take]; rfl)) ?_; (with_reducible refine (plan_Ticks.calls ((rd_T76 l0_2 x24_1).f0) ((rd_T76 l0_2 x24_1).f1) ((rd_T76 l0_2 x24_1).f2) ((rd_T76 l0_2 x24_1).f3) _ _ ((rd_T76 l0_2 x24_1).f4) _ _ ((rd_T76 l0_2 x24_1).f5) t192 _ ?side1 ?side2 ?side3 ?side4 A56.out).mono ?_); (case side1 => repeat (first | exact (Kd.C_below HR179_4.out HB.out) | (with_reducible refine Kd.C_alloc ?_ _) | (with_reducible refine Kd.C_drewN ?_ _) | (with_reducible refine Kd.C_drew ?_))); (case side2 => exact HC179_4.out); (case side3 => repeat (first | exact (Kd.C_below HR179_5.out HB.out) | (with_reducible refine Kd.C_alloc ?_ _) | (with_reducible refine Kd.C_drewN ?_ _) | (with_reducible refine Kd.C_drew ?_))); (case side4 => exact HC179_5.out); rintro e w62 ⟨rfl, hb⟩; refine ⟨_, rfl, ?_⟩; have n0_ := Aside0.mk (Kd.R_below (by (with_reducible repeat (first | apply Kd.R_alloc | apply Kd.R_drewN | apply Kd.R_drew)); exact HO191.out) hb); have n1_ := Aside0.mk (blk_below (g := gb153) (o := .cells #[.int .i64 a0_0, .slice A0_1 l0_1.length c0_1, .slice (some ad179) l0_2.length c0_2] 62 (0, 0)) (by (with_reducible repeat (first | refine blk_drewN ?_ _ | refine blk_drew ?_ | refine blk_alloc ?_ _)); exact BK153.out) hb); have n2_ := Aside0.mk (blk_below (g := gb180) (o := .cells #[.int .i64 ((rd_T76 l0_2 x24_1).f0), .int .i64 ((rd_T76 l0_2 x24_1).f1), .int .i64 ((rd_T76 l0_2 x24_1).f2), .int .i64 ((rd_T76 l0_2 x24_1).f3), .slice A179_4 ((rd_T76 l0_2 x24_1).f4).length c179_4, .slice A179_5 ((rd_T76 l0_2 x24_1).f5).length c179_5] 76 (0, 0)) (by (with_reducible repeat (first | refine blk_drewN ?_ _ | refine blk_drew ?_ | refine blk_alloc ?_ _)); exact BK180.out) hb); have n3_ := Aside0.mk (below_step (by repeat (first | (with_reducible first | exact HB.out | apply below_alloc | apply pw_below_drewN | apply below_drew1 | refine below_set ?_ GE153.out | refine below_set ?_ GE180.out) | exact HB.out)) hb); clear HO191; clear BK153; clear BK180; clear HB; have HO191 := n0_; have BK153 := n1_; have BK180 := n2_; have HB := n3_; clear n0_ n1_ n2_ n3_; (try clear hb); (try clear hb2); (try clear hk); (try clear hi)))
                     go_roundg kj43
                     case measure => have := HK1.out; have := HJ43.out; omega
                     case rel => exact ⟨(wrap64 (x7_1 + t192)), (y189), (wrap64 (x24_1 + 1)), (by first | rfl | (simp; done) | (simp [*]; done)), (by first | rfl | (simp; done) | (simp [*]; done)), H', ⟨by have := HK1.out; have := HJ43.out; omega⟩, ⟨by (with_reducible repeat (first | apply Kd.R_alloc | apply Kd.R_drewN | apply Kd.R_drew)); exact HO191.out⟩, ⟨by (with_reducible repeat (first | refine blk_drewN ?_ _ | refine blk_drew ?_ | refine blk_alloc ?_ _)); exact BK153.out⟩, ⟨by repeat (first | (with_reducible first | exact HB.out | apply below_alloc | apply pw_below_drewN | apply below_drew1 | refine below_set ?_ GE153.out | refine below_set ?_ GE180.out) | exact HB.out)⟩⟩
                   · rw [if_neg c55] at H
                     exact absurd H (by simp)
             · rw [if_neg c43] at H
               exact absurd H (by simp)
           · rw [if_neg c42] at H
             exact absurd H (by simp)
         · rw [if_neg c41] at H
           have c41b0 : decide (x24_1 < (l0_2.length : Int)) = false := decide_eq_false c41
           clear c41
           by_cases c63 : x8_1.length < 2199023255552
           · rw [if_pos c63] at H
             have LMc63 := Aside0.mk c63
             clear c63
             obtain ⟨y176, hy176⟩ : ∃ y_ : List (S47), y_ = (x8_1 ++ [(⟨4, x7_1, 120, 0, 0, 0, (-1), false⟩ : S47)]) := ⟨_, rfl⟩
             replace H : (some y176) = some r := by first | (rw [hy176]; with_reducible exact H) | (have H2_ := (Option.bind_some _ _).symm.trans H; rw [hy176]; with_reducible exact H2_) | (have H2_ := (Option.bind_some _ _).symm.trans H; with_reducible exact H2_) | with_reducible exact H | (rw [hy176]; exact H) | exact H
             have Ny176 := Aside0.mk hy176
             clear hy176
             obtain rfl := Option.some.inj H
             go_wp2_with (first | ((with_reducible refine gate_builtin (b := .append) (xs := #[.tmp 48, .tmp 51]) rfl ?_); at_builtin; refine Kd.R_append k47 (w0 := w) w.heap.size rfl (.tmp 48) (.tmp 51) 30 47 (.agg #[(.int .i64 0), (.int .i64 0), (.int .i64 0), (.int .i64 0), (.int .i64 0), (.int .i64 0), (.int .i64 0), (.bool false)]) 64 rfl Try.underlying30 info47 rfl (by decide) (by omega) u8 x8_1 (⟨4, x7_1, 120, 0, 0, 0, (-1), false⟩ : S47) [.int .i64 4, .int .i64 x7_1, .int .i64 120, .int .i64 0, .int .i64 0, .int .i64 0, .int .i64 (-1), .bool false] (fun _ => True) (fun _ => False) rfl rfl ?aP (fun _ hk => hk.elim) ?aF ?aO ?aB ?aS ?aL ?_; (case aP => exact k47_mkM _ _ _ (⟨4, x7_1, 120, 0, 0, 0, (-1), false⟩ : S47)); (case aB => exact (by repeat (first | (with_reducible first | exact HB.out | apply below_alloc | apply pw_below_drewN | apply below_drew1 | refine below_set ?_ GE153.out) | exact HB.out))); (case aF => exact (fun _ _ => trivial)); (case aO => exact (by (with_reducible repeat (first | apply Kd.R_alloc | apply Kd.R_drewN | apply Kd.R_drew)); exact HO_8.out)); (case aS => exact (below_size (by repeat (first | (with_reducible first | exact HB.out | apply below_alloc | apply pw_below_drewN | apply below_drew1 | refine below_set ?_ GE153.out) | exact HB.out)))); (case aL => have := LMc63.out; omega); intro v177 w64 ho hb hg hat; rw [← Ny176.out] at ho; have n0_ := Aside0.mk (blk_grown (g := gb153) (o := .cells #[.int .i64 a0_0, .slice A0_1 l0_1.length c0_1, .slice A0_2 l0_2.length c0_2] 62 (0, 0)) (by (with_reducible repeat (first | refine blk_drewN ?_ _ | refine blk_drew ?_ | refine blk_alloc ?_ _)); exact BK153.out) hg (Kd.R_ne HO_8.out BK153.out (by decide))); have n1_ := Aside0.mk (hb); have n2_ := Aside0.mk (ho); clear BK153; clear HB; clear HO_8; have BK153 := n0_; have HB := n1_; have HO178 := n2_; clear n0_ n1_ n2_; clear ho hb hg hat))
             go_ret
             exact ⟨_, by first | rfl | (simp [errW_none, errW_some] <;> rfl) | (simp [*, errW_none, errW_some] <;> rfl), by (with_reducible repeat (first | apply Kd.R_alloc | apply Kd.R_drewN | apply Kd.R_drew)); exact HO178.out, by repeat (first | (with_reducible first | exact HB.out | apply below_alloc | apply pw_below_drewN | apply below_drew1 | refine below_set ?_ GE153.out) | exact HB.out)⟩
           · rw [if_neg c63] at H
             exact absurd H (by simp)
     · rw [if_neg c36] at H
       have c36b0 : (a1 == 1) = false := beq_eq_false_iff_ne.mpr c36
       exact absurd H (by simp)
 · replace c5 := Bool.eq_false_iff.mpr c5
   subst c5
   have H1 : (some ([] : List (S47))) = some r := by rw [if_neg (show ¬ (false = true) by decide)] at H; exact H
   clear H
   have H := H1
   clear H1
   obtain rfl := Option.some.inj H
   go_enter Try.func27, Try.ntmps27
   go_wp2_with (first | ((with_reducible refine gate_dst (N := 3) rfl ?_); refine box_event ?hg (N := 3) ?hd (cs := #[.int .i64 a0_0, .slice A0_1 l0_1.length c0_1, .slice A0_2 l0_2.length c0_2]) (t := 62) ?hr ?_; (case hd => rfl); (case hg => rfl); (case hr => first | (go_simp; done) | (go_simp; rfl)); intro gb153 hg w65 hbox hb; have n0_ := Aside0.mk (below_step (by repeat (first | (with_reducible first | exact HB.out | apply below_alloc | apply pw_below_drewN | apply below_drew1) | exact HB.out)) hb); have n1_ := Aside0.mk (hbox); have n2_ := Aside0.mk ((by rw [hg]; exact (below_size (by repeat (first | (with_reducible first | exact HB.out | apply below_alloc | apply pw_below_drewN | apply below_drew1) | exact HB.out))) : w.heap.size ≤ gb153)); have n3_ := Aside0.mk ((by rw [hg]; exact (below_size (by repeat (first | (with_reducible first | exact HB.out | apply below_alloc | apply pw_below_drewN | apply below_drew1) | exact HB.out))) : w.heap.size ≤ gb153)); clear HB; have HB := n0_; have BK153 := n1_; have GW153 := n2_; have GE153 := n3_; clear n0_ n1_ n2_ n3_; clear hb hbox hg) | ((with_reducible refine gate_callee (f := 45) rfl ?_); refine goesL_ (some 12) rfl rfl Try.func45 (by kernel_rfl) rfl #[.int .i64 a1] rfl (by (try simp only [List.map_toArray, List.map_cons, List.map_nil]); first | done | rfl | (simp only [List.length_drop, List.length_take]; rfl)) ?_; (with_reducible refine (plan_is.calls a1 false _ A4.out).mono ?_); rintro e w' ⟨rfl, ⟨nd, rfl⟩⟩; refine ⟨_, rfl, ?_⟩))
   go_ret
   exact ⟨_, by first | rfl | (simp [errW_none, errW_some] <;> rfl) | (simp [*, errW_none, errW_some] <;> rfl), by first | exact Kd.R_nil _ _ _ _ _ | exact Kd.N_nil _ _ _ _ _ | exact Kd.V_nil _ _ _ _ _ | exact Kd.Q_nil _ _ _ _ _ | exact Kd.S_nil _ _ _ _ _, by repeat (first | (with_reducible first | exact HB.out | apply below_alloc | apply pw_below_drewN | apply below_drew1 | refine below_set ?_ GE153.out) | exact HB.out)⟩

end Go.Proofs.Ytekbaconbemgpaa.PWe
