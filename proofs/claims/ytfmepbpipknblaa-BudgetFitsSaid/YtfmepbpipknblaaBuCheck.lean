/- A course's Check, as a contract in the printed functions' form. Helper text. -/
import Derived.Test.YtfmepbpipknblaaBuStep
namespace Go.Proofs.Ytfmepbpipknblaa.PBu
open Go.RowKit Go.Proofs.YtfmepbpipknblaaW.PrintWords Go.Proofs.YtfmepbpipknblaaW.PrintLast Go.Proofs.YtfmepbpipknblaaW.PrintMore
set_option linter.unusedVariables false
set_option linter.unusedSimpArgs false

def budget_Course_Check.f (a0_0 : Int) (a0_1 : Int) (a0_2 : Bool) (a0_3 : Int) (a0_4 : Int) (l0_5 : List Int) (l0_6 : List S40) (a1 : Int) : Option Int :=
  (fault_Fault_Right.f 9 a0_0 a0_1 a0_2 a0_3 a0_4 l0_5 a1).bind fun b => if b = 0 then (if okL l0_6 = true then some (chk a1 [] l0_6) else none) else some b
set_option maxRecDepth 100000 in
set_option maxHeartbeats 4000000 in
theorem budget_Course_Check.calls (a0_0 : Int) (a0_1 : Int) (a0_2 : Bool) (a0_3 : Int) (a0_4 : Int) (A0_5 : Option Addr) (c0_5 : Nat) (l0_5 : List Int) (A0_6 : Option Addr) (c0_6 : Nat) (l0_6 : List S40) (a1 : Int) (r : Int) (w : World) (hr0_5 : Kd.C (Kd.int .u8) w A0_5 l0_5.length l0_5) (hc0_5 : l0_5.length ≤ c0_5) (hr0_6 : Kd.C k40 w A0_6 l0_6.length l0_6) (hc0_6 : l0_6.length ≤ c0_6) (h : budget_Course_Check.f a0_0 a0_1 a0_2 a0_3 a0_4 l0_5 l0_6 a1 = some r) :
    Calls Try.prog 23 #[.agg #[.int .i64 a0_0, .int .i64 a0_1, .bool a0_2, .int .i64 a0_3, .int .i64 a0_4, .slice A0_5 l0_5.length c0_5, .slice A0_6 l0_6.length c0_6], .int .i64 a1] w fun e w' => e = .returned (.int .i64 r) ∧ Below w.heap.size w w' := by
  unfold budget_Course_Check.f at h
  obtain ⟨b, hb, h⟩ := Option.bind_eq_some_iff.1 h
  have HB0 := Aside0.mk (below_alloc (Below.refl w.heap.size w) (.cells #[.int .i64 a0_0, .int .i64 a0_1, .bool a0_2, .int .i64 a0_3, .int .i64 a0_4, .slice A0_5 l0_5.length c0_5, .slice A0_6 l0_6.length c0_6] 27))
  have HC := Aside0.mk (fun w1 h5 => fault_Fault_Right.calls 9 a0_0 a0_1 a0_2 a0_3 a0_4 A0_5 c0_5 l0_5 a1 b w1 h5 hc0_5 hb)
  have H5 := Aside0.mk (Kd.C_below hr0_5 HB0.out)
  have H6 := Aside0.mk hr0_6
  have HH := Aside0.mk h
  have hu27 := Try.underlying27
  have hu24 := Try.underlying24
  have hu40 := Try.underlying40
  clear hb hr0_5 hr0_6 h
  by_cases h0 : b = 0
  · have hq : (b != 0) = false := by simpa using h0
    have HQ := HH.out
    rw [if_pos h0] at HQ
    split at HQ
    · rename_i hok
      have HR := Aside0.mk (Option.some.inj HQ)
      have HO := Aside0.mk hok
      clear HQ hok HH
      subst h0
      clear hq
      have hmm := @run_makeMap Try.prog
      go_enter Try.func23, Try.ntmps23
      go_wp2_with fail
      refine (HC.out _ H5.out).mono ?_
      rintro e w1 ⟨rfl, hb⟩
      have HB1 := Aside0.mk (below_then HB0.out (by simp) hb)
      have hcell : w1.cell? ⟨w.heap.size, 6, none⟩ = some (.slice A0_6 l0_6.length c0_6) := (hb.cell (p := ⟨w.heap.size, 6, none⟩) (by simp)).trans ((blk_cell (blk_new w _) 6).trans rfl)
      have hsz : w.heap.size < w1.heap.size := Kx.lt_of_cell hcell
      have HL := Aside0.mk (okL_len HO.out)
      have hl : (l0_6.length : Int) ≤ 1000 := by have := HL.out; omega
      clear hb h
      go_wp2_with fail
      go_loopw [8, 20, 24, 29] (fun _ u20 _ _ wr => ∃ k n : Nat, k ≤ l0_6.length ∧ u20 = .int .i64 k ∧ Aside0 (n ≤ 1000) ∧ (∃ D : DataW Unit, Aside0 (wr.ownsGroups Try.prog 134 (w1.heap.size + 1) 3 .i64 w1.heap.size k D) ∧ Aside0 (GRel D (l0_6.take k))) ∧ Aside0 (chk a1 (l0_6.take k) (l0_6.drop k) = r) ∧ Aside0 (Below w.heap.size w wr) ∧ Aside0 (w1.heap.size < wr.heap.size)) (fun _ u20 _ _ _ => l0_6.length - (intOf u20).toNat)
      case atStart => exact ⟨0, 0, Nat.zero_le _, rfl, ⟨by omega⟩, ⟨.map [], ⟨World.ownsGroups_made w1 Try.prog 134 3 .i64⟩, ⟨GRel.start⟩⟩, ⟨by simpa using HR.out⟩, ⟨HB1.out.alloc (by omega) _⟩, ⟨by simp⟩⟩
      case round =>
        obtain ⟨k, n, hk, rfl, HN, ⟨D, HD, HG⟩, HI, HB, HS⟩ := hrel
        by_cases hlt : (k : Int) < (l0_6.length : Int)
        · obtain ⟨ad, rfl, hcc⟩ := at_slip (Kd.C_below H6.out HB.out) k (by omega)
          have hk0 : (0 : Int) ≤ (k : Int) := by omega
          have HDr := Aside0.mk (drop_at l0_6 k (by omega))
          have HTk := Aside0.mk (take_at l0_6 k (by omega))
          have HMem := Aside0.mk (show l0_6.getD k z40 ∈ l0_6 by rw [List.getD_eq_getElem?_getD, List.getElem?_eq_getElem (by omega)]; exact List.getElem_mem _)
          obtain ⟨s, hs⟩ : ∃ s, l0_6.getD k z40 = s := ⟨_, rfl⟩
          rw [hs] at hcc HDr HTk HMem
          have HC1 := Aside0.mk hcc
          have HM := Aside0.mk (may_is s a1)
          clear hs hcc
          obtain ⟨f0, f1, f2, f3⟩ := s
          go_wp2_with (first | refine Kx.wpList_load_cells rfl 40 _ rfl (ad.add (k * 4)) rfl [Value.int .i64 f0, .bool f1, .int .i64 f2, .int .i64 f3] _ HC1.out Try.underlying40 rfl (by kernel_rfl) ?_)
          have HWr := Aside0.mk (show Below wr.heap.size wr (wr.alloc (.cells #[Value.int .i64 f0, .bool f1, .int .i64 f2, .int .i64 f3] 40)) from below_alloc (Below.refl _ _) _)
          obtain ⟨m, hm⟩ : ∃ m, mayB ⟨f0, f1, f2, f3⟩ a1 = m := ⟨_, rfl⟩
          rw [hm] at HM
          have HMB := Aside0.mk hm
          clear hm
          refine (budget_Slip_may.calls f0 f1 f2 f3 a1 m _ HM.out).mono ?_
          rintro e w2 ⟨rfl, hb⟩
          have HW2 := Aside0.mk (HWr.out.trans (hb.mono (by simp)))
          have HBk := Aside0.mk (blk_below (blk_new wr (.cells #[Value.int .i64 f0, .bool f1, .int .i64 f2, .int .i64 f3] 40)) hb)
          clear hb
          cases m
          · have HE : Aside0 (2 = r) := ⟨by rw [← HI.out, HDr.out, chk, if_neg (by rw [HMB.out]; decide)]⟩
            have HBe := Aside0.mk (below_then HB.out HB.out.size HW2.out)
            clear hlt hk
            go_wp2_with fail
            go_ret
            exact ⟨by rw [← HE.out]; rfl, HBe.out⟩
          · have HF0 := Aside0.mk (okL_wf HO.out HMem.out)
            have hkw : k < maxLen := by have := HL.out; unfold maxLen; omega
            have hi0 : Inv (fun _ => True) w w1 wr.heap.size ⟨f0, f1, f2, f3⟩ (l0_6.take k) k D none none w2 := ⟨⟨HBk.out, HG.out, HF0.out, hkw, by rw [List.length_take]; omega, by have := HS.out; omega, car_true _, trivial⟩, World.ownsGroups.kept (row := none) HD.out (grown_of_below HW2.out none) (by simp) (fun es clock _ x _ => by cases x.val.ownBlock <;> simp), below_then HB.out HB.out.size HW2.out, by omega, Nat.lt_of_lt_of_le HS.out HW2.out.size, (fun L hL => by cases hL), (fun p hp => by cases hp)⟩
            have hi := Inv.on hi0 (Below.refl _ _).drew
            have hk0d := Inv.cells hi
            obtain ⟨g, hg⟩ : ∃ g, grp (l0_6.take k) f0 f1 = g := ⟨_, rfl⟩
            have HGr := Aside0.mk hg
            obtain ⟨nb, hnb⟩ : ∃ nb, g.any (nearP f2) = nb := ⟨_, rfl⟩
            have HNb := Aside0.mk (show nearB (l0_6.take k) ⟨f0, f1, f2, f3⟩ = nb by unfold nearB; rw [show grp (l0_6.take k) (⟨f0, f1, f2, f3⟩ : S40).f0 (⟨f0, f1, f2, f3⟩ : S40).f1 = g from hg]; exact hnb)
            have HNear := Aside0.mk (fun (A : Option Addr) (c : Nat) (W : World) (hC : Kd.C (Kd.int .i64) W A g.length g) => near_any f0 f1 f2 f3 A c g W hC)
            rw [hnb] at HNear
            clear hg hnb hi0 hkw
            go_wp2_with fail
            go_region_held3 (fun w' => w'.cell? ⟨wr.heap.size, 0, none⟩ = some (.int .i64 f0) ∧ w'.cell? ⟨wr.heap.size, 1, none⟩ = some (.bool f1) ∧ w'.cell? ⟨wr.heap.size, 2, none⟩ = some (.int .i64 f2) ∧ w'.cell? ⟨wr.heap.size, 3, none⟩ = some (.int .i64 f3))
              (first | assumption | exact hk0d | exact Inv.cells (by assumption))
              (first
                | (go_at_call 73; with_reducible refine (budget_Slip_clock.calls f0 f1 f2 f3 f0 f1 _ rfl).mono ?_; rintro e w3 ⟨rfl, hb3⟩; have hi3 := Inv.on (X := fun _ => True) (w := w) (w1 := w1) (S := wr.heap.size) (s := ⟨f0, f1, f2, f3⟩) (l := l0_6.take k) (n := k) (D := D) (li := none) (look := none) (by assumption) hb3; have hk3 := Inv.cells hi3; obtain ⟨vq, hrunq, hiq⟩ := Inv.look_ hi3; have hoq := Inv.own hiq; rw [show grp (l0_6.take k) (⟨f0, f1, f2, f3⟩ : S40).f0 (⟨f0, f1, f2, f3⟩ : S40).f1 = g from HGr.out] at hoq; obtain ⟨Aq, cq, rfl, hCq⟩ := ints_shape hoq; clear hb3 hoq hiq)
                | (go_at_call 72; refine (HNear.out _ _ _ (by assumption)).mono ?_; rintro e w4 ⟨rfl, hb4⟩; have hi4 := Inv.on (X := fun _ => True) (w := w) (w1 := w1) (S := wr.heap.size) (s := ⟨f0, f1, f2, f3⟩) (l := l0_6.take k) (n := k) (D := D) (li := none) (look := none) (by assumption) hb4; have hk4 := Inv.cells hi4; clear hb4))
            have HI4 := Aside0.mk hi4
            clear hi4 hk4 hi3 hk3 hrunq hCq hk0d hi
            cases nb
            · have hi := Inv.on HI4.out (Below.refl _ _).drew
              have hkp : Kp w4.drew w4.drew := Below.refl _ _
              have hiD := Inv.on (Inv.lit HI4.out) (Below.refl _ _).drew
              have hkpD : Kp w4.drew (w4.alloc (.cells #[.int .i64 f2] 3)).drew := Kp.lit (W0 := w4.drew) (W := w4.drew) (Below.refl _ _) (.cells #[.int .i64 f2] 3)
              have hk0d := Inv.cells hi
              obtain ⟨v, hv⟩ := Inv.looks hi
              have HV := Aside0.mk (show ∀ W' li', Inv (fun _ => True) w w1 wr.heap.size ⟨f0, f1, f2, f3⟩ (l0_6.take k) k D li' none W' → Kp w4.drew W' → (Instr.lookup 130 (.map (some w1.heap.size)) (.agg #[.int .i64 f0, .bool f1]) false).run Try.prog W' = .ok v W' ∧ Inv (fun _ => True) w w1 wr.heap.size ⟨f0, f1, f2, f3⟩ (l0_6.take k) k D li' (some (W', v, v, grp (l0_6.take k) f0 f1)) W' from hv)
              have HGl := Aside0.mk (show ((grp (l0_6.take k) f0 f1).length + 1) * 8 ≤ 140737488355328 by have h1 := grp_len (l0_6.take k) f0 f1; have h2 := HL.out; rw [List.length_take] at h1; omega)
              have HF2 := Aside0.mk (show (Lit.int .i64 f2).wf = true by have := HMB.out; unfold mayB at this; exact Kx.wf_of_i64 (by simp at this; omega))
              clear hv
              go_wp2_with fail
              go_region_held3 (fun w' => w'.cell? ⟨wr.heap.size, 0, none⟩ = some (.int .i64 f0) ∧ w'.cell? ⟨wr.heap.size, 1, none⟩ = some (.bool f1) ∧ w'.cell? ⟨wr.heap.size, 2, none⟩ = some (.int .i64 f2) ∧ w'.cell? ⟨wr.heap.size, 3, none⟩ = some (.int .i64 f3))
                (first | assumption | exact hk0d | exact Inv.cells (by assumption) | exact Inv2.cells (by assumption) | exact Fin.cells (by assumption) | exact Inv.cells (Inv.lit (X := fun _ => True) (w := w) (w1 := w1) (S := wr.heap.size) (s := ⟨f0, f1, f2, f3⟩) (l := l0_6.take k) (n := k) (D := D) (look := none) (by assumption)))
                (first
                  | (go_at_call 73; with_reducible refine (budget_Slip_clock.calls f0 f1 f2 f3 f0 f1 _ rfl).mono ?_; rintro e w5 ⟨rfl, hb5⟩; (first
                    | (have hj5 := Inv2.on (X := fun _ => True) (w := w) (w1 := w1) (S := wr.heap.size) (s := ⟨f0, f1, f2, f3⟩) (l := l0_6.take k) (n := k) (D := D) (by assumption) hb5; have hk5 := Inv2.cells hj5; obtain ⟨wu, hrunu, hfin⟩ := Inv2.update hj5; clear hb5)
                    | (have hi5 := Inv.on (X := fun _ => True) (w := w) (w1 := w1) (S := wr.heap.size) (s := ⟨f0, f1, f2, f3⟩) (l := l0_6.take k) (n := k) (D := D) (li := none) (look := none) (by assumption) hb5; have hkp5 := Kp.on (W0 := w4.drew) (by assumption) hb5; have hk5 := Inv.cells hi5; have hr5 := (HV.out _ _ hi5 hkp5).1; have hr5' := (HV.out _ _ (Inv.lit hi5) (Kp.lit hkp5 _)).1; clear hb5)
                    | (have hi5 := Inv.on (X := fun _ => True) (w := w) (w1 := w1) (S := wr.heap.size) (s := ⟨f0, f1, f2, f3⟩) (l := l0_6.take k) (n := k) (D := D) (look := none) (Inv.lit (by assumption)) hb5; have hkp5 := Kp.on (W0 := w4.drew) (Kp.lit (by assumption) _) hb5; have hk5 := Inv.cells hi5; have hr5 := (HV.out _ _ hi5 hkp5).1; clear hb5)
                    | (have hi5 := Inv.on (X := fun _ => True) (w := w) (w1 := w1) (S := wr.heap.size) (s := ⟨f0, f1, f2, f3⟩) (l := l0_6.take k) (n := k) (D := D) (look := none) (by assumption) hb5; have hkp5 := Kp.on (W0 := w4.drew) (by assumption) hb5; have hk5 := Inv.cells hi5; have hr5 := (HV.out _ _ hi5 hkp5).1; clear hb5)))
                  | (refine step_append_one _ (w1.heap.size + 1) (by rfl) _ _ 43 3 8 (by rfl) Try.underlying43 info3i (by decide) v (grp (l0_6.take k) f0 f1) f2 _ (by rfl) (by rfl) (by first | exact Inv.litAt (X := fun _ => True) (w := w) (w1 := w1) (S := wr.heap.size) (s := ⟨f0, f1, f2, f3⟩) (l := l0_6.take k) (n := k) (D := D) (look := none) (by assumption) | exact Inv.litAt (X := fun _ => True) (w := w) (w1 := w1) (S := wr.heap.size) (s := ⟨f0, f1, f2, f3⟩) (l := l0_6.take k) (n := k) (D := D) (look := none) (Inv.lit (by assumption))) HF2.out (by first | exact Inv.own (HV.out _ _ (by assumption) (by assumption)).2 | exact Inv.own (HV.out _ _ (Inv.lit (by assumption)) (Kp.lit (by assumption) _)).2) (by first | exact Inv.base (X := fun _ => True) (w := w) (w1 := w1) (S := wr.heap.size) (s := ⟨f0, f1, f2, f3⟩) (l := l0_6.take k) (n := k) (D := D) (look := none) (by assumption) | exact Inv.base (X := fun _ => True) (w := w) (w1 := w1) (S := wr.heap.size) (s := ⟨f0, f1, f2, f3⟩) (l := l0_6.take k) (n := k) (D := D) (look := none) (Inv.lit (by assumption))) HGl.out ?_; intro v1 w6 ho6 hg6 hat6; (first
                    | have hj6 := Inv.app (X := fun _ => True) (w := w) (w1 := w1) (S := wr.heap.size) (s := ⟨f0, f1, f2, f3⟩) (l := l0_6.take k) (n := k) (D := D) (HV.out _ _ (by assumption) (by assumption)).2 ho6 hg6 hat6
                    | have hj6 := Inv.app (X := fun _ => True) (w := w) (w1 := w1) (S := wr.heap.size) (s := ⟨f0, f1, f2, f3⟩) (l := l0_6.take k) (n := k) (D := D) (HV.out _ _ (Inv.lit (by assumption)) (Kp.lit (by assumption) _)).2 ho6 hg6 hat6); have hk6 := Inv2.cells hj6; obtain ⟨wu, hrunu, hfin⟩ := Inv2.update hj6; clear ho6 hg6 hat6))
              all_goals
                have HFin := Aside0.mk hfin
                have HNx : Aside0 (chk a1 (l0_6.take (k + 1)) (l0_6.drop (k + 1)) = r) := ⟨by rw [← HI.out, HDr.out, chk, if_pos HMB.out, if_neg (by rw [HNb.out]; decide), HTk.out]⟩
                clear hfin hi hkp hiD hkpD hk0d
                go_wp2_with fail
                obtain ⟨_, _, ⟨D', hD', hG'⟩, hB', hS'⟩ := HFin.out
                exact ⟨⟨k + 1, n, by omega, by go_num, HN, ⟨D', ⟨hD'⟩, ⟨by rw [HTk.out]; exact hG'⟩⟩, HNx, ⟨hB'⟩, ⟨hS'⟩⟩, by simp [intOf]; omega⟩
            · have HE : Aside0 (19 = r) := ⟨by rw [← HI.out, HDr.out, chk, if_pos HMB.out, if_pos HNb.out]⟩
              have HBe := Aside0.mk HI4.out.2.2.1
              clear hlt hk
              go_wp2_with fail
              go_ret
              exact ⟨by rw [← HE.out]; rfl, HBe.out⟩
        · obtain rfl : k = l0_6.length := by omega
          have HE : Aside0 (0 = r) := ⟨by rw [← HI.out, List.drop_length]; rfl⟩
          have HBe := HB
          clear hlt hk
          go_wp2_with fail
          go_ret
          exact ⟨by rw [← HE.out]; rfl, HBe.out⟩
    · cases HQ
  · have hq : (b != 0) = true := by simpa using h0
    have HQ := HH.out
    rw [if_neg h0] at HQ
    have HR := Aside0.mk (Option.some.inj HQ)
    have h0' : ¬ b = 0 := h0
    clear HQ HH h h0
    go_enter Try.func23, Try.ntmps23
    go_wp2_with fail
    refine (HC.out _ H5.out).mono ?_
    rintro e w1 ⟨rfl, hb⟩
    have HB1 := Aside0.mk (below_then HB0.out (by simp) hb)
    clear hb
    go_wp2_with fail
    go_ret
    exact ⟨by rw [← HR.out]; rfl, HB1.out⟩
end Go.Proofs.Ytfmepbpipknblaa.PBu
