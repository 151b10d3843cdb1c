/- A message that one of two took; AuditNames: walks. Helper text. -/
import Derived.Test.YtekbaconbemgpaaAuWin
import Derived.Test.YtekbaconbemgpaaAuChk
import Derived.Test.YtekbaconbemgpaaPWg2
namespace Go.Proofs.Ytekbaconbemgpaa.PWe
open Go.RowKit Go.Proofs.Ytekbaconbemgpaa.Kx Go.Proofs.YtekbaconbemgpaaW.PrintWords Go.Proofs.YtekbaconbemgpaaW.PrintLast Go.Proofs.YtekbaconbemgpaaW.PrintMore
set_option linter.unusedVariables false
set_option linter.unusedSimpArgs false

def oneWin : S76 := ⟨0, 0, 1, 0, [0], [1, 2]⟩
def oneE1 : S95 := ⟨0, 1, 2, 1, 0, 0, 0, [1]⟩
def oneE2 : S95 := ⟨0, 2, 3, 1, 0, 0, 0, []⟩
def oneX : S101 := ⟨1, 0, 0, [], [1], [2], 0, [1]⟩
theorem one_win : winsL [oneE1, oneE2] = [oneX] := by kernel_rfl
theorem same_refl (x : List Int) : same_ x x = true := by unfold same_; simp
theorem one_unl (G : List Int) : unlikeP [oneE1, oneE2] G oneX = false := by
  unfold unlikeP
  have h : evsP [oneE1, oneE2] G oneX 2 = [oneE1] ∨ evsP [oneE1, oneE2] G oneX 2 = [] := by
    unfold evsP
    have h2 : evP oneX 2 G oneE2 = false := rfl
    rw [List.filter_cons, List.filter_cons, h2]
    cases evP oneX 2 G oneE1 <;> simp
  rcases h with h | h
  · rw [h]
    show List.any [oneE1] (unlP oneE1) = false
    simp [unlP, same_refl]
  · rw [h]
theorem one_wro (G : List Int) (l0 l1 : List S76) : wrongP l0 l1 [oneE1, oneE2] G oneX = false := by
  unfold wrongP
  have h : evsP [oneE1, oneE2] G oneX 1 = [] := by
    unfold evsP
    have h1 : evP oneX 1 G oneE1 = false := rfl
    have h2 : evP oneX 1 G oneE2 = false := rfl
    rw [List.filter_cons, List.filter_cons, h2, h1]
    simp
  rw [h]
  cases wdwB l0 l1 oneX
  · rfl
  · rw [Bool.true_and, Bool.eq_false_iff]
    intro h
    obtain ⟨x, _, hx⟩ := List.any_eq_true.1 h
    unfold wroP at hx
    simp at hx
theorem one_two : chkL [oneWin] [] [oneE1, oneE2] [1, 2] 0 [oneX] = [⟨1, 0⟩] := by
  unfold chkL flagsP
  rw [one_unl, one_wro]
  rfl
theorem one_one : chkL [oneWin] [] [oneE1, oneE2] [1] 0 [oneX] = [] := by
  unfold chkL flagsP
  rw [one_unl, one_wro]
  rfl
set_option maxHeartbeats 8000000 in
set_option maxRecDepth 100000 in
theorem one30_calls (w : World) : Calls Try.prog 19 #[] w fun e w' => e = .returned (.bool true) ∧ Below w.heap.size w w' := by
  have HB : Aside0 (Below w.heap.size w w) := ⟨Below.refl _ _⟩
  go_enter Try.func19, Try.ntmps19
  go_wp2_with (first | ((with_reducible refine gate_dst (N := 4) rfl ?_); refine litN (w := w) (Kd.int .i64) 3 rfl (N := 4) rfl (xs := ([0] : List Int)) (inner := [.int .i64 0]) (by first | (go_simp; done) | (go_simp; rfl)) (Reps.one (show Kd.M (Kd.int .i64) _ _ _ 0 [.int .i64 0] from rfl) (Reps.none _ _)) HB (by simp) ?_; intro va Wa Ha HB_Wa K_Wa; obtain ⟨Aa, ca, ea⟩ := Kd.R_slice Ha.out; subst ea; have Ra := Aside0.mk (Kd.R_reads' Ha.out).2; clear Ha) | ((with_reducible refine gate_dst (N := 5) rfl ?_); refine litN (w := w) (Kd.int .i64) 3 rfl (N := 5) rfl (xs := ([1, 2] : List Int)) (inner := [.int .i64 1, .int .i64 2]) (by first | (go_simp; done) | (go_simp; rfl)) (Reps.one (show Kd.M (Kd.int .i64) _ _ _ 1 [.int .i64 1] from rfl) (Reps.one (show Kd.M (Kd.int .i64) _ _ _ 2 [.int .i64 2] from rfl) (Reps.none _ _))) HB_Wa (by simp) ?_; intro vb Wb Hb HB_Wb K_Wb; obtain ⟨Ab, cb, eb⟩ := Kd.R_slice Hb.out; subst eb; have Rb := Aside0.mk (Kd.R_reads' Hb.out).2; clear Hb) | ((with_reducible refine gate_dst (N := 7) rfl ?_); refine litN (w := w) (kAt k76 Wb) 76 rfl (N := 7) rfl (xs := ([oneWin] : List S76)) (inner := [.int .i64 0, .int .i64 0, .int .i64 1, .int .i64 0, .slice Aa 1 ca, .slice Ab 2 cb]) (by first | (go_simp; done) | (go_simp; rfl)) (Reps.c6 (show Kd.M (kAt k76 Wb) _ _ _ oneWin [.int .i64 0, .int .i64 0, .int .i64 1, .int .i64 0, .slice Aa 1 ca, .slice Ab 2 cb] from k76_mk Wb oneWin Ra.out.1 (Kd.C_below Ra.out.2 K_Wb.out) Rb.out.1 Rb.out.2) (Reps.none _ _)) HB_Wb (by simp) ?_; intro vc Wc Hc HB_Wc K_Wc; obtain ⟨Ac, cc', ec⟩ := Kd.R_slice Hc.out; subst ec; have hRc := (Kd.R_reads' Hc.out).2.1; have Rc := Aside0.mk (kAt_C (Kd.R_reads' Hc.out).2.2 K_Wc.out); clear Hc) | ((with_reducible refine gate_dst (N := 1) rfl ?_); refine boxN (w := w) rfl (N := 1) rfl (cs := #[.int .i64 0, .slice none 0 0, .slice none 0 0]) (t := 62) (by first | (go_simp; done) | (go_simp; rfl)) HB_Wc ?_; intro g1 Wx Hx Lg1 HB_Wx K_Wx) | (refine storeN (w := w) rfl 62 _ _ rfl g1 #[.int .i64 3, .slice Ac 1 cc', .slice none 0 0] rfl rfl 62 _ Hx (by kernel_rfl) rfl (by rw [← Array.all_toList]; rfl) HB_Wx Lg1 K_Wx ?_; clear Hx; intro Wy Hx HB_Wy K_Wy; have Hy := Hx; clear HB_Wa HB_Wb) | ((with_reducible refine gate_dst (N := 10) rfl ?_); refine litN (w := w) (Kd.int .u8) 5 rfl (N := 10) rfl (xs := ([1] : List Int)) (inner := [.int .u8 1]) (by first | (go_simp; done) | (go_simp; rfl)) (Reps.one (show Kd.M (Kd.int .u8) _ _ _ 1 [.int .u8 1] from rfl) (Reps.none _ _)) HB_Wy (by simp) ?_; intro vd Wd Hd HB_Wd K_Wd; obtain ⟨Ad, cd, ed⟩ := Kd.R_slice Hd.out; subst ed; have Rd := Aside0.mk (Kd.R_reads' Hd.out).2; clear Hd) | ((with_reducible refine gate_dst (N := 13) rfl ?_); refine litN (w := w) (kAt k95 Wd) 95 rfl (N := 13) rfl (xs := ([oneE1, oneE2] : List S95)) (inner := [.int .i64 0, .int .i64 1, .int .i64 2, .int .i64 1, .int .i64 0, .int .i64 0, .int .i64 0, .slice Ad 1 cd, .int .i64 0, .int .i64 2, .int .i64 3, .int .i64 1, .int .i64 0, .int .i64 0, .int .i64 0, .slice none 0 0]) (by first | (go_simp; done) | (go_simp; rfl)) (Reps.c8 (show Kd.M (kAt k95 Wd) _ _ _ oneE1 [.int .i64 0, .int .i64 1, .int .i64 2, .int .i64 1, .int .i64 0, .int .i64 0, .int .i64 0, .slice Ad 1 cd] from k95_mk Wd oneE1 Rd.out.1 Rd.out.2) (Reps.c8 (show Kd.M (kAt k95 Wd) _ _ _ oneE2 [.int .i64 0, .int .i64 2, .int .i64 3, .int .i64 1, .int .i64 0, .int .i64 0, .int .i64 0, .slice none 0 0] from k95_mk Wd oneE2 (A7 := none) (c7 := 0) (Nat.le_refl _) (Kd.C_nil _ _)) (Reps.none _ _))) HB_Wd (by simp) ?_; intro ve We He HB_We K_We; obtain ⟨Ae, ce, ee⟩ := Kd.R_slice He.out; subst ee; have hRe := (Kd.R_reads' He.out).2.1; have Re := Aside0.mk (kAt_C (Kd.R_reads' He.out).2.2 K_We.out); clear He; have Hy2 := Aside0.mk (blk_below Hy.out (below_step K_Wd.out K_We.out))) | ((with_reducible refine gate_dst (N := 14) rfl ?_); refine wpList_load_row rfl 62 _ rfl g1 rfl 62 _ (0, 0) _ Hy2.out Try.underlying62 rfl (by kernel_rfl) ?_) | ((with_reducible refine gate_dst (N := 16) rfl ?_); refine litN (w := w) (Kd.int .i64) 3 rfl (N := 16) rfl (xs := ([1, 2] : List Int)) (inner := [.int .i64 1, .int .i64 2]) (by first | (go_simp; done) | (go_simp; rfl)) (Reps.one (show Kd.M (Kd.int .i64) _ _ _ 1 [.int .i64 1] from rfl) (Reps.one (show Kd.M (Kd.int .i64) _ _ _ 2 [.int .i64 2] from rfl) (Reps.none _ _))) HB_We (by simp) ?_; intro vf Wf Hf HB_Wf K_Wf; obtain ⟨Af, cf, ef⟩ := Kd.R_slice Hf.out; subst ef; have Rf := Aside0.mk (Kd.R_reads' Hf.out).2; clear Hf))
  have ha : AudV.ok ⟨3, Ac, cc', [oneWin], none, 0, [], Ae, ce, [oneE1, oneE2], Af, cf, [1, 2]⟩ Wf := ⟨Kd.C_below Rc.out (below_step K_Wy.out (below_step K_Wd.out (below_step K_We.out K_Wf.out))), Kd.C_nil _ _, Kd.C_below Re.out K_Wf.out, Rf.out.2, hRc, Nat.le_refl _, hRe, Rf.out.1⟩
  have hwin : ∀ W, Below Wf.heap.size Wf W → Calls Try.prog 36 #[.slice Ae 2 ce] W fun e w' => ∃ A' c', e = .returned (.slice A' [oneX].length c') ∧ [oneX].length ≤ c' ∧ Kd.C k101 w' A' [oneX].length [oneX] ∧ Below W.heap.size W w' := fun W hb => by
    have h := windows_calls Ae ce [oneE1, oneE2] W (Kd.C_below Re.out (below_step K_Wf.out hb)) (by decide) (fun x hx => by
      have : x.f7.length ≤ 1 := by
        rcases List.mem_cons.1 hx with rfl | hx
        · exact Nat.le_refl _
        · obtain rfl := List.mem_singleton.1 hx
          exact Nat.zero_le _
      omega)
    rw [one_win] at h
    exact h
  have hk := check_calls ⟨3, Ac, cc', [oneWin], none, 0, [], Ae, ce, [oneE1, oneE2], Af, cf, [1, 2]⟩ [oneX] Wf ha (show 2 ≤ 1000000 by decide) (show 1 ≤ 1000000 by decide) hwin
  dsimp only at hk
  rw [one_two] at hk
  refine hk.mono ?_
  rintro e W2 ⟨AX, cX, rfl, hcX, hXC, hb⟩
  have HB2 := Aside0.mk (below_step HB_Wf.out hb)
  have K2 := Aside0.mk (below_step K_Wf.out hb)
  obtain ⟨ad, eA, x0, x1⟩ := at_T68 hXC 0 (by decide) (by decide)
  subst eA
  replace x0 : W2.cell? ad = some (.int .i64 1) := by simpa [rd_T68, Addr.add_zero'] using x0
  replace x1 : W2.cell? ⟨ad.block, ad.off + 1, none⟩ = some (.int .i64 0) := by simpa [rd_T68, Addr.add_zero'] using x1
  clear hk hb hXC hwin ha
  go_wp2_with fail
  refine (audit_Name.calls 1 ⟨#[115, 112, 108, 105, 116]⟩ W2 (by unfold audit_Name.f; rw [if_neg (by decide), if_neg (by decide), if_pos (by unfold wrap64; omega)])).mono ?_
  rintro e W3 ⟨rfl, hb⟩
  have HB3 := Aside0.mk (below_step HB2.out hb)
  have K3 := Aside0.mk (below_step K2.out hb)
  have Hy3 := Aside0.mk (blk_below Hy2.out K3.out)
  have y0 : W3.cell? ⟨g1, 0, none⟩ = some (.int .i64 3) := cell_in Hy3.out 0
  have y1 : W3.cell? ⟨g1, 1, none⟩ = some (.slice Ac 1 cc') := cell_in Hy3.out 1
  have y2 : W3.cell? ⟨g1, 2, none⟩ = some (.slice none 0 0) := cell_in Hy3.out 2
  clear hb
  go_wp2_with (first | ((with_reducible refine gate_dst (N := 37) rfl ?_); refine gate_guard (by rfl) ?_; dsimp only; refine litN (w := w) (Kd.int .i64) 3 rfl (N := 37) rfl (xs := ([1] : List Int)) (inner := [.int .i64 1]) (by first | (go_simp; done) | (go_simp; rfl)) (Reps.one (show Kd.M (Kd.int .i64) _ _ _ 1 [.int .i64 1] from rfl) (Reps.none _ _)) HB3 (by simp) ?_; intro vg Wg Hg HB_Wg K_Wg; obtain ⟨Ag, cg, eg⟩ := Kd.R_slice Hg.out; subst eg; have Rg := Aside0.mk (Kd.R_reads' Hg.out).2; clear Hg))
  have ha : AudV.ok ⟨3, Ac, cc', [oneWin], none, 0, [], Ae, ce, [oneE1, oneE2], Ag, cg, [1]⟩ Wg := ⟨Kd.C_below Rc.out (below_step K_Wy.out (below_step K_Wd.out (below_step K_We.out (below_step K3.out K_Wg.out)))), Kd.C_nil _ _, Kd.C_below Re.out (below_step K3.out K_Wg.out), Rg.out.2, hRc, Nat.le_refl _, hRe, Rg.out.1⟩
  have hwin : ∀ W, Below Wg.heap.size Wg W → Calls Try.prog 36 #[.slice Ae 2 ce] W fun e w' => ∃ A' c', e = .returned (.slice A' [oneX].length c') ∧ [oneX].length ≤ c' ∧ Kd.C k101 w' A' [oneX].length [oneX] ∧ Below W.heap.size W w' := fun W hb => by
    have h := windows_calls Ae ce [oneE1, oneE2] W (Kd.C_below Re.out (below_step (below_step K3.out K_Wg.out) hb)) (by decide) (fun x hx => by
      have : x.f7.length ≤ 1 := by
        rcases List.mem_cons.1 hx with rfl | hx
        · exact Nat.le_refl _
        · obtain rfl := List.mem_singleton.1 hx
          exact Nat.zero_le _
      omega)
    rw [one_win] at h
    exact h
  have hk := check_calls ⟨3, Ac, cc', [oneWin], none, 0, [], Ae, ce, [oneE1, oneE2], Ag, cg, [1]⟩ [oneX] Wg ha (show 2 ≤ 1000000 by decide) (show 1 ≤ 1000000 by decide) hwin
  dsimp only at hk
  rw [one_one] at hk
  refine hk.mono ?_
  rintro e W4 ⟨AY, cY, rfl, hcY, hYC, hb⟩
  have HB4 := Aside0.mk (below_step HB_Wg.out hb)
  clear hk hb hYC hwin ha
  go_wp2_with fail
  go_ret
  exact ⟨rfl, HB4.out⟩
end Go.Proofs.Ytekbaconbemgpaa.PWe
