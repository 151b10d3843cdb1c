/- busbarlaw37.one, WaveReads: walk. Helper text. -/
import Derived.Test.YtedjjodnceinlaaDoorWvPar
namespace Go.Proofs.YtedjjodnceinlaaDoor.PWv
open Go.RowKit Go.Proofs.YtedjjodnceinlaaDoor.Kx Go.Proofs.YtedjjodnceinlaaDoor.PWe Go.Proofs.YtedjjodnceinlaaDoorW.PrintWords Go.Proofs.YtedjjodnceinlaaDoorW.PrintLast Go.Proofs.YtedjjodnceinlaaDoorW.PrintMore
set_option linter.unusedVariables false
set_option linter.unusedSimpArgs false
def wOne : List S46 := [⟨5, 2⟩, ⟨0, 1⟩]
theorem par_one : parP ⟨#[50, 120, 53, 32, 49, 120, 48]⟩ = (wOne, 0) := by kernel_rfl
theorem of_one : wave_Of.f 100 [5, 5, 0] = some wOne := by kernel_rfl
theorem at_one : wave_Wave_At.f 100 wOne 1 = some (5, true) := by kernel_rfl
theorem text_one : wave_Wave_Text.f 100 wOne = some ⟨#[50, 120, 53, 32, 49, 120, 48]⟩ := by kernel_rfl
theorem same_one : wave_Wave_Same.f 100 wOne wOne = some true := by kernel_rfl
theorem long_one : wave_Wave_Long.f 100 wOne = some 3 := by kernel_rfl
theorem str_eq {a b : ByteArray} (h : (a.toList == b.toList) = true) : a = b := by
  rw [beq_iff_eq, Go.ByteArray.toList_eq, Go.ByteArray.toList_eq] at h
  exact Go.WideShapes.bytes_inj h
theorem runP_pos {p : ByteArray} (h : (runP p).2 = true) : 1 ≤ (runP p).1.2 := by
  unfold runP at h ⊢
  split at h
  · cases h
  · simp only [Bool.and_eq_true, decide_eq_true_eq] at h
    exact h.2.2.1
theorem parL_pos : ∀ (ps : List ByteArray) (out r : List S46), parL ps out = some r → (∀ x ∈ out, 1 ≤ x.f1) → out.length ≤ r.length ∧ r.length = out.length + ps.length ∧ ∀ x ∈ r, 1 ≤ x.f1
  | [], out, r, h, ho => by obtain rfl := Option.some.inj h; exact ⟨Nat.le_refl _, rfl, ho⟩
  | p :: ps, out, r, h, ho => by
    unfold parL at h
    split at h
    · rename_i hc
      obtain ⟨h1, h2, h3⟩ := parL_pos ps _ r h (fun x hx => by
        rcases List.mem_append.1 hx with hx | hx
        · exact ho x hx
        · rw [List.mem_singleton.1 hx]; exact runP_pos hc.1)
      rw [List.length_append] at h1 h2
      exact ⟨by omega, by simp only [List.length_cons, List.length_nil] at h2 ⊢; omega, h3⟩
    · cases h
/-- What is read is right. -/
theorem parP_ok {s : ByteArray} (hs : s.size ≤ 300) {out : List S46} {E : Int} (h : parP s = (out, E)) :
    (E = 30 ∧ out = []) ∨ (E = 0 ∧ wave_Wave_Text.f KK out = some s ∧ ∃ n : Int, wave_Wave_Long.f KK out = some n ∧ (s.toList == [45]) = (n == 0)) := by
  unfold parP at h
  split at h
  · rename_i hc
    simp only [Prod.mk.injEq] at h
    obtain ⟨rfl, rfl⟩ := h
    have hd : s.toList = (⟨#[45]⟩ : ByteArray).toList := by rw [eq_of_beq hc, Go.ByteArray.toList_eq]
    obtain rfl : s = ⟨#[45]⟩ := str_eq (by rw [hd]; exact beq_self_eq_true _)
    exact Or.inr ⟨rfl, by kernel_rfl, 0, by kernel_rfl, by kernel_rfl⟩
  · rename_i hc
    split at h
    · simp only [Prod.mk.injEq] at h
      exact Or.inl ⟨h.2.symm, h.1.symm⟩
    · rename_i o ho
      split at h
      · simp only [Prod.mk.injEq] at h
        exact Or.inl ⟨h.2.symm, h.1.symm⟩
      · rename_i t ht
        split at h
        · rename_i hq
          simp only [Prod.mk.injEq] at h
          obtain ⟨rfl, rfl⟩ := h
          obtain rfl := str_eq hq
          have hl := pieces_len t
          have hf := pieces_few t
          obtain ⟨h1, h2, h3⟩ := parL_pos _ _ _ ho (by simp)
          cases o with
          | nil => simp only [List.length_nil] at h2; omega
          | cons x r =>
            simp only [List.length_cons, List.length_nil] at h2
            obtain ⟨n, hn, hn1⟩ := long_pos (k := KK) x r (by show r.length + 20 ≤ 100500; omega) (by omega) (h3 x (by simp))
            exact Or.inr ⟨rfl, ht, n, hn, by
              rw [show (t.toList == [45]) = false from by simpa using hc]
              exact (beq_eq_false_iff_ne.2 (by omega)).symm⟩
        · simp only [Prod.mk.injEq] at h
          exact Or.inl ⟨h.2.symm, h.1.symm⟩
set_option maxHeartbeats 8000000 in
set_option maxRecDepth 100000 in
theorem one_calls (m : Int) (w : World) (hm : w.cell? ⟨0, 0, none⟩ = some (.int .i64 m)) :
    Calls Tryd.prog 7 #[] w fun e w' => e = .returned (.bool true) ∧ Below w.heap.size w w' := by
  have HM := Aside0.mk hm
  have HB : Aside0 (Below w.heap.size w w) := ⟨Below.refl _ _⟩
  clear hm
  go_enter Tryd.func7, Tryd.ntmps7
  go_wp2_with (first | ((with_reducible refine gate_dst (N := 6) rfl ?_); refine litN (w := w) (Kd.int .u8) 36 rfl (N := 6) rfl (xs := ([5, 5, 0] : List Int)) (inner := [.int .u8 5, .int .u8 5, .int .u8 0]) (by first | (go_simp; done) | (go_simp; rfl)) (Reps.one (show Kd.M (Kd.int .u8) _ _ _ 5 [.int .u8 5] from rfl) (Reps.one (show Kd.M (Kd.int .u8) _ _ _ 5 [.int .u8 5] from rfl) (Reps.one (show Kd.M (Kd.int .u8) _ _ _ 0 [.int .u8 0] from rfl) (Reps.none _ _)))) HB (by simp) ?_; intro va W1 Ha HB1 K1; obtain ⟨Aa, ca, ea⟩ := Kd.R_slice Ha.out; subst ea; have Ra := Aside0.mk (Kd.R_reads' Ha.out)))
  refine (wave_Of.calls 100 Aa ca [5, 5, 0] wOne W1 Ra.out.2.2 Ra.out.2.1 of_one).mono ?_
  rintro e w2 ⟨v2, rfl, h2, hb2⟩
  obtain ⟨A2, c2, e2⟩ := Kd.R_slice h2
  subst e2
  have H2 := Aside0.mk h2
  have HB2 := Aside0.mk (below_step HB1.out hb2)
  clear h2 hb2 Ra Ha
  have HM2 := Aside0.mk ((HB2.out.cell (World.block_lt_of_cell? w _ HM.out)).trans HM.out)
  go_wp2_with fail
  refine (parse_calls ⟨#[50, 120, 53, 32, 49, 120, 48]⟩ m w2 (by decide) HM2.out par_one).mono ?_
  rintro e w3 ⟨v3, rfl, h3, hb3⟩
  obtain ⟨A3, c3, e3⟩ := Kd.R_slice h3
  subst e3
  have H3 := Aside0.mk h3
  have H23 := Aside0.mk (Kd.R_below H2.out hb3)
  have HB3 := Aside0.mk (below_step HB2.out hb3)
  clear h3 hb3
  go_wp2_with fail
  refine (wave_Wave_At.calls 100 A3 c3 wOne 1 5 true w3 (Kd.R_reads' H3.out).2.2 (Kd.R_reads' H3.out).2.1 at_one).mono ?_
  rintro e w4 ⟨rfl, hb4⟩
  have H4 := Aside0.mk (Kd.R_below H3.out hb4)
  have H24 := Aside0.mk (Kd.R_below H23.out hb4)
  have HB4 := Aside0.mk (below_step HB3.out hb4)
  clear hb4
  have HTX : Aside0 (∀ W, Below w4.heap.size w4 W → Calls Tryd.prog 8 #[.slice A2 2 c2] W fun e w' => e = .returned (.string ⟨#[50, 120, 53, 32, 49, 120, 48]⟩) ∧ Below W.heap.size W w') := ⟨fun W hW => wave_Wave_Text.calls 100 A2 c2 wOne _ W (Kd.R_reads' (Kd.R_below H24.out hW)).2.2 (Kd.R_reads' H24.out).2.1 text_one⟩
  have HSM : Aside0 (∀ W, Below w4.heap.size w4 W → Calls Tryd.prog 19 #[.slice A3 2 c3, .slice A2 2 c2] W fun e w' => e = .returned (.bool true) ∧ Below W.heap.size W w') := ⟨fun W hW => wave_Wave_Same.calls 100 A3 c3 wOne A2 c2 wOne true W (Kd.R_reads' (Kd.R_below H4.out hW)).2.2 (Kd.R_reads' H4.out).2.1 (Kd.R_reads' (Kd.R_below H24.out hW)).2.2 (Kd.R_reads' H24.out).2.1 same_one⟩
  have HLG : Aside0 (∀ W, Below w4.heap.size w4 W → Calls Tryd.prog 9 #[.slice A2 2 c2] W fun e w' => e = .returned (.int .i64 3) ∧ Below W.heap.size W w') := ⟨fun W hW => wave_Wave_Long.calls 100 A2 c2 wOne _ W (Kd.R_reads' (Kd.R_below H24.out hW)).2.2 (Kd.R_reads' H24.out).2.1 long_one⟩
  have hk1 : Below w4.heap.size w4 w4 := Below.refl _ _
  have hl : wOne.length = 2 := rfl
  go_wp2_with fail
  refine (HTX.out _ hk1).mono ?_
  rintro e w5 ⟨rfl, hb5⟩
  have hk2 := below_step hk1 hb5
  clear hb5 hk1
  go_wp2_with fail
  refine (HSM.out _ hk2).mono ?_
  rintro e w6 ⟨rfl, hb6⟩
  have hk3 := below_step hk2 hb6
  clear hb6 hk2
  go_wp2_with fail
  refine (HLG.out _ hk3).mono ?_
  rintro e w7 ⟨rfl, hb7⟩
  have hk4 := below_step hk3 hb7
  clear hb7 hk3
  go_wp2_with fail
  go_ret
  exact ⟨rfl, below_step HB4.out hk4⟩
set_option maxHeartbeats 8000000 in
set_option maxRecDepth 100000 in
theorem reads_calls (s : ByteArray) (m : Int) (w : World) (hm : w.cell? ⟨0, 0, none⟩ = some (.int .i64 m)) :
    Calls Tryd.prog 3 #[.string s] w fun e w' => e = .returned (.bool true) ∧ Below w.heap.size w w' := by
  have HM := Aside0.mk hm
  have HB : Aside0 (Below w.heap.size w w) := ⟨Below.refl _ _⟩
  clear hm
  by_cases hlt : 300 < s.size
  · have m1 : decide (300 < (s.size : Int)) = true := decide_eq_true (by omega)
    have m2 : decide (300 < s.size) = true := decide_eq_true hlt
    go_enter Tryd.func3, Tryd.ntmps3
    go_wp2_with fail
    go_ret
    exact ⟨rfl, HB.out⟩
  have m1 : decide (300 < (s.size : Int)) = false := decide_eq_false (by omega)
  have m2 : decide (300 < s.size) = false := decide_eq_false hlt
  obtain ⟨⟨out, E⟩, hR⟩ : ∃ r, parP s = r := ⟨_, rfl⟩
  have HP := Aside0.mk (parse_calls s m w (by omega) HM.out hR)
  rcases parP_ok (by omega) hR with ⟨rfl, rfl⟩ | ⟨rfl, ht, n, hn, hq⟩
  · clear hR
    go_enter Tryd.func3, Tryd.ntmps3
    go_wp2_with fail
    refine HP.out.mono ?_
    rintro e w1 ⟨v1, rfl, h1, hb1⟩
    obtain ⟨A1, c1, e1⟩ := Kd.R_slice h1
    subst e1
    have HB1 := Aside0.mk hb1
    have HM1 := Aside0.mk ((HB1.out.cell (World.block_lt_of_cell? w _ HM.out)).trans HM.out)
    clear h1 hb1 HP
    go_wp2_with fail
    refine (one_calls m w1 HM1.out).mono ?_
    rintro e w2 ⟨rfl, hb2⟩
    have HB2 := Aside0.mk (below_step HB1.out hb2)
    clear hb2
    go_wp2_with fail
    go_ret
    exact ⟨rfl, HB2.out⟩
  · have HTt := Aside0.mk ht
    have HNn := Aside0.mk hn
    obtain ⟨b, hb⟩ : ∃ b, (s.toList == [45]) = b := ⟨_, rfl⟩
    rw [hb] at hq
    have hss : (s.toList == s.toList) = true := beq_self_eq_true _
    have hnq : (n == 0) = b := hq.symm
    have hnd : decide (n = 0) = b := by rw [← hnq]; rfl
    clear hR ht hn hq
    go_enter Tryd.func3, Tryd.ntmps3
    go_wp2_with fail
    refine HP.out.mono ?_
    rintro e w1 ⟨v1, rfl, h1, hb1⟩
    obtain ⟨A1, c1, e1⟩ := Kd.R_slice h1
    subst e1
    have H1 := Aside0.mk h1
    have HB1 := Aside0.mk hb1
    clear h1 hb1 HP
    go_wp2_with fail
    refine (wave_Wave_Text.calls KK A1 c1 out s w1 (Kd.R_reads' H1.out).2.2 (Kd.R_reads' H1.out).2.1 HTt.out).mono ?_
    rintro e w2 ⟨rfl, hb2⟩
    have H2 := Aside0.mk (Kd.R_below H1.out hb2)
    have HB2 := Aside0.mk (below_step HB1.out hb2)
    clear hb2
    go_wp2_with fail
    refine (wave_Wave_Long.calls KK A1 c1 out n w2 (Kd.R_reads' H2.out).2.2 (Kd.R_reads' H2.out).2.1 HNn.out).mono ?_
    rintro e w3 ⟨rfl, hb3⟩
    have HB3 := Aside0.mk (below_step HB2.out hb3)
    have HM3 := Aside0.mk ((HB3.out.cell (World.block_lt_of_cell? w _ HM.out)).trans HM.out)
    clear hb3
    cases b <;> (go_wp2_with fail; refine (one_calls m w3 HM3.out).mono ?_; rintro e w4 ⟨rfl, hb4⟩; have HB4 := Aside0.mk (below_step HB3.out hb4); clear hb4; go_wp2_with fail; go_ret; exact ⟨rfl, HB4.out⟩)
end Go.Proofs.YtedjjodnceinlaaDoor.PWv
