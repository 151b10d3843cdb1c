/- A schedule, as it comes in: opened. Helper text. -/
import Derived.Test.YtbaapakkdnhcmaaPWex0
import Derived.Test.YtbaapakkdnhcmaaK4
import Derived.Test.YtbaapakkdnhcmaaK5
import Derived.Test.YtbaapakkdnhcmaaCcV
import Derived.Test.YtbaapakkdnhcmaaCcFor
import Derived.Test.YtbaapakkdnhcmaaCcL
namespace Go.Proofs.Ytbaapakkdnhcmaa.PWe
open Go.RowKit Go.Proofs.Ytbaapakkdnhcmaa.Kx Go.Proofs.YtbaapakkdnhcmaaW.PrintWords Go.Proofs.YtbaapakkdnhcmaaW.PrintLast Go.Proofs.YtbaapakkdnhcmaaW.PrintMore
set_option linter.unusedVariables false
set_option linter.unusedSimpArgs false

instance : Inhabited S76 := ⟨z76⟩
/-- A window of a schedule, as it came in. -/
theorem opn_pwin : Opn 92 (fun w cs x => k76.K w x cs) := by
  intro H enc w held fuel cs d h
  have hn : Try.prog.cellsOf 3 = 1 := by kernel_rfl
  have hs : Try.prog.cellsOf 72 = 1 := by kernel_rfl
  have h6 : cs.length = 6 := by rw [(opn_struct Try.underlying92 h).1]; kernel_rfl
  obtain ⟨x0, x1, x2, x3, x4, x5, rfl⟩ := list6 cs h6
  obtain ⟨m0, y0, h0⟩ := opn_field Try.underlying92 h 0 3 0 1 (by kernel_rfl) hn
  obtain ⟨m1, y1, h1⟩ := opn_field Try.underlying92 h 1 3 1 1 (by kernel_rfl) hn
  obtain ⟨m2, y2, h2⟩ := opn_field Try.underlying92 h 2 3 2 1 (by kernel_rfl) hn
  obtain ⟨m3, y3, h3⟩ := opn_field Try.underlying92 h 3 3 3 1 (by kernel_rfl) hn
  obtain ⟨m4, y4, h4⟩ := opn_field Try.underlying92 h 4 72 4 1 (by kernel_rfl) hs
  obtain ⟨m5, y5, h5⟩ := opn_field Try.underlying92 h 5 72 5 1 (by kernel_rfl) hs
  obtain ⟨a0, e0, _⟩ := opn_int Try.underlying3 _ _ _ _ _ _ h0
  obtain ⟨a1, e1, _⟩ := opn_int Try.underlying3 _ _ _ _ _ _ h1
  obtain ⟨a2, e2, _⟩ := opn_int Try.underlying3 _ _ _ _ _ _ h2
  obtain ⟨a3, e3, _⟩ := opn_int Try.underlying3 _ _ _ _ _ _ h3
  obtain ⟨l4, A4, c4, e4, hl4, hm4, hr4⟩ := opn_slice (n := 1) (R := RInt .i64) Try.underlying72 (by kernel_rfl) (opn_int Try.underlying3) _ _ _ _ _ _ h4
  obtain ⟨l5, A5, c5, e5, hl5, hm5, hr5⟩ := opn_slice (n := 1) (R := RInt .i64) Try.underlying72 (by kernel_rfl) (opn_int Try.underlying3) _ _ _ _ _ _ h5
  simp at e0 e1 e2 e3 e4 e5
  refine ⟨⟨a0, a1, a2, a3, l4, l5⟩, ?_⟩
  rw [e0, e1, e2, e3, e4, e5]
  exact k76_mk w ⟨a0, a1, a2, a3, l4, l5⟩ hl4 (rsl_reads (d := Kd.int .i64) hr4 (fun cs x hx => hx.1) (Nat.le_trans hl4 hm4)) hl5 (rsl_reads (d := Kd.int .i64) hr5 (fun cs x hx => hx.1) (Nat.le_trans hl5 hm5))
/-- A schedule, as it came in. -/
structure Sch where
  md : Int
  A0 : Option Addr
  c0 : Nat
  l0 : List S76
  A1 : Option Addr
  c1 : Nat
  l1 : List S76
def Sch.arr (x : Sch) : Array Value := #[.int .i64 x.md, .slice x.A0 x.l0.length x.c0, .slice x.A1 x.l1.length x.c1]
def RSch (w : World) (cs : List Value) (x : Sch) : Prop := cs = x.arr.toList ∧ Kd.C k76 w x.A0 x.l0.length x.l0 ∧ Kd.C k76 w x.A1 x.l1.length x.l1 ∧ x.l0.length ≤ x.c0 ∧ x.l1.length ≤ x.c1
theorem opn_sch : Opn 43 RSch := by
  intro H enc w held fuel cs d h
  have hn : Try.prog.cellsOf 3 = 1 := by kernel_rfl
  have hs : Try.prog.cellsOf 40 = 1 := by kernel_rfl
  have ha : Try.prog.cellsOf 41 = 2 := by kernel_rfl
  have h3 : cs.length = 3 := by rw [(opn_struct Try.underlying43 h).1]; kernel_rfl
  obtain ⟨x0, x1, x2, rfl⟩ : ∃ a b c, cs = [a, b, c] := by
    match cs, h3 with
    | [a, b, c], _ => exact ⟨a, b, c, rfl⟩
  obtain ⟨m0, y0, h0⟩ := opn_field Try.underlying43 h 0 3 0 1 (by kernel_rfl) hn
  obtain ⟨mF, yF, hF⟩ := opn_field Try.underlying43 h 1 41 1 2 (by kernel_rfl) ha
  obtain ⟨m1, y1, h1⟩ := opn_item Try.underlying41 hF 1 hs 0 (by decide)
  obtain ⟨m2, y2, h2⟩ := opn_item Try.underlying41 hF 1 hs 1 (by decide)
  obtain ⟨a0, e0, _⟩ := opn_int Try.underlying3 _ _ _ _ _ _ h0
  obtain ⟨l1, A1, c1, e1, hl1, hm1, hr1⟩ := opn_slice (n := 6) Try.underlying40 (by kernel_rfl) opn_pwin _ _ _ _ _ _ h1
  obtain ⟨l2, A2, c2, e2, hl2, hm2, hr2⟩ := opn_slice (n := 6) Try.underlying40 (by kernel_rfl) opn_pwin _ _ _ _ _ _ h2
  simp at e0 e1 e2
  exact ⟨⟨a0, A1, c1, l1, A2, c2, l2⟩, by rw [e0, e1, e2]; rfl, rsl_reads (d := k76) hr1 (fun cs x hx => hx) (Nat.le_trans hl1 hm1), rsl_reads (d := k76) hr2 (fun cs x hx => hx) (Nat.le_trans hl2 hm2), hl1, hl2⟩
end Go.Proofs.Ytbaapakkdnhcmaa.PWe
namespace Go.Proofs.Ytbaapakkdnhcmaa.PWe
open Go.RowKit Go.Proofs.Ytbaapakkdnhcmaa.Kx Go.Proofs.YtbaapakkdnhcmaaW.PrintWords Go.Proofs.YtbaapakkdnhcmaaW.PrintLast Go.Proofs.YtbaapakkdnhcmaaW.PrintMore
set_option linter.unusedVariables false
set_option linter.unusedSimpArgs false

def okW (x : S76) : Bool := decide (x.f4.length ≤ 40) && decide (x.f5.length ≤ 40)
def okF (l : List S76) : Bool := decide (l.length ≤ 60) && l.all okW
/-- Are a schedule's lists short? -/
def fewP (l1 l2 : List S76) : Int := if okF l1 = true then (if okF l2 = true then 1 else 0) else 0
theorem okW_bad {l : List S76} {i : Nat} (h : i < l.length) (hx : okW l[i] = false) : okF l = false := by
  unfold okF
  have : l.all okW = false := by
    rw [List.all_eq_false]
    exact ⟨_, List.getElem_mem h, by rw [hx]; decide⟩
  rw [this, Bool.and_false]
set_option maxHeartbeats 4000000 in
set_option maxRecDepth 100000 in
theorem few_calls (m : Int) (A1 A2 : Option Addr) (c1 c2 : Nat) (l1 l2 : List S76) (w : World) (hr1 : Kd.C k76 w A1 l1.length l1) (hr2 : Kd.C k76 w A2 l2.length l2) {r : Int} (hr : fewP l1 l2 = r) :
    Calls Try.prog 14 #[.agg #[.int .i64 m, .slice A1 l1.length c1, .slice A2 l2.length c2]] w fun e w' => e = .returned (.int .i64 r) ∧ Below w.heap.size w w' := by
  have H1 := Aside0.mk hr1
  have H2 := Aside0.mk hr2
  have HR := Aside0.mk hr
  have HB : Aside0 (Below w.heap.size w w) := ⟨Below.refl _ _⟩
  have hm1 : l1.length ≤ 9223372036854775807 := hr1.2.1
  have hm2 : l2.length ≤ 9223372036854775807 := hr2.2.1
  clear hr1 hr2 hr
  go_enter Try.func14, Try.ntmps14
  go_wp2_with (first | ((with_reducible refine gate_dst (N := 1) rfl ?_); refine boxN (w := w) rfl (N := 1) rfl (cs := #[.int .i64 m, .slice A1 l1.length c1, .slice A2 l2.length c2]) (t := 43) (by first | (go_simp; done) | (go_simp; rfl)) HB ?_; intro g1 Wa Ha Lg1 HBa Ka; have y1 : Wa.cell? ⟨g1, 1, none⟩ = some (.slice A1 l1.length c1) := (cell_in Ha.out 1).trans rfl; have y2 : Wa.cell? ⟨g1, 1 + 1, none⟩ = some (.slice A2 l2.length c2) := (cell_in Ha.out 2).trans rfl))
  go_loopw [3, 4] (fun v3 _ wr => ∃ k : Nat, k ≤ 2 ∧ v3 = .int .i64 (k : Int) ∧ Aside0 (1 ≤ k → okF l1 = true) ∧ Aside0 (2 ≤ k → okF l2 = true) ∧ wr = Wa) (fun v3 _ _ => ((2 : Int) - intOf v3).toNat)
  case atStart => exact ⟨0, by omega, rfl, ⟨fun h => absurd h (by decide)⟩, ⟨fun h => absurd h (by decide)⟩, rfl⟩
  case round =>
    obtain ⟨k, hk, rfl, HQ1, HQ2, hwr⟩ := hrel
    obtain rfl := hwr.symm
    rcases (by omega : k = 0 ∨ k = 1 ∨ k = 2) with rfl | rfl | rfl
    · by_cases h60 : 60 < l1.length
      · have m1 : decide (60 < (l1.length : Int)) = true := decide_eq_true (by omega)
        have m2 : decide (60 < l1.length) = true := decide_eq_true h60
        have HBAD : Aside0 (okF l1 = false) := ⟨by unfold okF; rw [decide_eq_false (by omega)]; rfl⟩
        have HE : Aside0 ((0 : Int) = r) := ⟨by rw [← HR.out]; unfold fewP; rw [if_neg (by rw [HBAD.out]; decide)]⟩
        clear h60
        go_wp2_with fail
        go_ret
        exact ⟨by rw [← HE.out]; rfl, HBa.out⟩
      have m1 : decide (60 < (l1.length : Int)) = false := decide_eq_false (by omega)
      have m2 : decide (60 < l1.length) = false := decide_eq_false h60
      have H60 := Aside0.mk h60
      have hl60 : l1.length ≤ 60 := by omega
      clear h60
      go_wp2_with fail
      go_loopw [4] (fun v4 wi => ∃ i : Nat, i ≤ l1.length ∧ v4 = .int .i64 (i : Int) ∧ Aside0 ((l1.take i).all okW = true) ∧ wi = Wa) (fun v4 _ => ((l1.length : Int) - intOf v4).toNat)
      case atStart => exact ⟨0, Nat.zero_le _, rfl, ⟨by rw [List.take_zero]; rfl⟩, rfl⟩
      case round =>
        obtain ⟨i, hi, rfl, HA, hwi⟩ := hrel
        obtain rfl := hwi.symm
        by_cases hlt : i < l1.length
        · have d1 : decide ((i : Int) < (l1.length : Int)) = true := decide_eq_true (by omega)
          have d2 : decide (i < l1.length) = true := decide_eq_true hlt
          have q1 : (0 ≤ (i : Int)) = True := eq_true (by omega)
          have q2 : ((i : Int) < (l1.length : Int)) = True := eq_true (by omega)
          have q3 : (i < l1.length) = True := eq_true hlt
          obtain ⟨x, hx⟩ : ∃ x, l1[i] = x := ⟨_, rfl⟩
          obtain ⟨ad, A4, c4, A5, c5, hA, x0, x1, x2, x3, x4, x5, hl4, hr4, hl5, hr5⟩ := win_at H1.out HBa.out hlt hx
          subst hA
          have HX : Aside0 (okW x = false → okF l1 = false) := ⟨fun h => okW_bad hlt (by rw [hx]; exact h)⟩
          have HN : Aside0 (okW x = true → (l1.take (i + 1)).all okW = true) := ⟨fun h => by rw [List.take_add_one, List.getElem?_eq_getElem hlt, hx, List.all_append, HA.out]; simp [h]⟩
          have HLT := Aside0.mk hlt
          clear hx hlt hr4 hr5
          by_cases h4 : 40 < x.f4.length
          · have n1 : decide (40 < (x.f4.length : Int)) = true := decide_eq_true (by omega)
            have n2 : decide (40 < x.f4.length) = true := decide_eq_true h4
            have HBAD : Aside0 (okF l1 = false) := ⟨HX.out (by unfold okW; rw [decide_eq_false (by omega)]; rfl)⟩
            have HE : Aside0 ((0 : Int) = r) := ⟨by rw [← HR.out]; unfold fewP; rw [if_neg (by rw [HBAD.out]; decide)]⟩
            clear h4
            go_wp2_with fail
            go_ret
            exact ⟨by rw [← HE.out]; rfl, HBa.out⟩
          have n1 : decide (40 < (x.f4.length : Int)) = false := decide_eq_false (by omega)
          have n2 : decide (40 < x.f4.length) = false := decide_eq_false h4
          by_cases h5 : 40 < x.f5.length
          · have n3 : decide (40 < (x.f5.length : Int)) = true := decide_eq_true (by omega)
            have n4 : decide (40 < x.f5.length) = true := decide_eq_true h5
            have HBAD : Aside0 (okF l1 = false) := ⟨HX.out (by unfold okW; rw [decide_eq_false (show ¬ x.f5.length ≤ 40 by omega), Bool.and_false])⟩
            have HE : Aside0 ((0 : Int) = r) := ⟨by rw [← HR.out]; unfold fewP; rw [if_neg (by rw [HBAD.out]; decide)]⟩
            clear h4 h5
            go_wp2_with fail
            go_ret
            exact ⟨by rw [← HE.out]; rfl, HBa.out⟩
          have n3 : decide (40 < (x.f5.length : Int)) = false := decide_eq_false (by omega)
          have n4 : decide (40 < x.f5.length) = false := decide_eq_false h5
          have HOKX : Aside0 (okW x = true) := ⟨by unfold okW; rw [decide_eq_true (by omega), decide_eq_true (by omega)]; rfl⟩
          clear h4 h5
          go_wp2_with fail
          exact ⟨⟨i + 1, by have := HLT.out; omega, by simp, ⟨HN.out HOKX.out⟩, (by first | trivial | rfl)⟩, by have := HLT.out; simp [intOf]; omega⟩
        · have d1 : decide ((i : Int) < (l1.length : Int)) = false := decide_eq_false (by omega)
          have d2 : decide (i < l1.length) = false := decide_eq_false hlt
          have hok : okF l1 = true := by
            have h := HA.out
            rw [List.take_of_length_le (by omega)] at h
            unfold okF
            rw [h, decide_eq_true (by have := H60.out; omega)]
            rfl
          have HOKF := Aside0.mk hok
          clear hlt hok
          go_wp2_with fail
          exact ⟨⟨1, by omega, rfl, ⟨fun _ => HOKF.out⟩, ⟨fun h => absurd h (by decide)⟩, (by first | trivial | rfl)⟩, by simp [intOf]⟩
    · by_cases h60 : 60 < l2.length
      · have m1 : decide (60 < (l2.length : Int)) = true := decide_eq_true (by omega)
        have m2 : decide (60 < l2.length) = true := decide_eq_true h60
        have HBAD : Aside0 (okF l2 = false) := ⟨by unfold okF; rw [decide_eq_false (by omega)]; rfl⟩
        have HE : Aside0 ((0 : Int) = r) := ⟨by rw [← HR.out]; unfold fewP; rw [if_pos (HQ1.out (by decide)), if_neg (by rw [HBAD.out]; decide)]⟩
        clear h60
        go_wp2_with fail
        go_ret
        exact ⟨by rw [← HE.out]; rfl, HBa.out⟩
      have m1 : decide (60 < (l2.length : Int)) = false := decide_eq_false (by omega)
      have m2 : decide (60 < l2.length) = false := decide_eq_false h60
      have H60 := Aside0.mk h60
      have hl60 : l2.length ≤ 60 := by omega
      clear h60
      go_wp2_with fail
      go_loopw [4] (fun v4 wi => ∃ i : Nat, i ≤ l2.length ∧ v4 = .int .i64 (i : Int) ∧ Aside0 ((l2.take i).all okW = true) ∧ wi = Wa) (fun v4 _ => ((l2.length : Int) - intOf v4).toNat)
      case atStart => exact ⟨0, Nat.zero_le _, rfl, ⟨by rw [List.take_zero]; rfl⟩, rfl⟩
      case round =>
        obtain ⟨i, hi, rfl, HA, hwi⟩ := hrel
        obtain rfl := hwi.symm
        by_cases hlt : i < l2.length
        · have d1 : decide ((i : Int) < (l2.length : Int)) = true := decide_eq_true (by omega)
          have d2 : decide (i < l2.length) = true := decide_eq_true hlt
          have q1 : (0 ≤ (i : Int)) = True := eq_true (by omega)
          have q2 : ((i : Int) < (l2.length : Int)) = True := eq_true (by omega)
          have q3 : (i < l2.length) = True := eq_true hlt
          obtain ⟨x, hx⟩ : ∃ x, l2[i] = x := ⟨_, rfl⟩
          obtain ⟨ad, A4, c4, A5, c5, hA, x0, x1, x2, x3, x4, x5, hl4, hr4, hl5, hr5⟩ := win_at H2.out HBa.out hlt hx
          subst hA
          have HX : Aside0 (okW x = false → okF l2 = false) := ⟨fun h => okW_bad hlt (by rw [hx]; exact h)⟩
          have HN : Aside0 (okW x = true → (l2.take (i + 1)).all okW = true) := ⟨fun h => by rw [List.take_add_one, List.getElem?_eq_getElem hlt, hx, List.all_append, HA.out]; simp [h]⟩
          have HLT := Aside0.mk hlt
          clear hx hlt hr4 hr5
          by_cases h4 : 40 < x.f4.length
          · have n1 : decide (40 < (x.f4.length : Int)) = true := decide_eq_true (by omega)
            have n2 : decide (40 < x.f4.length) = true := decide_eq_true h4
            have HBAD : Aside0 (okF l2 = false) := ⟨HX.out (by unfold okW; rw [decide_eq_false (by omega)]; rfl)⟩
            have HE : Aside0 ((0 : Int) = r) := ⟨by rw [← HR.out]; unfold fewP; rw [if_pos (HQ1.out (by decide)), if_neg (by rw [HBAD.out]; decide)]⟩
            clear h4
            go_wp2_with fail
            go_ret
            exact ⟨by rw [← HE.out]; rfl, HBa.out⟩
          have n1 : decide (40 < (x.f4.length : Int)) = false := decide_eq_false (by omega)
          have n2 : decide (40 < x.f4.length) = false := decide_eq_false h4
          by_cases h5 : 40 < x.f5.length
          · have n3 : decide (40 < (x.f5.length : Int)) = true := decide_eq_true (by omega)
            have n4 : decide (40 < x.f5.length) = true := decide_eq_true h5
            have HBAD : Aside0 (okF l2 = false) := ⟨HX.out (by unfold okW; rw [decide_eq_false (show ¬ x.f5.length ≤ 40 by omega), Bool.and_false])⟩
            have HE : Aside0 ((0 : Int) = r) := ⟨by rw [← HR.out]; unfold fewP; rw [if_pos (HQ1.out (by decide)), if_neg (by rw [HBAD.out]; decide)]⟩
            clear h4 h5
            go_wp2_with fail
            go_ret
            exact ⟨by rw [← HE.out]; rfl, HBa.out⟩
          have n3 : decide (40 < (x.f5.length : Int)) = false := decide_eq_false (by omega)
          have n4 : decide (40 < x.f5.length) = false := decide_eq_false h5
          have HOKX : Aside0 (okW x = true) := ⟨by unfold okW; rw [decide_eq_true (by omega), decide_eq_true (by omega)]; rfl⟩
          clear h4 h5
          go_wp2_with fail
          exact ⟨⟨i + 1, by have := HLT.out; omega, by simp, ⟨HN.out HOKX.out⟩, (by first | trivial | rfl)⟩, by have := HLT.out; simp [intOf]; omega⟩
        · have d1 : decide ((i : Int) < (l2.length : Int)) = false := decide_eq_false (by omega)
          have d2 : decide (i < l2.length) = false := decide_eq_false hlt
          have hok : okF l2 = true := by
            have h := HA.out
            rw [List.take_of_length_le (by omega)] at h
            unfold okF
            rw [h, decide_eq_true (by have := H60.out; omega)]
            rfl
          have HOKF := Aside0.mk hok
          clear hlt hok
          go_wp2_with fail
          exact ⟨⟨2, by omega, rfl, ⟨fun _ => HQ1.out (by decide)⟩, ⟨fun _ => HOKF.out⟩, (by first | trivial | rfl)⟩, by simp [intOf]⟩
    · have HE : Aside0 ((1 : Int) = r) := ⟨by rw [← HR.out]; unfold fewP; rw [if_pos (HQ1.out (by decide)), if_pos (HQ2.out (by decide))]⟩
      go_wp2_with fail
      go_ret
      exact ⟨by rw [← HE.out]; rfl, HBa.out⟩
end Go.Proofs.Ytbaapakkdnhcmaa.PWe
namespace Go.Proofs.Ytbaapakkdnhcmaa.PWe
open Go.RowKit Go.Proofs.Ytbaapakkdnhcmaa.Kx Go.Proofs.YtbaapakkdnhcmaaW.PrintWords Go.Proofs.YtbaapakkdnhcmaaW.PrintLast Go.Proofs.YtbaapakkdnhcmaaW.PrintMore
set_option linter.unusedVariables false
set_option linter.unusedSimpArgs false
theorem readP_in {b : List Int} {i : Nat} {op : Int} (hi : i < b.length) (hop : rd b (i : Int) = op) (h8 : op ≤ 8) (hl : (i : Int) + longP op ≤ (b.length : Int)) : readP b (i : Int) = if rightL (cmdP b (i : Int) op) = true then (cmdP b (i : Int) op, (i : Int) + longP op, 0) else (zero7, 0, 11) := by
  rw [readP, if_neg (by omega), if_neg (by omega), hop, if_neg (by omega), if_neg (by omega)]
/-- The same bytes at two places: the same command. -/
theorem cmdP_same {b c : List Int} {i j : Int} {op : Int} (h : ∀ k : Int, 0 ≤ k → k < longP op → rd b (i + k) = rd c (j + k)) : cmdP b i op = cmdP c j op := by
  have h1 := h 1
  have h2 := h 2
  have h3 := h 3
  have h4 := h 4
  unfold longP at h1 h2 h3 h4
  unfold cmdP
  repeat' split
  all_goals simp_all
  all_goals (try (rename_i hh; rcases hh with hh | hh <;> simp_all))
theorem rd_app1 {a b : List Int} {k : Int} (h0 : 0 ≤ k) (h : k < (a.length : Int)) : rd (a ++ b) k = rd a k := by
  obtain ⟨n, rfl⟩ := Int.eq_ofNat_of_zero_le h0
  unfold rd
  rw [Int.toNat_natCast, List.getD_eq_getElem?_getD, List.getD_eq_getElem?_getD, List.getElem?_append_left (by omega)]
theorem rd_app2 {a b : List Int} {k : Int} (h0 : 0 ≤ k) : rd (a ++ b) ((a.length : Int) + k) = rd b k := by
  obtain ⟨n, rfl⟩ := Int.eq_ofNat_of_zero_le h0
  unfold rd
  rw [show (a.length : Int) + (n : Int) = ((a.length + n : Nat) : Int) by omega, Int.toNat_natCast, Int.toNat_natCast, List.getD_eq_getElem?_getD, List.getD_eq_getElem?_getD, List.getElem?_append_right (by omega), Nat.add_sub_cancel_left]
/-- A chain of plain commands from a place to another one. -/
inductive Chain (b : List Int) : Int → Int → List (List Int) → Prop where
  | here (i : Int) : Chain b i i []
  | next {i j : Int} {op : Int} {l : List (List Int)} (h0 : 0 ≤ i) (hop : rd b i = op) (h1 : 1 ≤ op) (h5 : op ≤ 5) (hl : i + longP op ≤ j) (hr : rightL (cmdP b i op) = true) (h : Chain b (i + longP op) j l) : Chain b i j (cmdP b i op :: l)
theorem longP_bd (op : Int) : 1 ≤ longP op ∧ longP op ≤ 5 := by unfold longP; repeat' split <;> omega
theorem Chain.le {b : List Int} {i j : Int} {l : List (List Int)} (h : Chain b i j l) : i ≤ j := by
  induction h with
  | here i => omega
  | next h0 hop h1 h5 hl hr h ih =>
    rename_i op _
    have := longP_bd op
    omega
theorem Chain.len {b : List Int} {i j : Int} {l : List (List Int)} (h : Chain b i j l) : (l.length : Int) ≤ j - i := by
  induction h with
  | here i => simp
  | next h0 hop h1 h5 hl hr h ih =>
    rename_i op _
    have := (longP_bd op).1
    rw [List.length_cons]
    omega
theorem Chain.snoc {b : List Int} {i j : Int} {op : Int} {l : List (List Int)} (h : Chain b i j l) (h0 : 0 ≤ j) (hop : rd b j = op) (h1 : 1 ≤ op) (h5 : op ≤ 5) (hr : rightL (cmdP b j op) = true) : Chain b i (j + longP op) (l ++ [cmdP b j op]) := by
  induction h with
  | here i => exact Chain.next h0 hop h1 h5 (Int.le_refl _) hr (Chain.here _)
  | next h0' hop' h1' h5' hl' hr' h' ih =>
    have := (longP_bd op).1
    exact Chain.next h0' hop' h1' h5' (by omega) hr' (ih h0 hop hr)
/-- A chain in other bytes. -/
theorem Chain.move {b c : List Int} {i j d : Int} {l : List (List Int)} (h : Chain b i j l) (hd : 0 ≤ i + d) (hs : ∀ k : Int, i ≤ k → k < j → rd c (k + d) = rd b k) : Chain c (i + d) (j + d) l := by
  induction h with
  | here i => exact Chain.here _
  | next h0 hop h1 h5 hl hr h ih =>
    rename_i i j op l
    have hp := (longP_bd op).1
    have hsame : cmdP c (i + d) op = cmdP b i op := cmdP_same fun k hk0 hk1 => by
      rw [show i + d + k = (i + k) + d by omega]
      exact hs (i + k) (by omega) (by omega)
    have ih2 := ih (by omega) fun k h1 h2 => hs k (by omega) h2
    have e := Chain.next (b := c) (i := i + d) (j := j + d) (op := op) (l := l) hd ((hs i (Int.le_refl _) (by omega)).trans hop) h1 h5 (by omega) (by rw [hsame]; exact hr) (by rw [show i + d + longP op = i + longP op + d by omega]; exact ih2)
    rwa [hsame] at e
/-- What a walk comes to by plain commands: the windows, or too many of them. -/
def adds (md : Int) : List (List Int) → List S76 → Option (List S76)
  | [], out => some out
  | C :: l, out => match windowP md (C.getD 0 0) (C.getD 1 0) (C.getD 2 0) (C.getD 3 0) (C.getD 4 0) (C.getD 5 0) with
    | some x => if 32 ≤ (out.length : Int) then none else adds md l (out ++ [x])
    | none => adds md l out
theorem turn_plain {op t nx : Int} {back : List Int} (h1 : 1 ≤ op) (h5 : op ≤ 5) : turnF op t nx back = (0, nx, back) := by
  unfold turnF
  rw [if_neg (by omega), if_neg (by omega), if_neg (by omega)]
theorem cmdP_op (b : List Int) (i op : Int) : (cmdP b i op).getD 0 0 = op := by
  unfold cmdP
  by_cases h1 : op = 1
  · rw [if_pos h1]; rfl
  rw [if_neg h1]
  by_cases h2 : op = 2
  · rw [if_pos h2]; rfl
  rw [if_neg h2]
  by_cases h3 : op = 3
  · rw [if_pos h3]; rfl
  rw [if_neg h3]
  by_cases h4 : op = 4
  · rw [if_pos h4]; rfl
  rw [if_neg h4]
  by_cases h6 : op = 6 ∨ op = 8
  · rw [if_pos h6]; rfl
  rw [if_neg h6]; rfl
theorem win_chain (md : Int) {b : List Int} (hb : Bytes b) (hbl : b.length ≤ 100000) {i j : Int} {l : List (List Int)} (h : Chain b i j l) : ∀ (n : Nat) (back : List Int) (out : List S76), j ≤ (b.length : Int) →
    winL md b (n + l.length) i back out = match adds md l out with | some out' => winL md b n j back out' | none => some ([], 15) := by
  induction h with
  | here i => intro n back out hj; rfl
  | next h0 hop h1 h5 hl hr h ih =>
    rename_i i j op l
    intro n back out hj
    have hp := longP_bd op
    obtain ⟨m, rfl⟩ := Int.eq_ofNat_of_zero_le h0
    have hrd : readP b (m : Int) = (cmdP b (m : Int) op, (m : Int) + longP op, 0) := by rw [readP_in (by omega) hop (by omega) (by omega), if_pos hr]
    rw [List.length_cons, show n + (l.length + 1) = (n + l.length) + 1 by omega, winL, readF_is hb hbl, Option.bind_some, hrd]
    have hC : CmdOK (cmdP b (m : Int) op) := cmd_ok hr
    simp only
    rw [if_pos trivial, cmdP_op, if_neg (by omega), turn_plain h1 h5]
    simp only
    rw [if_pos trivial]
    have hm : 0 ≤ (cmdP b (m : Int) op).getD 4 0 ∧ (cmdP b (m : Int) op).getD 4 0 ≤ 4 := by
      obtain ⟨op', a, w, c, mm, bi, t, e, hrr, hmm, -⟩ := hC
      rw [e]
      have h3 := (rightP_iff _ _ _ _ _ _ _).1 hrr
      show 0 ≤ mm ∧ mm ≤ 4
      by_cases hq : op' = 1 ∨ op' = 2 ∨ op' = 3
      · have := (h3.2.1 hq).2; omega
      · have := hmm hq; omega
    rw [window_f _ _ _ _ _ _ _ _ hm.1 hm.2, Option.bind_some, adds, cmdP_op]
    cases hw : windowP md op ((cmdP b (m : Int) op).getD 1 0) ((cmdP b (m : Int) op).getD 2 0) ((cmdP b (m : Int) op).getD 3 0) ((cmdP b (m : Int) op).getD 4 0) ((cmdP b (m : Int) op).getD 5 0) with
    | none =>
      rw [if_neg (by simp [tup])]
      exact ih n back out hj
    | some x =>
      rw [if_pos (by simp [tup])]
      simp only
      split
      · rfl
      · exact ih n back _ hj
theorem Bytes.append {a b : List Int} (ha : Bytes a) (hb : Bytes b) : Bytes (a ++ b) := fun x hx => by
  rcases List.mem_append.1 hx with h | h
  · exact ha x h
  · exact hb x h
theorem end_step (md : Int) {c : List Int} (hc : Bytes c) (hl : c.length ≤ 100000) {i : Nat} (hi : i < c.length) (h : rd c (i : Int) = 0) (n : Nat) (back : List Int) (out : List S76) : winL md c (n + 1) (i : Int) back out = some (out, 0) := by
  have hr : readP c (i : Int) = ([0, 0, 0, 0, 0, 0, 0], (i : Int) + 1, 0) := by
    rw [readP_in hi h (by decide) (by rw [show longP 0 = 1 from by decide]; omega)]
    rfl
  rw [winL, readF_is hc hl, Option.bind_some, hr]
  rfl
/-- A call of a body of plain commands that returns, and an end behind. -/
theorem win_called (md : Int) {c : List Int} (hc : Bytes c) (hl : c.length ≤ 1024) {p j : Nat} {le : Nat} {l : List (List Int)} (h6 : rd c (p : Int) = 6) (hj : 256 * rd c ((p : Int) + 1) + rd c ((p : Int) + 2) = (j : Int)) (h0 : rd c ((p : Int) + 3) = 0) (hp : p + 3 < c.length)
    (hch : Chain c (j : Int) ((j : Int) + (le : Int)) l) (h7 : rd c ((j : Int) + (le : Int)) = 7) (hje : j + le < c.length) (hll : l.length ≤ 1000) {o : List S76} (ho : adds md l [] = some o) : winL md c 4096 (p : Int) [] [] = some (o, 0) := by
  obtain ⟨n, hn⟩ : ∃ n, 4096 = n + 1 + 1 + l.length + 1 := ⟨4096 - 3 - l.length, by omega⟩
  rw [hn]
  have hr : readP c (p : Int) = ([6, 0, 0, 0, 0, 0, (j : Int)], (p : Int) + 3, 0) := by
    have hc6 : cmdP c (p : Int) 6 = [6, 0, 0, 0, 0, 0, (j : Int)] := by
      unfold cmdP
      rw [if_neg (by decide), if_neg (by decide), if_neg (by decide), if_neg (by decide), if_pos (by decide), hj]
    rw [readP_in (by omega) h6 (by decide) (by rw [show longP 6 = 3 from by decide]; omega), hc6, if_pos (by show rightP 6 0 0 0 0 0 (j : Int) = true; rw [rightP_iff]; omega)]
    rfl
  rw [winL, readF_is hc (by omega), Option.bind_some, hr]
  simp only [List.getD_cons_zero, List.getD_cons_succ]
  rw [if_pos trivial, if_neg (by decide)]
  have ht : turnF 6 (j : Int) ((p : Int) + 3) [] = (0, (j : Int), [(p : Int) + 3]) := rfl
  rw [ht]
  simp only
  rw [if_pos trivial, window_f _ _ _ _ _ _ _ _ (by decide) (by decide), Option.bind_some]
  show winL md c (n + 1 + 1 + l.length) (j : Int) [(p : Int) + 3] [] = _
  rw [win_chain md hc (by omega) hch _ _ _ (by omega), ho]
  simp only
  have e7 : (j : Int) + (le : Int) = ((j + le : Nat) : Int) := by omega
  rw [e7] at h7 ⊢
  have hr7 : readP c ((j + le : Nat) : Int) = ([7, 0, 0, 0, 0, 0, 0], ((j + le : Nat) : Int) + 1, 0) := by
    rw [readP_in hje h7 (by decide) (by rw [show longP 7 = 1 from by decide]; omega)]
    rfl
  rw [winL, readF_is hc (by omega), Option.bind_some, hr7]
  simp only [List.getD_cons_zero, List.getD_cons_succ]
  rw [if_pos trivial, if_neg (by decide)]
  have ht7 : turnF 7 0 (((j + le : Nat) : Int) + 1) [(p : Int) + 3] = (0, (p : Int) + 3, []) := rfl
  rw [ht7]
  simp only
  rw [if_pos trivial, window_f _ _ _ _ _ _ _ _ (by decide) (by decide), Option.bind_some]
  show winL md c (n + 1) ((p : Int) + 3) [] o = _
  have := end_step md hc (by omega) (i := p + 3) hp (by rw [← h0]; congr 1) n [] o
  rw [← this]
  congr 1
/-- A window as a module's walk has it. -/
def wndM (md : Int) (x : S76) : S76 :=
  if x.f0 = 1 then ⟨1, x.f1, 0, 0, [], []⟩ else if x.f0 = 2 then ⟨2, 0, 0, 0, [], []⟩
  else if opP x.f4 x.f5 md = 1 then ⟨0, 0, x.f2, x.f3, fromL (x.f4.length : Int) (candP x.f4 md) md, []⟩
  else if opP x.f4 x.f5 md = 2 then ⟨0, 0, x.f2, x.f3, fromL (x.f4.length : Int) (-1) md, [md]⟩ else ⟨0, 0, x.f2, 0, fromL (x.f4.length : Int) (-1) md, []⟩
def winC (md : Int) (C : List Int) : Option S76 := windowP md (C.getD 0 0) (C.getD 1 0) (C.getD 2 0) (C.getD 3 0) (C.getD 4 0) (C.getD 5 0)
theorem idxP_bd {α : Type} (p : α → Bool) : ∀ (l : List α) (k : Nat), idxP p l k = -1 ∨ ((k : Int) ≤ idxP p l k ∧ idxP p l k < (k : Int) + (l.length : Int))
  | [], k => .inl rfl
  | x :: r, k => by
    rw [idxP]
    split
    · exact .inr (by rw [List.length_cons]; omega)
    · rcases idxP_bd p r (k + 1) with h | h
      · exact .inl h
      · exact .inr (by rw [List.length_cons]; omega)
theorem data_in {wd ad m : Int} {lf lt : List Int} (h : dataP wd ad lf lt m = 0) : (1 ≤ wd ∧ wd ≤ 8) ∧ (0 ≤ ad ∧ ad ≤ 64 - wd) ∧ (lf.length ≤ 4 ∧ namedP lf m = 0) ∧ twiceP [] lf = false ∧ namedP lt m = 0 ∧ twiceP lf lt = false := by
  unfold dataP at h
  by_cases h0 : wd < 1
  · rw [if_pos h0] at h; cases h
  rw [if_neg h0] at h
  by_cases h1 : 8 < wd
  · rw [if_pos h1] at h; cases h
  rw [if_neg h1] at h
  by_cases h2 : ad < 0
  · rw [if_pos h2] at h; cases h
  rw [if_neg h2] at h
  by_cases h3 : 64 - wd < ad
  · rw [if_pos h3] at h; cases h
  rw [if_neg h3] at h
  by_cases h4 : 4 < (lf.length : Int)
  · rw [if_pos h4] at h; cases h
  rw [if_neg h4] at h
  by_cases h5 : namedP lf m ≠ 0
  · rw [if_pos h5] at h; cases h
  rw [if_neg h5] at h
  cases h6 : twiceP [] lf
  rotate_left
  · rw [h6, if_pos rfl] at h; cases h
  rw [h6, if_neg (by decide)] at h
  by_cases h7 : namedP lt m ≠ 0
  · rw [if_pos h7] at h; cases h
  rw [if_neg h7] at h
  cases h8 : twiceP lf lt
  rotate_left
  · rw [h8, if_pos rfl] at h; cases h
  exact ⟨by omega, by omega, ⟨by omega, Classical.not_not.1 h5⟩, rfl, Classical.not_not.1 h7, rfl⟩
theorem named_in {l : List Int} {m : Int} (h : namedP l m = 0) : 1 ≤ l.length ∧ ∀ x ∈ l, 0 ≤ x ∧ x < m := by
  unfold namedP at h
  by_cases h0 : l.length = 0
  · rw [if_pos h0] at h; cases h
  rw [if_neg h0] at h
  cases ha : l.any (outP m)
  · refine ⟨by omega, fun x hx => ?_⟩
    have h2 := List.any_eq_false.1 ha x hx
    unfold outP at h2
    simp at h2
    omega
  · rw [ha, if_pos rfl] at h; cases h
/-- A window that may be: its command's bytes, and what they are read as. -/
theorem cmd_enc {x : S76} {m md : Int} (h : wndP x m = 0) (hmd : 0 ≤ md) : ∃ (op : Int) (E : List Int), putS (cmdS x md) = E ∧ (E.length : Int) = longP op ∧ (1 ≤ op ∧ op ≤ 5) ∧ rd E 0 = op ∧ rightL (cmdW x md) = true ∧
    (∀ (b : List Int) (i : Int), (∀ k : Int, 0 ≤ k → k < longP op → rd b (i + k) = rd E k) → cmdP b i op = cmdW x md) ∧ winC md (cmdW x md) = some (wndM md x) := by
  unfold wndP at h
  by_cases h0 : x.f0 = 0
  · rw [if_pos h0] at h
    obtain ⟨hw, ha, ⟨hl, hn⟩, _, _, _⟩ := data_in h
    have hn1 := (named_in hn).1
    obtain ⟨n, hn'⟩ : ∃ n, x.f4.length = n := ⟨_, rfl⟩
    rw [hn'] at hl hn1
    have e1 : ¬ x.f0 = 1 := by omega
    have e2 : ¬ x.f0 = 2 := by omega
    have hcd := idxP_bd (fun y => md == y) x.f4 0
    obtain ⟨cd, hcd'⟩ : ∃ c, candP x.f4 md = c := ⟨_, rfl⟩
    rw [show idxP (fun y => md == y) x.f4 0 = cd from hcd', hn'] at hcd
    have m1 : x.f3 % 256 = x.f3 := by omega
    have m2 : x.f2 % 256 = x.f2 := by omega
    have m3 : (n : Int) % 256 = (n : Int) := by omega
    rcases op_three x.f4 x.f5 md with e | e | e
    · have hc0 : 0 ≤ cd := by
        unfold opP at e
        rw [hcd'] at e
        by_cases hc : 0 ≤ cd
        · exact hc
        · rw [if_neg hc] at e
          split at e <;> cases e
      have m4 : cd % 256 = cd := by omega
      have hW : cmdW x md = [1, x.f3, x.f2, cd, (n : Int), 0, 0] := by
        unfold cmdW
        rw [if_neg e1, if_neg e2, e, hcd', if_pos hc0, hn']
        rfl
      refine ⟨1, [1, x.f3, x.f2, cd, (n : Int)], ?_, rfl, by omega, rfl, ?_, ?_, ?_⟩
      · have hr : rgtS (cmdS x md) = true := by
          unfold cmdS; rw [hW]; show rightP 1 x.f3 x.f2 cd (n : Int) 0 0 = true; rw [rightP_iff]; omega
        unfold putS
        rw [if_pos hr]
        unfold cmdS
        rw [hW]
        show [1 % 256] ++ [x.f3 % 256, x.f2 % 256, cd % 256, (n : Int) % 256] ++ [] = _
        rw [m1, m2, m3, m4]
        rfl
      · rw [hW]; show rightP 1 x.f3 x.f2 cd (n : Int) 0 0 = true; rw [rightP_iff]; omega
      · intro b i hb
        have b1 := hb 1 (by decide) (by decide)
        have b2 := hb 2 (by decide) (by decide)
        have b3 := hb 3 (by decide) (by decide)
        have b4 := hb 4 (by decide) (by decide)
        unfold cmdP
        rw [if_pos rfl, b1, b2, b3, b4, hW]
        rfl
      · rw [hW]
        unfold wndM
        rw [if_neg e1, if_neg e2, if_pos e, hn', hcd']
        rfl
    · have hW : cmdW x md = [2, x.f3, x.f2, 0, (n : Int), 0, 0] := by
        unfold cmdW
        rw [if_neg e1, if_neg e2, e, hn']
        rfl
      refine ⟨2, [2, x.f3, x.f2, (n : Int)], ?_, rfl, by omega, rfl, ?_, ?_, ?_⟩
      · have hr : rgtS (cmdS x md) = true := by
          unfold cmdS; rw [hW]; show rightP 2 x.f3 x.f2 0 (n : Int) 0 0 = true; rw [rightP_iff]; omega
        unfold putS
        rw [if_pos hr]
        unfold cmdS
        rw [hW]
        show [2 % 256] ++ [x.f3 % 256, x.f2 % 256, (n : Int) % 256] ++ [] = _
        rw [m1, m2, m3]
        rfl
      · rw [hW]; show rightP 2 x.f3 x.f2 0 (n : Int) 0 0 = true; rw [rightP_iff]; omega
      · intro b i hb
        have b1 := hb 1 (by decide) (by decide)
        have b2 := hb 2 (by decide) (by decide)
        have b3 := hb 3 (by decide) (by decide)
        unfold cmdP
        rw [if_neg (by decide), if_pos rfl, b1, b2, b3, hW]
        rfl
      · rw [hW]
        unfold wndM
        rw [if_neg e1, if_neg e2, if_neg (by rw [e]; decide), if_pos e, hn']
        rfl
    · have hW : cmdW x md = [3, 0, x.f2, 0, (n : Int), 0, 0] := by
        unfold cmdW
        rw [if_neg e1, if_neg e2, e, hn']
        rfl
      refine ⟨3, [3, x.f2, (n : Int)], ?_, rfl, by omega, rfl, ?_, ?_, ?_⟩
      · have hr : rgtS (cmdS x md) = true := by
          unfold cmdS; rw [hW]; show rightP 3 0 x.f2 0 (n : Int) 0 0 = true; rw [rightP_iff]; omega
        unfold putS
        rw [if_pos hr]
        unfold cmdS
        rw [hW]
        show [3 % 256] ++ [x.f2 % 256, (n : Int) % 256] ++ [] = _
        rw [m2, m3]
        rfl
      · rw [hW]; show rightP 3 0 x.f2 0 (n : Int) 0 0 = true; rw [rightP_iff]; omega
      · intro b i hb
        have b1 := hb 1 (by decide) (by decide)
        have b2 := hb 2 (by decide) (by decide)
        unfold cmdP
        rw [if_neg (by decide), if_neg (by decide), if_pos rfl, b1, b2, hW]
        rfl
      · rw [hW]
        unfold wndM
        rw [if_neg e1, if_neg e2, if_neg (by rw [e]; decide), if_neg (by rw [e]; decide), hn']
        rfl
  rw [if_neg h0] at h
  by_cases h1 : x.f0 = 1
  · rw [if_pos h1] at h
    have hb : 1 ≤ x.f1 ∧ x.f1 ≤ 100 := by
      by_cases a : x.f1 < 1
      · rw [if_pos a] at h; cases h
      rw [if_neg a] at h
      by_cases b : 100 < x.f1
      · rw [if_pos b] at h; cases h
      omega
    have m1 : x.f1 % 256 = x.f1 := by omega
    have hW : cmdW x md = [4, 0, 0, 0, 0, x.f1, 0] := by unfold cmdW; rw [if_pos h1]
    refine ⟨4, [4, x.f1], ?_, rfl, by omega, rfl, ?_, ?_, ?_⟩
    · have hr : rgtS (cmdS x md) = true := by
        unfold cmdS; rw [hW]; show rightP 4 0 0 0 0 x.f1 0 = true; rw [rightP_iff]; omega
      unfold putS
      rw [if_pos hr]
      unfold cmdS
      rw [hW]
      show [4 % 256] ++ [x.f1 % 256] ++ [] = _
      rw [m1]
      rfl
    · rw [hW]; show rightP 4 0 0 0 0 x.f1 0 = true; rw [rightP_iff]; omega
    · intro b i hb
      have b1 := hb 1 (by decide) (by decide)
      unfold cmdP
      rw [if_neg (by decide), if_neg (by decide), if_neg (by decide), if_pos rfl, b1, hW]
      rfl
    · rw [hW]
      unfold wndM
      rw [if_pos h1]
      rfl
  rw [if_neg h1] at h
  by_cases h2 : x.f0 = 2
  · have hW : cmdW x md = [5, 0, 0, 0, 0, 0, 0] := by unfold cmdW; rw [if_neg h1, if_pos h2]
    refine ⟨5, [5], ?_, rfl, by omega, rfl, ?_, ?_, ?_⟩
    · unfold cmdS
      rw [hW]
      rfl
    · rw [hW]; rfl
    · intro b i hb
      unfold cmdP
      rw [if_neg (by decide), if_neg (by decide), if_neg (by decide), if_neg (by decide), if_neg (by decide), hW]
    · rw [hW]
      unfold wndM
      rw [if_neg h1, if_pos h2]
      rfl
  · rw [if_neg h2] at h; cases h
theorem chain_list {b : List Int} {m md : Int} (hmd : 0 ≤ md) : ∀ (l : List S76) (i : Int), 0 ≤ i → (∀ x ∈ l, wndP x m = 0) → (∀ k : Int, 0 ≤ k → k < ((l.flatMap fun x => putS (cmdS x md)).length : Int) → rd b (i + k) = rd (l.flatMap fun x => putS (cmdS x md)) k) →
    Chain b i (i + ((l.flatMap fun x => putS (cmdS x md)).length : Int)) (l.map fun x => cmdW x md)
  | [], i, h0, _, _ => by
    rw [List.flatMap_nil, List.length_nil]
    show Chain b i (i + 0) []
    rw [Int.add_zero]
    exact .here i
  | x :: r, i, h0, hv, hb => by
    obtain ⟨op, E, hE, hlE, ⟨h1, h5⟩, hop, hr, hc, _⟩ := cmd_enc (hv x List.mem_cons_self) hmd
    rw [List.flatMap_cons, hE] at hb ⊢
    have hlp := longP_bd op
    have hcc : cmdP b i op = cmdW x md := hc b i (fun k hk0 hk1 => by rw [hb k hk0 (by rw [List.length_append]; omega), rd_app1 hk0 (by omega)])
    have hop' : rd b i = op := by
      have h := hb 0 (by decide) (by rw [List.length_append]; omega)
      rw [Int.add_zero, rd_app1 (by decide) (by omega)] at h
      rw [h, hop]
    have ih := chain_list hmd r (i + longP op) (by omega) (fun y hy => hv y (List.mem_cons_of_mem _ hy)) (fun k hk0 hk1 => by
      have h := hb ((E.length : Int) + k) (by omega) (by rw [List.length_append]; omega)
      rw [rd_app2 hk0] at h
      rw [← h]
      congr 1
      omega)
    rw [List.length_append, List.map_cons, ← hcc]
    refine Chain.next h0 hop' h1 h5 (by omega) (by rw [hcc]; exact hr) ?_
    have e : i + ((E.length + (r.flatMap fun x => putS (cmdS x md)).length : Nat) : Int) = i + longP op + ((r.flatMap fun x => putS (cmdS x md)).length : Int) := by omega
    rw [e]
    exact ih
theorem adds_all {m md : Int} (hmd : 0 ≤ md) : ∀ (l : List S76) (out : List S76), (∀ x ∈ l, wndP x m = 0) → out.length + l.length ≤ 32 → adds md (l.map fun x => cmdW x md) out = some (out ++ l.map (wndM md))
  | [], out, _, _ => by rw [List.map_nil, adds, List.map_nil, List.append_nil]
  | x :: r, out, hv, hl => by
    obtain ⟨_, _, _, _, _, _, _, _, hw⟩ := cmd_enc (hv x List.mem_cons_self) hmd
    unfold winC at hw
    rw [List.length_cons] at hl
    rw [List.map_cons, adds, hw]
    simp only
    rw [if_neg (by omega), adds_all hmd r _ (fun y hy => hv y (List.mem_cons_of_mem _ hy)) (by rw [List.length_append, List.length_singleton]; omega), List.map_cons, List.append_assoc]
    rfl
end Go.Proofs.Ytbaapakkdnhcmaa.PWe
namespace Go.Proofs.Ytbaapakkdnhcmaa.PWe
open Go.RowKit Go.Proofs.Ytbaapakkdnhcmaa.Kx Go.Proofs.YtbaapakkdnhcmaaW.PrintWords Go.Proofs.YtbaapakkdnhcmaaW.PrintLast Go.Proofs.YtbaapakkdnhcmaaW.PrintMore
set_option linter.unusedVariables false
set_option linter.unusedSimpArgs false

theorem head_is {at_ : Int} (h0 : 0 ≤ at_) (h1 : at_ ≤ 1023) : (headS at_).flatMap putS = [6, 0, 8, 0, 6, at_ / 256, at_ % 256, 0] := by
  have hr : rgtS (callS at_) = true := by show rightP 6 0 0 0 0 0 at_ = true; rw [rightP_iff]; omega
  have hc : putS (callS at_) = [6, at_ / 256, at_ % 256] := by
    unfold putS
    rw [if_pos hr]
    show [6 % 256] ++ [] ++ [at_ / 256 % 256, at_ % 256] = _
    rw [show at_ / 256 % 256 = at_ / 256 by omega]
    rfl
  show putS (callS 8) ++ (putS z54 ++ (putS (callS at_) ++ (putS z54 ++ []))) = _
  rw [hc]
  rfl
theorem put_byts_S (x : S54) : Byts (putS x) := by
  unfold putS
  split
  · unfold putB oneB
    refine app_byts (app_byts (fun c hc => ?_) (fun c hc => ?_)) ?_
    · obtain rfl := List.mem_singleton.1 hc
      omega
    · obtain ⟨j, _, rfl⟩ := List.mem_map.1 hc
      omega
    · split
      · exact b2_byts _
      · exact fun c hc => by cases hc
  · exact fun c hc => by cases hc
theorem flat_byts {α : Type} (f : α → S54) : ∀ l : List α, Byts (l.flatMap fun x => putS (f x))
  | [] => fun c hc => by cases hc
  | x :: r => by
    rw [List.flatMap_cons]
    exact app_byts (put_byts_S _) (flat_byts f r)
theorem body_byts (l : List S76) (md : Int) : Byts (bodyP l md) := app_byts (flat_byts _ l) (fun c hc => by obtain rfl := List.mem_singleton.1 hc; omega)
theorem bodyP_len (l : List S76) (md : Int) : (bodyP l md).length ≤ 7 * l.length + 1 := by
  unfold bodyP
  have := body_len l md
  rw [List.length_append, List.length_singleton]
  omega
theorem bodyP_pos (l : List S76) (md : Int) : 1 ≤ (bodyP l md).length := by
  unfold bodyP
  rw [List.length_append, List.length_singleton]
  omega
theorem win_body {m md : Int} (hmd : 0 ≤ md) {pre post code : List Int} {l : List S76} (hcode : code = pre ++ (bodyP l md ++ post)) (hb : Byts code) (hl : code.length ≤ 1024) (hv : ∀ x ∈ l, wndP x m = 0) (hll : l.length ≤ 32) {p : Nat} (hp : p + 3 < code.length)
    (h6 : rd code (p : Int) = 6) (hj : 256 * rd code ((p : Int) + 1) + rd code ((p : Int) + 2) = (pre.length : Int)) (h0 : rd code ((p : Int) + 3) = 0) : winL md code 4096 (p : Int) [] [] = some (l.map (wndM md), 0) := by
  have hB : Bytes code := fun x hx => by have := hb x hx; omega
  have hbd : ∀ k : Int, 0 ≤ k → k < ((bodyP l md).length : Int) → rd code ((pre.length : Int) + k) = rd (bodyP l md) k := fun k k0 k1 => by rw [hcode, rd_app2 k0, rd_app1 k0 k1]
  have hbl : ((bodyP l md).length : Int) = ((l.flatMap fun x => putS (cmdS x md)).length : Int) + 1 := by unfold bodyP; rw [List.length_append, List.length_singleton]; omega
  have hcl : code.length = pre.length + ((bodyP l md).length + post.length) := by rw [hcode, List.length_append, List.length_append]
  have hch := chain_list (b := code) hmd l (pre.length : Int) (by omega) hv (fun k k0 k1 => by
    rw [hbd k k0 (by omega)]
    unfold bodyP
    rw [rd_app1 k0 k1])
  have h7 : rd code ((pre.length : Int) + ((l.flatMap fun x => putS (cmdS x md)).length : Int)) = 7 := by
    rw [hbd _ (by omega) (by omega)]
    unfold bodyP
    have h := rd_app2 (a := l.flatMap fun x => putS (cmdS x md)) (b := [7]) (k := 0) (by decide)
    rw [Int.add_zero] at h
    rw [h]
    rfl
  exact win_called md hB hl h6 hj h0 hp hch h7 (by omega) (by rw [List.length_map]; omega) (by have h := adds_all hmd l [] hv (by simpa using hll); rwa [List.nil_append] at h)
/-- A schedule's code for a module: the windows that its walk comes to. -/
theorem windows_for {m md : Int} {l1 l2 : List S76} (hm : m ≤ 16) (hmd : 0 ≤ md) (hmm : md < m) (h1 : l1.length ≤ 32 ∧ ∀ x ∈ l1, wndP x m = 0) (h2 : l2.length ≤ 32 ∧ ∀ x ∈ l2, wndP x m = 0) :
    (8 < (codeP l1 l2 md).length ∧ (codeP l1 l2 md).length ≤ 1024) ∧ Byts (codeP l1 l2 md) ∧ walk_Windows.f md 0 4 (codeP l1 l2 md) 0 = some (l1.map (wndM md), 0) ∧ walk_Windows.f md 0 4 (codeP l1 l2 md) 1 = some (l2.map (wndM md), 0) := by
  have b1 := bodyP_len l1 md
  have b2 := bodyP_len l2 md
  have p1 := bodyP_pos l1 md
  have p2 := bodyP_pos l2 md
  have y1 := body_byts l1 md
  have y2 := body_byts l2 md
  obtain ⟨F, hF⟩ : ∃ F, bodyP l1 md = F := ⟨_, rfl⟩
  obtain ⟨S, hS⟩ : ∃ S, bodyP l2 md = S := ⟨_, rfl⟩
  obtain ⟨AT, B, hAT, hat, hcode, hS2⟩ : ∃ (AT : Int) (B : List Int), (8 ≤ AT ∧ AT ≤ 300) ∧ (AT = 8 ∧ B = [] ∧ F = S ∨ AT = 8 + (F.length : Int) ∧ B = S) ∧ codeP l1 l2 md = (headS AT).flatMap putS ++ F ++ B ∧ B.length ≤ 230 := by
    unfold codeP
    rw [hF, hS]
    by_cases hs : same_ F S = true
    · rw [if_pos hs]
      exact ⟨8, [], by omega, .inl ⟨rfl, rfl, (same_iff (hF ▸ y1) (hS ▸ y2)).1 hs⟩, rfl, by simp⟩
    · rw [if_neg hs]
      rw [hF] at b1
      rw [hS] at b2
      exact ⟨8 + (F.length : Int), S, by omega, .inr ⟨rfl, rfl⟩, rfl, by omega⟩
  obtain ⟨CD, hCD⟩ : ∃ c, codeP l1 l2 md = c := ⟨_, rfl⟩
  rw [hCD] at hcode ⊢
  rw [head_is (by omega) (by omega)] at hcode
  rw [hF] at b1 p1 y1
  rw [hS] at b2 p2 y2
  have hlen : CD.length = 8 + F.length + B.length := by rw [hcode, List.length_append, List.length_append]; rfl
  have hby : Byts CD := by
    rw [hcode]
    refine app_byts (app_byts (fun c hc => ?_) y1) ?_
    · simp only [List.mem_cons, List.not_mem_nil, or_false] at hc
      omega
    · rcases hat with ⟨_, e, _⟩ | ⟨_, e⟩
      · rw [e]; exact fun c hc => by cases hc
      · rw [e]; exact y2
  have hrd : ∀ k : Int, 0 ≤ k → k < 8 → rd CD k = rd [6, 0, 8, 0, 6, AT / 256, AT % 256, 0] k := fun k k0 k1 => by
    rw [hcode, List.append_assoc, rd_app1 k0 (by show k < 8; exact k1)]
  have r0 := hrd 0 (by decide) (by decide)
  have r1 := hrd 1 (by decide) (by decide)
  have r2 := hrd 2 (by decide) (by decide)
  have r3 := hrd 3 (by decide) (by decide)
  have r4 := hrd 4 (by decide) (by decide)
  have r5 := hrd 5 (by decide) (by decide)
  have r6 := hrd 6 (by decide) (by decide)
  have r7 := hrd 7 (by decide) (by decide)
  have hw1 : winL md CD 4096 ((0 : Nat) : Int) [] [] = some (l1.map (wndM md), 0) := by
    refine win_body (pre := [6, 0, 8, 0, 6, AT / 256, AT % 256, 0]) (post := B) hmd (by rw [hF, hcode, List.append_assoc]) hby (by omega) h1.2 h1.1 (by omega) r0 ?_ r3
    show 256 * rd CD 1 + rd CD 2 = 8
    rw [r1, r2]
    rfl
  have hw2 : winL md CD 4096 ((4 : Nat) : Int) [] [] = some (l2.map (wndM md), 0) := by
    have hAA : 256 * rd CD 5 + rd CD 6 = AT := by
      rw [r5, r6]
      show 256 * (AT / 256) + AT % 256 = AT
      omega
    rcases hat with ⟨ea, eb, ef⟩ | ⟨ea, eb⟩
    · refine win_body (pre := [6, 0, 8, 0, 6, AT / 256, AT % 256, 0]) (post := B) hmd (by rw [hS, ← ef, hcode, List.append_assoc]) hby (by omega) h2.2 h2.1 (by omega) r4 ?_ r7
      show 256 * rd CD 5 + rd CD 6 = 8
      rw [hAA, ea]
    · refine win_body (pre := [6, 0, 8, 0, 6, AT / 256, AT % 256, 0] ++ F) (post := []) hmd (by rw [hS, hcode, eb, List.append_nil]) hby (by omega) h2.2 h2.1 (by omega) r4 ?_ r7
      rw [List.length_append]
      show 256 * rd CD 5 + rd CD 6 = ((8 + F.length : Nat) : Int)
      rw [hAA, ea]
      omega
  have hrt : image_Image_Right.f md 0 4 CD = some true := by rw [right_is, decide_eq_true (by omega)]
  refine ⟨by omega, hby, ?_, ?_⟩
  · unfold walk_Windows.f
    rw [hrt, Option.bind_some, if_pos rfl, if_neg (by decide), if_neg (by decide), if_pos rfl]
    exact hw1
  · unfold walk_Windows.f
    rw [hrt, Option.bind_some, if_pos rfl, if_neg (by decide), if_neg (by decide), if_neg (by decide)]
    exact hw2
end Go.Proofs.Ytbaapakkdnhcmaa.PWe
namespace Go.Proofs.Ytbaapakkdnhcmaa.PWe
open Go.RowKit Go.Proofs.Ytbaapakkdnhcmaa.Kx Go.Proofs.YtbaapakkdnhcmaaW.PrintWords Go.Proofs.YtbaapakkdnhcmaaW.PrintLast Go.Proofs.YtbaapakkdnhcmaaW.PrintMore
set_option linter.unusedVariables false
set_option linter.unusedSimpArgs false

/-- A list of bytes, as a slice of it lies: its block, its room, the bytes. -/
structure El8 where
  g : Nat
  c : Nat
  xs : List Int
def El8.v (x : El8) : Value := .slice (some ⟨x.g, 0, none⟩) x.xs.length x.c
def dE : Kd El8 := Kd.scalar El8.v (fun _ => rfl)
def El8.At (x : El8) (W : World) : Prop := x.xs.length ≤ x.c ∧ ∃ cs : Array Value, W.heap[x.g]? = some (.cells cs 5 (0, 0)) ∧ ∀ (i : Nat) (y : Int), x.xs[i]? = some y → cs[i]? = some (Value.int .u8 y)
theorem El8.At.below {x : El8} {w W : World} (h : x.At w) (hb : Below w.heap.size w W) : x.At W := by
  obtain ⟨h1, cs, h2, h3⟩ := h
  exact ⟨h1, cs, blk_below h2 hb, h3⟩
theorem El8.At.C {x : El8} {w : World} (h : x.At w) (hm : x.xs.length ≤ 9223372036854775807) : Kd.C (Kd.int .u8) w (some ⟨x.g, 0, none⟩) x.xs.length x.xs := by
  obtain ⟨h1, cs, h2, h3⟩ := h
  refine ⟨rfl, by simpa [maxLen] using hm, fun _ => ⟨⟨x.g, 0, none⟩, rfl, fun j p hj => ⟨[.int .u8 p], rfl, rfl, fun i u hu => ?_⟩⟩⟩
  rcases i with _ | i
  · have hu' : Value.int .u8 p = u := Option.some.inj hu
    rw [← hu', Addr.add_lit, cell_in h2]
    show cs[0 + (j * 1 + 0)]? = _
    rw [Nat.mul_one, Nat.zero_add, Nat.add_zero, h3 j p hj]
  · cases hu
theorem el8_of {W : World} {base : Nat} {A : Option Addr} {n c : Nat} {xs : List Int} (h : Kd.R (Kd.int .u8) 5 W base (fun _ => True) (.slice A n c) xs) (hp : 0 < xs.length) : ∃ g, Value.slice A n c = (El8.mk g c xs).v ∧ (El8.mk g c xs).At W ∧ base ≤ g := by
  obtain ⟨g, cap, e, hg, _, cs, hcs⟩ := Kd.R_form h hp
  injection e with e1 e2 e3
  subst e1 e2 e3
  have hrd := Kd.R_reads' h
  refine ⟨g, rfl, ⟨hrd.2.1, cs, hcs, fun i x hx => ?_⟩, hg⟩
  have hi := (List.getElem?_eq_some_iff.1 hx)
  obtain ⟨ad, ha, hcell⟩ := int_at hrd.2.2 hi.1 hi.1 hi.2
  obtain rfl := Option.some.inj ha
  rw [Addr.add_lit, cell_in hcs, Nat.zero_add] at hcell
  exact hcell
/-- All modules' tables, of a schedule that may be. -/
def tabP (l1 l2 : List S76) (j : Nat) : List Int := putP (j : Int) 0 4 (codeP l1 l2 (j : Int))
theorem for_ok {m : Int} {l1 l2 : List S76} {j : Int} (h : (checkP m l1 l2).2.2 = 0) (h0 : 0 ≤ j) (h1 : j < m) : forP m l1 l2 j = ((j, 0, 4, codeP l1 l2 j), 0) := by
  unfold forP
  rw [if_neg (fun hn => hn h), if_neg (by omega), if_neg (by omega)]
theorem tab_ok {m : Int} {l1 l2 : List S76} {j : Int} (h : (checkP m l1 l2).2.2 = 0) (h0 : 0 ≤ j) (h1 : j < m) : tokP j 0 4 (codeP l1 l2 j).length = true ∧ Byts (codeP l1 l2 j) ∧ (codeP l1 l2 j).length ≤ 1024 := by
  obtain ⟨⟨hm2, hm16⟩, hw1, hw2⟩ := check_ok h
  obtain ⟨hl, hb, _⟩ := windows_for hm16 h0 h1 hw1 hw2
  exact ⟨by unfold tokP; exact decide_eq_true (by omega), hb, hl.2⟩
theorem infoB : (Try.prog.info? 23).map (fun i => (i.zero, i.size, i.bytes)) = some (some (.slice none 0 0), 1, 24) := by kernel_rfl
theorem el8_grown {x : El8} {w W : World} {base : Nat} {v : Value} {Es : List El8} (h : x.At w) (ho : Kd.R dE 23 w base (fun _ => True) v Es) (hg : w.grownBy W v.ownBlock) : x.At W := by
  obtain ⟨h1, cs, h2, h3⟩ := h
  exact ⟨h1, cs, blk_grown h2 hg (Kd.R_ne ho h2 (by decide)), h3⟩
theorem C_low2 {k : IntKind} {w W : World} {A : Option Addr} {n : Nat} {xs : List Int} (h : Kd.C (Kd.int k) w A n xs) (hb : Below w.heap.size w W) : Kd.C (Kd.int k) W A n xs := Kd.C_below h hb
set_option maxHeartbeats 4000000 in
set_option maxRecDepth 100000 in
/-- A schedule that may be: all tables. -/
theorem all_calls (m : Int) (A1 A2 : Option Addr) (c1 c2 : Nat) (l1 l2 : List S76) (w : World) (hr1 : Kd.C k76 w A1 l1.length l1) (hc1 : l1.length ≤ c1) (hr2 : Kd.C k76 w A2 l2.length l2) (hc2 : l2.length ≤ c2) (hf1 : Fit l1) (hf2 : Fit l2) (hck : (checkP m l1 l2).2.2 = 0) :
    Calls Try.prog 17 #[.agg #[.int .i64 m, .slice A1 l1.length c1, .slice A2 l2.length c2]] w fun e w' => ∃ (A : Option Addr) (c : Nat) (Es : List El8), e = .returned (.tuple #[.slice A Es.length c, .int .i64 0]) ∧ Es.map El8.xs = (List.range m.toNat).map (tabP l1 l2) ∧ Kd.R dE 23 w' w.heap.size (fun _ => True) (.slice A Es.length c) Es ∧ (∀ x ∈ Es, x.At w') ∧ Below w.heap.size w w' := by
  have H1 := Aside0.mk hr1
  have H2 := Aside0.mk hr2
  have HF1 := Aside0.mk hf1
  have HF2 := Aside0.mk hf2
  have HCK := Aside0.mk hck
  have HB : Aside0 (Below w.heap.size w w) := ⟨Below.refl _ _⟩
  obtain ⟨⟨hm2, hm16⟩, _, _⟩ := check_ok hck
  obtain ⟨M, rfl⟩ := Int.eq_ofNat_of_zero_le (show 0 ≤ m by omega)
  clear hr1 hr2 hf1 hf2 hck
  have g1 : min (M : Int) 16 = (M : Int) := by omega
  have g2 : max 1 (M : Int) = (M : Int) := by omega
  have g3 : ((M : Int) ≤ 16) = True := eq_true (by omega)
  have g4 : ((1 : Int) ≤ (M : Int)) = True := eq_true (by omega)
  go_enter Try.func17, Try.ntmps17
  go_wp2_with (first | ((with_reducible refine gate_dst (N := 1) rfl ?_); refine boxN (w := w) rfl (N := 1) rfl (cs := #[.int .i64 (M : Int), .slice A1 l1.length c1, .slice A2 l2.length c2]) (t := 43) (by first | (go_simp; done) | (go_simp; rfl)) HB ?_; intro g1 Wa Ha Lg1 HBa Ka; have y0 : Wa.cell? ⟨g1, 0, none⟩ = some (.int .i64 (M : Int)) := (cell_in Ha.out 0).trans rfl))
  go_loopw [4, 5, 6, 7, 8, 13] (fun v4 _ _ _ _ v13 wr => ∃ (k : Nat) (Es : List El8), k ≤ M ∧ v13 = .int .i64 (k : Int) ∧ Aside0 (Es.map El8.xs = (List.range k).map (tabP l1 l2)) ∧ Kd.R dE 23 wr w.heap.size (fun _ => True) v4 Es ∧ Aside0 (∀ x ∈ Es, x.At wr) ∧ wr.heap[g1]? = some (.cells #[.int .i64 (M : Int), .slice A1 l1.length c1, .slice A2 l2.length c2] 43 (0, 0)) ∧ Below w.heap.size w wr) (fun _ _ _ _ _ v13 _ => ((M : Int) - intOf v13).toNat)
  case atStart => exact ⟨0, [], Nat.zero_le _, rfl, ⟨rfl⟩, Kd.R_nil _ _ _ _ _, ⟨fun x hx => by cases hx⟩, Ha.out, HBa.out⟩
  case round =>
    obtain ⟨k, Es, hk, rfl, HE, ho, HA, h1, hb⟩ := hrel
    obtain ⟨A4, c4, e4⟩ := Kd.R_slice ho
    subst e4
    have HO := Aside0.mk ho
    have H1r := Aside0.mk h1
    have HBr := Aside0.mk hb
    have HEL : Aside0 (Es.length = k) := ⟨by have h := congrArg List.length HE.out; rw [List.length_map, List.length_map, List.length_range] at h; exact h⟩
    clear ho h1 hb y0
    by_cases hlt : k < M
    · have d1 : decide ((k : Int) < (M : Int)) = true := decide_eq_true (by omega)
      have d2 : decide (k < M) = true := decide_eq_true hlt
      have htk := tab_ok HCK.out (show 0 ≤ (k : Int) by omega) (show (k : Int) < (M : Int) by omega)
      obtain ⟨CD, hCD⟩ : ∃ x, codeP l1 l2 (k : Int) = x := ⟨_, rfl⟩
      have hfp : forP (M : Int) l1 l2 (k : Int) = (((k : Int), 0, 4, CD), 0) := by rw [for_ok HCK.out (by omega) (by omega), hCD]
      rw [hCD] at htk
      obtain ⟨BB, hBB⟩ : ∃ x, putP (k : Int) 0 4 CD = x := ⟨_, rfl⟩
      have hBt : tabP l1 l2 k = BB := by unfold tabP; rw [hCD, hBB]
      have HFP := Aside0.mk hfp
      have HTK := Aside0.mk htk
      have HPB := Aside0.mk hBB
      have HBT := Aside0.mk hBt
      have HLT := Aside0.mk hlt
      clear hlt hfp htk hBB hBt hCD
      go_wp2_with (first | ((with_reducible refine gate_dst (N := 17) rfl ?_); refine wpList_load_row rfl 43 _ rfl g1 rfl 43 _ (0, 0) _ H1r.out Try.underlying43 rfl (by kernel_rfl) ?_))
      refine (for_calls (M : Int) A1 A2 c1 c2 l1 l2 (k : Int) wr (Kd.C_below H1.out HBr.out) hc1 (Kd.C_below H2.out HBr.out) hc2 HF1.out HF2.out HFP.out).mono ?_
      rintro e w5 ⟨AC, cC, rfl, hcc, hC, hb5⟩
      dsimp only at hcc hC ⊢
      have HB5 := Aside0.mk (below_step HBr.out hb5)
      have HC5 := Aside0.mk hC
      have H15 := Aside0.mk (blk_below H1r.out hb5)
      have HO5 := Aside0.mk (Kd.R_below HO.out hb5)
      have HA5 : Aside0 (∀ x ∈ Es, x.At w5) := ⟨fun x hx => (HA.out x hx).below hb5⟩
      clear hC hb5
      go_wp2_with (first | ((with_reducible refine gate_dst (N := 6) rfl ?_); refine boxN (w := w) rfl (N := 6) rfl (cs := imgCs 0 0 0 none 0 0) (t := 25) (by first | (go_simp; done) | (go_simp; rfl)) HB5 ?_; intro g6 Wb Hb Lg6 HBb Kb) | ((with_reducible refine gate_ (.store 25 (.tmp 6) (.tmp 20)) rfl ?_); refine storeN (w := w) rfl 25 (.tmp 6) _ rfl g6 (imgCs (k : Int) 0 4 AC CD.length cC) rfl rfl 25 _ Hb (by kernel_rfl) rfl (by rw [← Array.all_toList]; rfl) HBb Lg6 Kb ?_; intro Wc Hc HBc Kc) | ((with_reducible refine gate_dst (N := 26) rfl ?_); refine wpList_load_row rfl 25 _ rfl g6 rfl 25 _ (0, 0) _ Hc.out Try.underlying25 rfl (by kernel_rfl) ?_))
      refine (put_calls (k : Int) 0 4 AC cC CD Wc (C_low2 HC5.out Kc.out) hcc HTK.out.2.1 HTK.out.1).mono ?_
      rintro e w8 ⟨v8, rfl, h8, hb8⟩
      rw [HPB.out] at h8
      obtain ⟨A8, cE, e8⟩ := Kd.R_slice h8
      subst e8
      obtain ⟨gE, hE, hEA, hEg⟩ := el8_of h8 (by rw [← HPB.out, put_length]; omega)
      obtain rfl : A8 = some ⟨gE, 0, none⟩ := (Value.slice.inj hE).1
      have K8 := below_step Kc.out hb8
      have HB8 := Aside0.mk (below_step HBc.out hb8)
      have HO8 := Aside0.mk (Kd.R_below HO5.out K8)
      have H18 := Aside0.mk (blk_below H15.out K8)
      have HA8 : Aside0 (∀ x ∈ Es ++ [El8.mk gE cE BB], x.At w8) := ⟨fun x hx => by
        rcases List.mem_append.1 hx with h | h
        · exact (HA5.out x h).below K8
        · obtain rfl := List.mem_singleton.1 h
          exact hEA⟩
      clear h8 hb8 hE hEA K8
      go_wp2_with (first | ((with_reducible refine gate_builtin (b := .append) (xs := #[.tmp 33, .tmp 35]) rfl ?_); at_builtin; go_loud (refine appN (w := w) dE 23 rfl (.tmp 33) (.tmp 35) 50 (.slice none 0 0) 24 rfl Try.underlying50 infoB rfl (by decide) (by decide) (El8.mk gE cE BB) [.slice (some ⟨gE, 0, none⟩) BB.length cE] rfl rfl rfl HO8 HB8 (by have := HEL.out; omega) ?_); intro v9 W9 HO9 HB9 K9; have HG9 := Aside0.mk (fun x (hx : x ∈ Es ++ [El8.mk gE cE BB]) => el8_grown (HA8.out x hx) HO8.out K9.out)))
      have H19 := Aside0.mk (blk_grown H18.out K9.out (Kd.R_ne HO8.out H18.out (by decide)))
      exact ⟨⟨k + 1, Es ++ [El8.mk gE cE BB], by have := HLT.out; omega, by simp, ⟨by rw [List.map_append, HE.out, List.range_succ, List.map_append, List.map_singleton, List.map_singleton, HBT.out]⟩, HO9.out, HG9, H19.out, HB9.out⟩, by have := HLT.out; simp [intOf]; omega⟩
    · have d1 : decide ((k : Int) < (M : Int)) = false := decide_eq_false (by omega)
      have d2 : decide (k < M) = false := decide_eq_false hlt
      have HKM : Aside0 (k = M) := ⟨by omega⟩
      clear hlt
      go_wp2_with fail
      go_ret2
      exact ⟨A4, c4, Es, rfl, by rw [HE.out, HKM.out, Int.toNat_natCast], HO.out, HA.out, HBr.out⟩
end Go.Proofs.Ytbaapakkdnhcmaa.PWe
namespace Go.Proofs.Ytbaapakkdnhcmaa.PWe
open Go.RowKit Go.Proofs.Ytbaapakkdnhcmaa.Kx Go.Proofs.YtbaapakkdnhcmaaW.PrintWords Go.Proofs.YtbaapakkdnhcmaaW.PrintLast Go.Proofs.YtbaapakkdnhcmaaW.PrintMore
set_option linter.unusedVariables false
set_option linter.unusedSimpArgs false

def fixA (s : S47) : S47 := if s.f6 < 0 ∧ s.f7 = false then { s with f4 := 0 } else s
theorem idx_same (a : Int) : ∀ (l : List Int) (k : Nat), idxL a l (k : Int) = idxP (fun x => a == x) l k
  | [], k => rfl
  | x :: r, k => by
    rw [idxL, idxP]
    by_cases h : a = x
    · rw [if_pos h, if_pos (by simpa using h)]
    · rw [if_neg h, if_neg (by simpa using h), ← idx_same a r (k + 1)]
      rfl
theorem fromL_get (n : Nat) (c md : Int) (k : Nat) (h : k < n) : (fromL (n : Int) c md)[k]? = some (if (k : Int) = c then md else -1 - (k : Int)) := by
  unfold fromL
  rw [Int.toNat_natCast]
  simp [h]
theorem idx_out (a : Int) : ∀ (l : List Int) (k : Nat), (∀ x ∈ l, x ≠ a) → idxL a l (k : Int) = -1
  | [], k, _ => rfl
  | x :: r, k, h => by
    rw [idxL, if_neg (fun e => h x List.mem_cons_self e.symm)]
    exact idx_out a r (k + 1) (fun y hy => h y (List.mem_cons_of_mem _ hy))
theorem idx_at (a : Int) : ∀ (l : List Int) (k c : Nat), (∀ j, j < c → l[j]? ≠ some a) → l[c]? = some a → idxL a l (k : Int) = ((k + c : Nat) : Int)
  | [], k, c, _, h => by cases h
  | x :: r, k, 0, _, h => by
    rw [idxL, if_pos (Option.some.inj h).symm, Nat.add_zero]
  | x :: r, k, c + 1, hn, h => by
    have hx : ¬ a = x := fun e => hn 0 (by omega) (by rw [e]; rfl)
    rw [idxL, if_neg hx]
    have ih := idx_at a r (k + 1) c (fun j hj => hn (j + 1) (by omega)) h
    rw [show ((k : Int) + 1) = ((k + 1 : Nat) : Int) by omega, ih]
    omega
theorem idx_fromL (n : Nat) (c md : Int) (hmd : 0 ≤ md) (h0 : 0 ≤ c) (h1 : c < (n : Int)) : idxL md (fromL (n : Int) c md) 0 = c := by
  obtain ⟨C, rfl⟩ := Int.eq_ofNat_of_zero_le h0
  have h := idx_at md (fromL (n : Int) (C : Int) md) 0 C (fun j hj => by rw [fromL_get n _ md j (by omega), if_neg (by omega)]; intro e; have := Option.some.inj e; omega) (by rw [fromL_get n _ md C (by omega), if_pos rfl])
  rw [Nat.zero_add] at h
  exact h
theorem twice_in : ∀ (r had : List Int), twiceP had r = false → ∀ x ∈ r, x ∉ had
  | [], had, _, x, hx => by cases hx
  | y :: r, had, h, x, hx => by
    rw [twiceP] at h
    by_cases hy : y ∈ had
    · rw [if_pos hy] at h; cases h
    rw [if_neg hy] at h
    rcases List.mem_cons.1 hx with rfl | hx
    · exact hy
    · exact fun hm => twice_in r _ h x hx (List.mem_append_left _ hm)
theorem idxP_mem {a : Int} : ∀ (l : List Int) (k : Nat), 0 ≤ idxP (fun x => a == x) l k → a ∈ l
  | [], k, h => by rw [idxP] at h; omega
  | x :: r, k, h => by
    rw [idxP] at h
    by_cases e : (a == x) = true
    · rw [beq_iff_eq.1 e]; exact List.mem_cons_self
    · rw [if_neg e] at h
      exact List.mem_cons_of_mem _ (idxP_mem r (k + 1) h)
theorem has_iff {l : List Int} {a : Int} : has_ l a = true ↔ a ∈ l := by
  unfold has_
  rw [List.any_eq_true]
  exact ⟨fun ⟨x, hx, e⟩ => by rw [beq_iff_eq.1 e]; exact hx, fun h => ⟨a, h, by simp⟩⟩
theorem has_idx (l : List Int) (a : Int) : decide (idxL a l 0 ≥ 0) = has_ l a := by
  rw [show idxL a l 0 = idxP (fun x => a == x) l 0 from idx_same a l 0]
  exact idxP_any _ l 0
/-- A window as it is, and as a module's walk has it: the same slot, but for a place that doesn't count. -/
theorem slot_same {x : S76} {m md a : Int} (h : wndP x m = 0) (hmd : 0 ≤ md) : slotOf a md (wndM md x) = fixA (slotOf a md x) ∧ bitsOf (wndM md x) = bitsOf x ∧ (wndM md x).f0 = x.f0 := by
  unfold wndP at h
  by_cases h0 : x.f0 = 0
  · rw [if_pos h0] at h
    obtain ⟨hw, ha, ⟨hl, hn⟩, _, _, htw⟩ := data_in h
    have hn1 := (named_in hn).1
    have hcd := idxP_bd (fun y => md == y) x.f4 0
    have ht4 : x.f4.take 4 = x.f4 := List.take_of_length_le hl
    have hi4 : idxL md (x.f4.take 4) 0 = candP x.f4 md := by rw [ht4]; exact idx_same md x.f4 0
    have hfl : ∀ c : Int, (fromL (x.f4.length : Int) c md).length = x.f4.length := fun c => by rw [fromL_len]; omega
    have hft : ∀ c : Int, (fromL (x.f4.length : Int) c md).take 4 = fromL (x.f4.length : Int) c md := fun c => List.take_of_length_le (by rw [hfl]; exact hl)
    have hno : idxL md (fromL (x.f4.length : Int) (-1) md) 0 = -1 := idx_out md _ 0 (fromL_none hmd)
    have e1 : ¬ x.f0 = 1 := by omega
    have e2 : ¬ x.f0 = 2 := by omega
    obtain ⟨cd, hcd'⟩ : ∃ c, candP x.f4 md = c := ⟨_, rfl⟩
    rw [show idxP (fun y => md == y) x.f4 0 = cd from hcd'] at hcd
    have hth : decide (idxL md x.f5 0 ≥ 0) = has_ x.f5 md := has_idx _ _
    have hbits : ∀ y : S76, y.f0 = 0 → y.f2 = x.f2 → y.f4.length = x.f4.length → wordsOf y = wordsOf x ∧ manyOf y = manyOf x ∧ bitsOf y = bitsOf x := fun y y0 y2 y4 => by
      have a1 : wordsOf y = wordsOf x := by unfold wordsOf; rw [y2]
      have a2 : manyOf y = manyOf x := by unfold manyOf; rw [y4]
      exact ⟨a1, a2, by unfold bitsOf; rw [y0, h0, a1, a2, if_pos rfl, if_pos rfl]⟩
    rcases op_three x.f4 x.f5 md with e | e | e
    · have hc0 : 0 ≤ cd := by
        unfold opP at e
        rw [hcd'] at e
        by_cases hc : 0 ≤ cd
        · exact hc
        · rw [if_neg hc] at e
          split at e <;> cases e
      have hW : wndM md x = ⟨0, 0, x.f2, x.f3, fromL (x.f4.length : Int) cd md, []⟩ := by unfold wndM; rw [if_neg e1, if_neg e2, if_pos e, hcd']
      obtain ⟨b1, b2, b3⟩ := hbits (wndM md x) (by rw [hW]) (by rw [hW]) (by rw [hW]; exact hfl _)
      have hnt : has_ x.f5 md = false := by
        cases hh : has_ x.f5 md
        · rfl
        · exact absurd (idxP_mem x.f4 0 (by rw [show idxP (fun y => md == y) x.f4 0 = cd from hcd']; exact hc0)) (twice_in x.f5 x.f4 htw md (has_iff.1 hh))
      refine ⟨?_, b3, by rw [hW, h0]⟩
      unfold slotOf
      rw [if_pos (by rw [hW]), if_pos h0, b1, b2, b3, hi4, hcd', hth, hnt]
      unfold fixA
      rw [if_neg (fun hh => by have h9 : cd < 0 := hh.1; omega)]
      rw [hW]
      show (⟨0, a, 20 * bitsOf x, wordsOf x, x.f3, manyOf x, idxL md ((fromL (x.f4.length : Int) cd md).take 4) 0, decide (idxL md [] 0 ≥ 0)⟩ : S47) = _
      rw [hft, idx_fromL _ _ _ hmd hc0 (by omega), h0]
      rfl
    · have hcn : ¬ 0 ≤ cd := fun hc => by unfold opP at e; rw [hcd', if_pos hc] at e; cases e
      have hcm : cd = -1 := by omega
      have hht : has_ x.f5 md = true := by
        unfold opP at e
        rw [hcd', if_neg hcn] at e
        by_cases hh : has_ x.f5 md = true
        · exact hh
        · rw [if_neg hh] at e; cases e
      have hW : wndM md x = ⟨0, 0, x.f2, x.f3, fromL (x.f4.length : Int) (-1) md, [md]⟩ := by unfold wndM; rw [if_neg e1, if_neg e2, if_neg (by rw [e]; decide), if_pos e]
      obtain ⟨b1, b2, b3⟩ := hbits (wndM md x) (by rw [hW]) (by rw [hW]) (by rw [hW]; exact hfl _)
      refine ⟨?_, b3, by rw [hW, h0]⟩
      unfold slotOf
      rw [if_pos (by rw [hW]), if_pos h0, b1, b2, b3, hi4, hcd', hth, hht]
      unfold fixA
      rw [if_neg (fun hh => by have := hh.2; cases this)]
      rw [hW]
      show (⟨0, a, 20 * bitsOf x, wordsOf x, x.f3, manyOf x, idxL md ((fromL (x.f4.length : Int) (-1) md).take 4) 0, decide (idxL md [md] 0 ≥ 0)⟩ : S47) = _
      have hself : decide (idxL md [md] 0 ≥ 0) = true := by rw [idxL, if_pos rfl]; rfl
      rw [hft, hno, hself, h0, hcm]
    · have hcn : ¬ 0 ≤ cd := fun hc => by unfold opP at e; rw [hcd', if_pos hc] at e; cases e
      have hcm : cd = -1 := by omega
      have hht : has_ x.f5 md = false := by
        unfold opP at e
        rw [hcd', if_neg hcn] at e
        cases hh : has_ x.f5 md
        · rfl
        · rw [hh, if_pos rfl] at e; cases e
      have hW : wndM md x = ⟨0, 0, x.f2, 0, fromL (x.f4.length : Int) (-1) md, []⟩ := by unfold wndM; rw [if_neg e1, if_neg e2, if_neg (by rw [e]; decide), if_neg (by rw [e]; decide)]
      obtain ⟨b1, b2, b3⟩ := hbits (wndM md x) (by rw [hW]) (by rw [hW]) (by rw [hW]; exact hfl _)
      refine ⟨?_, b3, by rw [hW, h0]⟩
      unfold slotOf
      rw [if_pos (by rw [hW]), if_pos h0, b1, b2, b3, hi4, hcd', hth, hht]
      unfold fixA
      rw [if_pos ⟨by show cd < 0; omega, rfl⟩]
      rw [hW]
      show (⟨0, a, 20 * bitsOf x, wordsOf x, 0, manyOf x, idxL md ((fromL (x.f4.length : Int) (-1) md).take 4) 0, decide (idxL md [] 0 ≥ 0)⟩ : S47) = _
      rw [hft, hno, h0, hcm]
      rfl
  rw [if_neg h0] at h
  by_cases h1 : x.f0 = 1
  · have hW : wndM md x = ⟨1, x.f1, 0, 0, [], []⟩ := by unfold wndM; rw [if_pos h1]
    have hb : bitsOf (wndM md x) = bitsOf x := by rw [hW]; unfold bitsOf; rw [h1]; rfl
    refine ⟨?_, hb, by rw [hW, h1]⟩
    unfold slotOf
    rw [if_neg (show ¬ (wndM md x).f0 = 0 by rw [hW]; simp), if_neg h0, hb]
    rw [hW, h1]
    rfl
  rw [if_neg h1] at h
  by_cases h2 : x.f0 = 2
  · have hW : wndM md x = ⟨2, 0, 0, 0, [], []⟩ := by unfold wndM; rw [if_neg h1, if_pos h2]
    have hb : bitsOf (wndM md x) = bitsOf x := by rw [hW]; unfold bitsOf; rw [h2]; rfl
    refine ⟨?_, hb, by rw [hW, h2]⟩
    unfold slotOf
    rw [if_neg (show ¬ (wndM md x).f0 = 0 by rw [hW]; simp), if_neg h0, hb]
    rw [hW, h2]
    rfl
  · rw [if_neg h2] at h; cases h
theorem view_same {m md : Int} (hmd : 0 ≤ md) : ∀ (l : List S76) (a : Int), (∀ x ∈ l, wndP x m = 0) → viewL md a (l.map (wndM md)) = (viewL md a l).map fixA
  | [], a, _ => rfl
  | x :: r, a, hv => by
    have hx := hv x List.mem_cons_self
    have hk := wnd_kind hx
    obtain ⟨s1, s2, s3⟩ := slot_same (a := a) hx hmd
    rw [List.map_cons, viewL, viewL, if_neg (by rw [s3]; omega), if_neg (by omega), s1, s2, List.map_cons, view_same hmd r _ (fun y hy => hv y (List.mem_cons_of_mem _ hy))]
theorem spans_same {m md : Int} (hmd : 0 ≤ md) : ∀ (l : List S76) (a b : Int), (∀ x ∈ l, wndP x m = 0) → spansW a b (l.map (wndM md)) = spansW a b l
  | [], a, b, _ => rfl
  | x :: r, a, b, hv => by
    have hx := hv x List.mem_cons_self
    obtain ⟨_, s2, s3⟩ := slot_same (a := a) hx hmd
    have ih := fun a b => spans_same hmd r a b (fun y hy => hv y (List.mem_cons_of_mem _ hy))
    rw [List.map_cons, spansW, spansW, s2, s3, ih, ih, ih]
def headV (v : Int) : S47 := ⟨3, 0, 200 + 40 * v, 0, 0, 0, -1, false⟩
/-- A frame as a module has it. -/
def viewV (md v : Int) (l : List S76) : List S47 := headV v :: viewL md (200 + 40 * v) l
theorem frame_span {m v : Int} {l : List S76} (h : (frameP m v l).2 = 0) : ¬ 200 < mxl (spansW (10 + 2 * v) 3 l) ((spansW (10 + 2 * v) 3 l).length - 1) := by
  have hok := frame_ok h
  unfold frameP at h
  rw [if_neg (by omega)] at h
  have hn : firstBad m l 0 = none := by
    cases hf : firstBad m l 0 with
    | none => rfl
    | some p =>
      rw [hf] at h
      exfalso
      have hb : ∀ (l : List S76) (i : Nat) (p : Int × Int), firstBad m l i = some p → p.2 ≠ 0 := by
        intro l
        induction l with
        | nil => intro i p h; cases h
        | cons x r ih =>
          intro i p h
          rw [firstBad] at h
          by_cases hx : wndP x m ≠ 0
          · rw [if_pos hx] at h
            obtain rfl := Option.some.inj h
            exact hx
          · rw [if_neg hx] at h
            exact ih _ _ h
      exact hb _ _ _ hf h
  rw [hn] at h
  simp only at h
  unfold spanP at h
  intro hlt
  rw [if_pos hlt] at h
  cases h
theorem check_frames {m : Int} {l1 l2 : List S76} (h : (checkP m l1 l2).2.2 = 0) : (frameP m 0 l1).2 = 0 ∧ (frameP m 1 l2).2 = 0 := by
  unfold checkP at h
  by_cases h0 : m < 2
  · rw [if_pos h0] at h; cases h
  rw [if_neg h0] at h
  by_cases h1 : 16 < m
  · rw [if_pos h1] at h; cases h
  rw [if_neg h1] at h
  by_cases h2 : (frameP m 0 l1).2 ≠ 0
  · rw [if_pos h2] at h; exact absurd h h2
  rw [if_neg h2] at h
  by_cases h3 : (frameP m 1 l2).2 ≠ 0
  · rw [if_pos h3] at h; exact absurd h h3
  exact ⟨Classical.not_not.1 h2, Classical.not_not.1 h3⟩
theorem run_same {m md v : Int} {l : List S76} (hmd : 0 ≤ md) (h : (frameP m v l).2 = 0) : runP md v (l.map (wndM md)) 0 = ((viewV md v l).map fixA, 0) := by
  have hok := frame_ok h
  have hsp := frame_span h
  unfold runP
  rw [if_pos rfl, spans_same hmd l _ _ hok.2, if_neg hsp, view_same hmd l _ hok.2]
  rfl
/-- A schedule's table, loaded: both frames as the module has them. -/
theorem load_tab {m : Int} {l1 l2 : List S76} {j : Nat} (h : (checkP m l1 l2).2.2 = 0) (h1 : (j : Int) < m) : loadP (tabP l1 l2 j) = (((j : Int), (viewV j 0 l1).map fixA, (viewV j 1 l2).map fixA), 0) := by
  obtain ⟨⟨hm2, hm16⟩, hw1, hw2⟩ := check_ok h
  obtain ⟨htok, hby, _⟩ := tab_ok h (show (0 : Int) ≤ (j : Int) by omega) h1
  obtain ⟨_, _, e0, e1⟩ := windows_for hm16 (show (0 : Int) ≤ (j : Int) by omega) h1 hw1 hw2
  obtain ⟨f0, f1⟩ := check_frames h
  have r0 : walkR (j : Int) 0 4 (codeP l1 l2 (j : Int)) 0 = ((viewV j 0 l1).map fixA, 0) := by unfold walkR; rw [e0]; exact run_same (by omega) f0
  have r1 : walkR (j : Int) 0 4 (codeP l1 l2 (j : Int)) 1 = ((viewV j 1 l2).map fixA, 0) := by unfold walkR; rw [e1]; exact run_same (by omega) f1
  unfold loadP tabP
  rw [read_put hby htok]
  simp only
  rw [if_neg (fun hh => hh rfl), r0, r1]
  simp only
  rw [if_neg (fun hh => hh rfl), if_neg (fun hh => hh rfl)]
theorem view_sum (md : Int) : ∀ (l : List S76) (a : Int), (∀ x ∈ l, 0 ≤ x.f0 ∧ x.f0 ≤ 2) → sumL ((viewL md a l).map fixA) = 120 + ticksL l
  | [], a, _ => by rw [viewL, ticksL]; rfl
  | x :: r, a, h => by
    have hk := h x List.mem_cons_self
    have ih := view_sum md r (a + 20 * bitsOf x) (fun y hy => h y (List.mem_cons_of_mem _ hy))
    have hf : (fixA (slotOf a md x)).f2 = 20 * bitsOf x := by
      unfold fixA slotOf
      split <;> split <;> rfl
    rw [viewL, if_neg (by omega), List.map_cons, sumL, ih, hf, ticksL]
    omega
theorem viewV_sum {md v : Int} {l : List S76} (h : ∀ x ∈ l, 0 ≤ x.f0 ∧ x.f0 ≤ 2) : sumL ((viewV md v l).map fixA) = 320 + 40 * v + ticksL l := by
  unfold viewV
  rw [List.map_cons, sumL, view_sum md l _ h]
  have : (fixA (headV v)).f2 = 200 + 40 * v := by unfold fixA headV; split <;> rfl
  rw [this]
  omega
theorem view_fit {md v : Int} {l : List S76} (hl : l.length ≤ 32) (hv : 0 ≤ v ∧ v < 2) : SFit ((viewV md v l).map fixA) := by
  have hvl := viewL_len md l (200 + 40 * v)
  refine ⟨by rw [List.length_map]; unfold viewV; rw [List.length_cons]; omega, fun x hx => ?_⟩
  obtain ⟨y, hy, rfl⟩ := List.mem_map.1 hx
  have hf : (fixA y).f2 = y.f2 := by unfold fixA; split <;> rfl
  rw [hf]
  unfold viewV at hy
  rcases List.mem_cons.1 hy with rfl | hy
  · show 0 ≤ 200 + 40 * v ∧ 200 + 40 * v ≤ 1000000; omega
  · have : ∀ (l : List S76) (a : Int), ∀ y ∈ viewL md a l, 0 ≤ y.f2 ∧ y.f2 ≤ 1000000 := by
      intro l
      induction l with
      | nil =>
        intro a y hy
        rw [viewL] at hy
        obtain rfl := List.mem_singleton.1 hy
        show (0 : Int) ≤ 120 ∧ (120 : Int) ≤ 1000000
        decide
      | cons x r ih =>
        intro a y hy
        rw [viewL] at hy
        have hb := bitsOf_bd x
        split at hy
        · exact ih _ y hy
        · rcases List.mem_cons.1 hy with rfl | hy
          · have hf2 : (slotOf a md x).f2 = 20 * bitsOf x := by unfold slotOf; split <;> rfl
            rw [hf2]
            omega
          · exact ih _ y hy
    exact this l _ y hy
end Go.Proofs.Ytbaapakkdnhcmaa.PWe
