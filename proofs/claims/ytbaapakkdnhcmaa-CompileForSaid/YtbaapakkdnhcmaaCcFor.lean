/- compile.For: walk. Helper text. -/
import Derived.Test.YtbaapakkdnhcmaaCcB
import Derived.Test.YtbaapakkdnhcmaaCcV
import Derived.Test.YtbaapakkdnhcmaaCbRead
namespace Go.Proofs.Ytbaapakkdnhcmaa.PWe
open Go.RowKit Go.Proofs.Ytbaapakkdnhcmaa.Kx Go.Proofs.YtbaapakkdnhcmaaW.PrintWords Go.Proofs.YtbaapakkdnhcmaaW.PrintLast Go.Proofs.YtbaapakkdnhcmaaW.PrintMore
set_option linter.unusedVariables false
set_option linter.unusedSimpArgs false

def callS (at_ : Int) : S54 := ⟨6, 0, 0, 0, 0, 0, at_⟩
def headS (at_ : Int) : List S54 := [callS 8, z54, callS at_, z54]
/-- A module's code, of windows that may be. -/
def codeP (l1 l2 : List S76) (md : Int) : List Int :=
  if same_ (bodyP l1 md) (bodyP l2 md) = true then (headS 8).flatMap putS ++ bodyP l1 md ++ []
  else (headS (8 + ((bodyP l1 md).length : Int))).flatMap putS ++ bodyP l1 md ++ bodyP l2 md
/-- A module's table of a schedule, or why there is none. -/
def forP (m : Int) (l1 l2 : List S76) (md : Int) : (Int × Int × Int × List Int) × Int :=
  if (checkP m l1 l2).2.2 ≠ 0 then ((0, 0, 0, []), (checkP m l1 l2).2.2)
  else if md < 0 then ((0, 0, 0, []), 2) else if m ≤ md then ((0, 0, 0, []), 2) else ((md, 0, 4, codeP l1 l2 md), 0)
theorem data_ok {wd ad m : Int} {lf lt : List Int} (h : dataP wd ad lf lt m = 0) : 1 ≤ wd ∧ wd ≤ 8 ∧ lf.length ≤ 4 := by
  unfold dataP at h
  by_cases h0 : wd < 1
  · rw [if_pos h0] at h; cases h
  rw [if_neg h0] at h
  by_cases h1 : 8 < wd
  · rw [if_pos h1] at h; cases h
  rw [if_neg h1] at h
  by_cases h2 : ad < 0
  · rw [if_pos h2] at h; cases h
  rw [if_neg h2] at h
  by_cases h3 : 64 - wd < ad
  · rw [if_pos h3] at h; cases h
  rw [if_neg h3] at h
  by_cases h4 : 4 < (lf.length : Int)
  · rw [if_pos h4] at h; cases h
  omega
theorem op_three (lf lt : List Int) (md : Int) : opP lf lt md = 1 ∨ opP lf lt md = 2 ∨ opP lf lt md = 3 := by
  unfold opP
  split
  · exact .inl rfl
  split
  · exact .inr (.inl rfl)
  · exact .inr (.inr rfl)
theorem cmdok_ {x : S76} {m md : Int} (h : wndP x m = 0) : OkS (cmdS x md) := by
  unfold cmdS cmdW
  by_cases h1 : x.f0 = 1
  · rw [if_pos h1]; unfold OkS toS; simp
  rw [if_neg h1]
  by_cases h2 : x.f0 = 2
  · rw [if_pos h2]; unfold OkS toS; simp
  rw [if_neg h2]
  unfold wndP at h
  by_cases h0 : x.f0 = 0
  · rw [if_pos h0] at h
    have hd := data_ok h
    rcases op_three x.f4 x.f5 md with e | e | e
    all_goals
      rw [e]
      generalize (if 0 ≤ candP x.f4 md then candP x.f4 md else 0) = cd
      unfold OkS toS
      refine ⟨?_, ?_, ⟨?_, ?_⟩, ⟨?_, ?_⟩⟩
    all_goals
      simp [cleanL, goesF, offs, cleanK]
      try omega
  · rw [if_neg h0, if_neg h1, if_neg h2] at h
    cases h
theorem frame_ok {m v : Int} {l : List S76} (h : (frameP m v l).2 = 0) : l.length ≤ 32 ∧ ∀ x ∈ l, wndP x m = 0 := by
  unfold frameP at h
  by_cases h32 : 32 < (l.length : Int)
  · rw [if_pos h32] at h; cases h
  rw [if_neg h32] at h
  refine ⟨by omega, ?_⟩
  cases hf : firstBad m l 0 with
  | none => exact firstBad_none m l 0 hf
  | some p =>
    rw [hf] at h
    exfalso
    have hb : ∀ (l : List S76) (i : Nat) (p : Int × Int), firstBad m l i = some p → p.2 ≠ 0 := by
      intro l
      induction l with
      | nil => intro i p h; cases h
      | cons x r ih =>
        intro i p h
        rw [firstBad] at h
        by_cases hx : wndP x m ≠ 0
        · rw [if_pos hx] at h
          obtain rfl := Option.some.inj h
          exact hx
        · rw [if_neg hx] at h
          exact ih _ _ h
    exact hb _ _ _ hf h
theorem check_ok {m : Int} {l1 l2 : List S76} (h : (checkP m l1 l2).2.2 = 0) : (2 ≤ m ∧ m ≤ 16) ∧ (l1.length ≤ 32 ∧ ∀ x ∈ l1, wndP x m = 0) ∧ (l2.length ≤ 32 ∧ ∀ x ∈ l2, wndP x m = 0) := by
  unfold checkP at h
  by_cases h0 : m < 2
  · rw [if_pos h0] at h; cases h
  rw [if_neg h0] at h
  by_cases h1 : 16 < m
  · rw [if_pos h1] at h; cases h
  rw [if_neg h1] at h
  by_cases h2 : (frameP m 0 l1).2 ≠ 0
  · rw [if_pos h2] at h; exact absurd h h2
  rw [if_neg h2] at h
  by_cases h3 : (frameP m 1 l2).2 ≠ 0
  · rw [if_pos h3] at h; exact absurd h h3
  exact ⟨by omega, frame_ok (Classical.not_not.1 h2), frame_ok (Classical.not_not.1 h3)⟩
def forT : Bool × List (List Nat × List Nat) := (true, [([], []), ([0], [0]), ([1], [1]), ([], []), ([2, 3], [2, 3]), ([], []), ([5], [5]), ([6], [6]), ([], []), ([7, 8, 4], [7, 8]), ([4, 9, 0, 1, 2, 3, 4], [4]), ([9, 10, 0, 1, 2, 3, 4, 5, 6, 7, 8, 9, 10], [9])])
theorem fortab : rtab .any (opsOf Try.f16 6) = forT := by kernel_rfl
def SchC (g : Nat) (A1 A2 : Option Addr) (n1 c1 n2 c2 : Nat) (W : World) : Prop := W.cell? ⟨g, 1, none⟩ = some (.slice A1 n1 c1) ∧ W.cell? ⟨g, 2, none⟩ = some (.slice A2 n2 c2)
theorem C_same {k : IntKind} {w W : World} {A : Option Addr} {n : Nat} {xs : List Int} (h : Kd.C (Kd.int k) w A n xs) (hne : ∀ ad, A = some ad → W.heap[ad.block]? = w.heap[ad.block]?) : Kd.C (Kd.int k) W A n xs := by
  have hR := Kd.reads_of_C (enc := Value.int k) (d := 0) (h1 := fun _ => rfl) h
  refine ⟨h.1, h.2.1, fun hn => ?_⟩
  obtain ⟨ad, hA, hc⟩ := hR.2.2 hn
  refine ⟨ad, hA, fun j p hj => ⟨[.int k p], rfl, rfl, fun i u hu => ?_⟩⟩
  rcases i with _ | i
  · have hu' : Value.int k p = u := Option.some.inj hu
    have hlt : j < n := by rw [← hR.1]; exact (List.getElem?_eq_some_iff.1 hj).1
    have h2 := hc j hlt
    rw [List.getD_eq_getElem?_getD, hj] at h2
    replace h2 : w.cell? (ad.add j) = some (.int k p) := h2
    have e : j * (Kd.int k).sz + 0 = j := by show j * 1 + 0 = j; omega
    rw [e, ← hu', ← h2]
    exact cell_same (by rw [add_block]; exact hne ad hA)
  · cases hu
set_option maxHeartbeats 4000000 in
set_option maxRecDepth 100000 in
theorem for_calls (m : Int) (A1 A2 : Option Addr) (c1 c2 : Nat) (l1 l2 : List S76) (md : Int) (w : World) (hr1 : Kd.C k76 w A1 l1.length l1) (hc1 : l1.length ≤ c1) (hr2 : Kd.C k76 w A2 l2.length l2) (hc2 : l2.length ≤ c2) (hf1 : Fit l1) (hf2 : Fit l2) {r : (Int × Int × Int × List Int) × Int} (hr : forP m l1 l2 md = r) :
    Calls Try.prog 16 #[.agg #[.int .i64 m, .slice A1 l1.length c1, .slice A2 l2.length c2], .int .i64 md] w fun e w' => ∃ A' c', e = .returned (.tuple #[.agg (imgCs r.1.1 r.1.2.1 r.1.2.2.1 A' r.1.2.2.2.length c'), .int .i64 r.2]) ∧ r.1.2.2.2.length ≤ c' ∧ Kd.C (Kd.int .u8) w' A' r.1.2.2.2.length r.1.2.2.2 ∧ Below w.heap.size w w' := by
  have H1 := Aside0.mk hr1
  have H2 := Aside0.mk hr2
  have HF1 := Aside0.mk hf1
  have HF2 := Aside0.mk hf2
  have HB : Aside0 (Below w.heap.size w w) := ⟨Below.refl _ _⟩
  obtain ⟨ck, hck⟩ : ∃ k, checkP m l1 l2 = k := ⟨_, rfl⟩
  have HCK := Aside0.mk hck
  unfold forP at hr
  rw [hck] at hr
  obtain ⟨cv, cw, bad⟩ := ck
  dsimp only at hr
  have HR := Aside0.mk hr
  clear hr1 hr2 hf1 hf2 hck hr
  go_enter Try.func16, Try.ntmps16
  go_wp2_with (first | ((with_reducible refine gate_dst (N := 2) rfl ?_); refine boxN (w := w) rfl (N := 2) rfl (cs := #[.int .i64 m, .slice A1 l1.length c1, .slice A2 l2.length c2]) (t := 43) (by first | (go_simp; done) | (go_simp; rfl)) HB ?_; intro g2 Wa Ha Lg2 HBa Ka) | ((with_reducible refine gate_dst (N := 4) rfl ?_); refine boxN (w := w) rfl (N := 4) rfl (cs := imgCs 0 0 0 none 0 0) (t := 25) (by first | (go_simp; done) | (go_simp; rfl)) HBa ?_; intro g4 Wb Hb Lg4 HBb Kb; have Hab := Aside0.mk (blk_below Ha.out Kb.out)) | ((with_reducible refine gate_dst (N := 11) rfl ?_); refine wpList_load_row rfl 43 _ rfl g2 rfl 43 _ (0, 0) _ Hab.out Try.underlying43 rfl (by kernel_rfl) ?_))
  refine (check_calls m A1 A2 c1 c2 l1 l2 Wb (Kd.C_below H1.out HBb.out) hc1 (Kd.C_below H2.out HBb.out) hc2 HF1.out HF2.out HCK.out).mono ?_
  rintro e w3 ⟨rfl, hb3⟩
  have HB3 := Aside0.mk (below_step HBb.out hb3)
  have Ha3 := Aside0.mk (blk_below Hab.out hb3)
  have Hb3 := Aside0.mk (blk_below Hb.out hb3)
  have z0 : w3.cell? ⟨g2, 0, none⟩ = some (.int .i64 m) := (cell_in Ha3.out 0).trans rfl
  clear hb3 Ha HBa Ka Hb HBb Kb Hab
  unfold fltCs
  have hfld : (Instr.field 58 (.agg #[.int .i64 cv, .int .i64 cw, .int .i64 bad]) 2).run Try.prog w3 = .ok (.int .i64 bad) w3 := by rfl
  by_cases hbad : bad = 0
  rotate_left
  · have e0 : ((0, 0, 0, []), bad) = r := by have h := HR.out; rw [if_pos hbad] at h; exact h
    have HE := Aside0.mk e0
    have k0 : (bad != 0) = true := by simpa using hbad
    have k1 : (bad == 0) = false := by simpa using hbad
    clear HR hbad e0
    go_wp2_with (first | (refine storeCsN (w := w) rfl 25 (.tmp 4) _ rfl g4 (imgCs 0 0 0 none 0 0) rfl rfl 25 _ Hb3 (by kernel_rfl) rfl (by rw [← Array.all_toList]; rfl) HB3 ⟨Lg4.out.1⟩ ?_; intro Wz Hz HBz HOz))
    refine bodyPost_ret (results_ct (p := 4) (u1 := 5) rfl _ _ g4 (imgCs 0 0 0 none 0 0) rfl (run_loadVar_row _ g4 25 25 (imgCs 0 0 0 none 0 0) (0, 0) _ Hz.out Try.underlying25 rfl (by kernel_rfl))) rfl ?_
    obtain rfl := HE.out
    exact ⟨none, 0, rfl, Nat.le_refl _, Kd.C_nil _ _, HBz.out⟩
  subst hbad
  obtain ⟨⟨hm2, hm16⟩, ⟨hn1, hw1⟩, ⟨hn2, hw2⟩⟩ := check_ok (by rw [HCK.out])
  have HW1 := Aside0.mk hw1
  have HW2 := Aside0.mk hw2
  have HR1 := Aside0.mk (show (if md < 0 then ((0, 0, 0, []), 2) else if m ≤ md then ((0, 0, 0, []), 2) else ((md, 0, 4, codeP l1 l2 md), 0)) = r by have h := HR.out; rw [if_neg (fun h => h rfl)] at h; exact h)
  clear HR hw1 hw2
  by_cases h0 : md < 0
  · have e0 : ((0, 0, 0, []), 2) = r := by have h := HR1.out; rw [if_pos h0] at h; exact h
    have HE := Aside0.mk e0
    have d0 : decide (md < 0) = true := decide_eq_true h0
    clear HR1 e0
    go_wp2_with (first | (refine storeCsN (w := w) rfl 25 (.tmp 4) _ rfl g4 (imgCs 0 0 0 none 0 0) rfl rfl 25 _ Hb3 (by kernel_rfl) rfl (by rw [← Array.all_toList]; rfl) HB3 ⟨Lg4.out.1⟩ ?_; intro Wz Hz HBz HOz))
    refine bodyPost_ret (results_ct (p := 4) (u1 := 5) rfl _ _ g4 (imgCs 0 0 0 none 0 0) rfl (run_loadVar_row _ g4 25 25 (imgCs 0 0 0 none 0 0) (0, 0) _ Hz.out Try.underlying25 rfl (by kernel_rfl))) rfl ?_
    obtain rfl := HE.out
    exact ⟨none, 0, rfl, Nat.le_refl _, Kd.C_nil _ _, HBz.out⟩
  by_cases h1 : m ≤ md
  · have e0 : ((0, 0, 0, []), 2) = r := by have h := HR1.out; rw [if_neg h0, if_pos h1] at h; exact h
    have HE := Aside0.mk e0
    have d0 : decide (md < 0) = false := decide_eq_false h0
    have d1 : decide (m ≤ md) = true := decide_eq_true h1
    clear HR1 e0
    go_wp2_with (first | (refine storeCsN (w := w) rfl 25 (.tmp 4) _ rfl g4 (imgCs 0 0 0 none 0 0) rfl rfl 25 _ Hb3 (by kernel_rfl) rfl (by rw [← Array.all_toList]; rfl) HB3 ⟨Lg4.out.1⟩ ?_; intro Wz Hz HBz HOz))
    refine bodyPost_ret (results_ct (p := 4) (u1 := 5) rfl _ _ g4 (imgCs 0 0 0 none 0 0) rfl (run_loadVar_row _ g4 25 25 (imgCs 0 0 0 none 0 0) (0, 0) _ Hz.out Try.underlying25 rfl (by kernel_rfl))) rfl ?_
    obtain rfl := HE.out
    exact ⟨none, 0, rfl, Nat.le_refl _, Kd.C_nil _ _, HBz.out⟩
  have hcode : ((md, 0, 4, codeP l1 l2 md), 0) = r := by have h := HR1.out; rw [if_neg h0, if_neg h1] at h; exact h
  have d0 : decide (md < 0) = false := decide_eq_false h0
  have d1 : decide (m ≤ md) = false := decide_eq_false h1
  obtain ⟨F, hF⟩ : ∃ x, bodyP l1 md = x := ⟨_, rfl⟩
  obtain ⟨S, hS⟩ : ∃ x, bodyP l2 md = x := ⟨_, rfl⟩
  have hFl : F.length ≤ 225 := by rw [← hF, bodyP, List.length_append]; have := body_len l1 md; simp only [List.length_cons, List.length_nil]; omega
  have hSl : S.length ≤ 225 := by rw [← hS, bodyP, List.length_append]; have := body_len l2 md; simp only [List.length_cons, List.length_nil]; omega
  obtain ⟨CD, hCD⟩ : ∃ x, codeP l1 l2 md = x := ⟨_, rfl⟩
  rw [hCD] at hcode
  unfold codeP at hCD
  rw [hF, hS] at hCD
  have HFB := Aside0.mk hF
  have HSB := Aside0.mk hS
  have HCD := Aside0.mk hCD
  have HRC := Aside0.mk hcode
  have HSE : Aside0 (∀ W', Below w3.heap.size w3 W' → SchC g2 A1 A2 l1.length c1 l2.length c2 W') := ⟨fun W' hb => ⟨(cell_in (blk_below Ha3.out hb) 1).trans rfl, (cell_in (blk_below Ha3.out hb) 2).trans rfl⟩⟩
  have KF : Aside0 (Below w3.heap.size w3 w3) := ⟨Below.refl _ _⟩
  have B1 : Aside0 (∀ W, Below w3.heap.size w3 W → Calls Try.prog 48 #[.slice A1 l1.length c1, .int .i64 md] W fun e w' => ∃ v, e = .returned v ∧ Kd.R (Kd.int .u8) 5 w' W.heap.size (fun _ => True) v F ∧ Below W.heap.size W w') := ⟨fun W hb => body_calls A1 c1 l1 md W (Kd.C_below H1.out (below_step HB3.out hb)) hc1 (by omega) (fun x hx => cmdok_ (HW1.out x hx)) HFB.out⟩
  have B2 : Aside0 (∀ W, Below w3.heap.size w3 W → Calls Try.prog 48 #[.slice A2 l2.length c2, .int .i64 md] W fun e w' => ∃ v, e = .returned v ∧ Kd.R (Kd.int .u8) 5 w' W.heap.size (fun _ => True) v S ∧ Below W.heap.size W w') := ⟨fun W hb => body_calls A2 c2 l2 md W (Kd.C_below H2.out (below_step HB3.out hb)) hc2 (by omega) (fun x hx => cmdok_ (HW2.out x hx)) HSB.out⟩
  clear HR1 h0 h1 hF hS hCD hcode
  go_wp2_with fail
  refine startD 12 fortab HSE KF (fun W4 HT B4 K4 => ?_)
  refine pureD 0 (some 27) (lb 12 0x1) HT ?_
  refine pureD 1 (some 28) (lb 12 0x3) HT ?_
  refine takeD 2 (some 29) (lb 12 0x7) HT HSE B4 ?_ (hy := Or.inl ⟨by rfl, by intro w' hs; unfold SchC at hs; obtain ⟨s1, s2⟩ := hs; go_simp; with_reducible rfl⟩)
  refine pureD 3 (some 30) (lb 12 0xf) HT ?_
  refine pureD 5 (some 32) (lb 12 0x2f) HT ?_
  refine pureD 6 (some 33) (lb 12 0x6f) HT ?_
  refine takeD 7 (some 34) (lb 12 0xef) HT HSE B4 ?_ (hy := Or.inl ⟨by rfl, by intro w' hs; unfold SchC at hs; obtain ⟨s1, s2⟩ := hs; go_simp; with_reducible rfl⟩)
  refine pureD 8 (some 35) (lb 12 0x1ef) HT ?_
  refine oneD 4 (some 31) (lb 12 0x1ff) HT (fun K hK => ?_)
  refine callV (Φ := fun v W => Kd.R (Kd.int .u8) 5 W w3.heap.size (fun _ => True) v F) hK HSE B4 Try.func48 ((B1.out _ B4.out).mono ?_) (fun v5 W5 H5 B5 => ?_)
  · rintro e w' ⟨v, rfl, h1, h2⟩
    exact ⟨v, rfl, Kd.R_lower h1 (below_size B4.out), below_step B4.out h2⟩
  refine oneD 9 (some 36) (lb 12 0x3ff) HT (fun K hK => ?_)
  refine callV (Φ := fun v W => Kd.R (Kd.int .u8) 5 W w3.heap.size (fun _ => True) v S ∧ Kd.R (Kd.int .u8) 5 W w3.heap.size (fun _ => True) v5 F) hK HSE B5 Try.func48 ((B2.out _ B5.out).mono ?_) (fun v6 W6 H6 B6 => ?_)
  · rintro e w' ⟨v, rfl, h1, h2⟩
    exact ⟨v, rfl, ⟨Kd.R_lower h1 (below_size B5.out), Kd.R_below H5.out h2⟩, below_step B5.out h2⟩
  refine pureD 10 (some 7) (lb 12 0x7ff) HT ?_
  refine pureD 11 (some 8) (lb 12 0xfff) HT ?_
  refine doneD HT ?_
  clear HT
  obtain ⟨A5, c5, e5⟩ := Kd.R_slice H6.out.2
  subst e5
  obtain ⟨A6, c6, e6⟩ := Kd.R_slice H6.out.1
  subst e6
  have HF6 := Aside0.mk (Kd.R_reads' H6.out.2).2
  have HS6 := Aside0.mk (Kd.R_reads' H6.out.1).2
  have HB6 := Aside0.mk (below_step HB3.out B6.out)
  have Hb6 := Aside0.mk (blk_below Hb3.out B6.out)
  have w0 : wrap64 (8 + (F.length : Int)) = 8 + (F.length : Int) := by unfold wrap64; omega
  clear z0 d0 d1 hfld
  go_wp2_with fail
  refine (equal_calls A5 A6 c5 c6 F S W6 HF6.out.2 HS6.out.2).mono ?_
  rintro e w' ⟨rfl, hw'⟩
  obtain rfl := hw'.symm
  cases hsm : same_ F S
  · have hcd : (headS (8 + (F.length : Int))).flatMap putS ++ F ++ S = CD := by rw [← HCD.out, if_neg (by rw [hsm]; decide)]
    have HCDD := Aside0.mk hcd
    clear hsm hcd
    go_wp2_with (first | ((with_reducible refine gate_dst (N := 50) rfl ?_); refine litW (w := w) rfl (N := 50) rfl (flat54 (headS (8 + (F.length : Int)))).toArray 98 4 (by first | (go_simp; done) | (go_simp; rfl)) HB6 ?_; intro g7 W7 H7 Lg7 HB7 K7; have HF7 := Aside0.mk (Kd.C_below HF6.out.2 K7.out); have HS7 := Aside0.mk (Kd.C_below HS6.out.2 K7.out); have Hb7 := Aside0.mk (blk_below Hb6.out K7.out)))
    refine (lay_calls W7 (.slice none 0 0) [] g7 4 (headS (8 + (F.length : Int))) W7 (Kd.R_nil _ _ _ _ _) (Below.refl _ _) H7.out ⟨by simp, by simp [headS]⟩ (fun y hy => by
      simp only [headS, List.mem_cons, List.not_mem_nil, or_false] at hy
      rcases hy with rfl | rfl | rfl | rfl <;> simp [OkS, callS, z54])).mono ?_
    rintro e w8 ⟨v8, rfl, h8, hb8⟩
    have hhl : ((headS (8 + (F.length : Int))).flatMap putS).length ≤ 28 := puts_len (headS (8 + (F.length : Int)))
    obtain ⟨HD, hHD⟩ : ∃ x, (headS (8 + (F.length : Int))).flatMap putS = x := ⟨_, rfl⟩
    rw [hHD, List.nil_append] at h8
    rw [hHD] at hhl
    rw [hHD] at HCDD
    obtain ⟨A8, c8, e8⟩ := Kd.R_slice h8
    subst e8
    have HD8 := Aside0.mk (Kd.R_reads' h8).2.2
    have HB8 := Aside0.mk (below_step HB7.out hb8)
    have HF8 := Aside0.mk (Kd.C_below HF7.out hb8)
    have HS8 := Aside0.mk (Kd.C_below HS7.out hb8)
    have Hb8 := Aside0.mk (blk_below Hb7.out hb8)
    clear h8 hb8 hHD
    go_wp2_with (first | ((with_reducible refine gate_dst (N := 57) rfl ?_); refine litW (w := w) rfl (N := 57) rfl #[.slice A8 HD.length c8, .slice A5 F.length c5, .slice A6 S.length c6] 23 3 (by first | (go_simp; done) | (go_simp; rfl)) HB8 ?_; intro g9 W9 H9 Lg9 HB9 K9; have HF9 := Aside0.mk (Kd.C_below HF8.out K9.out); have HS9 := Aside0.mk (Kd.C_below HS8.out K9.out); have HD9 := Aside0.mk (Kd.C_below HD8.out K9.out); have Hb9 := Aside0.mk (blk_below Hb8.out K9.out)))
    refine (concatb_calls [(A8, c8, HD), (A5, c5, F), (A6, c6, S)] g9 3 W9 H9.out (fun x hx => by
      simp only [List.mem_cons, List.not_mem_nil, or_false] at hx
      rcases hx with rfl | rfl | rfl
      · exact HD9.out
      · exact HF9.out
      · exact HS9.out) (by simp; omega) (by simp) (R := CD) (by rw [← HCDD.out]; simp)).mono ?_
    rintro e w10 ⟨v10, rfl, h10, hb10⟩
    obtain ⟨A10, c10, e10⟩ := Kd.R_slice h10
    subst e10
    have HC10 := Aside0.mk (Kd.R_reads' h10).2
    have HB10 := Aside0.mk (below_step HB9.out hb10)
    have Hb10 := Aside0.mk (blk_below Hb9.out hb10)
    have HNB := Aside0.mk (Kd.R_ne h10 Hb10.out (by decide))
    clear h10 hb10
    go_wp2_with (first | (refine storeCsN (w := w) rfl 25 (.tmp 4) _ rfl g4 (imgCs md 0 4 A10 CD.length c10) rfl rfl 25 _ Hb10 (by kernel_rfl) rfl (by rw [← Array.all_toList]; rfl) HB10 ⟨Lg4.out.1⟩ ?_; intro Wz Hz HBz HOz))
    refine bodyPost_ret (results_ct (p := 4) (u1 := 5) rfl _ _ g4 (imgCs md 0 4 A10 CD.length c10) rfl (run_loadVar_row _ g4 25 25 (imgCs md 0 4 A10 CD.length c10) (0, 0) _ Hz.out Try.underlying25 rfl (by kernel_rfl))) rfl ?_
    obtain rfl := HRC.out
    exact ⟨A10, c10, rfl, HC10.out.1, C_same HC10.out.2 (fun ad ha => HOz.out _ (fun e => HNB.out (by rw [ha, ← e]; rfl))), HBz.out⟩
  · have hcd : (headS 8).flatMap putS ++ F ++ [] = CD := by rw [← HCD.out, if_pos hsm]
    have HCDD := Aside0.mk hcd
    clear hsm hcd
    go_wp2_with (first | ((with_reducible refine gate_dst (N := 50) rfl ?_); refine litW (w := w) rfl (N := 50) rfl (flat54 (headS 8)).toArray 98 4 (by first | (go_simp; done) | (go_simp; rfl)) HB6 ?_; intro g7 W7 H7 Lg7 HB7 K7; have HF7 := Aside0.mk (Kd.C_below HF6.out.2 K7.out); have HS7 := Aside0.mk (Kd.C_below HS6.out.2 K7.out); have Hb7 := Aside0.mk (blk_below Hb6.out K7.out)))
    refine (lay_calls W7 (.slice none 0 0) [] g7 4 (headS 8) W7 (Kd.R_nil _ _ _ _ _) (Below.refl _ _) H7.out ⟨by simp, by simp [headS]⟩ (fun y hy => by
      simp only [headS, List.mem_cons, List.not_mem_nil, or_false] at hy
      rcases hy with rfl | rfl | rfl | rfl <;> simp [OkS, callS, z54])).mono ?_
    rintro e w8 ⟨v8, rfl, h8, hb8⟩
    have hhl : ((headS 8).flatMap putS).length ≤ 28 := puts_len (headS 8)
    obtain ⟨HD, hHD⟩ : ∃ x, (headS 8).flatMap putS = x := ⟨_, rfl⟩
    rw [hHD, List.nil_append] at h8
    rw [hHD] at hhl
    rw [hHD] at HCDD
    obtain ⟨A8, c8, e8⟩ := Kd.R_slice h8
    subst e8
    have HD8 := Aside0.mk (Kd.R_reads' h8).2.2
    have HB8 := Aside0.mk (below_step HB7.out hb8)
    have HF8 := Aside0.mk (Kd.C_below HF7.out hb8)
    have HS8 := Aside0.mk (Kd.C_below HS7.out hb8)
    have Hb8 := Aside0.mk (blk_below Hb7.out hb8)
    clear h8 hb8 hHD
    go_wp2_with (first | ((with_reducible refine gate_dst (N := 57) rfl ?_); refine litW (w := w) rfl (N := 57) rfl #[.slice A8 HD.length c8, .slice A5 F.length c5, .slice none 0 0] 23 3 (by first | (go_simp; done) | (go_simp; rfl)) HB8 ?_; intro g9 W9 H9 Lg9 HB9 K9; have HF9 := Aside0.mk (Kd.C_below HF8.out K9.out); have HS9 := Aside0.mk (Kd.C_below HS8.out K9.out); have HD9 := Aside0.mk (Kd.C_below HD8.out K9.out); have Hb9 := Aside0.mk (blk_below Hb8.out K9.out)))
    refine (concatb_calls [(A8, c8, HD), (A5, c5, F), (none, 0, [])] g9 3 W9 H9.out (fun x hx => by
      simp only [List.mem_cons, List.not_mem_nil, or_false] at hx
      rcases hx with rfl | rfl | rfl
      · exact HD9.out
      · exact HF9.out
      · exact Kd.C_nil _ _) (by simp; omega) (by simp) (R := CD) (by rw [← HCDD.out]; simp)).mono ?_
    rintro e w10 ⟨v10, rfl, h10, hb10⟩
    obtain ⟨A10, c10, e10⟩ := Kd.R_slice h10
    subst e10
    have HC10 := Aside0.mk (Kd.R_reads' h10).2
    have HB10 := Aside0.mk (below_step HB9.out hb10)
    have Hb10 := Aside0.mk (blk_below Hb9.out hb10)
    have HNB := Aside0.mk (Kd.R_ne h10 Hb10.out (by decide))
    clear h10 hb10
    go_wp2_with (first | (refine storeCsN (w := w) rfl 25 (.tmp 4) _ rfl g4 (imgCs md 0 4 A10 CD.length c10) rfl rfl 25 _ Hb10 (by kernel_rfl) rfl (by rw [← Array.all_toList]; rfl) HB10 ⟨Lg4.out.1⟩ ?_; intro Wz Hz HBz HOz))
    refine bodyPost_ret (results_ct (p := 4) (u1 := 5) rfl _ _ g4 (imgCs md 0 4 A10 CD.length c10) rfl (run_loadVar_row _ g4 25 25 (imgCs md 0 4 A10 CD.length c10) (0, 0) _ Hz.out Try.underlying25 rfl (by kernel_rfl))) rfl ?_
    obtain rfl := HRC.out
    exact ⟨A10, c10, rfl, HC10.out.1, C_same HC10.out.2 (fun ad ha => HOz.out _ (fun e => HNB.out (by rw [ha, ← e]; rfl))), HBz.out⟩
end Go.Proofs.Ytbaapakkdnhcmaa.PWe
