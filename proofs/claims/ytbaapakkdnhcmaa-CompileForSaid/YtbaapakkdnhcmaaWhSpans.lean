/- valid.Spans: its walk. Helper text. -/
import Derived.Test.YtbaapakkdnhcmaaWhView
namespace Go.Proofs.Ytbaapakkdnhcmaa.PWe
open Go.RowKit Go.Proofs.Ytbaapakkdnhcmaa.Kx Go.Proofs.YtbaapakkdnhcmaaW.PrintWords Go.Proofs.YtbaapakkdnhcmaaW.PrintLast Go.Proofs.YtbaapakkdnhcmaaW.PrintMore
set_option linter.unusedVariables false
set_option linter.unusedSimpArgs false

def spanV (v : Int) (l : List S76) : List S47 := ⟨3, 0, 200 + 40 * v, 0, 0, 0, -1, false⟩ :: viewL (-1) (200 + 40 * v) l
/-- How far one is in a view's slots: the spans as yet, and where the last pulse was. -/
def SpI (v : Int) (l : List S76) (i : Nat) (out : List Int) (last : Int) : Prop :=
  out.length ≤ i ∧ ((i = 0 ∧ out = [] ∧ last = 0) ∨
  (∃ pre xs a b, spanV v l = pre ++ viewL (-1) (20 * a) xs ∧ pre.length = i ∧ 0 < i ∧ last = 20 * b ∧ out ++ spansW a b xs = spansW (10 + 2 * v) 3 l ∧ 20 * a + ticksL xs = 200 + 40 * v + ticksL l ∧ (∀ x ∈ xs, 0 ≤ x.f0 ∧ x.f0 ≤ 2) ∧ 0 ≤ b ∧ b ≤ a) ∨
  (i = (spanV v l).length ∧ ∃ a b, last = 20 * b ∧ 20 * a = 200 + 40 * v + ticksL l ∧ out ++ [a + 6 + 3 - b] = spansW (10 + 2 * v) 3 l ∧ 0 ≤ b ∧ b ≤ a))
theorem SpI.step {v last : Int} {l : List S76} {i : Nat} {out : List Int} (hv : 0 ≤ v ∧ v < 2) (hf : ∀ x ∈ l, 0 ≤ x.f0 ∧ x.f0 ≤ 2) (h : SpI v l i out last) (hi : i < (spanV v l).length) {s : S47} (hs : (spanV v l)[i] = s) :
    (s.f0 = 3 ∧ s.f1 = 0 ∧ i = 0 ∧ SpI v l (i + 1) out 60) ∨ (s.f0 ≠ 2 ∧ s.f0 ≠ 3 ∧ SpI v l (i + 1) out last) ∨
    (s.f0 = 2 ∧ 0 < i ∧ ∃ a b, s.f1 = 20 * a ∧ last = 20 * b ∧ 0 ≤ b ∧ b ≤ a ∧ 20 * a ≤ 200 + 40 * v + ticksL l ∧ SpI v l (i + 1) (out ++ [a + 2 - b]) (20 * a + 40)) := by
  obtain ⟨hol, h⟩ := h
  rcases h with ⟨rfl, rfl, rfl⟩ | ⟨pre, xs, a, b, hV, rfl, hi0, rfl, ho, ht, hx, hb, hab⟩ | ⟨rfl, -⟩
  · subst hs
    exact .inl ⟨rfl, rfl, rfl, Nat.zero_le _, .inr (.inl ⟨[⟨3, 0, 200 + 40 * v, 0, 0, 0, -1, false⟩], l, 10 + 2 * v, 3, by rw [show 20 * (10 + 2 * v) = 200 + 40 * v by omega]; rfl, rfl, by decide, rfl, rfl, by omega, hf, by omega, by omega⟩)⟩
  · have hs2 : (viewL (-1) (20 * a) xs)[0]'(viewL_len (-1) xs (20 * a)).1 = s := by
      rw [← hs]
      simp only [hV]
      rw [List.getElem_append_right (Nat.le_refl _)]
      simp
    cases xs with
    | nil =>
      subst hs2
      refine .inr (.inl ⟨by show (4 : Int) ≠ 2; decide, by show (4 : Int) ≠ 3; decide, by omega, .inr (.inr ⟨by rw [hV]; simp [viewL], a, b, rfl, ?_, ho, hb, hab⟩)⟩)
      simpa [ticksL] using ht
    | cons x xs =>
      have hx0 := hx x (by simp)
      have hbd := bitsOf_bd x
      have htk := ticksL_bd xs
      rw [ticksL] at ht
      have e : viewL (-1) (20 * a) (x :: xs) = slotOf (20 * a) (-1) x :: viewL (-1) (20 * (a + bitsOf x)) xs := by rw [viewL, if_neg (by omega), Int.mul_add]
      have hse : s = slotOf (20 * a) (-1) x := by rw [← hs2]; simp only [e]; rfl
      have hf0 : s.f0 = x.f0 := by rw [hse]; unfold slotOf; split <;> rfl
      have hf1 : s.f1 = 20 * a := by rw [hse]; unfold slotOf; split <;> rfl
      rw [e] at hV
      have hV2 : spanV v l = (pre ++ [slotOf (20 * a) (-1) x]) ++ viewL (-1) (20 * (a + bitsOf x)) xs := by rw [hV, List.append_assoc]; rfl
      have hx' : ∀ y ∈ xs, 0 ≤ y.f0 ∧ y.f0 ≤ 2 := fun y hy => hx y (List.mem_cons_of_mem _ hy)
      rw [spansW, if_neg (by omega)] at ho
      by_cases h2 : x.f0 = 2
      · rw [if_pos h2] at ho
        have h6 : bitsOf x = 6 := by unfold bitsOf; rw [if_neg (by omega), if_neg (by omega), if_pos h2]
        refine .inr (.inr ⟨by omega, hi0, a, b, hf1, rfl, hb, hab, by omega, by rw [List.length_append, List.length_singleton]; omega, .inr (.inl ⟨_, xs, a + bitsOf x, a + 2, hV2, by simp, by omega, by omega, ?_, by omega, hx', by omega, by omega⟩)⟩)
        rw [List.append_assoc]
        exact ho
      · rw [if_neg h2] at ho
        exact .inr (.inl ⟨by omega, by omega, by omega, .inr (.inl ⟨_, xs, a + bitsOf x, b, hV2, by simp, by omega, rfl, ho, by omega, hx', hb, by omega⟩)⟩)
  · omega
theorem SpI.done {v last : Int} {l : List S76} {out : List Int} (h : SpI v l (spanV v l).length out last) : ∃ a b, last = 20 * b ∧ 20 * a = 200 + 40 * v + ticksL l ∧ out ++ [a + 6 + 3 - b] = spansW (10 + 2 * v) 3 l ∧ 0 ≤ b ∧ b ≤ a := by
  obtain ⟨-, h⟩ := h
  rcases h with ⟨h0, -⟩ | ⟨pre, xs, a, b, hV, hp, -⟩ | ⟨-, h⟩
  · simp [spanV] at h0
  · have := (viewL_len (-1) xs (20 * a)).1
    rw [hV, List.length_append] at hp
    omega
  · exact h
/-- One slot of a slice, read. -/
theorem slot_at {w W : World} {A : Option Addr} {l : List S47} (h : Kd.C k47 w A l.length l) (hb : Below w.heap.size w W) {i : Nat} (hi : i < l.length) {s : S47} (hs : l[i] = s) : ∃ ad, A = some ad ∧ W.cell? (ad.add (i * 8)) = some (.int .i64 s.f0) ∧ W.cell? ⟨(ad.add (i * 8)).block, (ad.add (i * 8)).off + 1, none⟩ = some (.int .i64 s.f1) ∧ W.cell? ⟨(ad.add (i * 8)).block, (ad.add (i * 8)).off + 2, none⟩ = some (.int .i64 s.f2) ∧ W.cell? ⟨(ad.add (i * 8)).block, (ad.add (i * 8)).off + 3, none⟩ = some (.int .i64 s.f3) ∧ W.cell? ⟨(ad.add (i * 8)).block, (ad.add (i * 8)).off + 4, none⟩ = some (.int .i64 s.f4) ∧ W.cell? ⟨(ad.add (i * 8)).block, (ad.add (i * 8)).off + 5, none⟩ = some (.int .i64 s.f5) ∧ W.cell? ⟨(ad.add (i * 8)).block, (ad.add (i * 8)).off + 6, none⟩ = some (.int .i64 s.f6) ∧ W.cell? ⟨(ad.add (i * 8)).block, (ad.add (i * 8)).off + 7, none⟩ = some (.bool s.f7) := by
  subst hs
  have h := at_T47 h (i : Int) (by omega) (by omega)
  rw [rd47 hi, Int.toNat_natCast] at h
  obtain ⟨ad, e, x0, x1, x2, x3, x4, x5, x6, x7⟩ := h
  have up : ∀ {p : Addr} {v : Value}, w.cell? p = some v → W.cell? p = some v := fun h => (hb.cell (World.block_lt_of_cell? w _ h)).trans h
  exact ⟨ad, e, up x0, up x1, up x2, up x3, up x4, up x5, up x6, up x7⟩
theorem pulse_calls (s : S47) (w : World) {r : Int × Int} (h : plan_Slot_Pulse.f 1 s.f0 s.f1 s.f2 s.f3 s.f4 s.f5 s.f6 s.f7 = some r) : Calls Try.prog 82 #[.agg #[.int .i64 s.f0, .int .i64 s.f1, .int .i64 s.f2, .int .i64 s.f3, .int .i64 s.f4, .int .i64 s.f5, .int .i64 s.f6, .bool s.f7]] w fun e w' => e = .returned (.tuple #[.int .i64 r.1, .int .i64 r.2]) ∧ Below w.heap.size w w' :=
  plan_Slot_Pulse.calls 1 s.f0 s.f1 s.f2 s.f3 s.f4 s.f5 s.f6 s.f7 r.1 r.2 w h

set_option maxHeartbeats 4000000 in
set_option maxRecDepth 100000 in
theorem spans_calls (A : Option Addr) (c : Nat) (l : List S76) (v : Int) (w : World) (hr : Kd.C k76 w A l.length l) (hc : l.length ≤ c) (hv0 : 0 ≤ v) (hv1 : v < 2) (hf : Fit l) (hx : ∀ x ∈ l, 0 ≤ x.f0 ∧ x.f0 ≤ 2) :
    Calls Try.prog 46 #[.slice A l.length c, .int .i64 v] w fun e w' => ∃ v0_ : Value, e = .returned v0_ ∧ Kd.R (Kd.int .i64) 3 w' w.heap.size (fun _ => True) v0_ (spansW (10 + 2 * v) 3 l) ∧ Below w.heap.size w w' := by
  have HF := Aside0.mk hf
  have HX := Aside0.mk hx
  have HR := Aside0.mk hr
  have hl1000 := hf.1
  have htk := ticksL_bd l
  obtain ⟨A1, c1, l1, A2, c2, l2, hr1, hc1, hr2, hc2, hL, hcs⟩ : ∃ (A1 : Option Addr) (c1 : Nat) (l1 : List S76) (A2 : Option Addr) (c2 : Nat) (l2 : List S76), Kd.C k76 w A1 l1.length l1 ∧ l1.length ≤ c1 ∧ Kd.C k76 w A2 l2.length l2 ∧ l2.length ≤ c2 ∧ (if v = 0 then l1 else l2) = l ∧ (#[Value.int .i64 0, .slice none 0 0, .slice none 0 0] : Array Value).setIfInBounds (1 + v.toNat) (.slice A l.length c) = #[.int .i64 0, .slice A1 l1.length c1, .slice A2 l2.length c2] := by
    have hn : Kd.C k76 w none ([] : List S76).length [] := Kd.C_nil k76 w
    rcases (by omega : v = 0 ∨ v = 1) with rfl | rfl
    · exact ⟨A, c, l, none, 0, [], hr, hc, hn, Nat.le_refl _, rfl, rfl⟩
    · exact ⟨none, 0, [], A, c, l, hn, Nat.le_refl _, hr, hc, rfl, rfl⟩
  have HR1 := Aside0.mk hr1
  have HR2 := Aside0.mk hr2
  have HL := Aside0.mk hL
  have HCS := Aside0.mk hcs
  have HB : Aside0 (Below w.heap.size w w) := ⟨Below.refl _ _⟩
  have e60 := Try.underlying41
  have p1 := eq_true hv0
  have p2 := eq_true hv1
  have d1 : decide (v < 0) = false := decide_eq_false (by omega)
  have d2 : decide (2 ≤ v) = false := decide_eq_false (by omega)
  clear hf hx hr hr1 hr2 hL hcs
  go_enter Try.func46, Try.ntmps46
  go_wp2_with (first | ((with_reducible refine gate_dst (N := 5) rfl ?_); refine boxN (w := w) rfl (N := 5) rfl (cs := #[.int .i64 0, .slice none 0 0, .slice none 0 0]) (t := 43) (by first | (go_simp; done) | (go_simp; rfl)) HB ?_; intro g5 W0 H0 Lg5 HB_W0 K_W0) | (refine storeN (w := w) rfl 43 _ _ rfl g5 #[.int .i64 0, .slice none 0 0, .slice none 0 0] rfl rfl 43 _ H0 (by kernel_rfl) rfl (by rw [← Array.all_toList]; rfl) HB_W0 Lg5 K_W0 ?_; clear H0; intro W1 H0 HB_W1 K_W1; have y0 : W1.cell? ⟨g5, 1 + v.toNat, none⟩ = some (.slice none 0 0) := (cell_in H0.out _).trans (by rcases (by omega : v = 0 ∨ v = 1) with rfl | rfl <;> rfl); have y1 := free_in H0.out (1 + v.toNat)) | ((with_reducible refine gate_dst (N := 25) rfl ?_); have HSC := Aside0.mk (set_in H0.out (1 + v.toNat) (Value.slice A l.length c)); rw [HCS.out] at HSC; refine wpList_load_row rfl 43 _ rfl g5 rfl 43 _ (0, 0) _ HSC.out Try.underlying43 rfl (by kernel_rfl) ?_))
  have HBs := Aside0.mk (below_set (j := 1 + v.toNat) (v := Value.slice A l.length c) HB_W1.out Lg5.out.1)
  have HS := Aside0.mk (set_in H0.out (1 + v.toNat) (Value.slice A l.length c))
  rw [HCS.out] at HS
  refine (view_calls 0 A1 A2 c1 c2 l1 l2 l v (-1) _ (Kd.C_below HR1.out HBs.out) hc1 (Kd.C_below HR2.out HBs.out) hc2 hv0 hv1 HL.out HF.out).mono ?_
  rintro e W4 ⟨vV, rfl, hV, hb⟩
  have HS4 := Aside0.mk (blk_below HS.out hb)
  have HB4 := Aside0.mk (below_step HBs.out hb)
  obtain ⟨AV, cV, eV⟩ := Kd.R_slice hV
  subst eV
  have HV := Aside0.mk (Kd.R_reads' hV).2.2
  obtain ⟨V, hVV⟩ : ∃ V, spanV v l = V := ⟨_, rfl⟩
  rw [show (⟨3, 0, 200 + 40 * v, 0, 0, 0, -1, false⟩ :: viewL (-1) (200 + 40 * v) l : List S47) = V from hVV] at HV ⊢
  have hVl : 1 ≤ V.length ∧ V.length ≤ 1002 := by rw [← hVV]; have := viewL_len (-1) l (200 + 40 * v); simp only [spanV, List.length_cons]; omega
  have HVV := Aside0.mk hVV
  have hV1 := hVl.1
  have hV2 := hVl.2
  have HB0 : Aside0 (Below W4.heap.size W4 W4) := ⟨Below.refl _ _⟩
  have hT : ticksL l ≤ 20000000 := by omega
  clear hb hV hVV hVl HS HBs H0 HB_W0 HB_W1 K_W0 K_W1 HB HCS y0 y1 htk
  go_wp2_with fail
  go_loopw [6, 7, 29] (fun v6 v7 v29 wr => ∃ (i : Nat) (last : Int) (out : List Int), i ≤ V.length ∧ v29 = .int .i64 (i : Int) ∧ v7 = .int .i64 last ∧ SpI v l i out last ∧ Kd.R (Kd.int .i64) 3 wr W4.heap.size (fun _ => True) v6 out ∧ Below W4.heap.size W4 wr) (fun _ _ v29 _ => ((V.length : Int) - intOf v29).toNat)
  case atStart => exact ⟨0, 0, [], Nat.zero_le _, rfl, rfl, ⟨Nat.zero_le _, .inl ⟨rfl, rfl, rfl⟩⟩, Kd.R_nil _ _ _ _ _, HB0.out⟩
  case round =>
    obtain ⟨i, last, out, hi, rfl, rfl, hs, ho, hb⟩ := hrel
    have HS := Aside0.mk hs
    have HO := Aside0.mk ho
    have HBr := Aside0.mk hb
    have hol := hs.1
    clear hs ho hb HB0
    by_cases hlt : i < V.length
    · have m1 : decide ((i : Int) < (V.length : Int)) = true := decide_eq_true (by omega)
      have m2 : decide (i < V.length) = true := decide_eq_true hlt
      have q1 : (0 ≤ (i : Int)) = True := eq_true (by omega)
      have q2 : ((i : Int) < (V.length : Int)) = True := eq_true (by omega)
      have q3 : (i < V.length) = True := eq_true hlt
      obtain ⟨s, hs⟩ : ∃ s, V[i] = s := ⟨_, rfl⟩
      obtain ⟨ad, hA, x0, x1, x2, x3, x4, x5, x6, x7⟩ := slot_at HV.out HBr.out hlt hs
      subst hA
      have hstep := HS.out.step ⟨hv0, hv1⟩ HX.out (by rw [HVV.out]; exact hlt) (s := s) (by simp only [HVV.out]; exact hs)
      clear hs HS
      rcases hstep with ⟨h3, h1, hi0, hn⟩ | ⟨h2, h3, hn⟩ | ⟨h2, hi0, a, b, h1, hlast, hb0, hba, ha, hn⟩
      · have HN := Aside0.mk hn
        have k3 : decide (0 < (i : Int)) = false := decide_eq_false (by omega)
        have k4 : decide (0 < i) = false := decide_eq_false (by omega)
        have k1 : (s.f0 != 2) = true := by simp [h3]
        have k2 : (s.f0 != 3) = false := by simp [h3]
        have hp : plan_Slot_Pulse.f 1 s.f0 s.f1 s.f2 s.f3 s.f4 s.f5 s.f6 s.f7 = some (60, wrap64 (s.f2 - 60)) := by rw [pulse_f s (by decide), if_neg (by omega), if_neg (by omega), if_pos h3]
        have HP := Aside0.mk hp
        have H1 := Aside0.mk h1
        clear hp hn h3 h1 hi0
        go_wp2_with (first | ((with_reducible refine gate_dst (N := 9) rfl ?_); refine boxN (w := W4) rfl (N := 9) rfl (cs := #[.int .i64 0, .int .i64 0, .int .i64 0, .int .i64 0, .int .i64 0, .int .i64 0, .int .i64 0, .bool false]) (t := 64) (by first | (go_simp; done) | (go_simp; rfl)) HBr ?_; intro ga Wa Ha Lga HB_Wa K_Wa) | (refine storeN (w := W4) rfl 64 _ _ rfl ga #[.int .i64 s.f0, .int .i64 s.f1, .int .i64 s.f2, .int .i64 s.f3, .int .i64 s.f4, .int .i64 s.f5, .int .i64 s.f6, .bool s.f7] rfl rfl 64 _ Ha (by kernel_rfl) rfl (by rw [← Array.all_toList]; rfl) HB_Wa Lga K_Wa ?_; clear Ha; intro Wb Ha HB_Wb K_Wb; have z0 : Wb.cell? ⟨ga, 0, none⟩ = some (.int .i64 s.f0) := cell_in Ha.out 0) | ((with_reducible refine gate_dst (N := 43) rfl ?_); refine wpList_load_row rfl 64 _ rfl ga rfl 64 _ (0, 0) _ Ha.out Try.underlying64 rfl (by kernel_rfl) ?_))
        refine (pulse_calls s _ HP.out).mono ?_
        rintro e w5 ⟨rfl, hb⟩
        have HB5 := Aside0.mk (below_step HB_Wb.out hb)
        have HO5 := Aside0.mk (Kd.R_below HO.out (below_step K_Wb.out hb))
        have z1 : w5.cell? ⟨ga, 1, none⟩ = some (.int .i64 s.f1) := cell_in (blk_below Ha.out hb) 1
        rw [H1.out] at z1
        have H5 := Aside0.mk (blk_below Ha.out hb)
        clear hb HB_Wa HB_Wb Ha K_Wa K_Wb HO
        go_wp2_with fail
        exact ⟨⟨i + 1, 60, out, by omega, by rw [Int.natCast_add]; rfl, rfl, HN.out, HO5.out, HB5.out⟩, by simp [intOf]; omega⟩
      · have HN := Aside0.mk hn
        have k1 : (s.f0 != 2) = true := by simp [h2]
        have k2 : (s.f0 != 3) = true := by simp [h3]
        clear hn h2 h3
        go_wp2_with (first | ((with_reducible refine gate_dst (N := 9) rfl ?_); refine boxN (w := W4) rfl (N := 9) rfl (cs := #[.int .i64 0, .int .i64 0, .int .i64 0, .int .i64 0, .int .i64 0, .int .i64 0, .int .i64 0, .bool false]) (t := 64) (by first | (go_simp; done) | (go_simp; rfl)) HBr ?_; intro ga Wa Ha Lga HB_Wa K_Wa) | (refine storeN (w := W4) rfl 64 _ _ rfl ga #[.int .i64 s.f0, .int .i64 s.f1, .int .i64 s.f2, .int .i64 s.f3, .int .i64 s.f4, .int .i64 s.f5, .int .i64 s.f6, .bool s.f7] rfl rfl 64 _ Ha (by kernel_rfl) rfl (by rw [← Array.all_toList]; rfl) HB_Wa Lga K_Wa ?_; clear Ha; intro Wb Ha HB_Wb K_Wb; have z0 : Wb.cell? ⟨ga, 0, none⟩ = some (.int .i64 s.f0) := cell_in Ha.out 0) | ((with_reducible refine gate_dst (N := 43) rfl ?_); refine wpList_load_row rfl 64 _ rfl ga rfl 64 _ (0, 0) _ Ha.out Try.underlying64 rfl (by kernel_rfl) ?_))
        exact ⟨⟨i + 1, last, out, by omega, by rw [Int.natCast_add]; rfl, rfl, HN.out, Kd.R_below HO.out K_Wb.out, HB_Wb.out⟩, by simp [intOf]; omega⟩
      · have HN := Aside0.mk hn
        have k1 : (s.f0 != 2) = false := by simp [h2]
        have k3 : decide (0 < (i : Int)) = true := decide_eq_true (by omega)
        have k4 : decide (0 < i) = true := decide_eq_true hi0
        have HP := Aside0.mk (pulse_short (k := 1) h2 (by decide))
        have H1 := Aside0.mk h1
        subst hlast
        clear hn h2 h1
        go_wp2_with (first | ((with_reducible refine gate_dst (N := 9) rfl ?_); refine boxN (w := W4) rfl (N := 9) rfl (cs := #[.int .i64 0, .int .i64 0, .int .i64 0, .int .i64 0, .int .i64 0, .int .i64 0, .int .i64 0, .bool false]) (t := 64) (by first | (go_simp; done) | (go_simp; rfl)) HBr ?_; intro ga Wa Ha Lga HB_Wa K_Wa) | (refine storeN (w := W4) rfl 64 _ _ rfl ga #[.int .i64 s.f0, .int .i64 s.f1, .int .i64 s.f2, .int .i64 s.f3, .int .i64 s.f4, .int .i64 s.f5, .int .i64 s.f6, .bool s.f7] rfl rfl 64 _ Ha (by kernel_rfl) rfl (by rw [← Array.all_toList]; rfl) HB_Wa Lga K_Wa ?_; clear Ha; intro Wb Ha HB_Wb K_Wb; have z0 : Wb.cell? ⟨ga, 0, none⟩ = some (.int .i64 s.f0) := cell_in Ha.out 0) | ((with_reducible refine gate_dst (N := 43) rfl ?_); refine wpList_load_row rfl 64 _ rfl ga rfl 64 _ (0, 0) _ Ha.out Try.underlying64 rfl (by kernel_rfl) ?_))
        refine (pulse_calls s _ HP.out).mono ?_
        rintro e w5 ⟨rfl, hb⟩
        have HB5 := Aside0.mk (below_step HB_Wb.out hb)
        have HO5 := Aside0.mk (Kd.R_below HO.out (below_step K_Wb.out hb))
        have z1 : w5.cell? ⟨ga, 1, none⟩ = some (.int .i64 s.f1) := cell_in (blk_below Ha.out hb) 1
        rw [H1.out] at z1
        have H5 := Aside0.mk (blk_below Ha.out hb)
        clear hb HB_Wa HB_Wb Ha K_Wa K_Wb HO
        have hq : (20 * a + 40 - 20 * b) / 20 = a + 2 - b := by omega
        have HQ := Aside0.mk hq
        clear hq
        go_wp2_with (first | ((with_reducible refine gate_builtin (b := .append) (xs := #[.tmp 49, .tmp 57]) rfl ?_); at_builtin; refine appN (w := W4) (Kd.int .i64) 3 rfl (.tmp 49) (.tmp 57) 72 (.int .i64 0) 8 rfl Try.underlying72 info3 rfl (by decide) (by omega) ((20 * a + 40 - 20 * b) / 20) [.int .i64 ((20 * a + 40 - 20 * b) / 20)] rfl rfl (rfl) HO5 HB5 (by omega) ?_; intro vA W6 HO6 HB_W6 K_W6; rw [HQ.out] at HO6; have H6 := Aside0.mk (blk_grown H5.out K_W6.out (Kd.R_ne HO5.out H5.out (by decide))); have z2 : W6.cell? ⟨ga, 1, none⟩ = some (.int .i64 s.f1) := cell_in H6.out 1; rw [H1.out] at z2))
        exact ⟨⟨i + 1, 20 * a + 40, out ++ [a + 2 - b], by omega, by rw [Int.natCast_add]; rfl, rfl, HN.out, HO6.out, HB_W6.out⟩, by simp [intOf]; omega⟩
    · have m1 : decide ((i : Int) < (V.length : Int)) = false := decide_eq_false (by omega)
      have m2 : decide (i < V.length) = false := decide_eq_false hlt
      obtain rfl : i = V.length := by omega
      have hdone : ∃ a b, last = 20 * b ∧ 20 * a = 200 + 40 * v + ticksL l ∧ out ++ [a + 6 + 3 - b] = spansW (10 + 2 * v) 3 l ∧ 0 ≤ b ∧ b ≤ a := by
        have h := HS.out
        rw [← HVV.out] at h
        exact h.done
      obtain ⟨a, b, rfl, hta, hout, hb0, hba⟩ := hdone
      have HTA := Aside0.mk hta
      have HOUT := Aside0.mk hout
      have hbig : 20 * a ≤ 20000300 := by omega
      have hp : plan_Slot_Pulse.f 1 3 0 0 0 0 0 0 false = some (60, wrap64 (0 - 60)) := by rw [pulse_f ⟨3, 0, 0, 0, 0, 0, 0, false⟩ (by decide), if_neg (by decide), if_neg (by decide), if_pos rfl]
      have HP := Aside0.mk hp
      have HSr := Aside0.mk (blk_below HS4.out HBr.out)
      clear hlt hta hout hp
      go_wp2_with fail
      refine (pulse_calls ⟨3, 0, 0, 0, 0, 0, 0, false⟩ _ HP.out).mono ?_
      rintro e w5 ⟨rfl, hb⟩
      have HB5 := Aside0.mk (below_step HBr.out hb)
      have HO5 := Aside0.mk (Kd.R_below HO.out hb)
      have HS5 := Aside0.mk (blk_below HSr.out hb)
      clear hb HO
      go_wp2_with (first | ((with_reducible refine gate_dst (N := 70) rfl ?_); refine wpList_load_row rfl 43 _ rfl g5 rfl 43 _ (0, 0) _ HS5.out Try.underlying43 rfl (by kernel_rfl) ?_))
      have HBw := Aside0.mk (below_step HB4.out HB5.out)
      refine (frame_calls 0 A1 A2 c1 c2 l1 l2 l v _ (Kd.C_below HR1.out HBw.out) hc1 (Kd.C_below HR2.out HBw.out) hc2 hv0 hv1 HL.out HF.out).mono ?_
      rintro e w6 ⟨rfl, hb⟩
      have HB6 := Aside0.mk (below_step HB5.out hb)
      have HO6 := Aside0.mk (Kd.R_below HO5.out hb)
      have htk0 := (ticksL_bd l).1
      have hq : (320 + 40 * v + ticksL l + 60 - 20 * b) / 20 = a + 6 + 3 - b := by have := HTA.out; omega
      have HQ := Aside0.mk hq
      have hge : 20 * b ≤ 200 + 40 * v + ticksL l := by have := HTA.out; omega
      clear hb hq
      go_wp2_with (first | ((with_reducible refine gate_builtin (b := .append) (xs := #[.tmp 69, .tmp 78]) rfl ?_); at_builtin; refine appN (w := W4) (Kd.int .i64) 3 rfl (.tmp 69) (.tmp 78) 72 (.int .i64 0) 8 rfl Try.underlying72 info3 rfl (by decide) (by omega) ((320 + 40 * v + ticksL l + 60 - 20 * b) / 20) [.int .i64 ((320 + 40 * v + ticksL l + 60 - 20 * b) / 20)] rfl rfl (rfl) HO6 HB6 (by omega) ?_; intro vA W7 HO7 HB_W7 K_W7; rw [HQ.out] at HO7))
      go_ret
      exact ⟨_, rfl, Kd.R_lower (by rw [← HOUT.out]; exact HO7.out) (below_size HB4.out), below_step HB4.out HB_W7.out⟩
end Go.Proofs.Ytbaapakkdnhcmaa.PWe
