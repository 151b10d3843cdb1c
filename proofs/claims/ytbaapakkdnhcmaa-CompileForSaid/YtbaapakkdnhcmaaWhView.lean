/- plan.Frame and plan.View: their walks. Helper text. -/
import Derived.Test.YtbaapakkdnhcmaaWhDraw
import Derived.Test.YtbaapakkdnhcmaaWkPlain
namespace Go.Proofs.Ytbaapakkdnhcmaa.PWe
open Go.RowKit Go.Proofs.Ytbaapakkdnhcmaa.Kx Go.Proofs.YtbaapakkdnhcmaaW.PrintWords Go.Proofs.YtbaapakkdnhcmaaW.PrintLast Go.Proofs.YtbaapakkdnhcmaaW.PrintMore
set_option linter.unusedVariables false
set_option linter.unusedSimpArgs false

theorem ticks_calls (x : S76) (A4 A5 : Option Addr) (c4 c5 : Nat) (w : World) (h4 : Kd.C (Kd.int .i64) w A4 x.f4.length x.f4) (hc4 : x.f4.length ≤ c4) (h5 : Kd.C (Kd.int .i64) w A5 x.f5.length x.f5) (hc5 : x.f5.length ≤ c5) :
    Calls Try.prog 60 #[.agg #[.int .i64 x.f0, .int .i64 x.f1, .int .i64 x.f2, .int .i64 x.f3, .slice A4 x.f4.length c4, .slice A5 x.f5.length c5]] w fun e w' => e = .returned (.int .i64 (20 * bitsOf x)) ∧ Below w.heap.size w w' :=
  plan_Ticks.calls x.f0 x.f1 x.f2 x.f3 A4 c4 x.f4 A5 c5 x.f5 _ w h4 hc4 h5 hc5 (ticks_f _ _ _ _ _ _)
theorem slot_calls (x : S76) (at_ md : Int) (A4 A5 : Option Addr) (c4 c5 : Nat) (w : World) (h4 : Kd.C (Kd.int .i64) w A4 x.f4.length x.f4) (hc4 : x.f4.length ≤ c4) (h5 : Kd.C (Kd.int .i64) w A5 x.f5.length x.f5) (hc5 : x.f5.length ≤ c5) (hl4 : x.f4.length ≤ 100) (hl5 : x.f5.length ≤ 100) {s : S47} (hs : slotOf at_ md x = s) :
    Calls Try.prog 59 #[.agg #[.int .i64 x.f0, .int .i64 x.f1, .int .i64 x.f2, .int .i64 x.f3, .slice A4 x.f4.length c4, .slice A5 x.f5.length c5], .int .i64 at_, .int .i64 md] w fun e w' => e = .returned (.agg #[.int .i64 s.f0, .int .i64 s.f1, .int .i64 s.f2, .int .i64 s.f3, .int .i64 s.f4, .int .i64 s.f5, .int .i64 s.f6, .bool s.f7]) ∧ Below w.heap.size w w' := by
  subst hs
  exact plan_Window_slot.calls 200 x.f0 x.f1 x.f2 x.f3 A4 c4 x.f4 A5 c5 x.f5 at_ md _ _ _ _ _ _ _ _ w h4 hc4 h5 hc5 (slot_f x at_ md hl4 (by omega) hl5 (by decide))
/-- One window of a slice, read. -/
theorem win_at {w W : World} {A : Option Addr} {l : List S76} (h : Kd.C k76 w A l.length l) (hb : Below w.heap.size w W) {i : Nat} (hi : i < l.length) {x : S76} (hx : l[i] = x) : ∃ ad A4 c4 A5 c5, A = some ad ∧ W.cell? (ad.add (i * 6)) = some (.int .i64 x.f0) ∧ W.cell? ⟨(ad.add (i * 6)).block, (ad.add (i * 6)).off + 1, none⟩ = some (.int .i64 x.f1) ∧ W.cell? ⟨(ad.add (i * 6)).block, (ad.add (i * 6)).off + 2, none⟩ = some (.int .i64 x.f2) ∧ W.cell? ⟨(ad.add (i * 6)).block, (ad.add (i * 6)).off + 3, none⟩ = some (.int .i64 x.f3) ∧ W.cell? ⟨(ad.add (i * 6)).block, (ad.add (i * 6)).off + 4, none⟩ = some (.slice A4 x.f4.length c4) ∧ W.cell? ⟨(ad.add (i * 6)).block, (ad.add (i * 6)).off + 5, none⟩ = some (.slice A5 x.f5.length c5) ∧
    x.f4.length ≤ c4 ∧ Kd.C (Kd.int .i64) w A4 x.f4.length x.f4 ∧ x.f5.length ≤ c5 ∧ Kd.C (Kd.int .i64) w A5 x.f5.length x.f5 := by
  subst hx
  have h := at_T76 h (i : Int) (by omega) (by omega)
  rw [rd76 hi, Int.toNat_natCast] at h
  obtain ⟨ad, A4, c4, A5, c5, e, x0, x1, x2, x3, x4, x5, r⟩ := h
  have up : ∀ {p : Addr} {v : Value}, w.cell? p = some v → W.cell? p = some v := fun h => (hb.cell (World.block_lt_of_cell? w _ h)).trans h
  exact ⟨ad, A4, c4, A5, c5, e, up x0, up x1, up x2, up x3, up x4, up x5, r⟩

set_option maxHeartbeats 4000000 in
set_option maxRecDepth 100000 in
theorem frame_calls (m0 : Int) (A1 A2 : Option Addr) (c1 c2 : Nat) (l1 l2 L : List S76) (v : Int) (w : World) (hr1 : Kd.C k76 w A1 l1.length l1) (hc1 : l1.length ≤ c1) (hr2 : Kd.C k76 w A2 l2.length l2) (hc2 : l2.length ≤ c2) (hv0 : 0 ≤ v) (hv1 : v < 2) (hL : (if v = 0 then l1 else l2) = L) (hf : Fit L) :
    Calls Try.prog 23 #[.agg #[.int .i64 m0, .slice A1 l1.length c1, .slice A2 l2.length c2], .int .i64 v] w fun e w' => e = .returned (.int .i64 (320 + 40 * v + ticksL L)) ∧ Below w.heap.size w w' := by
  have HF := Aside0.mk hf
  have hl1000 := hf.1
  obtain ⟨A, c, hlc, hLC, hcx⟩ : ∃ A c, L.length ≤ c ∧ Kd.C k76 w A L.length L ∧ (#[Value.int .i64 m0, .slice A1 l1.length c1, .slice A2 l2.length c2] : Array Value)[1 + v.toNat]? = some (.slice A L.length c) := by
    rcases (by omega : v = 0 ∨ v = 1) with rfl | rfl
    · subst hL; exact ⟨A1, c1, hc1, hr1, rfl⟩
    · subst hL; exact ⟨A2, c2, hc2, hr2, rfl⟩
  have HLC := Aside0.mk hLC
  have HCX := Aside0.mk hcx
  have HB : Aside0 (Below w.heap.size w w) := ⟨Below.refl _ _⟩
  have e60 := Try.underlying41
  have p1 := eq_true hv0
  have p2 := eq_true hv1
  clear hf hLC hcx hr1 hc1 hr2 hc2 hL
  go_enter Try.func23, Try.ntmps23
  go_wp2_with (first | ((with_reducible refine gate_dst (N := 2) rfl ?_); refine boxN (w := w) rfl (N := 2) rfl (cs := #[.int .i64 m0, .slice A1 l1.length c1, .slice A2 l2.length c2]) (t := 43) (by first | (go_simp; done) | (go_simp; rfl)) HB ?_; intro g0 W0 H0 Lg0 HB_W0 K_W0))
  refine (plan_is.calls v true _ (is_f hv0 hv1)).mono ?_
  rintro e w1 ⟨rfl, hb⟩
  have HB1 := Aside0.mk (below_step HB_W0.out hb.below)
  have H1 := Aside0.mk (blk_below H0.out hb.below)
  clear hb K_W0
  go_wp2_with fail
  refine (plan_start.calls v _ _ (start_f hv0 hv1)).mono ?_
  rintro e w2 ⟨rfl, hb⟩
  have HB2 := Aside0.mk (below_step HB1.out hb.below)
  have H2 := Aside0.mk (blk_below H1.out hb.below)
  have y0 : w2.cell? ⟨g0, 1 + v.toNat, none⟩ = some (.slice A L.length c) := (cell_in H2.out _).trans HCX.out
  clear hb HB1 H1 H0 HB_W0
  go_wp2_with fail
  go_loopw [5, 19] (fun v5 v19 wr => ∃ (i : Nat) (acc : Int), i ≤ L.length ∧ v19 = .int .i64 (i : Int) ∧ v5 = .int .i64 acc ∧ 0 ≤ acc ∧ acc + 20000 * ((L.length : Int) - i) ≤ 100000000 ∧ acc + ticksL (L.drop i) = 320 + 40 * v + ticksL L ∧ Below w.heap.size w wr) (fun _ v19 _ => ((L.length : Int) - intOf v19).toNat)
  case atStart => exact ⟨0, 320 + 40 * v, Nat.zero_le _, rfl, by first | rfl | (congr 1; omega), by omega, by omega, rfl, HB2.out⟩
  case round =>
    obtain ⟨i, acc, hi, rfl, rfl, ha0, ha1, hs, hb⟩ := hrel
    have HS := Aside0.mk hs
    have HBr := Aside0.mk hb
    clear hs hb HB2 H2
    by_cases hlt : i < L.length
    · have m1 : decide ((i : Int) < (L.length : Int)) = true := decide_eq_true (by omega)
      have m2 : decide (i < L.length) = true := decide_eq_true hlt
      have q1 : (0 ≤ (i : Int)) = True := eq_true (by omega)
      have q2 : ((i : Int) < (L.length : Int)) = True := eq_true (by omega)
      have q3 : (i < L.length) = True := eq_true hlt
      obtain ⟨x, hx⟩ : ∃ x, L[i] = x := ⟨_, rfl⟩
      have hxf : x.f4.length ≤ 100 ∧ x.f5.length ≤ 100 := by rw [← hx]; exact HF.out.2 _ (List.getElem_mem hlt)
      have hbd := bitsOf_bd x
      obtain ⟨ad, A4, c4, A5, c5, hA, x0, x1, x2, x3, x4, x5, hl4, hr4, hl5, hr5⟩ := win_at HLC.out HBr.out hlt hx
      subst hA
      have HX := Aside0.mk hx
      have HR4 := Aside0.mk hr4
      have HR5 := Aside0.mk hr5
      clear hx hr4 hr5
      go_wp2_with (first | ((with_reducible refine gate_dst (N := 7) rfl ?_); refine boxN (w := w) rfl (N := 7) rfl (cs := #[.int .i64 0, .int .i64 0, .int .i64 0, .int .i64 0, .slice none 0 0, .slice none 0 0]) (t := 92) (by first | (go_simp; done) | (go_simp; rfl)) HBr ?_; intro ga Wa Ha Lga HB_Wa K_Wa) | (refine storeN (w := w) rfl 92 _ _ rfl ga #[.int .i64 x.f0, .int .i64 x.f1, .int .i64 x.f2, .int .i64 x.f3, .slice A4 x.f4.length c4, .slice A5 x.f5.length c5] rfl rfl 92 _ Ha (by kernel_rfl) rfl (by rw [← Array.all_toList]; rfl) HB_Wa Lga K_Wa ?_; intro Wb Hb HB_Wb K_Wb) | ((with_reducible refine gate_dst (N := 24) rfl ?_); refine wpList_load_row rfl 92 _ rfl ga rfl 92 _ (0, 0) _ Hb.out Try.underlying92 rfl (by kernel_rfl) ?_))
      refine (ticks_calls x A4 A5 c4 c5 _ (Kd.C_below HR4.out HB_Wb.out) hl4 (Kd.C_below HR5.out HB_Wb.out) hl5).mono ?_
      rintro e w5 ⟨rfl, hb⟩
      have HB5 := Aside0.mk (below_step HB_Wb.out hb)
      have hnew : acc + 20 * bitsOf x + ticksL (L.drop (i + 1)) = 320 + 40 * v + ticksL L := by
        have h := HS.out
        rw [List.drop_eq_getElem_cons hlt, ticksL, HX.out] at h
        omega
      have HNEW := Aside0.mk hnew
      clear hb hnew HB_Wa HB_Wb Hb K_Wa K_Wb
      go_wp2_with fail
      exact ⟨⟨i + 1, acc + 20 * bitsOf x, by omega, by rw [Int.natCast_add]; rfl, rfl, by omega, by omega, HNEW.out, HB5.out⟩, by simp [intOf]; omega⟩
    · have m1 : decide ((i : Int) < (L.length : Int)) = false := decide_eq_false (by omega)
      have m2 : decide (i < L.length) = false := decide_eq_false hlt
      have hacc : acc = 320 + 40 * v + ticksL L := by
        have h := HS.out
        rw [List.drop_eq_nil_of_le (by omega), ticksL] at h
        omega
      subst hacc
      clear hlt
      go_wp2_with fail
      go_ret
      exact ⟨rfl, HBr.out⟩
set_option maxHeartbeats 4000000 in
set_option maxRecDepth 100000 in
theorem view_calls (m0 : Int) (A1 A2 : Option Addr) (c1 c2 : Nat) (l1 l2 L : List S76) (v md : Int) (w : World) (hr1 : Kd.C k76 w A1 l1.length l1) (hc1 : l1.length ≤ c1) (hr2 : Kd.C k76 w A2 l2.length l2) (hc2 : l2.length ≤ c2) (hv0 : 0 ≤ v) (hv1 : v < 2) (hL : (if v = 0 then l1 else l2) = L) (hf : Fit L) :
    Calls Try.prog 21 #[.agg #[.int .i64 m0, .slice A1 l1.length c1, .slice A2 l2.length c2], .int .i64 v, .int .i64 md] w fun e w' => ∃ v0_ : Value, e = .returned v0_ ∧ Kd.R k47 64 w' w.heap.size (fun _ => True) v0_ (⟨3, 0, 200 + 40 * v, 0, 0, 0, -1, false⟩ :: viewL md (200 + 40 * v) L) ∧ Below w.heap.size w w' := by
  have HF := Aside0.mk hf
  have hl1000 := hf.1
  obtain ⟨A, c, hlc, hLC, hcx⟩ : ∃ A c, L.length ≤ c ∧ Kd.C k76 w A L.length L ∧ (#[Value.int .i64 m0, .slice A1 l1.length c1, .slice A2 l2.length c2] : Array Value)[1 + v.toNat]? = some (.slice A L.length c) := by
    rcases (by omega : v = 0 ∨ v = 1) with rfl | rfl
    · subst hL; exact ⟨A1, c1, hc1, hr1, rfl⟩
    · subst hL; exact ⟨A2, c2, hc2, hr2, rfl⟩
  have HLC := Aside0.mk hLC
  have HCX := Aside0.mk hcx
  have HB : Aside0 (Below w.heap.size w w) := ⟨Below.refl _ _⟩
  have e60 := Try.underlying41
  have p1 := eq_true hv0
  have p2 := eq_true hv1
  clear hf hLC hcx hr1 hc1 hr2 hc2 hL
  go_enter Try.func21, Try.ntmps21
  go_wp2_with (first | ((with_reducible refine gate_dst (N := 3) rfl ?_); refine boxN (w := w) rfl (N := 3) rfl (cs := #[.int .i64 m0, .slice A1 l1.length c1, .slice A2 l2.length c2]) (t := 43) (by first | (go_simp; done) | (go_simp; rfl)) HB ?_; intro g0 W0 H0 Lg0 HB_W0 K_W0))
  refine (plan_is.calls v true _ (is_f hv0 hv1)).mono ?_
  rintro e w1 ⟨rfl, hb⟩
  have HB1 := Aside0.mk (below_step HB_W0.out hb.below)
  have H1 := Aside0.mk (blk_below H0.out hb.below)
  clear hb K_W0
  go_wp2_with fail
  refine (plan_start.calls v _ _ (start_f hv0 hv1)).mono ?_
  rintro e w2 ⟨rfl, hb⟩
  have HB2 := Aside0.mk (below_step HB1.out hb.below)
  have H2 := Aside0.mk (blk_below H1.out hb.below)
  clear hb HB1 H1 H0 HB_W0
  go_wp2_with (first | ((with_reducible refine gate_dst (N := 18) rfl ?_); refine litN (w := w) k47 64 rfl (N := 18) rfl (xs := ([(⟨3, 0, (200 + 40 * v), 0, 0, 0, (-1), false⟩ : S47)] : List S47)) (inner := [.int .i64 3, .int .i64 0, .int .i64 (200 + 40 * v), .int .i64 0, .int .i64 0, .int .i64 0, .int .i64 (-1), .bool false]) (by first | (go_simp; done) | (go_simp; rfl)) (Reps.c8 (show Kd.M k47 _ _ _ (⟨3, 0, (200 + 40 * v), 0, 0, 0, (-1), false⟩ : S47) [.int .i64 3, .int .i64 0, .int .i64 (200 + 40 * v), .int .i64 0, .int .i64 0, .int .i64 0, .int .i64 (-1), .bool false] from k47_mkM _ _ _ (⟨3, 0, (200 + 40 * v), 0, 0, 0, (-1), false⟩ : S47)) (Reps.none _ _)) HB2 (by simp) ?_; intro vL W3 H3 HB_W3 K_W3; have y0 : W3.cell? ⟨g0, 1 + v.toNat, none⟩ = some (.slice A L.length c) := (cell_in (blk_below H2.out K_W3.out) _).trans HCX.out))
  go_loopw [7, 8, 24] (fun v7 v8 v24 wr => ∃ (i : Nat) (at_ : Int) (out : List S47), i ≤ L.length ∧ v24 = .int .i64 (i : Int) ∧ v7 = .int .i64 at_ ∧ 0 ≤ at_ ∧ at_ + 20000 * ((L.length : Int) - i) ≤ 100000000 ∧ out.length ≤ i + 1 ∧ out ++ viewL md at_ (L.drop i) = ⟨3, 0, 200 + 40 * v, 0, 0, 0, -1, false⟩ :: viewL md (200 + 40 * v) L ∧ Kd.R k47 64 wr w.heap.size (fun _ => True) v8 out ∧ Below w.heap.size w wr) (fun _ _ v24 _ => ((L.length : Int) - intOf v24).toNat)
  case atStart => exact ⟨0, 200 + 40 * v, [⟨3, 0, 200 + 40 * v, 0, 0, 0, -1, false⟩], Nat.zero_le _, rfl, rfl, by omega, by omega, by simp, rfl, H3.out, HB_W3.out⟩
  case round =>
    obtain ⟨i, at_, out, hi, rfl, rfl, ha0, ha1, hol, hs, ho, hb⟩ := hrel
    have HS := Aside0.mk hs
    have HO := Aside0.mk ho
    have HBr := Aside0.mk hb
    clear hs ho hb HB2 H2 H3 HB_W3 K_W3
    by_cases hlt : i < L.length
    · have m1 : decide ((i : Int) < (L.length : Int)) = true := decide_eq_true (by omega)
      have m2 : decide (i < L.length) = true := decide_eq_true hlt
      have q1 : (0 ≤ (i : Int)) = True := eq_true (by omega)
      have q2 : ((i : Int) < (L.length : Int)) = True := eq_true (by omega)
      have q3 : (i < L.length) = True := eq_true hlt
      obtain ⟨x, hx⟩ : ∃ x, L[i] = x := ⟨_, rfl⟩
      have hxf : x.f4.length ≤ 100 ∧ x.f5.length ≤ 100 := by rw [← hx]; exact HF.out.2 _ (List.getElem_mem hlt)
      have hbd := bitsOf_bd x
      obtain ⟨ad, A4, c4, A5, c5, hA, x0, x1, x2, x3, x4, x5, hl4, hr4, hl5, hr5⟩ := win_at HLC.out HBr.out hlt hx
      subst hA
      have HX := Aside0.mk hx
      have HR4 := Aside0.mk hr4
      have HR5 := Aside0.mk hr5
      clear hx hr4 hr5
      by_cases h0 : x.f0 < 0 ∨ x.f0 > 2
      · have hnew : out ++ viewL md at_ (L.drop (i + 1)) = ⟨3, 0, 200 + 40 * v, 0, 0, 0, -1, false⟩ :: viewL md (200 + 40 * v) L := by
          have h := HS.out
          rw [List.drop_eq_getElem_cons hlt, viewL, HX.out, if_pos h0] at h
          exact h
        have HNEW := Aside0.mk hnew
        clear hnew
        have j0 : decide (x.f0 < 0) = true ∨ (decide (x.f0 < 0) = false ∧ decide (2 < x.f0) = true) := by
          rcases h0 with h | h
          · exact .inl (decide_eq_true h)
          · by_cases h' : x.f0 < 0
            · exact .inl (decide_eq_true h')
            · exact .inr ⟨decide_eq_false h', decide_eq_true h⟩
        clear h0
        rcases j0 with j0 | ⟨j0, j1⟩
        · go_wp2_with (first | ((with_reducible refine gate_dst (N := 10) rfl ?_); refine boxN (w := w) rfl (N := 10) rfl (cs := #[.int .i64 0, .int .i64 0, .int .i64 0, .int .i64 0, .slice none 0 0, .slice none 0 0]) (t := 92) (by first | (go_simp; done) | (go_simp; rfl)) HBr ?_; intro ga Wa Ha Lga HB_Wa K_Wa) | (refine storeN (w := w) rfl 92 _ _ rfl ga #[.int .i64 x.f0, .int .i64 x.f1, .int .i64 x.f2, .int .i64 x.f3, .slice A4 x.f4.length c4, .slice A5 x.f5.length c5] rfl rfl 92 _ Ha (by kernel_rfl) rfl (by rw [← Array.all_toList]; rfl) HB_Wa Lga K_Wa ?_; intro Wb Hb HB_Wb K_Wb; have y0 : Wb.cell? ⟨ga, 0, none⟩ = some (.int .i64 x.f0) := cell_in Hb.out 0) | ((with_reducible refine gate_dst (N := 37) rfl ?_); refine wpList_load_row rfl 92 _ rfl ga rfl 92 _ (0, 0) _ Hb.out Try.underlying92 rfl (by kernel_rfl) ?_))
          exact ⟨⟨i + 1, at_, out, by omega, by rw [Int.natCast_add]; rfl, rfl, ha0, by omega, by omega, HNEW.out, Kd.R_below HO.out K_Wb.out, HB_Wb.out⟩, by simp [intOf]; omega⟩
        · go_wp2_with (first | ((with_reducible refine gate_dst (N := 10) rfl ?_); refine boxN (w := w) rfl (N := 10) rfl (cs := #[.int .i64 0, .int .i64 0, .int .i64 0, .int .i64 0, .slice none 0 0, .slice none 0 0]) (t := 92) (by first | (go_simp; done) | (go_simp; rfl)) HBr ?_; intro ga Wa Ha Lga HB_Wa K_Wa) | (refine storeN (w := w) rfl 92 _ _ rfl ga #[.int .i64 x.f0, .int .i64 x.f1, .int .i64 x.f2, .int .i64 x.f3, .slice A4 x.f4.length c4, .slice A5 x.f5.length c5] rfl rfl 92 _ Ha (by kernel_rfl) rfl (by rw [← Array.all_toList]; rfl) HB_Wa Lga K_Wa ?_; intro Wb Hb HB_Wb K_Wb; have y0 : Wb.cell? ⟨ga, 0, none⟩ = some (.int .i64 x.f0) := cell_in Hb.out 0) | ((with_reducible refine gate_dst (N := 37) rfl ?_); refine wpList_load_row rfl 92 _ rfl ga rfl 92 _ (0, 0) _ Hb.out Try.underlying92 rfl (by kernel_rfl) ?_))
          exact ⟨⟨i + 1, at_, out, by omega, by rw [Int.natCast_add]; rfl, rfl, ha0, by omega, by omega, HNEW.out, Kd.R_below HO.out K_Wb.out, HB_Wb.out⟩, by simp [intOf]; omega⟩
      have j0 : decide (x.f0 < 0) = false := decide_eq_false (by omega)
      have j1 : decide (2 < x.f0) = false := decide_eq_false (by omega)
      obtain ⟨s, hsl⟩ : ∃ s, slotOf at_ md x = s := ⟨_, rfl⟩
      have hnew : (out ++ [s]) ++ viewL md (at_ + 20 * bitsOf x) (L.drop (i + 1)) = ⟨3, 0, 200 + 40 * v, 0, 0, 0, -1, false⟩ :: viewL md (200 + 40 * v) L := by
        have h := HS.out
        rw [List.drop_eq_getElem_cons hlt, viewL, HX.out, if_neg h0, hsl] at h
        rw [← h, List.append_assoc]
        rfl
      have HNEW := Aside0.mk hnew
      have HSL := Aside0.mk hsl
      clear hnew hsl h0 HS HX
      go_wp2_with (first | ((with_reducible refine gate_dst (N := 10) rfl ?_); refine boxN (w := w) rfl (N := 10) rfl (cs := #[.int .i64 0, .int .i64 0, .int .i64 0, .int .i64 0, .slice none 0 0, .slice none 0 0]) (t := 92) (by first | (go_simp; done) | (go_simp; rfl)) HBr ?_; intro ga Wa Ha Lga HB_Wa K_Wa) | (refine storeN (w := w) rfl 92 _ _ rfl ga #[.int .i64 x.f0, .int .i64 x.f1, .int .i64 x.f2, .int .i64 x.f3, .slice A4 x.f4.length c4, .slice A5 x.f5.length c5] rfl rfl 92 _ Ha (by kernel_rfl) rfl (by rw [← Array.all_toList]; rfl) HB_Wa Lga K_Wa ?_; intro Wb Hb HB_Wb K_Wb; have y0 : Wb.cell? ⟨ga, 0, none⟩ = some (.int .i64 x.f0) := cell_in Hb.out 0) | ((with_reducible refine gate_dst (N := 37) rfl ?_); refine wpList_load_row rfl 92 _ rfl ga rfl 92 _ (0, 0) _ Hb.out Try.underlying92 rfl (by kernel_rfl) ?_))
      refine (slot_calls x at_ md A4 A5 c4 c5 _ (Kd.C_below HR4.out HB_Wb.out) hl4 (Kd.C_below HR5.out HB_Wb.out) hl5 hxf.1 hxf.2 HSL.out).mono ?_
      rintro e w5 ⟨rfl, hb⟩
      have HB5 := Aside0.mk (below_step HB_Wb.out hb)
      have K5 := Aside0.mk (below_step K_Wb.out hb)
      have H5 := Aside0.mk (blk_below Hb.out hb)
      have HO5 := Aside0.mk (Kd.R_below HO.out K5.out)
      clear hb HB_Wa HB_Wb Hb K_Wa K_Wb HO
      go_wp2_with (first | ((with_reducible refine gate_builtin (b := .append) (xs := #[.tmp 36, .tmp 41]) rfl ?_); at_builtin; refine appN (w := w) k47 64 rfl (.tmp 36) (.tmp 41) 30 (.agg #[.int .i64 0, .int .i64 0, .int .i64 0, .int .i64 0, .int .i64 0, .int .i64 0, .int .i64 0, .bool false]) 64 rfl Try.underlying30 info64 rfl (by decide) (by omega) s [.int .i64 s.f0, .int .i64 s.f1, .int .i64 s.f2, .int .i64 s.f3, .int .i64 s.f4, .int .i64 s.f5, .int .i64 s.f6, .bool s.f7] rfl rfl (k47_mkM _ _ _ s) HO5 HB5 (by omega) ?_; intro vA W6 HO6 HB_W6 K_W6; have H6 := Aside0.mk (blk_grown H5.out K_W6.out (Kd.R_ne HO5.out H5.out (by decide)))) | ((with_reducible refine gate_dst (N := 44) rfl ?_); refine wpList_load_row rfl 92 _ rfl ga rfl 92 _ (0, 0) _ H6.out Try.underlying92 rfl (by kernel_rfl) ?_))
      refine (ticks_calls x A4 A5 c4 c5 _ (Kd.C_below HR4.out HB_W6.out) hl4 (Kd.C_below HR5.out HB_W6.out) hl5).mono ?_
      rintro e w7 ⟨rfl, hb⟩
      have HB7 := Aside0.mk (below_step HB_W6.out hb)
      have HO7 := Aside0.mk (Kd.R_below HO6.out hb)
      clear hb HB_W6 HO6 H6 H5 HB5 HO5
      go_wp2_with fail
      exact ⟨⟨i + 1, at_ + 20 * bitsOf x, out ++ [s], by omega, by rw [Int.natCast_add]; rfl, rfl, by omega, by omega, by rw [List.length_append, List.length_singleton]; omega, HNEW.out, HO7.out, HB7.out⟩, by simp [intOf]; omega⟩
    · have m1 : decide ((i : Int) < (L.length : Int)) = false := decide_eq_false (by omega)
      have m2 : decide (i < L.length) = false := decide_eq_false hlt
      have hout : out ++ [⟨4, at_, 120, 0, 0, 0, -1, false⟩] = ⟨3, 0, 200 + 40 * v, 0, 0, 0, -1, false⟩ :: viewL md (200 + 40 * v) L := by
        have h := HS.out
        rw [List.drop_eq_nil_of_le (by omega), viewL] at h
        exact h
      have HOUT := Aside0.mk hout
      clear hlt hout HS
      go_wp2_with (first | ((with_reducible refine gate_builtin (b := .append) (xs := #[.tmp 48, .tmp 51]) rfl ?_); at_builtin; refine appN (w := w) k47 64 rfl (.tmp 48) (.tmp 51) 30 (.agg #[.int .i64 0, .int .i64 0, .int .i64 0, .int .i64 0, .int .i64 0, .int .i64 0, .int .i64 0, .bool false]) 64 rfl Try.underlying30 info64 rfl (by decide) (by omega) (⟨4, at_, 120, 0, 0, 0, (-1), false⟩ : S47) [.int .i64 4, .int .i64 at_, .int .i64 120, .int .i64 0, .int .i64 0, .int .i64 0, .int .i64 (-1), .bool false] rfl rfl (k47_mkM _ _ _ (⟨4, at_, 120, 0, 0, 0, (-1), false⟩ : S47)) HO HBr (by omega) ?_; intro vA W6 HO6 HB_W6 K_W6))
      go_ret
      exact ⟨_, rfl, by rw [← HOUT.out]; exact HO6.out, HB_W6.out⟩
end Go.Proofs.Ytbaapakkdnhcmaa.PWe
