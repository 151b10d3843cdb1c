/- The events of a window; whether good ones took unlike words: walks. Helper text. -/
import Derived.Test.YtekbaconbemgpaaAuSom
import Derived.Test.YtekbaconbemgpaaAuAt
import Derived.BigQuiet
namespace Go.Proofs.Ytekbaconbemgpaa.PWe
open Go.RowKit Go.Proofs.Ytekbaconbemgpaa.Kx Go.Proofs.YtekbaconbemgpaaW.PrintWords Go.Proofs.YtekbaconbemgpaaW.PrintLast Go.Proofs.YtekbaconbemgpaaW.PrintMore
set_option linter.unusedVariables false
set_option linter.unusedSimpArgs false

/-- Is an event one of a window, of a kind, by a good one? -/
def evP (x : S101) (what : Int) (G : List Int) (e : S95) : Bool := (e.f2 == what) && ((e.f3 == x.f0) && ((e.f4 == x.f1) && (decide (wrap64 (x.f2 - 100) ≤ e.f5) && (decide (e.f5 ≤ wrap64 (x.f2 + 100)) && has_ G e.f1))))
def evsP (a : List S95) (G : List Int) (x : S101) (what : Int) : List S95 := a.filter (evP x what G)
theorem filter_take {α : Type} (p : α → Bool) {l : List α} {i : Nat} (hi : i < l.length) {x : α} (hx : l[i] = x) : (l.take (i + 1)).filter p = if p x = true then (l.take i).filter p ++ [x] else (l.take i).filter p := by
  rw [List.take_succ_eq_append_getElem hi, List.filter_append, hx]
  by_cases h : p x = true
  · rw [if_pos h, List.filter_cons_of_pos h]; rfl
  · rw [if_neg h, List.filter_cons_of_neg h, List.filter_nil, List.append_nil]
set_option maxHeartbeats 8000000 in
set_option maxRecDepth 100000 in
theorem events_calls (a : AudV) (v : WinV) (what : Int) (w : World) (ha : a.ok w) (hL64 : a.L.length ≤ 1000000) :
    Calls Try.prog 61 #[.agg a.arr, .agg v.arr, .int .i64 what] w fun e w' => ∃ A' c', e = .returned (.slice A' (evsP a.L a.G v.x what).length c') ∧ (evsP a.L a.G v.x what).length ≤ c' ∧ Kd.C k95 w' A' (evsP a.L a.G v.x what).length (evsP a.L a.G v.x what) ∧ Below w.heap.size w w' := by
  obtain ⟨md, A0, c0, l0, A1, c1, l1, AL, cL, L, AG, cG, G⟩ := a
  obtain ⟨x, A3, c3, A4, c4, A5, c5, A7, c7⟩ := v
  have HA := Aside0.mk ha
  have HB : Aside0 (Below w.heap.size w w) := ⟨Below.refl _ _⟩
  clear ha
  unfold WinV.arr AudV.arr
  dsimp only at hL64 ⊢
  obtain ⟨R, hR⟩ : ∃ R, evsP L G x what = R := ⟨_, rfl⟩
  rw [hR]
  have HRR := Aside0.mk hR
  clear hR
  go_enter Try.func61, Try.ntmps61
  go_wp2_with (first | ((with_reducible refine gate_dst (N := 3) rfl ?_); refine boxN (w := w) rfl (N := 3) rfl (cs := #[.int .i64 md, .slice A0 l0.length c0, .slice A1 l1.length c1, .slice AL L.length cL, .slice AG G.length cG]) (t := 97) (by first | (go_simp; done) | (go_simp; rfl)) HB ?_; intro ga Wa Ha Lga HB_Wa K_Wa) | ((with_reducible refine gate_dst (N := 4) rfl ?_); refine boxN (w := w) rfl (N := 4) rfl (cs := #[.int .i64 x.f0, .int .i64 x.f1, .int .i64 x.f2, .slice A3 x.f3.length c3, .slice A4 x.f4.length c4, .slice A5 x.f5.length c5, .int .i64 x.f6, .slice A7 x.f7.length c7]) (t := 101) (by first | (go_simp; done) | (go_simp; rfl)) HB_Wa ?_; intro gb Wb Hb Lgb HB_Wb K_Wb; have y0 : Wb.cell? ⟨ga, 3, none⟩ = some (.slice AL L.length cL) := cell_in (blk_below Ha.out K_Wb.out) 3))
  go_loopw [7, 9, 13] (fun v7 _ v13 wr => ∃ i : Nat, i ≤ L.length ∧ v13 = .int .i64 (i : Int) ∧ Kd.R (kAt k95 w) 95 wr w.heap.size (fun _ => True) v7 ((L.take i).filter (evP x what G)) ∧ wr.heap[ga]? = some (.cells #[.int .i64 md, .slice A0 l0.length c0, .slice A1 l1.length c1, .slice AL L.length cL, .slice AG G.length cG] 97 (0, 0)) ∧ wr.heap[gb]? = some (.cells #[.int .i64 x.f0, .int .i64 x.f1, .int .i64 x.f2, .slice A3 x.f3.length c3, .slice A4 x.f4.length c4, .slice A5 x.f5.length c5, .int .i64 x.f6, .slice A7 x.f7.length c7] 101 (0, 0)) ∧ Below w.heap.size w wr) (fun _ _ v13 _ => ((L.length : Int) - intOf v13).toNat)
  case atStart => exact ⟨0, Nat.zero_le _, rfl, Kd.R_nil _ _ _ _ _, blk_below Ha.out K_Wb.out, Hb.out, HB_Wb.out⟩
  case round =>
    clear y0 Ha Hb HB_Wa HB_Wb K_Wa K_Wb
    obtain ⟨i, hi, rfl, ho, hga, hgb, hb⟩ := hrel
    have HO := Aside0.mk ho
    have HGA := Aside0.mk hga
    have HGB := Aside0.mk hgb
    have HBr := Aside0.mk hb
    clear ho hga hgb hb
    by_cases hlt : i < L.length
    · have m1 : decide ((i : Int) < (L.length : Int)) = true := decide_eq_true (by omega)
      have m2 : decide (i < L.length) = true := decide_eq_true hlt
      have q1 : (0 ≤ (i : Int)) = True := eq_true (by omega)
      have q2 : ((i : Int) < (L.length : Int)) = True := eq_true (by omega)
      have q3 : (i < L.length) = True := eq_true hlt
      obtain ⟨e, he⟩ : ∃ e, L[i] = e := ⟨_, rfl⟩
      obtain ⟨ad, B7, b7, hA, x0, x1, x2, x3, x4, x5, x6, x7, l7, r7⟩ := ev_at HA.out.hL (Below.refl _ _) hlt he
      have up : ∀ {p : Addr} {v : Value}, w.cell? p = some v → wr.cell? p = some v := fun h => (HBr.out.cell (World.block_lt_of_cell? w _ h)).trans h
      replace x0 := up x0
      replace x1 := up x1
      replace x2 := up x2
      replace x3 := up x3
      replace x4 := up x4
      replace x5 := up x5
      replace x6 := up x6
      replace x7 := up x7
      have HK := Aside0.mk (k95_mk w e l7 r7)
      have hft := filter_take (evP x what G) hlt he
      subst hA
      clear he r7 up
      have s0 : wr.cell? ⟨ga, 0, none⟩ = some (.int .i64 md) := cell_in HGA.out 0
      cases hp : evP x what G e
      · rw [hp, if_neg (by decide)] at hft
        have HFT := Aside0.mk hft
        have hq : (e.f2 == what) = false ∨ ((e.f2 == what) = true ∧ ((e.f3 == x.f0) = false ∨ ((e.f3 == x.f0) = true ∧ ((e.f4 == x.f1) = false ∨ ((e.f4 == x.f1) = true ∧ (decide (wrap64 (x.f2 - 100) ≤ e.f5) = false ∨ (decide (wrap64 (x.f2 - 100) ≤ e.f5) = true ∧ (decide (e.f5 ≤ wrap64 (x.f2 + 100)) = false ∨ (decide (e.f5 ≤ wrap64 (x.f2 + 100)) = true ∧ has_ G e.f1 = false))))))))) := by
          unfold evP at hp
          revert hp
          cases (e.f2 == what) <;> cases (e.f3 == x.f0) <;> cases (e.f4 == x.f1) <;> cases decide (wrap64 (x.f2 - 100) ≤ e.f5) <;> cases decide (e.f5 ≤ wrap64 (x.f2 + 100)) <;> cases has_ G e.f1 <;> simp
        clear hft hp
        rcases hq with j0 | ⟨j0, j1 | ⟨j1, j2 | ⟨j2, j3 | ⟨j3, j4 | ⟨j4, hg⟩⟩⟩⟩⟩
        · go_wp2_with (first | ((with_reducible refine gate_dst (N := 9) rfl ?_); refine boxN (w := w) rfl (N := 9) rfl (cs := #[.int .i64 0, .int .i64 0, .int .i64 0, .int .i64 0, .int .i64 0, .int .i64 0, .int .i64 0, .slice none 0 0]) (t := 95) (by first | (go_simp; done) | (go_simp; rfl)) HBr ?_; intro ge Wd Hd Lge HB_Wd K_Wd) | (refine storeN (w := w) rfl 95 _ _ rfl ge #[.int .i64 e.f0, .int .i64 e.f1, .int .i64 e.f2, .int .i64 e.f3, .int .i64 e.f4, .int .i64 e.f5, .int .i64 e.f6, .slice B7 e.f7.length b7] rfl rfl 95 _ Hd (by kernel_rfl) rfl (by rw [← Array.all_toList]; rfl) HB_Wd Lge K_Wd ?_; clear Hd; intro We Hd HB_We K_We; have He := Hd; have HGAe := Aside0.mk (blk_below HGA.out K_We.out); have HGBe := Aside0.mk (blk_below HGB.out K_We.out); have z0 : We.cell? ⟨ge, 0, none⟩ = some (.int .i64 e.f0) := cell_in He.out 0; have z1 : We.cell? ⟨ge, 1, none⟩ = some (.int .i64 e.f1) := cell_in He.out 1; have z2 : We.cell? ⟨ge, 2, none⟩ = some (.int .i64 e.f2) := cell_in He.out 2; have z3 : We.cell? ⟨ge, 3, none⟩ = some (.int .i64 e.f3) := cell_in He.out 3; have z4 : We.cell? ⟨ge, 4, none⟩ = some (.int .i64 e.f4) := cell_in He.out 4; have z5 : We.cell? ⟨ge, 5, none⟩ = some (.int .i64 e.f5) := cell_in He.out 5; have z6 : We.cell? ⟨ge, 6, none⟩ = some (.int .i64 e.f6) := cell_in He.out 6; have z7 : We.cell? ⟨ge, 7, none⟩ = some (.slice B7 e.f7.length b7) := cell_in He.out 7; have t0 : We.cell? ⟨gb, 0, none⟩ = some (.int .i64 x.f0) := cell_in HGBe.out 0; have t1 : We.cell? ⟨gb, 1, none⟩ = some (.int .i64 x.f1) := cell_in HGBe.out 1; have t2 : We.cell? ⟨gb, 2, none⟩ = some (.int .i64 x.f2) := cell_in HGBe.out 2; have s0 : We.cell? ⟨ga, 0, none⟩ = some (.int .i64 md) := cell_in HGAe.out 0; have s1 : We.cell? ⟨ga, 1, none⟩ = some (.slice A0 l0.length c0) := cell_in HGAe.out 1; have s2 : We.cell? ⟨ga, 2, none⟩ = some (.slice A1 l1.length c1) := cell_in HGAe.out 2; have s3 : We.cell? ⟨ga, 3, none⟩ = some (.slice (some ad) L.length cL) := cell_in HGAe.out 3; have s4 : We.cell? ⟨ga, 4, none⟩ = some (.slice AG G.length cG) := cell_in HGAe.out 4))
          exact ⟨⟨i + 1, by omega, by rw [Int.natCast_add]; rfl, by rw [HFT.out]; exact Kd.R_below HO.out K_We.out, blk_below HGA.out K_We.out, blk_below HGB.out K_We.out, HB_We.out⟩, by simp [intOf]; omega⟩
        · go_wp2_with (first | ((with_reducible refine gate_dst (N := 9) rfl ?_); refine boxN (w := w) rfl (N := 9) rfl (cs := #[.int .i64 0, .int .i64 0, .int .i64 0, .int .i64 0, .int .i64 0, .int .i64 0, .int .i64 0, .slice none 0 0]) (t := 95) (by first | (go_simp; done) | (go_simp; rfl)) HBr ?_; intro ge Wd Hd Lge HB_Wd K_Wd) | (refine storeN (w := w) rfl 95 _ _ rfl ge #[.int .i64 e.f0, .int .i64 e.f1, .int .i64 e.f2, .int .i64 e.f3, .int .i64 e.f4, .int .i64 e.f5, .int .i64 e.f6, .slice B7 e.f7.length b7] rfl rfl 95 _ Hd (by kernel_rfl) rfl (by rw [← Array.all_toList]; rfl) HB_Wd Lge K_Wd ?_; clear Hd; intro We Hd HB_We K_We; have He := Hd; have HGAe := Aside0.mk (blk_below HGA.out K_We.out); have HGBe := Aside0.mk (blk_below HGB.out K_We.out); have z0 : We.cell? ⟨ge, 0, none⟩ = some (.int .i64 e.f0) := cell_in He.out 0; have z1 : We.cell? ⟨ge, 1, none⟩ = some (.int .i64 e.f1) := cell_in He.out 1; have z2 : We.cell? ⟨ge, 2, none⟩ = some (.int .i64 e.f2) := cell_in He.out 2; have z3 : We.cell? ⟨ge, 3, none⟩ = some (.int .i64 e.f3) := cell_in He.out 3; have z4 : We.cell? ⟨ge, 4, none⟩ = some (.int .i64 e.f4) := cell_in He.out 4; have z5 : We.cell? ⟨ge, 5, none⟩ = some (.int .i64 e.f5) := cell_in He.out 5; have z6 : We.cell? ⟨ge, 6, none⟩ = some (.int .i64 e.f6) := cell_in He.out 6; have z7 : We.cell? ⟨ge, 7, none⟩ = some (.slice B7 e.f7.length b7) := cell_in He.out 7; have t0 : We.cell? ⟨gb, 0, none⟩ = some (.int .i64 x.f0) := cell_in HGBe.out 0; have t1 : We.cell? ⟨gb, 1, none⟩ = some (.int .i64 x.f1) := cell_in HGBe.out 1; have t2 : We.cell? ⟨gb, 2, none⟩ = some (.int .i64 x.f2) := cell_in HGBe.out 2; have s0 : We.cell? ⟨ga, 0, none⟩ = some (.int .i64 md) := cell_in HGAe.out 0; have s1 : We.cell? ⟨ga, 1, none⟩ = some (.slice A0 l0.length c0) := cell_in HGAe.out 1; have s2 : We.cell? ⟨ga, 2, none⟩ = some (.slice A1 l1.length c1) := cell_in HGAe.out 2; have s3 : We.cell? ⟨ga, 3, none⟩ = some (.slice (some ad) L.length cL) := cell_in HGAe.out 3; have s4 : We.cell? ⟨ga, 4, none⟩ = some (.slice AG G.length cG) := cell_in HGAe.out 4))
          exact ⟨⟨i + 1, by omega, by rw [Int.natCast_add]; rfl, by rw [HFT.out]; exact Kd.R_below HO.out K_We.out, blk_below HGA.out K_We.out, blk_below HGB.out K_We.out, HB_We.out⟩, by simp [intOf]; omega⟩
        · go_wp2_with (first | ((with_reducible refine gate_dst (N := 9) rfl ?_); refine boxN (w := w) rfl (N := 9) rfl (cs := #[.int .i64 0, .int .i64 0, .int .i64 0, .int .i64 0, .int .i64 0, .int .i64 0, .int .i64 0, .slice none 0 0]) (t := 95) (by first | (go_simp; done) | (go_simp; rfl)) HBr ?_; intro ge Wd Hd Lge HB_Wd K_Wd) | (refine storeN (w := w) rfl 95 _ _ rfl ge #[.int .i64 e.f0, .int .i64 e.f1, .int .i64 e.f2, .int .i64 e.f3, .int .i64 e.f4, .int .i64 e.f5, .int .i64 e.f6, .slice B7 e.f7.length b7] rfl rfl 95 _ Hd (by kernel_rfl) rfl (by rw [← Array.all_toList]; rfl) HB_Wd Lge K_Wd ?_; clear Hd; intro We Hd HB_We K_We; have He := Hd; have HGAe := Aside0.mk (blk_below HGA.out K_We.out); have HGBe := Aside0.mk (blk_below HGB.out K_We.out); have z0 : We.cell? ⟨ge, 0, none⟩ = some (.int .i64 e.f0) := cell_in He.out 0; have z1 : We.cell? ⟨ge, 1, none⟩ = some (.int .i64 e.f1) := cell_in He.out 1; have z2 : We.cell? ⟨ge, 2, none⟩ = some (.int .i64 e.f2) := cell_in He.out 2; have z3 : We.cell? ⟨ge, 3, none⟩ = some (.int .i64 e.f3) := cell_in He.out 3; have z4 : We.cell? ⟨ge, 4, none⟩ = some (.int .i64 e.f4) := cell_in He.out 4; have z5 : We.cell? ⟨ge, 5, none⟩ = some (.int .i64 e.f5) := cell_in He.out 5; have z6 : We.cell? ⟨ge, 6, none⟩ = some (.int .i64 e.f6) := cell_in He.out 6; have z7 : We.cell? ⟨ge, 7, none⟩ = some (.slice B7 e.f7.length b7) := cell_in He.out 7; have t0 : We.cell? ⟨gb, 0, none⟩ = some (.int .i64 x.f0) := cell_in HGBe.out 0; have t1 : We.cell? ⟨gb, 1, none⟩ = some (.int .i64 x.f1) := cell_in HGBe.out 1; have t2 : We.cell? ⟨gb, 2, none⟩ = some (.int .i64 x.f2) := cell_in HGBe.out 2; have s0 : We.cell? ⟨ga, 0, none⟩ = some (.int .i64 md) := cell_in HGAe.out 0; have s1 : We.cell? ⟨ga, 1, none⟩ = some (.slice A0 l0.length c0) := cell_in HGAe.out 1; have s2 : We.cell? ⟨ga, 2, none⟩ = some (.slice A1 l1.length c1) := cell_in HGAe.out 2; have s3 : We.cell? ⟨ga, 3, none⟩ = some (.slice (some ad) L.length cL) := cell_in HGAe.out 3; have s4 : We.cell? ⟨ga, 4, none⟩ = some (.slice AG G.length cG) := cell_in HGAe.out 4))
          exact ⟨⟨i + 1, by omega, by rw [Int.natCast_add]; rfl, by rw [HFT.out]; exact Kd.R_below HO.out K_We.out, blk_below HGA.out K_We.out, blk_below HGB.out K_We.out, HB_We.out⟩, by simp [intOf]; omega⟩
        · go_wp2_with (first | ((with_reducible refine gate_dst (N := 9) rfl ?_); refine boxN (w := w) rfl (N := 9) rfl (cs := #[.int .i64 0, .int .i64 0, .int .i64 0, .int .i64 0, .int .i64 0, .int .i64 0, .int .i64 0, .slice none 0 0]) (t := 95) (by first | (go_simp; done) | (go_simp; rfl)) HBr ?_; intro ge Wd Hd Lge HB_Wd K_Wd) | (refine storeN (w := w) rfl 95 _ _ rfl ge #[.int .i64 e.f0, .int .i64 e.f1, .int .i64 e.f2, .int .i64 e.f3, .int .i64 e.f4, .int .i64 e.f5, .int .i64 e.f6, .slice B7 e.f7.length b7] rfl rfl 95 _ Hd (by kernel_rfl) rfl (by rw [← Array.all_toList]; rfl) HB_Wd Lge K_Wd ?_; clear Hd; intro We Hd HB_We K_We; have He := Hd; have HGAe := Aside0.mk (blk_below HGA.out K_We.out); have HGBe := Aside0.mk (blk_below HGB.out K_We.out); have z0 : We.cell? ⟨ge, 0, none⟩ = some (.int .i64 e.f0) := cell_in He.out 0; have z1 : We.cell? ⟨ge, 1, none⟩ = some (.int .i64 e.f1) := cell_in He.out 1; have z2 : We.cell? ⟨ge, 2, none⟩ = some (.int .i64 e.f2) := cell_in He.out 2; have z3 : We.cell? ⟨ge, 3, none⟩ = some (.int .i64 e.f3) := cell_in He.out 3; have z4 : We.cell? ⟨ge, 4, none⟩ = some (.int .i64 e.f4) := cell_in He.out 4; have z5 : We.cell? ⟨ge, 5, none⟩ = some (.int .i64 e.f5) := cell_in He.out 5; have z6 : We.cell? ⟨ge, 6, none⟩ = some (.int .i64 e.f6) := cell_in He.out 6; have z7 : We.cell? ⟨ge, 7, none⟩ = some (.slice B7 e.f7.length b7) := cell_in He.out 7; have t0 : We.cell? ⟨gb, 0, none⟩ = some (.int .i64 x.f0) := cell_in HGBe.out 0; have t1 : We.cell? ⟨gb, 1, none⟩ = some (.int .i64 x.f1) := cell_in HGBe.out 1; have t2 : We.cell? ⟨gb, 2, none⟩ = some (.int .i64 x.f2) := cell_in HGBe.out 2; have s0 : We.cell? ⟨ga, 0, none⟩ = some (.int .i64 md) := cell_in HGAe.out 0; have s1 : We.cell? ⟨ga, 1, none⟩ = some (.slice A0 l0.length c0) := cell_in HGAe.out 1; have s2 : We.cell? ⟨ga, 2, none⟩ = some (.slice A1 l1.length c1) := cell_in HGAe.out 2; have s3 : We.cell? ⟨ga, 3, none⟩ = some (.slice (some ad) L.length cL) := cell_in HGAe.out 3; have s4 : We.cell? ⟨ga, 4, none⟩ = some (.slice AG G.length cG) := cell_in HGAe.out 4))
          exact ⟨⟨i + 1, by omega, by rw [Int.natCast_add]; rfl, by rw [HFT.out]; exact Kd.R_below HO.out K_We.out, blk_below HGA.out K_We.out, blk_below HGB.out K_We.out, HB_We.out⟩, by simp [intOf]; omega⟩
        · go_wp2_with (first | ((with_reducible refine gate_dst (N := 9) rfl ?_); refine boxN (w := w) rfl (N := 9) rfl (cs := #[.int .i64 0, .int .i64 0, .int .i64 0, .int .i64 0, .int .i64 0, .int .i64 0, .int .i64 0, .slice none 0 0]) (t := 95) (by first | (go_simp; done) | (go_simp; rfl)) HBr ?_; intro ge Wd Hd Lge HB_Wd K_Wd) | (refine storeN (w := w) rfl 95 _ _ rfl ge #[.int .i64 e.f0, .int .i64 e.f1, .int .i64 e.f2, .int .i64 e.f3, .int .i64 e.f4, .int .i64 e.f5, .int .i64 e.f6, .slice B7 e.f7.length b7] rfl rfl 95 _ Hd (by kernel_rfl) rfl (by rw [← Array.all_toList]; rfl) HB_Wd Lge K_Wd ?_; clear Hd; intro We Hd HB_We K_We; have He := Hd; have HGAe := Aside0.mk (blk_below HGA.out K_We.out); have HGBe := Aside0.mk (blk_below HGB.out K_We.out); have z0 : We.cell? ⟨ge, 0, none⟩ = some (.int .i64 e.f0) := cell_in He.out 0; have z1 : We.cell? ⟨ge, 1, none⟩ = some (.int .i64 e.f1) := cell_in He.out 1; have z2 : We.cell? ⟨ge, 2, none⟩ = some (.int .i64 e.f2) := cell_in He.out 2; have z3 : We.cell? ⟨ge, 3, none⟩ = some (.int .i64 e.f3) := cell_in He.out 3; have z4 : We.cell? ⟨ge, 4, none⟩ = some (.int .i64 e.f4) := cell_in He.out 4; have z5 : We.cell? ⟨ge, 5, none⟩ = some (.int .i64 e.f5) := cell_in He.out 5; have z6 : We.cell? ⟨ge, 6, none⟩ = some (.int .i64 e.f6) := cell_in He.out 6; have z7 : We.cell? ⟨ge, 7, none⟩ = some (.slice B7 e.f7.length b7) := cell_in He.out 7; have t0 : We.cell? ⟨gb, 0, none⟩ = some (.int .i64 x.f0) := cell_in HGBe.out 0; have t1 : We.cell? ⟨gb, 1, none⟩ = some (.int .i64 x.f1) := cell_in HGBe.out 1; have t2 : We.cell? ⟨gb, 2, none⟩ = some (.int .i64 x.f2) := cell_in HGBe.out 2; have s0 : We.cell? ⟨ga, 0, none⟩ = some (.int .i64 md) := cell_in HGAe.out 0; have s1 : We.cell? ⟨ga, 1, none⟩ = some (.slice A0 l0.length c0) := cell_in HGAe.out 1; have s2 : We.cell? ⟨ga, 2, none⟩ = some (.slice A1 l1.length c1) := cell_in HGAe.out 2; have s3 : We.cell? ⟨ga, 3, none⟩ = some (.slice (some ad) L.length cL) := cell_in HGAe.out 3; have s4 : We.cell? ⟨ga, 4, none⟩ = some (.slice AG G.length cG) := cell_in HGAe.out 4))
          exact ⟨⟨i + 1, by omega, by rw [Int.natCast_add]; rfl, by rw [HFT.out]; exact Kd.R_below HO.out K_We.out, blk_below HGA.out K_We.out, blk_below HGB.out K_We.out, HB_We.out⟩, by simp [intOf]; omega⟩
        · have HI := Aside0.mk (fun W hW => is_calls ⟨md, A0, c0, l0, A1, c1, l1, some ad, cL, L, AG, cG, G⟩ e.f1 W hW)
          dsimp only at HI
          rw [hg] at HI
          clear hg
          go_wp2_with (first | ((with_reducible refine gate_dst (N := 9) rfl ?_); refine boxN (w := w) rfl (N := 9) rfl (cs := #[.int .i64 0, .int .i64 0, .int .i64 0, .int .i64 0, .int .i64 0, .int .i64 0, .int .i64 0, .slice none 0 0]) (t := 95) (by first | (go_simp; done) | (go_simp; rfl)) HBr ?_; intro ge Wd Hd Lge HB_Wd K_Wd) | (refine storeN (w := w) rfl 95 _ _ rfl ge #[.int .i64 e.f0, .int .i64 e.f1, .int .i64 e.f2, .int .i64 e.f3, .int .i64 e.f4, .int .i64 e.f5, .int .i64 e.f6, .slice B7 e.f7.length b7] rfl rfl 95 _ Hd (by kernel_rfl) rfl (by rw [← Array.all_toList]; rfl) HB_Wd Lge K_Wd ?_; clear Hd; intro We Hd HB_We K_We; have He := Hd; have HGAe := Aside0.mk (blk_below HGA.out K_We.out); have HGBe := Aside0.mk (blk_below HGB.out K_We.out); have z0 : We.cell? ⟨ge, 0, none⟩ = some (.int .i64 e.f0) := cell_in He.out 0; have z1 : We.cell? ⟨ge, 1, none⟩ = some (.int .i64 e.f1) := cell_in He.out 1; have z2 : We.cell? ⟨ge, 2, none⟩ = some (.int .i64 e.f2) := cell_in He.out 2; have z3 : We.cell? ⟨ge, 3, none⟩ = some (.int .i64 e.f3) := cell_in He.out 3; have z4 : We.cell? ⟨ge, 4, none⟩ = some (.int .i64 e.f4) := cell_in He.out 4; have z5 : We.cell? ⟨ge, 5, none⟩ = some (.int .i64 e.f5) := cell_in He.out 5; have z6 : We.cell? ⟨ge, 6, none⟩ = some (.int .i64 e.f6) := cell_in He.out 6; have z7 : We.cell? ⟨ge, 7, none⟩ = some (.slice B7 e.f7.length b7) := cell_in He.out 7; have t0 : We.cell? ⟨gb, 0, none⟩ = some (.int .i64 x.f0) := cell_in HGBe.out 0; have t1 : We.cell? ⟨gb, 1, none⟩ = some (.int .i64 x.f1) := cell_in HGBe.out 1; have t2 : We.cell? ⟨gb, 2, none⟩ = some (.int .i64 x.f2) := cell_in HGBe.out 2; have s0 : We.cell? ⟨ga, 0, none⟩ = some (.int .i64 md) := cell_in HGAe.out 0; have s1 : We.cell? ⟨ga, 1, none⟩ = some (.slice A0 l0.length c0) := cell_in HGAe.out 1; have s2 : We.cell? ⟨ga, 2, none⟩ = some (.slice A1 l1.length c1) := cell_in HGAe.out 2; have s3 : We.cell? ⟨ga, 3, none⟩ = some (.slice (some ad) L.length cL) := cell_in HGAe.out 3; have s4 : We.cell? ⟨ga, 4, none⟩ = some (.slice AG G.length cG) := cell_in HGAe.out 4))
          refine (HI.out We (HA.out.below (below_step HBr.out K_We.out))).mono ?_
          rintro e' w5 ⟨rfl, hb⟩
          have HB5 := Aside0.mk (below_step HB_We.out hb)
          have K5 := Aside0.mk (below_step K_We.out hb)
          clear hb
          go_wp2_with fail
          exact ⟨⟨i + 1, by omega, by rw [Int.natCast_add]; rfl, by rw [HFT.out]; exact Kd.R_below HO.out K5.out, blk_below HGA.out K5.out, blk_below HGB.out K5.out, HB5.out⟩, by simp [intOf]; omega⟩
      · rw [hp, if_pos rfl] at hft
        have HFT := Aside0.mk hft
        obtain ⟨j0, j1, j2, j3, j4, hg⟩ : (e.f2 == what) = true ∧ (e.f3 == x.f0) = true ∧ (e.f4 == x.f1) = true ∧ decide (wrap64 (x.f2 - 100) ≤ e.f5) = true ∧ decide (e.f5 ≤ wrap64 (x.f2 + 100)) = true ∧ has_ G e.f1 = true := by
          unfold evP at hp
          revert hp
          cases (e.f2 == what) <;> cases (e.f3 == x.f0) <;> cases (e.f4 == x.f1) <;> cases decide (wrap64 (x.f2 - 100) ≤ e.f5) <;> cases decide (e.f5 ≤ wrap64 (x.f2 + 100)) <;> cases has_ G e.f1 <;> simp
        have HI := Aside0.mk (fun W hW => is_calls ⟨md, A0, c0, l0, A1, c1, l1, some ad, cL, L, AG, cG, G⟩ e.f1 W hW)
        dsimp only at HI
        rw [hg] at HI
        clear hft hp hg
        go_wp2_with (first | ((with_reducible refine gate_dst (N := 9) rfl ?_); refine boxN (w := w) rfl (N := 9) rfl (cs := #[.int .i64 0, .int .i64 0, .int .i64 0, .int .i64 0, .int .i64 0, .int .i64 0, .int .i64 0, .slice none 0 0]) (t := 95) (by first | (go_simp; done) | (go_simp; rfl)) HBr ?_; intro ge Wd Hd Lge HB_Wd K_Wd) | (refine storeN (w := w) rfl 95 _ _ rfl ge #[.int .i64 e.f0, .int .i64 e.f1, .int .i64 e.f2, .int .i64 e.f3, .int .i64 e.f4, .int .i64 e.f5, .int .i64 e.f6, .slice B7 e.f7.length b7] rfl rfl 95 _ Hd (by kernel_rfl) rfl (by rw [← Array.all_toList]; rfl) HB_Wd Lge K_Wd ?_; clear Hd; intro We Hd HB_We K_We; have He := Hd; have HGAe := Aside0.mk (blk_below HGA.out K_We.out); have HGBe := Aside0.mk (blk_below HGB.out K_We.out); have z0 : We.cell? ⟨ge, 0, none⟩ = some (.int .i64 e.f0) := cell_in He.out 0; have z1 : We.cell? ⟨ge, 1, none⟩ = some (.int .i64 e.f1) := cell_in He.out 1; have z2 : We.cell? ⟨ge, 2, none⟩ = some (.int .i64 e.f2) := cell_in He.out 2; have z3 : We.cell? ⟨ge, 3, none⟩ = some (.int .i64 e.f3) := cell_in He.out 3; have z4 : We.cell? ⟨ge, 4, none⟩ = some (.int .i64 e.f4) := cell_in He.out 4; have z5 : We.cell? ⟨ge, 5, none⟩ = some (.int .i64 e.f5) := cell_in He.out 5; have z6 : We.cell? ⟨ge, 6, none⟩ = some (.int .i64 e.f6) := cell_in He.out 6; have z7 : We.cell? ⟨ge, 7, none⟩ = some (.slice B7 e.f7.length b7) := cell_in He.out 7; have t0 : We.cell? ⟨gb, 0, none⟩ = some (.int .i64 x.f0) := cell_in HGBe.out 0; have t1 : We.cell? ⟨gb, 1, none⟩ = some (.int .i64 x.f1) := cell_in HGBe.out 1; have t2 : We.cell? ⟨gb, 2, none⟩ = some (.int .i64 x.f2) := cell_in HGBe.out 2; have s0 : We.cell? ⟨ga, 0, none⟩ = some (.int .i64 md) := cell_in HGAe.out 0; have s1 : We.cell? ⟨ga, 1, none⟩ = some (.slice A0 l0.length c0) := cell_in HGAe.out 1; have s2 : We.cell? ⟨ga, 2, none⟩ = some (.slice A1 l1.length c1) := cell_in HGAe.out 2; have s3 : We.cell? ⟨ga, 3, none⟩ = some (.slice (some ad) L.length cL) := cell_in HGAe.out 3; have s4 : We.cell? ⟨ga, 4, none⟩ = some (.slice AG G.length cG) := cell_in HGAe.out 4))
        refine (HI.out We (HA.out.below (below_step HBr.out K_We.out))).mono ?_
        rintro e' w5 ⟨rfl, hb⟩
        have HB5 := Aside0.mk (below_step HB_We.out hb)
        have K5 := Aside0.mk (below_step K_We.out hb)
        have H5 := Aside0.mk (blk_below He.out hb)
        have HO5 := Aside0.mk (Kd.R_below HO.out K5.out)
        have HGA5 := Aside0.mk (blk_below HGA.out K5.out)
        have HGB5 := Aside0.mk (blk_below HGB.out K5.out)
        have hfl : ((L.take i).filter (evP x what G)).length ≤ 1000000 := Nat.le_trans (List.length_filter_le _ _) (by rw [List.length_take]; omega)
        clear hb
        go_wp2_with (first | ((with_reducible refine gate_dst (N := 58) rfl ?_); refine wpList_load_row rfl 95 _ rfl ge rfl 95 _ (0, 0) _ H5.out Try.underlying95 rfl (by kernel_rfl) ?_) | ((with_reducible refine gate_builtin (b := .append) (xs := #[.tmp 57, .tmp 59]) rfl ?_); at_builtin; refine appN (w := w) (kAt k95 w) 95 rfl (.tmp 57) (.tmp 59) 63 ((.agg #[.int .i64 0, .int .i64 0, .int .i64 0, .int .i64 0, .int .i64 0, .int .i64 0, .int .i64 0, .slice none 0 0])) 80 rfl Try.underlying63 info95 rfl (show 0 < 8 by decide) (by omega) e [.int .i64 e.f0, .int .i64 e.f1, .int .i64 e.f2, .int .i64 e.f3, .int .i64 e.f4, .int .i64 e.f5, .int .i64 e.f6, .slice B7 e.f7.length b7] rfl rfl (HK.out) HO5 HB5 (by omega) ?_; intro vA W6 HO6 HB_W6 K_W6))
        exact ⟨⟨i + 1, by omega, by rw [Int.natCast_add]; rfl, by rw [HFT.out]; exact HO6.out, blk_grown HGA5.out K_W6.out (Kd.R_ne HO5.out HGA5.out (by decide)), blk_grown HGB5.out K_W6.out (Kd.R_ne HO5.out HGB5.out (by decide)), HB_W6.out⟩, by simp [intOf]; omega⟩
    · have m1 : decide ((i : Int) < (L.length : Int)) = false := decide_eq_false (by omega)
      have m2 : decide (i < L.length) = false := decide_eq_false hlt
      have hall : (L.take i).filter (evP x what G) = R := by rw [List.take_of_length_le (by omega)]; exact HRR.out
      rw [hall] at HO
      obtain ⟨A', c', ev⟩ := Kd.R_slice HO.out
      subst ev
      have h := Kd.R_reads' HO.out
      have hle := h.2.1
      have HC := Aside0.mk (kAt_C h.2.2 HBr.out)
      clear h hlt HO hall
      go_wp2_with fail
      go_ret
      exact ⟨A', c', rfl, hle, HC.out, HBr.out⟩
/-- Two texts of bytes. -/
def same_ (x y : List Int) : Bool := (Go.strOfNums x).toList == (Go.strOfNums y).toList
set_option maxHeartbeats 1000000 in
theorem equal_calls (A B : Option Addr) (c d : Nat) (x y : List Int) (w : World) (hx : Kd.C (Kd.int .u8) w A x.length x) (hy : Kd.C (Kd.int .u8) w B y.length y) :
    Calls Try.prog 64 #[.slice A x.length c, .slice B y.length d] w fun e w' => e = .returned (.bool (same_ x y)) ∧ w' = w := by
  have c1 := Kd.C_string Try.underlying23 Try.underlying5 Try.underlying9 (c := c) hx
  have c2 := Kd.C_string Try.underlying23 Try.underlying5 Try.underlying9 (c := d) hy
  obtain ⟨s, hs⟩ : ∃ s, Go.strOfNums x = s := ⟨_, rfl⟩
  obtain ⟨t, ht⟩ : ∃ s, Go.strOfNums y = s := ⟨_, rfl⟩
  rw [hs] at c1
  rw [ht] at c2
  unfold same_
  rw [hs, ht]
  clear hs ht hx hy
  go_enter Try.func64, Try.ntmps64
  go_wp2_with fail
  go_ret
  exact ⟨rfl, rfl⟩
end Go.Proofs.Ytekbaconbemgpaa.PWe
