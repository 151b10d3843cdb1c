/- Whether a good one took other words than a good one sent; strays; two senders: walks. Helper text. -/
import Derived.Test.YtekbaconbemgpaaAuWdw
namespace Go.Proofs.Ytekbaconbemgpaa.PWe
open Go.RowKit Go.Proofs.Ytekbaconbemgpaa.Kx Go.Proofs.YtekbaconbemgpaaW.PrintWords Go.Proofs.YtekbaconbemgpaaW.PrintLast Go.Proofs.YtekbaconbemgpaaW.PrintMore
set_option linter.unusedVariables false
set_option linter.unusedSimpArgs false

def wr1P (fm : Int) (e o : S95) : Bool := (o.f1 == fm) && !same_ o.f7 e.f7
set_option maxHeartbeats 1000000 in
set_option maxRecDepth 100000 in
theorem wro11_calls (e o : S95) (y : Array Value) (F : List Int) (AF : Option Addr) (cF : Nat) (A7 B7 : Option Addr) (c7 b7 : Nat) (gx ge : Nat) (w : World) (hF : Kd.C (Kd.int .i64) w AF F.length F) (h0 : 0 ≤ e.f6) (h1 : e.f6 < (F.length : Int)) {fm : Int} (hfm : F[e.f6.toNat]? = some fm) (h7 : Kd.C (Kd.int .u8) w A7 o.f7.length o.f7) (k7 : Kd.C (Kd.int .u8) w B7 e.f7.length e.f7)
    (hy : y[4]? = some (.slice AF F.length cF)) (hgx : w.heap[gx]? = some (.cells y 76 (0, 0))) (hge : w.heap[ge]? = some (.cells (evc e B7 b7) 95 (0, 0))) :
    Calls Try.prog 67 #[.agg (evc o A7 c7), .pointer (some ⟨gx, 0, none⟩), .pointer (some ⟨ge, 0, none⟩)] w fun e' w' => e' = .returned (.bool (wr1P fm e o)) ∧ Below w.heap.size w w' := by
  obtain ⟨n, hn⟩ := Int.eq_ofNat_of_zero_le h0
  rw [hn, Int.toNat_natCast] at hfm
  rw [hn] at h1
  have hnl : n < F.length := by omega
  have hfe : F[n] = fm := by
    rw [List.getElem?_eq_getElem hnl] at hfm
    exact Option.some.inj hfm
  obtain ⟨ad, hA, x0⟩ := int_at hF hnl hnl hfe
  subst hA
  have q1 : (0 ≤ (n : Int)) = True := eq_true (by omega)
  have q2 : ((n : Int) < (F.length : Int)) = True := eq_true (by omega)
  have q3 : (n < F.length) = True := eq_true hnl
  have HY := Aside0.mk hy
  have HX := Aside0.mk hgx
  have HE := Aside0.mk hge
  have HN := Aside0.mk hn
  have H7 := Aside0.mk h7
  have K7 := Aside0.mk k7
  have HB : Aside0 (Below w.heap.size w w) := ⟨Below.refl _ _⟩
  unfold wr1P evc
  obtain ⟨s, hs⟩ : ∃ s, same_ o.f7 e.f7 = s := ⟨_, rfl⟩
  obtain ⟨k, hk⟩ : ∃ s, (o.f1 == fm) = s := ⟨_, rfl⟩
  have HSM := Aside0.mk hs
  rw [hs, hk]
  clear hs hF h0 h1 hfm hfe h7 k7 hy hgx hge hn hnl
  go_enter Try.func67, Try.ntmps67
  go_wp2_with (first | ((with_reducible refine gate_dst (N := 3) rfl ?_); refine boxN (w := w) rfl (N := 3) rfl (cs := #[.int .i64 o.f0, .int .i64 o.f1, .int .i64 o.f2, .int .i64 o.f3, .int .i64 o.f4, .int .i64 o.f5, .int .i64 o.f6, .slice A7 o.f7.length c7]) (t := 95) (by first | (go_simp; done) | (go_simp; rfl)) HB ?_; intro ga Wa Ha Lga HB_Wa K_Wa; have up : ∀ {p : Addr} {v : Value}, w.cell? p = some v → Wa.cell? p = some v := fun h => (K_Wa.out.cell (World.block_lt_of_cell? w _ h)).trans h; have u0 := up x0; have z1 : Wa.cell? ⟨ga, 1, none⟩ = some (.int .i64 o.f1) := cell_in Ha.out 1; have z7 : Wa.cell? ⟨ga, 7, none⟩ = some (.slice A7 o.f7.length c7) := cell_in Ha.out 7; have t4 : Wa.cell? ⟨gx, 4, none⟩ = some (.slice (some ad) F.length cF) := (cell_in (blk_below HX.out K_Wa.out) 4).trans HY.out; have s6 : Wa.cell? ⟨ge, 6, none⟩ = some (.int .i64 n) := (cell_in (blk_below HE.out K_Wa.out) 6).trans (by rw [← HN.out]; rfl); have s7 : Wa.cell? ⟨ge, 7, none⟩ = some (.slice B7 e.f7.length b7) := (cell_in (blk_below HE.out K_Wa.out) 7).trans rfl; clear up))
  cases k
  · go_quiet (first | (go_at_call 64; exact equal_quiet Wa _ (Kd.C_below H7.out K_Wa.out) (Kd.C_below K7.out K_Wa.out) HSM.out))
    go_wp2_with fail
    go_ret
    exact ⟨rfl, below_drewN HB_Wa.out _⟩
  · go_quiet (first | (go_at_call 64; exact equal_quiet Wa _ (Kd.C_below H7.out K_Wa.out) (Kd.C_below K7.out K_Wa.out) HSM.out))
    go_wp2_with fail
    go_ret
    exact ⟨rfl, below_drewN HB_Wa.out _⟩
def wroP (S : List S95) (F : List Int) (e : S95) : Bool := decide (0 ≤ e.f6) && (decide (e.f6 < (F.length : Int)) && S.any (wr1P (F.getD e.f6.toNat 0) e))
set_option maxHeartbeats 1000000 in
theorem wro1_calls (e : S95) (y : Array Value) (F : List Int) (AF : Option Addr) (cF : Nat) (S : List S95) (AS : Option Addr) (cS : Nat) (B7 : Option Addr) (b7 : Nat) (gx gs : Nat) (w : World) (hF : Kd.C (Kd.int .i64) w AF F.length F) (hS : Kd.C k95 w AS S.length S) (k7 : Kd.C (Kd.int .u8) w B7 e.f7.length e.f7)
    (hy : y[4]? = some (.slice AF F.length cF)) (hgx : w.heap[gx]? = some (.cells y 76 (0, 0))) (hgs : w.heap[gs]? = some (.cells #[.slice AS S.length cS] 63 (0, 0))) :
    Calls Try.prog 66 #[.agg (evc e B7 b7), .pointer (some ⟨gx, 0, none⟩), .pointer (some ⟨gs, 0, none⟩)] w fun e' w' => e' = .returned (.bool (wroP S F e)) ∧ Below w.heap.size w w' := by
  have HF := Aside0.mk hF
  have HS := Aside0.mk hS
  have HY := Aside0.mk hy
  have HX := Aside0.mk hgx
  have HGS := Aside0.mk hgs
  have K7 := Aside0.mk k7
  have HB : Aside0 (Below w.heap.size w w) := ⟨Below.refl _ _⟩
  obtain ⟨r, hr⟩ : ∃ r, wroP S F e = r := ⟨_, rfl⟩
  rw [hr]
  have HRR := Aside0.mk hr
  clear hF hS hy hgx hgs k7 hr
  by_cases c1 : 0 ≤ e.f6
  · by_cases c2 : e.f6 < (F.length : Int)
    · have HC1 := Aside0.mk c1
      have HC2 := Aside0.mk c2
      have hfm : F[e.f6.toNat]? = some (F.getD e.f6.toNat 0) := by
        rw [List.getD_eq_getElem?_getD, List.getElem?_eq_getElem (by omega)]; rfl
      have HFM := Aside0.mk hfm
      have hr2 : S.any (wr1P (F.getD e.f6.toNat 0) e) = r := by rw [← HRR.out, wroP, decide_eq_true c1, decide_eq_true c2]; rfl
      have HR2 := Aside0.mk hr2
      have j0 : decide (0 ≤ e.f6) = true := decide_eq_true c1
      have j1 : decide (e.f6 < (F.length : Int)) = true := decide_eq_true c2
      clear c1 c2 hfm hr2
      go_enter Try.func66, Try.ntmps66
      go_wp2_with (first | ((with_reducible refine gate_dst (N := 3) rfl ?_); refine boxN (w := w) rfl (N := 3) rfl (cs := #[.int .i64 e.f0, .int .i64 e.f1, .int .i64 e.f2, .int .i64 e.f3, .int .i64 e.f4, .int .i64 e.f5, .int .i64 e.f6, .slice B7 e.f7.length b7]) (t := 95) (by first | (go_simp; done) | (go_simp; rfl)) HB ?_; intro ga Wa Ha Lga HB_Wa K_Wa; have z6 : Wa.cell? ⟨ga, 6, none⟩ = some (.int .i64 e.f6) := cell_in Ha.out 6; have t4 : Wa.cell? ⟨gx, 4, none⟩ = some (.slice AF F.length cF) := (cell_in (blk_below HX.out K_Wa.out) 4).trans HY.out; have t5 : Wa.cell? ⟨gs, 0, none⟩ = some (.slice AS S.length cS) := cell_in (blk_below HGS.out K_Wa.out) 0))
      refine (containsf_ev (f := 67) (caps := #[.pointer (some ⟨gx, 0, none⟩), .pointer (some ⟨ga, 0, none⟩)]) Try.func67 rfl rfl (wr1P (F.getD e.f6.toNat 0) e) AS cS S Wa (Kd.C_below HS.out HB_Wa.out) (fun x A7 c7 => #[.agg (evc x A7 c7), .pointer (some ⟨gx, 0, none⟩), .pointer (some ⟨ga, 0, none⟩)]) (fun _ _ _ => by simp)
        (fun o _ W A7 c7 hb hl7 h7 => wro11_calls e o y F AF cF A7 B7 c7 b7 gx ga W (Kd.C_below HF.out (below_step HB_Wa.out hb)) HC1.out HC2.out HFM.out h7 (Kd.C_below K7.out (below_step HB_Wa.out hb)) HY.out (blk_below HX.out (below_step K_Wa.out hb)) (blk_below Ha.out hb))).mono ?_
      rintro e' w2 ⟨rfl, hb⟩
      have HB2 := Aside0.mk (below_step HB_Wa.out hb)
      rw [HR2.out]
      clear hb
      go_wp2_with fail
      go_ret
      exact ⟨rfl, HB2.out⟩
    · have j0 : decide (0 ≤ e.f6) = true := decide_eq_true c1
      have j1 : decide (e.f6 < (F.length : Int)) = false := decide_eq_false c2
      have hr2 : false = r := by rw [← HRR.out, wroP, j0, j1]; rfl
      subst hr2
      clear c1 c2
      go_enter Try.func66, Try.ntmps66
      go_wp2_with (first | ((with_reducible refine gate_dst (N := 3) rfl ?_); refine boxN (w := w) rfl (N := 3) rfl (cs := #[.int .i64 e.f0, .int .i64 e.f1, .int .i64 e.f2, .int .i64 e.f3, .int .i64 e.f4, .int .i64 e.f5, .int .i64 e.f6, .slice B7 e.f7.length b7]) (t := 95) (by first | (go_simp; done) | (go_simp; rfl)) HB ?_; intro ga Wa Ha Lga HB_Wa K_Wa; have z6 : Wa.cell? ⟨ga, 6, none⟩ = some (.int .i64 e.f6) := cell_in Ha.out 6; have t4 : Wa.cell? ⟨gx, 4, none⟩ = some (.slice AF F.length cF) := (cell_in (blk_below HX.out K_Wa.out) 4).trans HY.out; have t5 : Wa.cell? ⟨gs, 0, none⟩ = some (.slice AS S.length cS) := cell_in (blk_below HGS.out K_Wa.out) 0))
      go_ret
      exact ⟨rfl, HB_Wa.out⟩
  · have j0 : decide (0 ≤ e.f6) = false := decide_eq_false c1
    have hr2 : false = r := by rw [← HRR.out, wroP, j0]; rfl
    subst hr2
    clear c1
    go_enter Try.func66, Try.ntmps66
    go_wp2_with (first | ((with_reducible refine gate_dst (N := 3) rfl ?_); refine boxN (w := w) rfl (N := 3) rfl (cs := #[.int .i64 e.f0, .int .i64 e.f1, .int .i64 e.f2, .int .i64 e.f3, .int .i64 e.f4, .int .i64 e.f5, .int .i64 e.f6, .slice B7 e.f7.length b7]) (t := 95) (by first | (go_simp; done) | (go_simp; rfl)) HB ?_; intro ga Wa Ha Lga HB_Wa K_Wa; have z6 : Wa.cell? ⟨ga, 6, none⟩ = some (.int .i64 e.f6) := cell_in Ha.out 6; have t4 : Wa.cell? ⟨gx, 4, none⟩ = some (.slice AF F.length cF) := (cell_in (blk_below HX.out K_Wa.out) 4).trans HY.out; have t5 : Wa.cell? ⟨gs, 0, none⟩ = some (.slice AS S.length cS) := cell_in (blk_below HGS.out K_Wa.out) 0))
    go_ret
    exact ⟨rfl, HB_Wa.out⟩
/-- Did a good module take other words than a good one sent? -/
def wrongP (l0 l1 : List S76) (L : List S95) (G : List Int) (x : S101) : Bool := wdwB l0 l1 x && (evsP L G x 2).any (wroP (evsP L G x 1) (wdwY l0 l1 x).f4)
set_option maxHeartbeats 2000000 in
theorem wrong_calls (a : AudV) (v : WinV) (w : World) (ha : a.ok w) (hL64 : a.L.length ≤ 1000000) :
    Calls Try.prog 39 #[.agg a.arr, .agg v.arr] w fun e w' => e = .returned (.bool (wrongP a.l0 a.l1 a.L a.G v.x)) ∧ Below w.heap.size w w' := by
  have HA := Aside0.mk ha
  have HB : Aside0 (Below w.heap.size w w) := ⟨Below.refl _ _⟩
  have HE1 := Aside0.mk (fun W (hb : Below w.heap.size w W) => events_calls a v 1 W (ha.below hb) hL64)
  have HE2 := Aside0.mk (fun W (hb : Below w.heap.size w W) => events_calls a v 2 W (ha.below hb) hL64)
  have HWD := Aside0.mk (fun W (hb : Below w.heap.size w W) => window_calls a v W (ha.below hb))
  obtain ⟨r, hr⟩ : ∃ r, wrongP a.l0 a.l1 a.L a.G v.x = r := ⟨_, rfl⟩
  rw [hr]
  unfold wrongP at hr
  obtain ⟨E, hE⟩ : ∃ r, evsP a.L a.G v.x 2 = r := ⟨_, rfl⟩
  obtain ⟨S, hS⟩ : ∃ r, evsP a.L a.G v.x 1 = r := ⟨_, rfl⟩
  obtain ⟨y, hy⟩ : ∃ r, wdwY a.l0 a.l1 v.x = r := ⟨_, rfl⟩
  obtain ⟨q, hq⟩ : ∃ r, wdwB a.l0 a.l1 v.x = r := ⟨_, rfl⟩
  rw [hE, hS, hy, hq] at hr
  rw [hE] at HE2
  rw [hS] at HE1
  rw [hy, hq] at HWD
  have HRR := Aside0.mk hr
  clear hE hS hy hq hr ha
  go_enter Try.func39, Try.ntmps39
  go_wp2_with (first | ((with_reducible refine gate_dst (N := 2) rfl ?_); refine boxN (w := w) rfl (N := 2) rfl (cs := a.arr) (t := 97) (by first | (go_simp; done) | (go_simp; rfl)) HB ?_; intro ga Wa Ha Lga HB_Wa K_Wa) | ((with_reducible refine gate_dst (N := 3) rfl ?_); refine boxN (w := w) rfl (N := 3) rfl (cs := v.arr) (t := 101) (by first | (go_simp; done) | (go_simp; rfl)) HB_Wa ?_; intro gb Wb Hb Lgb HB_Wb K_Wb; have HGA := Aside0.mk (blk_below Ha.out K_Wb.out)) | ((with_reducible refine gate_dst (N := 9) rfl ?_); refine wpList_load_row rfl 97 _ rfl ga rfl 97 _ (0, 0) _ HGA.out Try.underlying97 rfl (by kernel_rfl) ?_) | ((with_reducible refine gate_dst (N := 10) rfl ?_); refine wpList_load_row rfl 101 _ rfl gb rfl 101 _ (0, 0) _ Hb.out Try.underlying101 rfl (by kernel_rfl) ?_))
  refine (HWD.out Wb HB_Wb.out).mono ?_
  rintro e w2 ⟨A4, c4, A5, c5, rfl, hl4, hc4, hl5, hc5, hb⟩
  have HB2 := Aside0.mk (below_step HB_Wb.out hb)
  have HC4 := Aside0.mk hc4
  have HGA2 := Aside0.mk (blk_below HGA.out hb)
  have HGB2 := Aside0.mk (blk_below Hb.out hb)
  clear hb hc4 hc5
  cases q
  · obtain rfl : false = r := HRR.out
    go_wp2_with (first | ((with_reducible refine gate_dst (N := 5) rfl ?_); refine boxN (w := w) rfl (N := 5) rfl (cs := #[.int .i64 0, .int .i64 0, .int .i64 0, .int .i64 0, .slice none 0 0, .slice none 0 0]) (t := 76) (by first | (go_simp; done) | (go_simp; rfl)) HB2 ?_; intro gd Wd Hd Lgd HB_Wd K_Wd) | (refine storeN (w := w) rfl 76 _ _ rfl gd #[.int .i64 y.f0, .int .i64 y.f1, .int .i64 y.f2, .int .i64 y.f3, .slice A4 y.f4.length c4, .slice A5 y.f5.length c5] rfl rfl 76 _ Hd (by kernel_rfl) rfl (by rw [← Array.all_toList]; rfl) HB_Wd Lgd K_Wd ?_; clear Hd; intro We Hd HB_We K_We; have He := Hd; have HGAe := Aside0.mk (blk_below HGA2.out K_We.out); have HGBe := Aside0.mk (blk_below HGB2.out K_We.out)))
    go_ret
    exact ⟨rfl, HB_We.out⟩
  · replace HRR : Aside0 (E.any (wroP S y.f4) = r) := ⟨HRR.out⟩
    go_wp2_with (first | ((with_reducible refine gate_dst (N := 5) rfl ?_); refine boxN (w := w) rfl (N := 5) rfl (cs := #[.int .i64 0, .int .i64 0, .int .i64 0, .int .i64 0, .slice none 0 0, .slice none 0 0]) (t := 76) (by first | (go_simp; done) | (go_simp; rfl)) HB2 ?_; intro gd Wd Hd Lgd HB_Wd K_Wd) | (refine storeN (w := w) rfl 76 _ _ rfl gd #[.int .i64 y.f0, .int .i64 y.f1, .int .i64 y.f2, .int .i64 y.f3, .slice A4 y.f4.length c4, .slice A5 y.f5.length c5] rfl rfl 76 _ Hd (by kernel_rfl) rfl (by rw [← Array.all_toList]; rfl) HB_Wd Lgd K_Wd ?_; clear Hd; intro We Hd HB_We K_We; have He := Hd; have HGAe := Aside0.mk (blk_below HGA2.out K_We.out); have HGBe := Aside0.mk (blk_below HGB2.out K_We.out)) | ((with_reducible refine gate_dst (N := 16) rfl ?_); refine wpList_load_row rfl 97 _ rfl ga rfl 97 _ (0, 0) _ HGAe.out Try.underlying97 rfl (by kernel_rfl) ?_) | ((with_reducible refine gate_dst (N := 17) rfl ?_); refine wpList_load_row rfl 101 _ rfl gb rfl 101 _ (0, 0) _ HGBe.out Try.underlying101 rfl (by kernel_rfl) ?_))
    refine (HE1.out We HB_We.out).mono ?_
    rintro e w3 ⟨AS, cS, rfl, hcS, hSC, hb⟩
    have HB3 := Aside0.mk (below_step HB_We.out hb)
    have HSC := Aside0.mk hSC
    have HGA3 := Aside0.mk (blk_below HGAe.out hb)
    have HGB3 := Aside0.mk (blk_below HGBe.out hb)
    have He3 := Aside0.mk (blk_below He.out hb)
    have HC43 := Aside0.mk (Kd.C_below HC4.out (below_step K_We.out hb))
    clear hb hSC
    go_wp2_with (first | ((with_reducible refine gate_dst (N := 7) rfl ?_); refine boxN (w := w) rfl (N := 7) rfl (cs := #[.slice none 0 0]) (t := 63) (by first | (go_simp; done) | (go_simp; rfl)) HB3 ?_; intro gf Wf Hf Lgf HB_Wf K_Wf; have f0 : Wf.cell? ⟨gf, 0, none⟩ = some (.slice none 0 0) := cell_in Hf.out 0; have f1 := free_in Hf.out 0; have HB4 := HB_Wf; have HGA4 := Aside0.mk (blk_below HGA3.out (below_set (j := 0) (v := Value.slice AS S.length cS) K_Wf.out Lgf.out.2)); have HGB4 := Aside0.mk (blk_below HGB3.out (below_set (j := 0) (v := Value.slice AS S.length cS) K_Wf.out Lgf.out.2))) | ((with_reducible refine gate_dst (N := 19) rfl ?_); refine wpList_load_row rfl 97 _ rfl ga rfl 97 _ (0, 0) _ HGA4.out Try.underlying97 rfl (by kernel_rfl) ?_) | ((with_reducible refine gate_dst (N := 20) rfl ?_); refine wpList_load_row rfl 101 _ rfl gb rfl 101 _ (0, 0) _ HGB4.out Try.underlying101 rfl (by kernel_rfl) ?_))
    have hs := set_in Hf.out 0 (Value.slice AS S.length cS)
    have hbe := below_set (j := 0) (v := Value.slice AS S.length cS) HB_Wf.out Lgf.out.1
    have kbe := below_set (j := 0) (v := Value.slice AS S.length cS) K_Wf.out Lgf.out.2
    obtain ⟨Wg, hWg⟩ : ∃ W, Wf.setCell ⟨gf, 0, none⟩ (Value.slice AS S.length cS) = W := ⟨_, rfl⟩
    rw [hWg] at hs hbe kbe ⊢
    have Hg := Aside0.mk hs
    have HB_Wg := Aside0.mk hbe
    have K_Wg := Aside0.mk kbe
    clear hs hbe kbe hWg Hf HB_Wf K_Wf f0 f1 HB4 HGA4 HGB4
    refine (HE2.out Wg HB_Wg.out).mono ?_
    rintro e w5 ⟨AE, cE, rfl, hcE, hEC, hb⟩
    have HB5 := Aside0.mk (below_step HB_Wg.out hb)
    have HEC := Aside0.mk hEC
    have Hg5 := Aside0.mk (blk_below Hg.out hb)
    have He5 := Aside0.mk (blk_below He3.out (below_step K_Wg.out hb))
    have HC45 := Aside0.mk (Kd.C_below HC43.out (below_step K_Wg.out hb))
    have HSC5 := Aside0.mk (Kd.C_below HSC.out (below_step K_Wg.out hb))
    clear hb hEC
    go_wp2_with fail
    refine (containsf_ev (f := 66) (caps := #[.pointer (some ⟨gd, 0, none⟩), .pointer (some ⟨gf, 0, none⟩)]) Try.func66 rfl rfl (wroP S y.f4) AE cE E w5 HEC.out (fun x A7 c7 => #[.agg (evc x A7 c7), .pointer (some ⟨gd, 0, none⟩), .pointer (some ⟨gf, 0, none⟩)]) (fun _ _ _ => by simp)
      (fun x _ W A7 c7 hb hl7 h7 => wro1_calls x _ y.f4 A4 c4 S AS cS A7 c7 gd gf W (Kd.C_below HC45.out hb) (Kd.C_below HSC5.out hb) h7 rfl (blk_below He5.out hb) (blk_below Hg5.out hb))).mono ?_
    rintro e w6 ⟨rfl, hb⟩
    have HB6 := Aside0.mk (below_step HB5.out hb)
    rw [HRR.out]
    clear hb
    go_wp2_with fail
    go_ret
    exact ⟨rfl, HB6.out⟩
end Go.Proofs.Ytekbaconbemgpaa.PWe
