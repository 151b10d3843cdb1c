/- Strays; two senders: walks. Helper text. -/
import Derived.Test.YtekbaconbemgpaaAuWdw
namespace Go.Proofs.Ytekbaconbemgpaa.PWe
open Go.RowKit Go.Proofs.Ytekbaconbemgpaa.Kx Go.Proofs.YtekbaconbemgpaaW.PrintWords Go.Proofs.YtekbaconbemgpaaW.PrintLast Go.Proofs.YtekbaconbemgpaaW.PrintMore
set_option linter.unusedVariables false
set_option linter.unusedSimpArgs false

def strY (l0 l1 : List S76) (x : S101) : S76 := if wdwB l0 l1 x = true then wdwY l0 l1 x else z76w
def someP (G l B : List Int) : Bool := l.any fun m => has_ G m && !has_ B m
/-- Did a good module take, miss or send what it should not? -/
def strayP (l0 l1 : List S76) (G : List Int) (x : S101) : Bool := someP G x.f4 (strY l0 l1 x).f5 || (someP G x.f5 (strY l0 l1 x).f5 || someP G x.f3 (strY l0 l1 x).f4)
set_option maxHeartbeats 4000000 in
theorem stray_calls (a : AudV) (v : WinV) (w : World) (ha : a.ok w) (hv : v.ok w) :
    Calls Try.prog 40 #[.agg a.arr, .agg v.arr] w fun e w' => e = .returned (.bool (strayP a.l0 a.l1 a.G v.x)) ∧ Below w.heap.size w w' := by
  have HA := Aside0.mk ha
  have HV := Aside0.mk hv
  have HB : Aside0 (Below w.heap.size w w) := ⟨Below.refl _ _⟩
  have HWD := Aside0.mk (fun W (hb : Below w.heap.size w W) => window_calls a v W (ha.below hb))
  obtain ⟨r, hr⟩ : ∃ r, strayP a.l0 a.l1 a.G v.x = r := ⟨_, rfl⟩
  rw [hr]
  unfold strayP strY at hr
  obtain ⟨y, hy⟩ : ∃ r, wdwY a.l0 a.l1 v.x = r := ⟨_, rfl⟩
  obtain ⟨q, hq⟩ : ∃ r, wdwB a.l0 a.l1 v.x = r := ⟨_, rfl⟩
  rw [hy, hq] at hr
  rw [hy, hq] at HWD
  have HRR := Aside0.mk hr
  clear hy hq hr ha hv
  go_enter Try.func40, Try.ntmps40
  go_wp2_with (first | ((with_reducible refine gate_dst (N := 2) rfl ?_); refine boxN (w := w) rfl (N := 2) rfl (cs := a.arr) (t := 97) (by first | (go_simp; done) | (go_simp; rfl)) HB ?_; intro ga Wa Ha Lga HB_Wa K_Wa) | ((with_reducible refine gate_dst (N := 3) rfl ?_); refine boxN (w := w) rfl (N := 3) rfl (cs := v.arr) (t := 101) (by first | (go_simp; done) | (go_simp; rfl)) HB_Wa ?_; intro gb Wb Hb Lgb HB_Wb K_Wb; have HGA := Aside0.mk (blk_below Ha.out K_Wb.out)) | ((with_reducible refine gate_dst (N := 8) rfl ?_); refine wpList_load_row rfl 97 _ rfl ga rfl 97 _ (0, 0) _ HGA.out Try.underlying97 rfl (by kernel_rfl) ?_) | ((with_reducible refine gate_dst (N := 9) rfl ?_); refine wpList_load_row rfl 101 _ rfl gb rfl 101 _ (0, 0) _ Hb.out Try.underlying101 rfl (by kernel_rfl) ?_))
  refine (HWD.out Wb HB_Wb.out).mono ?_
  rintro e w2 ⟨A4, c4, A5, c5, rfl, hl4, hc4, hl5, hc5, hb⟩
  have HB2 := Aside0.mk (below_step HB_Wb.out hb)
  have HC4 := Aside0.mk hc4
  have HC5 := Aside0.mk hc5
  have HGA2 := Aside0.mk (blk_below HGA.out hb)
  have HGB2 := Aside0.mk (blk_below Hb.out hb)
  clear hb hc4 hc5
  cases q
  · replace HRR : Aside0 ((someP a.G v.x.f4 [] || (someP a.G v.x.f5 [] || someP a.G v.x.f3 [])) = r) := ⟨HRR.out⟩
    go_wp2_with (first | ((with_reducible refine gate_dst (N := 5) rfl ?_); refine boxN (w := w) rfl (N := 5) rfl (cs := #[.int .i64 0, .int .i64 0, .int .i64 0, .int .i64 0, .slice none 0 0, .slice none 0 0]) (t := 76) (by first | (go_simp; done) | (go_simp; rfl)) HB2 ?_; intro gd Wd Hd Lgd HB_Wd K_Wd) | (refine storeN (w := w) rfl 76 _ _ rfl gd #[.int .i64 y.f0, .int .i64 y.f1, .int .i64 y.f2, .int .i64 y.f3, .slice A4 y.f4.length c4, .slice A5 y.f5.length c5] rfl rfl 76 _ Hd (by kernel_rfl) rfl (by rw [← Array.all_toList]; rfl) HB_Wd Lgd K_Wd ?_; clear Hd; intro We Hd HB_We K_We; have He := Hd; have HGAe := Aside0.mk (blk_below HGA2.out K_We.out); have HGBe := Aside0.mk (blk_below HGB2.out K_We.out); have p3 : We.cell? ⟨gb, 3, none⟩ = some (.slice v.A3 v.x.f3.length v.c3) := (cell_in HGBe.out 3).trans rfl; have p4 : We.cell? ⟨gb, 4, none⟩ = some (.slice v.A4 v.x.f4.length v.c4) := (cell_in HGBe.out 4).trans rfl; have p5 : We.cell? ⟨gb, 5, none⟩ = some (.slice v.A5 v.x.f5.length v.c5) := (cell_in HGBe.out 5).trans rfl; have o4 : We.cell? ⟨gd, 4, none⟩ = some (.slice A4 y.f4.length c4) := cell_in He.out 4; have o5 : We.cell? ⟨gd, 5, none⟩ = some (.slice A5 y.f5.length c5) := cell_in He.out 5) | (refine storeN (w := w) rfl 76 _ _ rfl gd #[.int .i64 0, .int .i64 0, .int .i64 0, .int .i64 0, .slice none 0 0, .slice none 0 0] rfl rfl 76 _ He (by kernel_rfl) rfl (by rw [← Array.all_toList]; rfl) HB_We Lgd K_We ?_; clear He; intro Wg He HB_Wg K_Wg; have Hg := He; have HGAg := Aside0.mk (blk_below HGA2.out K_Wg.out); have HGBg := Aside0.mk (blk_below HGB2.out K_Wg.out); clear p3 p4 p5 o4 o5; have p3 : Wg.cell? ⟨gb, 3, none⟩ = some (.slice v.A3 v.x.f3.length v.c3) := (cell_in HGBg.out 3).trans rfl; have p4 : Wg.cell? ⟨gb, 4, none⟩ = some (.slice v.A4 v.x.f4.length v.c4) := (cell_in HGBg.out 4).trans rfl; have p5 : Wg.cell? ⟨gb, 5, none⟩ = some (.slice v.A5 v.x.f5.length v.c5) := (cell_in HGBg.out 5).trans rfl; have o4 : Wg.cell? ⟨gd, 4, none⟩ = some (.slice none 0 0) := cell_in Hg.out 4; have o5 : Wg.cell? ⟨gd, 5, none⟩ = some (.slice none 0 0) := cell_in Hg.out 5) | ((with_reducible refine gate_dst (N := 16) rfl ?_); refine wpList_load_row rfl 97 _ rfl ga rfl 97 _ (0, 0) _ HGAg.out Try.underlying97 rfl (by kernel_rfl) ?_))
    have HS1 := Aside0.mk (some_calls a v.A4 v.c4 v.x.f4 none 0 ([] : List Int) Wg (HA.out.below HB_Wg.out) (Kd.C_below HV.out.h4 HB_Wg.out) (Kd.C_nil _ _))
    rw [show (v.x.f4.any fun m => has_ a.G m && !has_ ([] : List Int) m) = someP a.G v.x.f4 ([] : List Int) from rfl] at HS1
    obtain ⟨r1, hr1⟩ : ∃ b, someP a.G v.x.f4 ([] : List Int) = b := ⟨_, rfl⟩
    rw [hr1] at HS1 HRR
    clear hr1
    refine HS1.out.mono ?_
    rintro e w3 ⟨rfl, hb⟩
    have HB3 := Aside0.mk (below_step HB_Wg.out hb)
    have K3 := Aside0.mk (below_step K_Wg.out hb)
    have HGA3 := Aside0.mk (blk_below HGA2.out K3.out)
    have HGB3 := Aside0.mk (blk_below HGB2.out K3.out)
    have HY3 := Aside0.mk (blk_below Hg.out hb)
    have t3 : w3.cell? ⟨gb, 3, none⟩ = some (.slice v.A3 v.x.f3.length v.c3) := (cell_in HGB3.out 3).trans rfl; have t4 : w3.cell? ⟨gb, 4, none⟩ = some (.slice v.A4 v.x.f4.length v.c4) := (cell_in HGB3.out 4).trans rfl; have t5 : w3.cell? ⟨gb, 5, none⟩ = some (.slice v.A5 v.x.f5.length v.c5) := (cell_in HGB3.out 5).trans rfl
    have u4 : w3.cell? ⟨gd, 4, none⟩ = some (.slice none 0 0) := cell_in HY3.out 4; have u5 : w3.cell? ⟨gd, 5, none⟩ = some (.slice none 0 0) := cell_in HY3.out 5
    clear hb HS1
    cases r1
    rotate_left
    · obtain rfl : true = r := HRR.out
      go_wp2_with fail
      go_ret
      exact ⟨rfl, HB3.out⟩
    replace HRR : Aside0 ((someP a.G v.x.f5 ([] : List Int) || someP a.G v.x.f3 ([] : List Int)) = r) := ⟨HRR.out⟩
    go_wp2_with (first | ((with_reducible refine gate_dst (N := 23) rfl ?_); refine gate_guard (by rfl) ?_; dsimp only; refine wpList_load_row rfl 97 _ rfl ga rfl 97 _ (0, 0) _ HGA3.out Try.underlying97 rfl (by kernel_rfl) ?_))
    have HS1 := Aside0.mk (some_calls a v.A5 v.c5 v.x.f5 none 0 ([] : List Int) w3 (HA.out.below HB3.out) (Kd.C_below HV.out.h5 HB3.out) (Kd.C_nil _ _))
    rw [show (v.x.f5.any fun m => has_ a.G m && !has_ ([] : List Int) m) = someP a.G v.x.f5 ([] : List Int) from rfl] at HS1
    obtain ⟨r1, hr1⟩ : ∃ b, someP a.G v.x.f5 ([] : List Int) = b := ⟨_, rfl⟩
    rw [hr1] at HS1 HRR
    clear hr1 t3 t4 t5 u4 u5
    refine HS1.out.mono ?_
    rintro e w4 ⟨rfl, hb⟩
    have HB4 := Aside0.mk (below_step HB3.out hb)
    have K4 := Aside0.mk (below_step K3.out hb)
    have HGA4 := Aside0.mk (blk_below HGA3.out hb)
    have HGB4 := Aside0.mk (blk_below HGB3.out hb)
    have HY4 := Aside0.mk (blk_below HY3.out hb)
    have t3 : w4.cell? ⟨gb, 3, none⟩ = some (.slice v.A3 v.x.f3.length v.c3) := (cell_in HGB4.out 3).trans rfl; have t4 : w4.cell? ⟨gb, 4, none⟩ = some (.slice v.A4 v.x.f4.length v.c4) := (cell_in HGB4.out 4).trans rfl; have t5 : w4.cell? ⟨gb, 5, none⟩ = some (.slice v.A5 v.x.f5.length v.c5) := (cell_in HGB4.out 5).trans rfl
    have u4 : w4.cell? ⟨gd, 4, none⟩ = some (.slice none 0 0) := cell_in HY4.out 4; have u5 : w4.cell? ⟨gd, 5, none⟩ = some (.slice none 0 0) := cell_in HY4.out 5
    clear hb HS1
    cases r1
    rotate_left
    · obtain rfl : true = r := HRR.out
      go_wp2_with fail
      go_ret
      exact ⟨rfl, HB4.out⟩
    replace HRR : Aside0 (someP a.G v.x.f3 ([] : List Int) = r) := ⟨HRR.out⟩
    go_wp2_with (first | ((with_reducible refine gate_dst (N := 31) rfl ?_); refine gate_guard (by rfl) ?_; dsimp only; refine wpList_load_row rfl 97 _ rfl ga rfl 97 _ (0, 0) _ HGA4.out Try.underlying97 rfl (by kernel_rfl) ?_))
    have HS1 := Aside0.mk (some_calls a v.A3 v.c3 v.x.f3 none 0 ([] : List Int) w4 (HA.out.below HB4.out) (Kd.C_below HV.out.h3 HB4.out) (Kd.C_nil _ _))
    rw [show (v.x.f3.any fun m => has_ a.G m && !has_ ([] : List Int) m) = someP a.G v.x.f3 ([] : List Int) from rfl, HRR.out] at HS1
    refine HS1.out.mono ?_
    rintro e w5 ⟨rfl, hb⟩
    have HB5 := Aside0.mk (below_step HB4.out hb)
    clear hb HS1
    go_wp2_with fail
    go_ret
    exact ⟨rfl, HB5.out⟩
  · replace HRR : Aside0 ((someP a.G v.x.f4 y.f5 || (someP a.G v.x.f5 y.f5 || someP a.G v.x.f3 y.f4)) = r) := ⟨HRR.out⟩
    go_wp2_with (first | ((with_reducible refine gate_dst (N := 5) rfl ?_); refine boxN (w := w) rfl (N := 5) rfl (cs := #[.int .i64 0, .int .i64 0, .int .i64 0, .int .i64 0, .slice none 0 0, .slice none 0 0]) (t := 76) (by first | (go_simp; done) | (go_simp; rfl)) HB2 ?_; intro gd Wd Hd Lgd HB_Wd K_Wd) | (refine storeN (w := w) rfl 76 _ _ rfl gd #[.int .i64 y.f0, .int .i64 y.f1, .int .i64 y.f2, .int .i64 y.f3, .slice A4 y.f4.length c4, .slice A5 y.f5.length c5] rfl rfl 76 _ Hd (by kernel_rfl) rfl (by rw [← Array.all_toList]; rfl) HB_Wd Lgd K_Wd ?_; clear Hd; intro We Hd HB_We K_We; have He := Hd; have HGAe := Aside0.mk (blk_below HGA2.out K_We.out); have HGBe := Aside0.mk (blk_below HGB2.out K_We.out); have p3 : We.cell? ⟨gb, 3, none⟩ = some (.slice v.A3 v.x.f3.length v.c3) := (cell_in HGBe.out 3).trans rfl; have p4 : We.cell? ⟨gb, 4, none⟩ = some (.slice v.A4 v.x.f4.length v.c4) := (cell_in HGBe.out 4).trans rfl; have p5 : We.cell? ⟨gb, 5, none⟩ = some (.slice v.A5 v.x.f5.length v.c5) := (cell_in HGBe.out 5).trans rfl; have o4 : We.cell? ⟨gd, 4, none⟩ = some (.slice A4 y.f4.length c4) := cell_in He.out 4; have o5 : We.cell? ⟨gd, 5, none⟩ = some (.slice A5 y.f5.length c5) := cell_in He.out 5) | ((with_reducible refine gate_dst (N := 16) rfl ?_); refine wpList_load_row rfl 97 _ rfl ga rfl 97 _ (0, 0) _ HGAe.out Try.underlying97 rfl (by kernel_rfl) ?_))
    have HS1 := Aside0.mk (some_calls a v.A4 v.c4 v.x.f4 A5 c5 y.f5 We (HA.out.below HB_We.out) (Kd.C_below HV.out.h4 HB_We.out) (Kd.C_below HC5.out K_We.out))
    rw [show (v.x.f4.any fun m => has_ a.G m && !has_ y.f5 m) = someP a.G v.x.f4 y.f5 from rfl] at HS1
    obtain ⟨r1, hr1⟩ : ∃ b, someP a.G v.x.f4 y.f5 = b := ⟨_, rfl⟩
    rw [hr1] at HS1 HRR
    clear hr1
    refine HS1.out.mono ?_
    rintro e w3 ⟨rfl, hb⟩
    have HB3 := Aside0.mk (below_step HB_We.out hb)
    have K3 := Aside0.mk (below_step K_We.out hb)
    have HGA3 := Aside0.mk (blk_below HGA2.out K3.out)
    have HGB3 := Aside0.mk (blk_below HGB2.out K3.out)
    have HY3 := Aside0.mk (blk_below He.out hb)
    have t3 : w3.cell? ⟨gb, 3, none⟩ = some (.slice v.A3 v.x.f3.length v.c3) := (cell_in HGB3.out 3).trans rfl; have t4 : w3.cell? ⟨gb, 4, none⟩ = some (.slice v.A4 v.x.f4.length v.c4) := (cell_in HGB3.out 4).trans rfl; have t5 : w3.cell? ⟨gb, 5, none⟩ = some (.slice v.A5 v.x.f5.length v.c5) := (cell_in HGB3.out 5).trans rfl
    have u4 : w3.cell? ⟨gd, 4, none⟩ = some (.slice A4 y.f4.length c4) := cell_in HY3.out 4; have u5 : w3.cell? ⟨gd, 5, none⟩ = some (.slice A5 y.f5.length c5) := cell_in HY3.out 5
    clear hb HS1
    cases r1
    rotate_left
    · obtain rfl : true = r := HRR.out
      go_wp2_with fail
      go_ret
      exact ⟨rfl, HB3.out⟩
    replace HRR : Aside0 ((someP a.G v.x.f5 y.f5 || someP a.G v.x.f3 y.f4) = r) := ⟨HRR.out⟩
    go_wp2_with (first | ((with_reducible refine gate_dst (N := 23) rfl ?_); refine gate_guard (by rfl) ?_; dsimp only; refine wpList_load_row rfl 97 _ rfl ga rfl 97 _ (0, 0) _ HGA3.out Try.underlying97 rfl (by kernel_rfl) ?_))
    have HS1 := Aside0.mk (some_calls a v.A5 v.c5 v.x.f5 A5 c5 y.f5 w3 (HA.out.below HB3.out) (Kd.C_below HV.out.h5 HB3.out) (Kd.C_below HC5.out K3.out))
    rw [show (v.x.f5.any fun m => has_ a.G m && !has_ y.f5 m) = someP a.G v.x.f5 y.f5 from rfl] at HS1
    obtain ⟨r1, hr1⟩ : ∃ b, someP a.G v.x.f5 y.f5 = b := ⟨_, rfl⟩
    rw [hr1] at HS1 HRR
    clear hr1 t3 t4 t5 u4 u5
    refine HS1.out.mono ?_
    rintro e w4 ⟨rfl, hb⟩
    have HB4 := Aside0.mk (below_step HB3.out hb)
    have K4 := Aside0.mk (below_step K3.out hb)
    have HGA4 := Aside0.mk (blk_below HGA3.out hb)
    have HGB4 := Aside0.mk (blk_below HGB3.out hb)
    have HY4 := Aside0.mk (blk_below HY3.out hb)
    have t3 : w4.cell? ⟨gb, 3, none⟩ = some (.slice v.A3 v.x.f3.length v.c3) := (cell_in HGB4.out 3).trans rfl; have t4 : w4.cell? ⟨gb, 4, none⟩ = some (.slice v.A4 v.x.f4.length v.c4) := (cell_in HGB4.out 4).trans rfl; have t5 : w4.cell? ⟨gb, 5, none⟩ = some (.slice v.A5 v.x.f5.length v.c5) := (cell_in HGB4.out 5).trans rfl
    have u4 : w4.cell? ⟨gd, 4, none⟩ = some (.slice A4 y.f4.length c4) := cell_in HY4.out 4; have u5 : w4.cell? ⟨gd, 5, none⟩ = some (.slice A5 y.f5.length c5) := cell_in HY4.out 5
    clear hb HS1
    cases r1
    rotate_left
    · obtain rfl : true = r := HRR.out
      go_wp2_with fail
      go_ret
      exact ⟨rfl, HB4.out⟩
    replace HRR : Aside0 (someP a.G v.x.f3 y.f4 = r) := ⟨HRR.out⟩
    go_wp2_with (first | ((with_reducible refine gate_dst (N := 31) rfl ?_); refine gate_guard (by rfl) ?_; dsimp only; refine wpList_load_row rfl 97 _ rfl ga rfl 97 _ (0, 0) _ HGA4.out Try.underlying97 rfl (by kernel_rfl) ?_))
    have HS1 := Aside0.mk (some_calls a v.A3 v.c3 v.x.f3 A4 c4 y.f4 w4 (HA.out.below HB4.out) (Kd.C_below HV.out.h3 HB4.out) (Kd.C_below HC4.out K4.out))
    rw [show (v.x.f3.any fun m => has_ a.G m && !has_ y.f4 m) = someP a.G v.x.f3 y.f4 from rfl, HRR.out] at HS1
    refine HS1.out.mono ?_
    rintro e w5 ⟨rfl, hb⟩
    have HB5 := Aside0.mk (below_step HB4.out hb)
    clear hb HS1
    go_wp2_with fail
    go_ret
    exact ⟨rfl, HB5.out⟩
/-- Did two good modules send? -/
def twiceP (G : List Int) (x : S101) : Bool := decide (1 < ((x.f3.filter (has_ G)).length : Int))
set_option maxHeartbeats 2000000 in
theorem twice_calls (a : AudV) (v : WinV) (w : World) (ha : a.ok w) (hv : v.ok w) :
    Calls Try.prog 41 #[.agg a.arr, .agg v.arr] w fun e w' => e = .returned (.bool (twiceP a.G v.x)) ∧ Below w.heap.size w w' := by
  have HA := Aside0.mk ha
  have HV := Aside0.mk hv
  have HB : Aside0 (Below w.heap.size w w) := ⟨Below.refl _ _⟩
  have hn63 : v.x.f3.length ≤ 9223372036854775807 := hv.h3.2.1
  obtain ⟨S, hS⟩ : ∃ S, v.x.f3 = S := ⟨_, rfl⟩
  have HSS := Aside0.mk hS
  have HS := Aside0.mk hv.h3
  rw [hS] at hn63 HS
  unfold twiceP
  rw [hS]
  obtain ⟨N, hN⟩ : ∃ N, (S.filter (has_ a.G)).length = N := ⟨_, rfl⟩
  rw [hN]
  have HN := Aside0.mk hN
  clear ha hv hS hN
  go_enter Try.func41, Try.ntmps41
  go_wp2_with (first | ((with_reducible refine gate_dst (N := 2) rfl ?_); refine boxN (w := w) rfl (N := 2) rfl (cs := a.arr) (t := 97) (by first | (go_simp; done) | (go_simp; rfl)) HB ?_; intro ga Wa Ha Lga HB_Wa K_Wa) | ((with_reducible refine gate_dst (N := 3) rfl ?_); refine boxN (w := w) rfl (N := 3) rfl (cs := v.arr) (t := 101) (by first | (go_simp; done) | (go_simp; rfl)) HB_Wa ?_; intro gb Wb Hb Lgb HB_Wb K_Wb; have HGA := Aside0.mk (blk_below Ha.out K_Wb.out); have t3 : Wb.cell? ⟨gb, 3, none⟩ = some (.slice v.A3 S.length v.c3) := (cell_in Hb.out 3).trans (by rw [← HSS.out]; rfl)))
  go_loopw [5, 7, 11] (fun v5 _ v11 wr => ∃ i n : Nat, i ≤ S.length ∧ v11 = .int .i64 (i : Int) ∧ v5 = .int .i64 (n : Int) ∧ n ≤ i ∧ Aside0 (((S.take i).filter (has_ a.G)).length = n) ∧ wr.heap[ga]? = some (.cells a.arr 97 (0, 0)) ∧ Below w.heap.size w wr) (fun _ _ v11 _ => ((S.length : Int) - intOf v11).toNat)
  case atStart => exact ⟨0, 0, Nat.zero_le _, rfl, rfl, Nat.le_refl _, ⟨rfl⟩, HGA.out, HB_Wb.out⟩
  case round =>
    clear HGA HB_Wa HB_Wb K_Wa K_Wb Ha Hb t3
    obtain ⟨i, n, hi, rfl, rfl, hni, HNN, hga, hb⟩ := hrel
    have HGA := Aside0.mk hga
    have HBr := Aside0.mk hb
    clear hga hb
    by_cases hlt : i < S.length
    · have m1 : decide ((i : Int) < (S.length : Int)) = true := decide_eq_true (by omega)
      have m2 : decide (i < S.length) = true := decide_eq_true hlt
      have q1 : (0 ≤ (i : Int)) = True := eq_true (by omega)
      have q2 : ((i : Int) < (S.length : Int)) = True := eq_true (by omega)
      have q3 : (i < S.length) = True := eq_true hlt
      obtain ⟨x, hx⟩ : ∃ x, S[i] = x := ⟨_, rfl⟩
      obtain ⟨ad, hA, x0⟩ := int_at (Kd.C_below HS.out HBr.out) hlt hlt hx
      have hft : (S.take (i + 1)).filter (has_ a.G) = if has_ a.G x = true then (S.take i).filter (has_ a.G) ++ [x] else (S.take i).filter (has_ a.G) := by
        rw [List.take_succ_eq_append_getElem hlt, List.filter_append, hx]
        by_cases h : has_ a.G x = true
        · rw [if_pos h, List.filter_cons_of_pos h]; rfl
        · rw [if_neg h, List.filter_cons_of_neg h, List.filter_nil, List.append_nil]
      have HFT := Aside0.mk hft
      have HI := Aside0.mk (is_calls a x wr (HA.out.below HBr.out))
      clear hx hft
      rw [hA]
      rw [hA] at HS
      clear hA
      go_wp2_with (first | ((with_reducible refine gate_dst (N := 15) rfl ?_); refine wpList_load_row rfl 97 _ rfl ga rfl 97 _ (0, 0) _ HGA.out Try.underlying97 rfl (by kernel_rfl) ?_))
      obtain ⟨g, hg⟩ : ∃ g, has_ a.G x = g := ⟨_, rfl⟩
      rw [hg] at HI HFT
      clear hg
      refine HI.out.mono ?_
      rintro e w2 ⟨rfl, hb⟩
      have HB2 := Aside0.mk (below_step HBr.out hb)
      have HGA2 := Aside0.mk (blk_below HGA.out hb)
      clear hb
      cases g
      · go_wp2_with fail
        exact ⟨⟨i + 1, n, by omega, by rw [Int.natCast_add]; rfl, rfl, by omega, ⟨by rw [HFT.out, if_neg (by decide)]; exact HNN.out⟩, HGA2.out, HB2.out⟩, by simp [intOf]; omega⟩
      · go_wp2_with fail
        exact ⟨⟨i + 1, n + 1, by omega, by rw [Int.natCast_add]; rfl, by rw [Int.natCast_add]; rfl, by omega, ⟨by rw [HFT.out, if_pos trivial, List.length_append, HNN.out]; rfl⟩, HGA2.out, HB2.out⟩, by simp [intOf]; omega⟩
    · have m1 : decide ((i : Int) < (S.length : Int)) = false := decide_eq_false (by omega)
      have m2 : decide (i < S.length) = false := decide_eq_false hlt
      obtain rfl : n = N := by rw [← HNN.out, ← HN.out, List.take_of_length_le (by omega)]
      clear hlt
      go_wp2_with fail
      go_ret
      exact ⟨rfl, HBr.out⟩
end Go.Proofs.Ytekbaconbemgpaa.PWe
