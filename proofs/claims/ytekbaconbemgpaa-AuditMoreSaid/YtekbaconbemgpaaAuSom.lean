/- Who is good, who of some is good, whether all agree: walks. Helper text. -/
import Derived.Test.YtekbaconbemgpaaAuFun
namespace Go.Proofs.Ytekbaconbemgpaa.PWe
open Go.RowKit Go.Proofs.Ytekbaconbemgpaa.Kx Go.Proofs.YtekbaconbemgpaaW.PrintWords Go.Proofs.YtekbaconbemgpaaW.PrintLast Go.Proofs.YtekbaconbemgpaaW.PrintMore
set_option linter.unusedVariables false
set_option linter.unusedSimpArgs false

/-- An auditor, as it lies. -/
structure AudV where
  md : Int
  A0 : Option Addr
  c0 : Nat
  l0 : List S76
  A1 : Option Addr
  c1 : Nat
  l1 : List S76
  AL : Option Addr
  cL : Nat
  L : List S95
  AG : Option Addr
  cG : Nat
  G : List Int
def AudV.arr (a : AudV) : Array Value := #[.int .i64 a.md, .slice a.A0 a.l0.length a.c0, .slice a.A1 a.l1.length a.c1, .slice a.AL a.L.length a.cL, .slice a.AG a.G.length a.cG]
structure AudV.ok (a : AudV) (w : World) : Prop where
  h0 : Kd.C k76 w a.A0 a.l0.length a.l0
  h1 : Kd.C k76 w a.A1 a.l1.length a.l1
  hL : Kd.C k95 w a.AL a.L.length a.L
  hG : Kd.C (Kd.int .i64) w a.AG a.G.length a.G
  k0 : a.l0.length ≤ a.c0
  k1 : a.l1.length ≤ a.c1
  kL : a.L.length ≤ a.cL
  kG : a.G.length ≤ a.cG
theorem AudV.ok.below {a : AudV} {w W : World} (h : a.ok w) (hb : Below w.heap.size w W) : a.ok W := ⟨Kd.C_below h.h0 hb, Kd.C_below h.h1 hb, Kd.C_below h.hL hb, Kd.C_below h.hG hb, h.k0, h.k1, h.kL, h.kG⟩
/-- A window that was noted, as it lies. -/
structure WinV where
  x : S101
  A3 : Option Addr
  c3 : Nat
  A4 : Option Addr
  c4 : Nat
  A5 : Option Addr
  c5 : Nat
  A7 : Option Addr
  c7 : Nat
def WinV.arr (v : WinV) : Array Value := #[.int .i64 v.x.f0, .int .i64 v.x.f1, .int .i64 v.x.f2, .slice v.A3 v.x.f3.length v.c3, .slice v.A4 v.x.f4.length v.c4, .slice v.A5 v.x.f5.length v.c5, .int .i64 v.x.f6, .slice v.A7 v.x.f7.length v.c7]
structure WinV.ok (v : WinV) (w : World) : Prop where
  h3 : Kd.C (Kd.int .i64) w v.A3 v.x.f3.length v.x.f3
  h4 : Kd.C (Kd.int .i64) w v.A4 v.x.f4.length v.x.f4
  h5 : Kd.C (Kd.int .i64) w v.A5 v.x.f5.length v.x.f5
  k3 : v.x.f3.length ≤ v.c3
  k4 : v.x.f4.length ≤ v.c4
  k5 : v.x.f5.length ≤ v.c5
theorem WinV.ok.below {v : WinV} {w W : World} (h : v.ok w) (hb : Below w.heap.size w W) : v.ok W := ⟨Kd.C_below h.h3 hb, Kd.C_below h.h4 hb, Kd.C_below h.h5 hb, h.k3, h.k4, h.k5⟩

set_option maxHeartbeats 1000000 in
theorem is_calls (a : AudV) (m : Int) (w : World) (ha : a.ok w) : Calls Try.prog 69 #[.agg a.arr, .int .i64 m] w fun e w' => e = .returned (.bool (has_ a.G m)) ∧ Below w.heap.size w w' := by
  obtain ⟨md, A0, c0, l0, A1, c1, l1, AL, cL, L, AG, cG, G⟩ := a
  have HA := Aside0.mk ha
  have HB : Aside0 (Below w.heap.size w w) := ⟨Below.refl _ _⟩
  unfold AudV.arr
  dsimp only
  have HC := Aside0.mk (fun W (hb : Below w.heap.size w W) => contains_calls AG cG G m W (Kd.C_below ha.hG hb))
  obtain ⟨b, hb⟩ : ∃ b, has_ G m = b := ⟨_, rfl⟩
  rw [hb] at HC ⊢
  clear ha hb
  go_enter Try.func69, Try.ntmps69
  go_wp2_with (first | ((with_reducible refine gate_dst (N := 2) rfl ?_); refine boxN (w := w) rfl (N := 2) rfl (cs := #[.int .i64 md, .slice A0 l0.length c0, .slice A1 l1.length c1, .slice AL L.length cL, .slice AG G.length cG]) (t := 97) (by first | (go_simp; done) | (go_simp; rfl)) HB ?_; intro ga Wa Ha Lga HB_Wa K_Wa; have y0 : Wa.cell? ⟨ga, 4, none⟩ = some (.slice AG G.length cG) := cell_in Ha.out 4))
  refine (HC.out _ HB_Wa.out).mono ?_
  rintro e w' ⟨rfl, rfl⟩
  go_wp2_with fail
  go_ret
  exact ⟨rfl, HB_Wa.out⟩
set_option maxHeartbeats 1000000 in
theorem some1_calls (a : AudV) (AB : Option Addr) (cB : Nat) (B : List Int) (m : Int) (ga gb : Nat) (w : World) (ha : a.ok w) (hB : Kd.C (Kd.int .i64) w AB B.length B) (hga : w.heap[ga]? = some (.cells a.arr 97 (0, 0))) (hgb : w.heap[gb]? = some (.cells #[.slice AB B.length cB] 42 (0, 0))) :
    Calls Try.prog 80 #[.int .i64 m, .pointer (some ⟨ga, 0, none⟩), .pointer (some ⟨gb, 0, none⟩)] w fun e w' => e = .returned (.bool (has_ a.G m && !has_ B m)) ∧ Below w.heap.size w w' := by
  obtain ⟨g, hg⟩ : ∃ b, has_ a.G m = b := ⟨_, rfl⟩
  obtain ⟨h, hh⟩ : ∃ b, has_ B m = b := ⟨_, rfl⟩
  have HI := Aside0.mk (is_calls a m w ha)
  have HC := fun W hb => contains_calls AB cB B m W (Kd.C_below hB hb)
  rw [hg] at HI
  rw [hh] at HC
  have HCC := Aside0.mk HC
  have HGA := Aside0.mk hga
  have HGB := Aside0.mk hgb
  rw [hg, hh]
  clear hg hh HC ha hB hga hgb
  go_enter Try.func80, Try.ntmps80
  go_wp2_with (first | ((with_reducible refine gate_dst (N := 5) rfl ?_); refine wpList_load_row rfl 97 _ rfl ga rfl 97 _ (0, 0) _ HGA.out Try.underlying97 rfl (by kernel_rfl) ?_))
  refine HI.out.mono ?_
  rintro e w2 ⟨rfl, hb2⟩
  have HB2 := Aside0.mk hb2
  have y0 : w2.cell? ⟨gb, 0, none⟩ = some (.slice AB B.length cB) := cell_in (blk_below HGB.out hb2) 0
  clear hb2
  cases g
  · go_wp2_with fail
    go_ret
    exact ⟨rfl, HB2.out⟩
  · go_wp2_with fail
    refine (HCC.out w2 HB2.out).mono ?_
    rintro e w3 ⟨rfl, rfl⟩
    go_wp2_with fail
    go_ret
    exact ⟨rfl, HB2.out⟩
set_option maxHeartbeats 1000000 in
theorem some_calls (a : AudV) (A : Option Addr) (c : Nat) (l : List Int) (AB : Option Addr) (cB : Nat) (B : List Int) (w : World) (ha : a.ok w) (hl : Kd.C (Kd.int .i64) w A l.length l) (hB : Kd.C (Kd.int .i64) w AB B.length B) :
    Calls Try.prog 68 #[.agg a.arr, .slice A l.length c, .slice AB B.length cB] w fun e w' => e = .returned (.bool (l.any fun m => has_ a.G m && !has_ B m)) ∧ Below w.heap.size w w' := by
  have HA := Aside0.mk ha
  have HL := Aside0.mk hl
  have HBB := Aside0.mk hB
  have HB : Aside0 (Below w.heap.size w w) := ⟨Below.refl _ _⟩
  obtain ⟨r, hr⟩ : ∃ b, (l.any fun m => has_ a.G m && !has_ B m) = b := ⟨_, rfl⟩
  rw [hr]
  have HRR := Aside0.mk hr
  clear ha hl hB hr
  go_enter Try.func68, Try.ntmps68
  go_wp2_with (first | ((with_reducible refine gate_dst (N := 3) rfl ?_); refine boxN (w := w) rfl (N := 3) rfl (cs := a.arr) (t := 97) (by first | (go_simp; done) | (go_simp; rfl)) HB ?_; intro ga Wa Ha Lga HB_Wa K_Wa) | ((with_reducible refine gate_dst (N := 5) rfl ?_); refine boxN (w := w) rfl (N := 5) rfl (cs := #[.slice AB B.length cB]) (t := 42) (by first | (go_simp; done) | (go_simp; rfl)) HB_Wa ?_; intro gb Wb Hb Lgb HB_Wb K_Wb))
  refine (containsf_int (f := 80) (caps := #[.pointer (some ⟨ga, 0, none⟩), .pointer (some ⟨gb, 0, none⟩)]) Try.func80 rfl rfl (fun m => has_ a.G m && !has_ B m) A c l Wb (Kd.C_below HL.out HB_Wb.out) (fun m => #[.int .i64 m, .pointer (some ⟨ga, 0, none⟩), .pointer (some ⟨gb, 0, none⟩)]) (fun _ => by simp) (fun m _ W hb => some1_calls a AB cB B m ga gb W (HA.out.below (below_step HB_Wb.out hb)) (Kd.C_below HBB.out (below_step HB_Wb.out hb)) (blk_below Ha.out (below_step K_Wb.out hb)) (blk_below Hb.out hb))).mono ?_
  rintro e w' ⟨rfl, hb⟩
  have HB3 := Aside0.mk (below_step HB_Wb.out hb)
  rw [HRR.out]
  clear hb
  go_wp2_with fail
  go_ret
  exact ⟨rfl, HB3.out⟩
set_option maxHeartbeats 1000000 in
theorem agr11_calls (A : Option Addr) (c : Nat) (l : List Int) (m : Int) (g : Nat) (w : World) (hl : Kd.C (Kd.int .i64) w A l.length l) (hg : w.heap[g]? = some (.cells #[.slice A l.length c] 42 (0, 0))) :
    Calls Try.prog 59 #[.int .i64 m, .pointer (some ⟨g, 0, none⟩)] w fun e w' => e = .returned (.bool (has_ l m)) ∧ Below w.heap.size w w' := by
  have HC := Aside0.mk (contains_calls A c l m w hl)
  have y0 : w.cell? ⟨g, 0, none⟩ = some (.slice A l.length c) := cell_in hg 0
  obtain ⟨r, hr⟩ : ∃ b, has_ l m = b := ⟨_, rfl⟩
  rw [hr] at HC ⊢
  clear hl hg hr
  go_enter Try.func59, Try.ntmps59
  go_wp2_with fail
  refine HC.out.mono ?_
  rintro e w2 ⟨rfl, rfl⟩
  go_wp2_with fail
  go_ret
  exact ⟨rfl, Below.refl _ _⟩
set_option maxHeartbeats 1000000 in
theorem agr1_calls (A : Option Addr) (c : Nat) (l : List Int) (AG : Option Addr) (cG : Nat) (G : List Int) (g : Nat) (w : World) (hl : Kd.C (Kd.int .i64) w A l.length l) (hG : Kd.C (Kd.int .i64) w AG G.length G) (hg : w.heap[g]? = some (.cells #[.slice AG G.length cG] 42 (0, 0))) :
    Calls Try.prog 57 #[.slice A l.length c, .pointer (some ⟨g, 0, none⟩)] w fun e w' => e = .returned (.bool (G.any (has_ l))) ∧ Below w.heap.size w w' := by
  have HL := Aside0.mk hl
  have HG := Aside0.mk hG
  have HBG := Aside0.mk hg
  have HB : Aside0 (Below w.heap.size w w) := ⟨Below.refl _ _⟩
  obtain ⟨r, hr⟩ : ∃ b, G.any (has_ l) = b := ⟨_, rfl⟩
  rw [hr]
  have HRR := Aside0.mk hr
  clear hl hG hg hr
  go_enter Try.func57, Try.ntmps57
  go_wp2_with (first | ((with_reducible refine gate_dst (N := 2) rfl ?_); refine boxN (w := w) rfl (N := 2) rfl (cs := #[.slice A l.length c]) (t := 42) (by first | (go_simp; done) | (go_simp; rfl)) HB ?_; intro ga Wa Ha Lga HB_Wa K_Wa; have y0 : Wa.cell? ⟨g, 0, none⟩ = some (.slice AG G.length cG) := cell_in (blk_below HBG.out K_Wa.out) 0))
  refine (containsf_int (f := 59) (caps := #[.pointer (some ⟨ga, 0, none⟩)]) Try.func59 rfl rfl (has_ l) AG cG G Wa (Kd.C_below HG.out HB_Wa.out) (fun m => #[.int .i64 m, .pointer (some ⟨ga, 0, none⟩)]) (fun _ => by simp) (fun m _ W hb => agr11_calls A c l m ga W (Kd.C_below HL.out (below_step HB_Wa.out hb)) (blk_below Ha.out hb))).mono ?_
  rintro e w2 ⟨rfl, hb⟩
  have HB2 := Aside0.mk (below_step HB_Wa.out hb)
  rw [HRR.out]
  clear hb
  go_wp2_with fail
  go_ret
  exact ⟨rfl, HB2.out⟩
/-- Do all that noted it, of some modules, take it, or none? -/
def agreedP (x : S101) (G : List Int) : Bool := !(G.any (has_ x.f4)) || !(G.any (has_ x.f5))
set_option maxHeartbeats 1000000 in
theorem agreed_calls (v : WinV) (AG : Option Addr) (cG : Nat) (G : List Int) (w : World) (hv : v.ok w) (hG : Kd.C (Kd.int .i64) w AG G.length G) :
    Calls Try.prog 37 #[.agg v.arr, .slice AG G.length cG] w fun e w' => e = .returned (.bool (agreedP v.x G)) ∧ Below w.heap.size w w' := by
  obtain ⟨x, A3, c3, A4, c4, A5, c5, A7, c7⟩ := v
  have HV := Aside0.mk hv
  have HG := Aside0.mk hG
  have HB : Aside0 (Below w.heap.size w w) := ⟨Below.refl _ _⟩
  clear hv hG
  unfold WinV.arr agreedP
  dsimp only
  obtain ⟨r, hr⟩ : ∃ b, G.any (has_ x.f4) = b := ⟨_, rfl⟩
  obtain ⟨q, hq⟩ : ∃ b, G.any (has_ x.f5) = b := ⟨_, rfl⟩
  rw [hr, hq]
  have HRR := Aside0.mk hr
  have HQQ := Aside0.mk hq
  clear hr hq
  go_enter Try.func37, Try.ntmps37
  go_wp2_with (first | ((with_reducible refine gate_dst (N := 2) rfl ?_); refine boxN (w := w) rfl (N := 2) rfl (cs := #[.int .i64 x.f0, .int .i64 x.f1, .int .i64 x.f2, .slice A3 x.f3.length c3, .slice A4 x.f4.length c4, .slice A5 x.f5.length c5, .int .i64 x.f6, .slice A7 x.f7.length c7]) (t := 101) (by first | (go_simp; done) | (go_simp; rfl)) HB ?_; intro ga Wa Ha Lga HB_Wa K_Wa) | ((with_reducible refine gate_dst (N := 3) rfl ?_); refine boxN (w := w) rfl (N := 3) rfl (cs := #[.slice AG G.length cG]) (t := 42) (by first | (go_simp; done) | (go_simp; rfl)) HB_Wa ?_; intro gb Wb Hb Lgb HB_Wb K_Wb; have y4 : Wb.cell? ⟨ga, 4, none⟩ = some (.slice A4 x.f4.length c4) := cell_in (blk_below Ha.out K_Wb.out) 4))
  refine (agr1_calls A4 c4 x.f4 AG cG G gb Wb (Kd.C_below HV.out.h4 HB_Wb.out) (Kd.C_below HG.out HB_Wb.out) Hb.out).mono ?_
  rintro e w2 ⟨rfl, hb⟩
  have HB2 := Aside0.mk (below_step HB_Wb.out hb)
  have H2 := Aside0.mk (blk_below Ha.out (below_step K_Wb.out hb))
  have H3 := Aside0.mk (blk_below Hb.out hb)
  have y5 : w2.cell? ⟨ga, 5, none⟩ = some (.slice A5 x.f5.length c5) := cell_in H2.out 5
  rw [HRR.out]
  clear hb y4 HRR
  cases r
  · go_wp2_with fail
    go_ret
    exact ⟨rfl, HB2.out⟩
  · go_wp2_with fail
    refine (agr1_calls A5 c5 x.f5 AG cG G gb w2 (Kd.C_below HV.out.h5 HB2.out) (Kd.C_below HG.out HB2.out) H3.out).mono ?_
    rintro e w3 ⟨rfl, hb⟩
    have HB3 := Aside0.mk (below_step HB2.out hb)
    rw [HQQ.out]
    clear hb
    go_wp2_with fail
    go_ret
    exact ⟨rfl, HB3.out⟩
end Go.Proofs.Ytekbaconbemgpaa.PWe
