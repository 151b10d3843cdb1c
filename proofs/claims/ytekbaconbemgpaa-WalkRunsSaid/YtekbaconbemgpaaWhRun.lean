/- walk.Run and one: their walks. Helper text. -/
import Derived.Test.YtekbaconbemgpaaWhSpans
import Derived.Test.YtekbaconbemgpaaWkPlain
import Derived.Test.YtekbaconbemgpaaWkPut
namespace Go.Proofs.Ytekbaconbemgpaa.PWe
open Go.RowKit Go.Proofs.Ytekbaconbemgpaa.Kx Go.Proofs.YtekbaconbemgpaaW.PrintWords Go.Proofs.YtekbaconbemgpaaW.PrintLast Go.Proofs.YtekbaconbemgpaaW.PrintMore
set_option linter.unusedVariables false
set_option linter.unusedSimpArgs false
def RunOK (md v : Int) (l : List S76) (e : Int) : Prop := (e = 0 ∧ (0 ≤ v ∧ v < 2) ∧ (0 ≤ md ∧ md < 16) ∧ l.length ≤ 32 ∧ ∀ x ∈ l, GoodW md x) ∨ e ≠ 0

set_option maxHeartbeats 4000000 in
set_option maxRecDepth 100000 in
theorem run_calls (md e0 e1 : Int) (A : Option Addr) (c : Nat) (code : List Int) (v : Int) (l : List S76) (e : Int) (w : World) (hr : Kd.C (Kd.int .u8) w A code.length code) (hc : code.length ≤ c) (hw : walk_Windows.f md e0 e1 code v = some (l, e)) (hg : RunOK md v l e) {R : List S47 × Int} (hR : runP md v l e = R) :
    Calls Try.prog 9 #[.agg #[.int .i64 md, .int .i64 e0, .int .i64 e1, .slice A code.length c], .int .i64 v] w fun e' w' => ∃ v0_ : Value, e' = .returned (.tuple #[v0_, .int .i64 R.2]) ∧ Kd.R k47 47 w' w.heap.size (fun _ => True) v0_ R.1 ∧ Below w.heap.size w w' := by
  have HR := Aside0.mk hr
  have HW := Aside0.mk hw
  have HRP := Aside0.mk hR
  have HB : Aside0 (Below w.heap.size w w) := ⟨Below.refl _ _⟩
  have e60 := Try.underlying60
  clear hr hw hR
  go_enter Try.func9, Try.ntmps9
  go_wp2_with (first | ((with_reducible refine gate_dst (N := 2) rfl ?_); refine boxN (w := w) rfl (N := 2) rfl (cs := #[.int .i64 md, .int .i64 e0, .int .i64 e1, .slice A code.length c]) (t := 25) (by first | (go_simp; done) | (go_simp; rfl)) HB ?_; intro g0 W0 H0 Lg0 HB_W0 K_W0) | ((with_reducible refine gate_dst (N := 10) rfl ?_); refine wpList_load_row rfl 25 _ rfl g0 rfl 25 _ (0, 0) _ H0.out Try.underlying25 rfl (by kernel_rfl) ?_))
  refine (walk_Windows.calls md e0 e1 A c code v l e W0 (Kd.C_below HR.out HB_W0.out) hc HW.out).mono ?_
  rintro e' W1 ⟨vl, rfl, hl, hb⟩
  have HB1 := Aside0.mk (below_step HB_W0.out hb)
  have HL := Aside0.mk (Kd.R_lower (Kd.S_R hl) (below_size HB_W0.out))
  have H1 := Aside0.mk (blk_below H0.out hb)
  clear hb hl H0 HB_W0 K_W0
  by_cases he : e = 0
  · have hk : (e != 0) = false := by simp [he]
    subst he
    obtain ⟨hv, hmd, hl32, hgood⟩ : (0 ≤ v ∧ v < 2) ∧ (0 ≤ md ∧ md < 16) ∧ l.length ≤ 32 ∧ ∀ x ∈ l, GoodW md x := by
      rcases hg with h | h
      · exact h.2
      · exact absurd rfl h
    obtain ⟨hfit, hx⟩ := fit_good hl32 hgood
    have hv0 := hv.1
    have hv1 := hv.2
    have HFIT := Aside0.mk hfit
    have HX := Aside0.mk hx
    obtain ⟨Al, cl, el⟩ := Kd.R_slice HL.out
    subst el
    have hcl := (Kd.R_reads' HL.out).2.1
    have HC := Aside0.mk (Kd.R_reads' HL.out).2.2
    clear hfit hx hgood hv hmd
    go_wp2_with fail
    refine (spans_calls Al cl l v _ HC.out hcl hv0 hv1 HFIT.out HX.out).mono ?_
    rintro e' W2 ⟨vs, rfl, hs, hb⟩
    have HB2 := Aside0.mk (below_step HB1.out hb)
    have H2 := Aside0.mk (blk_below H1.out hb)
    have HC2 := Aside0.mk (Kd.C_below HC.out hb)
    obtain ⟨sp, hsp⟩ : ∃ s, spansW (10 + 2 * v) 3 l = s := ⟨_, rfl⟩
    rw [hsp] at hs
    have hne : 0 < sp.length := by rw [← hsp]; exact spansW_ne _ _ _
    obtain ⟨As, cs, es⟩ := Kd.R_slice hs
    subst es
    have hcs := (Kd.R_reads' hs).2.1
    have HCS := Aside0.mk (Kd.R_reads' hs).2.2
    have hrp : runP md v l 0 = if mxl sp (sp.length - 1) > 200 then ([], 16) else (⟨3, 0, 200 + 40 * v, 0, 0, 0, -1, false⟩ :: viewL md (200 + 40 * v) l, 0) := by unfold runP; rw [if_pos rfl, hsp]
    have HRP2 := Aside0.mk (hrp.symm.trans HRP.out)
    obtain ⟨m, hm⟩ : ∃ m, mxl sp (sp.length - 1) = m := ⟨_, rfl⟩
    rw [hm] at HRP2
    have HM : Aside0 (slices_Max_int_int.f sp = some m) := ⟨by rw [slices_Max_int_int.f, if_neg (by omega), hm]⟩
    clear hb hs hsp hrp hm H1 HB1 HL HC HRP
    go_wp2_with fail
    refine (slices_Max_int_int.calls As cs sp m _ HCS.out hcs HM.out).mono ?_
    rintro e' W3 ⟨rfl, hb⟩
    have HB3 := Aside0.mk (below_step HB2.out hb)
    have H3 := Aside0.mk (blk_below H2.out hb)
    have HC3 := Aside0.mk (Kd.C_below HC2.out hb)
    clear hb H2 HB2 HC2 HCS HM
    have hrp := HRP2.out
    clear HRP2
    by_cases hbig : m > 200
    · rw [if_pos hbig] at hrp
      subst hrp
      have d1 : decide (200 < m) = true := decide_eq_true hbig
      clear hbig
      go_wp2_with fail
      go_ret2
      exact ⟨_, rfl, Kd.R_nil _ _ _ _ _, HB3.out⟩
    · rw [if_neg hbig] at hrp
      subst hrp
      have d1 : decide (200 < m) = false := decide_eq_false hbig
      obtain ⟨A1, c1, l1, A2, c2, l2, hr1, hc1, hr2, hc2, hL, hcs2⟩ : ∃ (A1 : Option Addr) (c1 : Nat) (l1 : List S76) (A2 : Option Addr) (c2 : Nat) (l2 : List S76), Kd.C k76 W3 A1 l1.length l1 ∧ l1.length ≤ c1 ∧ Kd.C k76 W3 A2 l2.length l2 ∧ l2.length ≤ c2 ∧ (if v = 0 then l1 else l2) = l ∧ (#[Value.int .i64 0, .slice none 0 0, .slice none 0 0] : Array Value).setIfInBounds (1 + v.toNat) (.slice Al l.length cl) = #[.int .i64 0, .slice A1 l1.length c1, .slice A2 l2.length c2] := by
        have hn : Kd.C k76 W3 none ([] : List S76).length [] := Kd.C_nil k76 W3
        rcases (by omega : v = 0 ∨ v = 1) with rfl | rfl
        · exact ⟨Al, cl, l, none, 0, [], HC3.out, hcl, hn, Nat.le_refl _, rfl, rfl⟩
        · exact ⟨none, 0, [], Al, cl, l, hn, Nat.le_refl _, HC3.out, hcl, rfl, rfl⟩
      have HR1 := Aside0.mk hr1
      have HR2 := Aside0.mk hr2
      have HL := Aside0.mk hL
      have HCS := Aside0.mk hcs2
      have p1 := eq_true hv0
      have p2 := eq_true hv1
      have KB : Aside0 (Below W3.heap.size W3 W3) := ⟨Below.refl _ _⟩
      clear hbig hr1 hr2 hL hcs2
      go_wp2_with (first | ((with_reducible refine gate_dst (N := 8) rfl ?_); refine boxN (w := W3) rfl (N := 8) rfl (cs := #[.int .i64 0, .slice none 0 0, .slice none 0 0]) (t := 62) (by first | (go_simp; done) | (go_simp; rfl)) KB ?_; intro g8 Wa Ha Lg8 HB_Wa K_Wa) | (refine storeN (w := W3) rfl 62 _ _ rfl g8 #[.int .i64 0, .slice none 0 0, .slice none 0 0] rfl rfl 62 _ Ha (by kernel_rfl) rfl (by rw [← Array.all_toList]; rfl) HB_Wa Lg8 K_Wa ?_; clear Ha; intro Wb Ha HB_Wb K_Wb; have y0 : Wb.cell? ⟨g8, 1 + v.toNat, none⟩ = some (.slice none 0 0) := (cell_in Ha.out _).trans (by rcases (by omega : v = 0 ∨ v = 1) with rfl | rfl <;> rfl); have y1 := free_in Ha.out (1 + v.toNat); have y9 : Wb.cell? ⟨g0, 0, none⟩ = some (.int .i64 md) := cell_in (blk_below H3.out K_Wb.out) 0) | ((with_reducible refine gate_dst (N := 28) rfl ?_); have HSC := Aside0.mk (set_in Ha.out (1 + v.toNat) (Value.slice Al l.length cl)); rw [HCS.out] at HSC; refine wpList_load_row rfl 62 _ rfl g8 rfl 62 _ (0, 0) _ HSC.out Try.underlying62 rfl (by kernel_rfl) ?_))
      have HBs := Aside0.mk (below_set (j := 1 + v.toNat) (v := Value.slice Al l.length cl) HB_Wb.out Lg8.out.1)
      have HBw := Aside0.mk (below_step HB3.out HBs.out)
      refine (view_calls 0 A1 A2 c1 c2 l1 l2 l v md _ (Kd.C_below HR1.out HBs.out) hc1 (Kd.C_below HR2.out HBs.out) hc2 hv0 hv1 HL.out HFIT.out).mono ?_
      rintro e' W4 ⟨vV, rfl, hV, hb⟩
      have HV := Aside0.mk (Kd.R_lower hV (below_size HBw.out))
      have HB4 := Aside0.mk (below_step HBw.out hb)
      clear hV hb
      go_wp2_with fail
      go_ret2
      exact ⟨_, rfl, HV.out, HB4.out⟩
  · have hk : (e != 0) = true := by simp [he]
    have hrp := HRP.out
    unfold runP at hrp
    rw [if_neg he] at hrp
    subst hrp
    clear he hg
    go_wp2_with fail
    go_ret2
    exact ⟨_, rfl, Kd.R_nil _ _ _ _ _, HB1.out⟩
set_option maxHeartbeats 4000000 in
set_option maxRecDepth 100000 in
theorem one_calls (w : World) : Calls Try.prog 11 #[] w fun e w' => e = .returned (.bool true) ∧ Below w.heap.size w w' := by
  have HB : Aside0 (Below w.heap.size w w) := ⟨Below.refl _ _⟩
  go_enter Try.func11, Try.ntmps11
  go_wp2_with fail
  refine (put_gap w).mono ?_
  rintro e W1 ⟨va, rfl, ha, hb⟩
  have HB1 := Aside0.mk hb
  have HA := Aside0.mk ha
  clear hb ha
  go_wp2_with (first | ((with_reducible refine gate_builtin (b := .append) (xs := #[.tmp 13, .tmp 14]) rfl ?_); at_builtin; refine appN (w := w) (Kd.int .u8) 5 rfl (.tmp 13) (.tmp 14) 23 (.int .u8 0) 1 rfl Try.underlying23 info5 rfl (by decide) (by omega) 0 [.int .u8 0] rfl rfl (rfl) HA HB1 (by decide) ?_; intro vb W2 H2 HB_W2 K_W2; obtain ⟨Ab, cb, eb⟩ := Kd.R_slice H2.out; subst eb; have hcb := (Kd.R_reads' H2.out).2.1; have HC2 := Aside0.mk (Kd.R_reads' H2.out).2.2) | ((with_reducible refine gate_dst (N := 3) rfl ?_); refine boxN (w := w) rfl (N := 3) rfl (cs := #[.int .i64 0, .int .i64 0, .int .i64 0, .slice none 0 0]) (t := 25) (by first | (go_simp; done) | (go_simp; rfl)) HB_W2 ?_; intro g3 Wa Ha Lg3 HB_Wa K_Wa; have KB : Aside0 (Below Wa.heap.size Wa Wa) := ⟨Below.refl _ _⟩) | (refine storeN (w := w) rfl 25 _ _ rfl g3 #[.int .i64 0, .int .i64 0, .int .i64 0, .slice Ab 3 cb] rfl rfl 25 _ Ha (by kernel_rfl) rfl (by rw [← Array.all_toList]; rfl) HB_Wa Lg3 K_Wa ?_; clear Ha; intro Wb Ha HB_Wb K_Wb) | ((with_reducible refine gate_dst (N := 18) rfl ?_); refine wpList_load_row rfl 25 _ rfl g3 rfl 25 _ (0, 0) _ Ha.out Try.underlying25 rfl (by kernel_rfl) ?_))
  have h1 : walk_Windows.f 0 0 0 [4, 7, 0] 1 = some ([⟨1, 7, 0, 0, [], []⟩], 0) := by
    unfold walk_Windows.f
    rw [right_is, show (decide _ : Bool) = true from by decide, Option.bind_some, if_pos rfl, if_neg (by decide), if_neg (by decide), if_neg (by decide)]
    exact gap_on 4094
  have h2 : walk_Windows.f 0 0 0 [8, 0, 0] 0 = some ([], 15) := by
    unfold walk_Windows.f
    rw [right_is, show (decide _ : Bool) = true from by decide, Option.bind_some, if_pos rfl, if_neg (by decide), if_neg (by decide), if_pos rfl, jump_on]
  have HW2 := Aside0.mk h2
  have g1 : RunOK 0 1 [⟨1, 7, 0, 0, [], []⟩] 0 := .inl ⟨rfl, by decide, by decide, by decide, fun x hx => by
    obtain rfl := List.mem_singleton.1 hx
    exact .inr (.inl ⟨rfl, rfl, rfl⟩)⟩
  refine (run_calls 0 0 0 Ab cb [4, 7, 0] 1 _ 0 Wb (Kd.C_below HC2.out K_Wb.out) hcb h1 g1 (R := ([⟨3, 0, 240, 0, 0, 0, -1, false⟩, ⟨1, 240, 140, 0, 0, 0, -1, false⟩, ⟨4, 380, 120, 0, 0, 0, -1, false⟩], 0)) rfl).mono ?_
  rintro e W4 ⟨vV, rfl, hV, hb⟩
  have HB4 := Aside0.mk (below_step HB_Wb.out hb)
  obtain ⟨AV, cV, eV⟩ := Kd.R_slice hV
  subst eV
  have HC4 := Aside0.mk (Kd.R_reads' hV).2.2
  have K4 : Aside0 (Below W4.heap.size W4 W4) := ⟨Below.refl _ _⟩
  clear hV hb h1 h2 g1
  dsimp only
  go_wp2_with (first | ((with_reducible refine gate_dst (N := 23) rfl ?_); refine litN (w := W4) (Kd.int .u8) 5 rfl (N := 23) rfl (xs := ([8, 0, 0] : List Int)) (inner := [.int .u8 8, .int .u8 0, .int .u8 0]) (by first | (go_simp; done) | (go_simp; rfl)) (Reps.one (show Kd.M (Kd.int .u8) _ _ _ 8 [.int .u8 8] from rfl) (Reps.one (show Kd.M (Kd.int .u8) _ _ _ 0 [.int .u8 0] from rfl) (Reps.one (show Kd.M (Kd.int .u8) _ _ _ 0 [.int .u8 0] from rfl) (Reps.none _ _)))) K4 (by simp) ?_; intro vL W5 H5 HB_W5 K_W5; obtain ⟨A5, c5, e5⟩ := Kd.R_slice H5.out; subst e5))
  have hlc := (Kd.R_reads' H5.out).2
  refine (run_calls 0 0 0 A5 c5 [8, 0, 0] 0 [] 15 W5 hlc.2 hlc.1 HW2.out (.inr (by decide)) (R := ([], 15)) rfl).mono ?_
  rintro e W6 ⟨vY, rfl, hY, hb⟩
  have K6 := Aside0.mk (below_step HB_W5.out hb)
  obtain ⟨ad, hA, x0, x1, x2, x3, x4, x5, x6, x7⟩ := slot_at HC4.out K6.out (i := 1) (by decide) rfl
  subst hA
  have z0 : W6.cell? ⟨ad.block, ad.off + 8, none⟩ = some (.int .i64 1) := x0
  have z1 : W6.cell? ⟨ad.block, ad.off + 9, none⟩ = some (.int .i64 240) := x1
  have z2 : W6.cell? ⟨ad.block, ad.off + 10, none⟩ = some (.int .i64 140) := x2
  have HB6 := Aside0.mk (below_step HB4.out K6.out)
  clear hY hb hlc x0 x1 x2 x3 x4 x5 x6 x7
  go_wp2_with fail
  go_ret
  exact ⟨rfl, HB6.out⟩
end Go.Proofs.Ytekbaconbemgpaa.PWe
