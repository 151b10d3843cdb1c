/- walk.Run and one: their walks. Helper text. -/
import Derived.Test.YtbaapakkdnhcmaaWhSpans
import Derived.Test.YtbaapakkdnhcmaaWkPlain
import Derived.Test.YtbaapakkdnhcmaaWkPut
namespace Go.Proofs.Ytbaapakkdnhcmaa.PWe
open Go.RowKit Go.Proofs.Ytbaapakkdnhcmaa.Kx Go.Proofs.YtbaapakkdnhcmaaW.PrintWords Go.Proofs.YtbaapakkdnhcmaaW.PrintLast Go.Proofs.YtbaapakkdnhcmaaW.PrintMore
set_option linter.unusedVariables false
set_option linter.unusedSimpArgs false
def RunOK (md v : Int) (l : List S76) (e : Int) : Prop := (e = 0 ∧ (0 ≤ v ∧ v < 2) ∧ (0 ≤ md ∧ md < 16) ∧ l.length ≤ 32 ∧ ∀ x ∈ l, GoodW md x) ∨ e ≠ 0

set_option maxHeartbeats 4000000 in
set_option maxRecDepth 100000 in
theorem run_calls (md e0 e1 : Int) (A : Option Addr) (c : Nat) (code : List Int) (v : Int) (l : List S76) (e : Int) (w : World) (hr : Kd.C (Kd.int .u8) w A code.length code) (hc : code.length ≤ c) (hw : walk_Windows.f md e0 e1 code v = some (l, e)) (hg : RunOK md v l e) {R : List S47 × Int} (hR : runP md v l e = R) :
    Calls Try.prog 12 #[.agg #[.int .i64 md, .int .i64 e0, .int .i64 e1, .slice A code.length c], .int .i64 v] w fun e' w' => ∃ v0_ : Value, e' = .returned (.tuple #[v0_, .int .i64 R.2]) ∧ Kd.R k47 64 w' w.heap.size (fun _ => True) v0_ R.1 ∧ Below w.heap.size w w' := by
  have HR := Aside0.mk hr
  have HW := Aside0.mk hw
  have HRP := Aside0.mk hR
  have HB : Aside0 (Below w.heap.size w w) := ⟨Below.refl _ _⟩
  have e60 := Try.underlying41
  clear hr hw hR
  go_enter Try.func12, Try.ntmps12
  go_wp2_with (first | ((with_reducible refine gate_dst (N := 2) rfl ?_); refine boxN (w := w) rfl (N := 2) rfl (cs := #[.int .i64 md, .int .i64 e0, .int .i64 e1, .slice A code.length c]) (t := 25) (by first | (go_simp; done) | (go_simp; rfl)) HB ?_; intro g0 W0 H0 Lg0 HB_W0 K_W0) | ((with_reducible refine gate_dst (N := 10) rfl ?_); refine wpList_load_row rfl 25 _ rfl g0 rfl 25 _ (0, 0) _ H0.out Try.underlying25 rfl (by kernel_rfl) ?_))
  refine (walk_Windows.calls md e0 e1 A c code v l e W0 (Kd.C_below HR.out HB_W0.out) hc HW.out).mono ?_
  rintro e' W1 ⟨vl, rfl, hl, hb⟩
  have HB1 := Aside0.mk (below_step HB_W0.out hb)
  have HL := Aside0.mk (Kd.R_lower (Kd.S_R hl) (below_size HB_W0.out))
  have H1 := Aside0.mk (blk_below H0.out hb)
  clear hb hl H0 HB_W0 K_W0
  by_cases he : e = 0
  · have hk : (e != 0) = false := by simp [he]
    subst he
    obtain ⟨hv, hmd, hl32, hgood⟩ : (0 ≤ v ∧ v < 2) ∧ (0 ≤ md ∧ md < 16) ∧ l.length ≤ 32 ∧ ∀ x ∈ l, GoodW md x := by
      rcases hg with h | h
      · exact h.2
      · exact absurd rfl h
    obtain ⟨hfit, hx⟩ := fit_good hl32 hgood
    have hv0 := hv.1
    have hv1 := hv.2
    have HFIT := Aside0.mk hfit
    have HX := Aside0.mk hx
    obtain ⟨Al, cl, el⟩ := Kd.R_slice HL.out
    subst el
    have hcl := (Kd.R_reads' HL.out).2.1
    have HC := Aside0.mk (Kd.R_reads' HL.out).2.2
    clear hfit hx hgood hv hmd
    go_wp2_with fail
    refine (spans_calls Al cl l v _ HC.out hcl hv0 hv1 HFIT.out HX.out).mono ?_
    rintro e' W2 ⟨vs, rfl, hs, hb⟩
    have HB2 := Aside0.mk (below_step HB1.out hb)
    have H2 := Aside0.mk (blk_below H1.out hb)
    have HC2 := Aside0.mk (Kd.C_below HC.out hb)
    obtain ⟨sp, hsp⟩ : ∃ s, spansW (10 + 2 * v) 3 l = s := ⟨_, rfl⟩
    rw [hsp] at hs
    have hne : 0 < sp.length := by rw [← hsp]; exact spansW_ne _ _ _
    obtain ⟨As, cs, es⟩ := Kd.R_slice hs
    subst es
    have hcs := (Kd.R_reads' hs).2.1
    have HCS := Aside0.mk (Kd.R_reads' hs).2.2
    have hrp : runP md v l 0 = if mxl sp (sp.length - 1) > 200 then ([], 16) else (⟨3, 0, 200 + 40 * v, 0, 0, 0, -1, false⟩ :: viewL md (200 + 40 * v) l, 0) := by unfold runP; rw [if_pos rfl, hsp]
    have HRP2 := Aside0.mk (hrp.symm.trans HRP.out)
    obtain ⟨m, hm⟩ : ∃ m, mxl sp (sp.length - 1) = m := ⟨_, rfl⟩
    rw [hm] at HRP2
    have HM : Aside0 (slices_Max_int_int.f sp = some m) := ⟨by rw [slices_Max_int_int.f, if_neg (by omega), hm]⟩
    clear hb hs hsp hrp hm H1 HB1 HL HC HRP
    go_wp2_with fail
    refine (slices_Max_int_int.calls As cs sp m _ HCS.out hcs HM.out).mono ?_
    rintro e' W3 ⟨rfl, hb⟩
    have HB3 := Aside0.mk (below_step HB2.out hb)
    have H3 := Aside0.mk (blk_below H2.out hb)
    have HC3 := Aside0.mk (Kd.C_below HC2.out hb)
    clear hb H2 HB2 HC2 HCS HM
    have hrp := HRP2.out
    clear HRP2
    by_cases hbig : m > 200
    · rw [if_pos hbig] at hrp
      subst hrp
      have d1 : decide (200 < m) = true := decide_eq_true hbig
      clear hbig
      go_wp2_with fail
      go_ret2
      exact ⟨_, rfl, Kd.R_nil _ _ _ _ _, HB3.out⟩
    · rw [if_neg hbig] at hrp
      subst hrp
      have d1 : decide (200 < m) = false := decide_eq_false hbig
      obtain ⟨A1, c1, l1, A2, c2, l2, hr1, hc1, hr2, hc2, hL, hcs2⟩ : ∃ (A1 : Option Addr) (c1 : Nat) (l1 : List S76) (A2 : Option Addr) (c2 : Nat) (l2 : List S76), Kd.C k76 W3 A1 l1.length l1 ∧ l1.length ≤ c1 ∧ Kd.C k76 W3 A2 l2.length l2 ∧ l2.length ≤ c2 ∧ (if v = 0 then l1 else l2) = l ∧ (#[Value.int .i64 0, .slice none 0 0, .slice none 0 0] : Array Value).setIfInBounds (1 + v.toNat) (.slice Al l.length cl) = #[.int .i64 0, .slice A1 l1.length c1, .slice A2 l2.length c2] := by
        have hn : Kd.C k76 W3 none ([] : List S76).length [] := Kd.C_nil k76 W3
        rcases (by omega : v = 0 ∨ v = 1) with rfl | rfl
        · exact ⟨Al, cl, l, none, 0, [], HC3.out, hcl, hn, Nat.le_refl _, rfl, rfl⟩
        · exact ⟨none, 0, [], Al, cl, l, hn, Nat.le_refl _, HC3.out, hcl, rfl, rfl⟩
      have HR1 := Aside0.mk hr1
      have HR2 := Aside0.mk hr2
      have HL := Aside0.mk hL
      have HCS := Aside0.mk hcs2
      have p1 := eq_true hv0
      have p2 := eq_true hv1
      have KB : Aside0 (Below W3.heap.size W3 W3) := ⟨Below.refl _ _⟩
      clear hbig hr1 hr2 hL hcs2
      go_wp2_with (first | ((with_reducible refine gate_dst (N := 8) rfl ?_); refine boxN (w := W3) rfl (N := 8) rfl (cs := #[.int .i64 0, .slice none 0 0, .slice none 0 0]) (t := 43) (by first | (go_simp; done) | (go_simp; rfl)) KB ?_; intro g8 Wa Ha Lg8 HB_Wa K_Wa) | (refine storeN (w := W3) rfl 43 _ _ rfl g8 #[.int .i64 0, .slice none 0 0, .slice none 0 0] rfl rfl 43 _ Ha (by kernel_rfl) rfl (by rw [← Array.all_toList]; rfl) HB_Wa Lg8 K_Wa ?_; clear Ha; intro Wb Ha HB_Wb K_Wb; have y0 : Wb.cell? ⟨g8, 1 + v.toNat, none⟩ = some (.slice none 0 0) := (cell_in Ha.out _).trans (by rcases (by omega : v = 0 ∨ v = 1) with rfl | rfl <;> rfl); have y1 := free_in Ha.out (1 + v.toNat); have y9 : Wb.cell? ⟨g0, 0, none⟩ = some (.int .i64 md) := cell_in (blk_below H3.out K_Wb.out) 0) | ((with_reducible refine gate_dst (N := 28) rfl ?_); have HSC := Aside0.mk (set_in Ha.out (1 + v.toNat) (Value.slice Al l.length cl)); rw [HCS.out] at HSC; refine wpList_load_row rfl 43 _ rfl g8 rfl 43 _ (0, 0) _ HSC.out Try.underlying43 rfl (by kernel_rfl) ?_))
      have HBs := Aside0.mk (below_set (j := 1 + v.toNat) (v := Value.slice Al l.length cl) HB_Wb.out Lg8.out.1)
      have HBw := Aside0.mk (below_step HB3.out HBs.out)
      refine (view_calls 0 A1 A2 c1 c2 l1 l2 l v md _ (Kd.C_below HR1.out HBs.out) hc1 (Kd.C_below HR2.out HBs.out) hc2 hv0 hv1 HL.out HFIT.out).mono ?_
      rintro e' W4 ⟨vV, rfl, hV, hb⟩
      have HV := Aside0.mk (Kd.R_lower hV (below_size HBw.out))
      have HB4 := Aside0.mk (below_step HBw.out hb)
      clear hV hb
      go_wp2_with fail
      go_ret2
      exact ⟨_, rfl, HV.out, HB4.out⟩
  · have hk : (e != 0) = true := by simp [he]
    have hrp := HRP.out
    unfold runP at hrp
    rw [if_neg he] at hrp
    subst hrp
    clear he hg
    go_wp2_with fail
    go_ret2
    exact ⟨_, rfl, Kd.R_nil _ _ _ _ _, HB1.out⟩
end Go.Proofs.Ytbaapakkdnhcmaa.PWe
