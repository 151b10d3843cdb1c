/- One tick of runs, and what rose and fell: contracts of See, when, Rose, Fell. Helper text. -/
import Derived.Test.YtfmepbpipknblaaRnObj
import Derived.Deep.RegionWith
namespace Go.Proofs.Ytfmepbpipknblaa.Rn
open Go.RowKit Go.Proofs.Ytfmepbpipknblaa.Kx
set_option linter.unusedVariables false
set_option linter.unusedSimpArgs false

/-- One line's run behind a tick. -/
def up (n : Int) (high : Bool) : Int := if high then min (n + 1) 1073741824 else 0

def St.at (s : St) (l : Int) (k : Nat) : St := { s with a := if 0 < k then up s.a (hi l 0) else s.a, b := if 1 < k then up s.b (hi l 1) else s.b, c := if 2 < k then up s.c (hi l 2) else s.c, d := if 3 < k then up s.d (hi l 3) else s.d }

def St.ok (s : St) : Prop := (0 ≤ s.a ∧ s.a ≤ 1073741824) ∧ (0 ≤ s.b ∧ s.b ≤ 1073741824) ∧ (0 ≤ s.c ∧ s.c ≤ 1073741824) ∧ (0 ≤ s.d ∧ s.d ≤ 1073741824) ∧ (0 ≤ s.was ∧ s.was ≤ 1073741824) ∧ (0 ≤ s.since ∧ s.since ≤ 1073741824)

def St.one (s : St) (l : Int) : St := ({ s with was := s.third } : St).at l 4
def St.see (s : St) (l : Int) : St := { s.one l with since := max s.since (s.one l).third }

theorem see_end (s : St) (l y : Int) (hy : (s.one l).third = y) (w2 : World) (g : Nat) (A2 : At w2 g (s.one l)) (x : Int) (hx : x = max s.since y) : At (w2.setCell ⟨g, 6, none⟩ (.int .i64 x)) g (s.see l) := by
  have := set_in A2 6 (.int .i64 x)
  refine Eq.trans this ?_
  subst hx
  unfold St.see
  rw [hy]
  rfl

set_option maxHeartbeats 1000000 in
theorem see_any (g : Nat) (s : St) (l : Int) (hl : 0 ≤ l ∧ l ≤ 255) (hs : s.ok) (w : World) (h : At w g s) : Calls Try.prog 58 #[.pointer (some ⟨g, 0, none⟩), .int .u8 l] w fun e w' =>
    e = .returned (.tuple #[]) ∧ w.grownBy w' (some g) ∧ At w' g (s.see l) := by
  obtain ⟨h0, h1, h2, h3, h4, h5, h6⟩ := h.cell
  have H := hid h
  clear h
  go_enter Try.func58, Try.ntmps58
  go_wp2_with (first | (go_at_call 106; refine (none_made g s _ H.out).mono ?_; rintro e w' ⟨rfl, rfl⟩))
  refine (of_any g s _ H.out).mono ?_
  rintro e w1 ⟨rfl, hb⟩
  clear h0 h1 h2 h3 h4 h5 h6
  have A1 : At w1 g s := below_block hb H.out (lt_of_block H.out)
  have hc5 := A1.cell.2.2.2.2.2.1
  have hf5 := A1.free 5
  have HB := hid hb
  have A1' := hid A1
  clear A1 hb
  go_wp2_with fail
  go_loopw [12] (fun k wr => ∃ n : Nat, n ≤ 4 ∧ k = .int .i64 n ∧ At wr g (({ s with was := s.third } : St).at l n) ∧ w.grownBy wr (some g)) (fun k _ => 4 - (intOf k).toNat)
  case atStart => exact ⟨0, by omega, rfl, by have := set_in A1'.out 5 (.int .i64 s.third); exact this, grown_trans (grown_of_below' HB.out _) (grown_set _ _ _ _)⟩
  case round =>
    obtain ⟨n, hn, rfl, ha, hg⟩ := hrel
    have HA := hid ha
    have HG := hid hg
    clear ha hg hc5 hf5
    by_cases hlt : n < 4
    · obtain rfl | rfl | rfl | rfl : n = 0 ∨ n = 1 ∨ n = 2 ∨ n = 3 := by omega
      · have hf := HA.out.free 1
        have HY := hid (high_yes l 0 (by omega) hl.1 hl.2)
        obtain ⟨v, hv⟩ : ∃ v, v = s.a := ⟨_, rfl⟩
        have hv0 : 0 ≤ v ∧ v ≤ 1073741824 := by rw [hv]; exact hs.1
        have h1 : wr.cell? ⟨g, 1, none⟩ = some (.int .i64 v) := by rw [hv]; exact HA.out.cell.2.1
        have HV := hid hv
        clear hv hs
        have HS := fun (x : Int) => set_in HA.out 1 (.int .i64 x)
        have HS' := hid HS
        clear HS
        by_cases hh : hi l 0 = true
        · rw [hh] at HY
          go_wp2_with (go_at_call 108; refine (HY.out _).mono ?_; rintro e w' ⟨rfl, rfl⟩)
          go_region
          go_wp2
          refine ⟨⟨1, by omega, rfl, ?_, grown_trans HG.out (grown_drew (grown_set _ _ _ _))⟩, by simp [intOf]⟩
          have := HS'.out (min (v + 1) 1073741824)
          refine Eq.trans this ?_
          simp [St.cells, St.at, up, hh, HV.out]
        · replace hh : hi l 0 = false := by simpa using hh
          rw [hh] at HY
          go_wp2_with (go_at_call 108; refine (HY.out _).mono ?_; rintro e w' ⟨rfl, rfl⟩)
          refine ⟨⟨1, by omega, rfl, ?_, grown_trans HG.out (grown_set _ _ _ _)⟩, by simp [intOf]⟩
          have := HS'.out 0
          refine Eq.trans this ?_
          simp [St.cells, St.at, up, hh]
      · have hf := HA.out.free 2
        have HY := hid (high_yes l 1 (by omega) hl.1 hl.2)
        obtain ⟨v, hv⟩ : ∃ v, v = s.b := ⟨_, rfl⟩
        have hv0 : 0 ≤ v ∧ v ≤ 1073741824 := by rw [hv]; exact hs.2.1
        have h1 : wr.cell? ⟨g, 2, none⟩ = some (.int .i64 v) := by rw [hv]; exact HA.out.cell.2.2.1
        have HV := hid hv
        clear hv hs
        have HS := fun (x : Int) => set_in HA.out 2 (.int .i64 x)
        have HS' := hid HS
        clear HS
        by_cases hh : hi l 1 = true
        · rw [hh] at HY
          go_wp2_with (go_at_call 108; refine (HY.out _).mono ?_; rintro e w' ⟨rfl, rfl⟩)
          go_region
          go_wp2
          refine ⟨⟨2, by omega, rfl, ?_, grown_trans HG.out (grown_drew (grown_set _ _ _ _))⟩, by simp [intOf]⟩
          have := HS'.out (min (v + 1) 1073741824)
          refine Eq.trans this ?_
          simp [St.cells, St.at, up, hh, HV.out]
        · replace hh : hi l 1 = false := by simpa using hh
          rw [hh] at HY
          go_wp2_with (go_at_call 108; refine (HY.out _).mono ?_; rintro e w' ⟨rfl, rfl⟩)
          refine ⟨⟨2, by omega, rfl, ?_, grown_trans HG.out (grown_set _ _ _ _)⟩, by simp [intOf]⟩
          have := HS'.out 0
          refine Eq.trans this ?_
          simp [St.cells, St.at, up, hh]
      · have hf := HA.out.free 3
        have HY := hid (high_yes l 2 (by omega) hl.1 hl.2)
        obtain ⟨v, hv⟩ : ∃ v, v = s.c := ⟨_, rfl⟩
        have hv0 : 0 ≤ v ∧ v ≤ 1073741824 := by rw [hv]; exact hs.2.2.1
        have h1 : wr.cell? ⟨g, 3, none⟩ = some (.int .i64 v) := by rw [hv]; exact HA.out.cell.2.2.2.1
        have HV := hid hv
        clear hv hs
        have HS := fun (x : Int) => set_in HA.out 3 (.int .i64 x)
        have HS' := hid HS
        clear HS
        by_cases hh : hi l 2 = true
        · rw [hh] at HY
          go_wp2_with (go_at_call 108; refine (HY.out _).mono ?_; rintro e w' ⟨rfl, rfl⟩)
          go_region
          go_wp2
          refine ⟨⟨3, by omega, rfl, ?_, grown_trans HG.out (grown_drew (grown_set _ _ _ _))⟩, by simp [intOf]⟩
          have := HS'.out (min (v + 1) 1073741824)
          refine Eq.trans this ?_
          simp [St.cells, St.at, up, hh, HV.out]
        · replace hh : hi l 2 = false := by simpa using hh
          rw [hh] at HY
          go_wp2_with (go_at_call 108; refine (HY.out _).mono ?_; rintro e w' ⟨rfl, rfl⟩)
          refine ⟨⟨3, by omega, rfl, ?_, grown_trans HG.out (grown_set _ _ _ _)⟩, by simp [intOf]⟩
          have := HS'.out 0
          refine Eq.trans this ?_
          simp [St.cells, St.at, up, hh]
      · have hf := HA.out.free 4
        have HY := hid (high_yes l 3 (by omega) hl.1 hl.2)
        obtain ⟨v, hv⟩ : ∃ v, v = s.d := ⟨_, rfl⟩
        have hv0 : 0 ≤ v ∧ v ≤ 1073741824 := by rw [hv]; exact hs.2.2.2.1
        have h1 : wr.cell? ⟨g, 4, none⟩ = some (.int .i64 v) := by rw [hv]; exact HA.out.cell.2.2.2.2.1
        have HV := hid hv
        clear hv hs
        have HS := fun (x : Int) => set_in HA.out 4 (.int .i64 x)
        have HS' := hid HS
        clear HS
        by_cases hh : hi l 3 = true
        · rw [hh] at HY
          go_wp2_with (go_at_call 108; refine (HY.out _).mono ?_; rintro e w' ⟨rfl, rfl⟩)
          go_region
          go_wp2
          refine ⟨⟨4, by omega, rfl, ?_, grown_trans HG.out (grown_drew (grown_set _ _ _ _))⟩, by simp [intOf]⟩
          have := HS'.out (min (v + 1) 1073741824)
          refine Eq.trans this ?_
          simp [St.cells, St.at, up, hh, HV.out]
        · replace hh : hi l 3 = false := by simpa using hh
          rw [hh] at HY
          go_wp2_with (go_at_call 108; refine (HY.out _).mono ?_; rintro e w' ⟨rfl, rfl⟩)
          refine ⟨⟨4, by omega, rfl, ?_, grown_trans HG.out (grown_set _ _ _ _)⟩, by simp [intOf]⟩
          have := HS'.out 0
          refine Eq.trans this ?_
          simp [St.cells, St.at, up, hh]
    · obtain rfl : n = 4 := by omega
      go_wp2_with fail
      have HO : Hid (At wr g (s.one l)) := HA.out
      have h6 : wr.cell? ⟨g, 6, none⟩ = some (.int .i64 s.since) := HO.out.cell.2.2.2.2.2.2
      obtain ⟨y, hy⟩ : ∃ y, (s.one l).third = y := ⟨_, rfl⟩
      have HOF : Hid (∀ W : World, W.heap[g]? = wr.heap[g]? → Calls Try.prog 107 #[.pointer (some ⟨g, 0, none⟩)] W fun e w' => e = .returned (.int .i64 y) ∧ Below W.heap.size W w') := by
        intro W hW
        rw [← hy]
        exact of_any g (s.one l) W (Eq.trans hW HO.out)
      have HY := hid hy
      have hlt := lt_of_block HO.out
      clear hy HA
      go_region_with (go_at_call 107; go_must (refine (HOF.out _ ?_).mono ?_); go_must (exact rfl); rintro e w2 ⟨rfl, hb2⟩; go_must (have g6 : w2.cell? ⟨g, 6, none⟩ = some (.int .i64 s.since) := (hb2.cell hlt).trans h6); go_must (have f6 : w2.frozen? ⟨g, 6, none⟩ = false := (hb2.frozen hlt).trans (HO.out.free 6)); have HB2 := hid hb2; clear hb2)
      all_goals go_wp2
      all_goals go_end0
      all_goals
        have A2 : At w2 g (s.one l) := below_block HB2.out HO.out hlt
        refine ⟨rfl, grown_trans (grown_trans HG.out (grown_drew (grown_refl _ _))) (grown_trans (grown_of_below' HB2.out _) (grown_set _ _ _ _)), see_end s l y HY.out w2 g A2 _ (by omega)⟩
end Go.Proofs.Ytfmepbpipknblaa.Rn
