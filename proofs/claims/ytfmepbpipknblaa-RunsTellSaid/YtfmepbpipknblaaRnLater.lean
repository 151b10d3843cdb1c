/- The walk of RunsLater: behind a tick with all lines low two runs go alike. Helper text. -/
import Derived.Test.YtfmepbpipknblaaRnOne
namespace Go.Proofs.Ytfmepbpipknblaa.Rn
open Go.RowKit Go.Proofs.Ytfmepbpipknblaa.Kx
set_option linter.unusedVariables false
set_option linter.unusedSimpArgs false

theorem up_ok (n : Int) (h : Bool) (hn : 0 ≤ n ∧ n ≤ 1073741824) : 0 ≤ up n h ∧ up n h ≤ 1073741824 := by
  unfold up
  split <;> omega
theorem see_eq (s : St) (l : Int) : s.see l = ⟨up s.a (hi l 0), up s.b (hi l 1), up s.c (hi l 2), up s.d (hi l 3), Rn.third s.a s.b s.c s.d, max s.since (Rn.third (up s.a (hi l 0)) (up s.b (hi l 1)) (up s.c (hi l 2)) (up s.d (hi l 3)))⟩ := rfl
theorem see_ok (s : St) (l : Int) (h : s.ok) : (s.see l).ok := by
  rw [see_eq]
  obtain ⟨ha, hb, hc, hd, hw, hs⟩ := h
  have ua := up_ok _ (hi l 0) ha
  have ub := up_ok _ (hi l 1) hb
  have uc := up_ok _ (hi l 2) hc
  have ud := up_ok _ (hi l 3) hd
  have t := third_range _ _ _ _ _ _ ua ub uc ud
  refine ⟨ua, ub, uc, ud, third_range _ _ _ _ _ _ ha hb hc hd, ?_⟩
  show 0 ≤ max _ _ ∧ max _ _ ≤ _
  omega
theorem ok_since (s : St) (h : s.ok) : ({ s with since := 0 } : St).ok := ⟨h.1, h.2.1, h.2.2.1, h.2.2.2.1, h.2.2.2.2.1, by show (0 : Int) ≤ 0 ∧ (0 : Int) ≤ _; omega⟩
/-- Two that are alike but for what was. -/
def St.near (x y : St) : Prop := x.a = y.a ∧ x.b = y.b ∧ x.c = y.c ∧ x.d = y.d ∧ x.since = y.since
theorem near_see {x y : St} (h : x.near y) (l : Int) : x.see l = y.see l := by
  obtain ⟨h1, h2, h3, h4, h5⟩ := h
  rw [see_eq, see_eq, h1, h2, h3, h4, h5]
theorem near_refl (x : St) : x.near x := ⟨rfl, rfl, rfl, rfl, rfl⟩
theorem hi_zero (k : Nat) : hi 0 k = false := by unfold hi; simp
theorem low_see (s : St) : ∃ n, s.see 0 = ⟨0, 0, 0, 0, n, max s.since 0⟩ := by
  exact ⟨Rn.third s.a s.b s.c s.d, by rw [see_eq, hi_zero, hi_zero, hi_zero, hi_zero]; rfl⟩
theorem low_near (x y : St) : ({ x.see 0 with since := 0 } : St).near ({ y.see 0 with since := 0 } : St) := by
  obtain ⟨n, hx⟩ := low_see x
  obtain ⟨m, hy⟩ := low_see y
  rw [hx, hy]
  exact ⟨rfl, rfl, rfl, rfl, rfl⟩
theorem s0_ok : s0.ok := one_pure.1

set_option maxHeartbeats 1000000 in
theorem later_walk (A0 : Option Addr) (c0 : Nat) (l0 : List Int) (A1 : Option Addr) (c1 : Nat) (l1 : List Int) (w : World)
    (rd0 : RdI w .u8 A0 l0) (wf0 : wfs .u8 l0) (lc0 : l0.length ≤ c0) (lm0 : c0 ≤ maxLen) (rd1 : RdI w .u8 A1 l1) (wf1 : wfs .u8 l1) (lc1 : l1.length ≤ c1) (lm1 : c1 ≤ maxLen) :
    Calls Try.prog 13 #[.slice A0 l0.length c0, .slice A1 l1.length c1] w fun e w' => e = .returned (.bool true) ∧ Below w.heap.size w w' := by
  have RD0 := hid rd0
  have WF0 := hid wf0
  have RD1 := hid rd1
  have WF1 := hid wf1
  clear lc0 lm0 lc1 lm1 rd0 wf0 rd1 wf1
  by_cases h0 : (300 : Int) < (l0.length : Int)
  · go_enter Try.func13, Try.ntmps13
    go_wp2_with fail
    go_ret
    exact ⟨rfl, Below.refl _ _⟩
  by_cases h1 : (300 : Int) < (l1.length : Int)
  · go_enter Try.func13, Try.ntmps13
    go_wp2_with fail
    go_ret
    exact ⟨rfl, Below.refl _ _⟩
  go_enter Try.func13, Try.ntmps13
  go_wp2_with fail
  refine (new_any _).mono ?_
  rintro e w1 ⟨rfl, hw⟩
  have HA1 : Hid (At w1 w.heap.size s0) := by rw [hw]; exact heap_alloc_new _ _
  have HG1 : Hid (Below w.heap.size w w1) := by rw [hw]; exact (Below.refl _ _).alloc (Nat.le_refl _) _
  clear hw
  go_wp2_with fail
  refine (new_any _).mono ?_
  rintro e w2 ⟨rfl, hw⟩
  have HX2 : Hid (At w2 w.heap.size s0) := by rw [hw]; exact (Below.heap_alloc _ _ _ (lt_of_block HA1.out)).trans HA1.out
  have HY2 : Hid (At w2 w1.heap.size s0) := by rw [hw]; exact heap_alloc_new _ _
  have HG2 : Hid (Below w.heap.size w w2) := by rw [hw]; exact HG1.out.alloc HG1.out.size _
  have hxy : w.heap.size < w1.heap.size := lt_of_block HA1.out
  clear hw HA1 HG1
  obtain ⟨gx, hgx⟩ : ∃ g, w.heap.size = g := ⟨_, rfl⟩
  obtain ⟨gy, hgy⟩ : ∃ g, w1.heap.size = g := ⟨_, rfl⟩
  rw [hgx, hgy] at hxy
  rw [hgx] at HX2
  rw [hgy] at HY2
  rw [hgx, hgy]
  have HGX := hid hgx
  clear hgx hgy
  go_wp2_with fail
  go_loopw [7] (fun k wr => ∃ (n : Nat) (s : St), n ≤ l0.length ∧ k = .int .i64 n ∧ s.ok ∧ At wr gx s ∧ At wr gy s0 ∧ Below w.heap.size w wr) (fun k _ => l0.length - (intOf k).toNat)
  case atStart => exact ⟨0, s0, Nat.zero_le _, rfl, s0_ok, HX2.out, HY2.out, HG2.out⟩
  case round =>
    obtain ⟨n, s, hn, rfl, hk, hx, hy, hb⟩ := hrel
    have HK := hid hk
    have HX := hid hx
    have HY := hid hy
    have HB := hid hb
    clear hk hx hy hb HX2 HY2 HG2
    by_cases hlt : (n : Int) < (l0.length : Int)
    · obtain ⟨ad, hA, hc⟩ := RD0.out n (by omega)
      cases hA
      have hx := wf_u8 (WF0.out.at (i := n) (by omega))
      obtain ⟨x, hx'⟩ : ∃ x, l0.getD n 0 = x := ⟨_, rfl⟩
      rw [hx'] at hc hx
      have hc := cell_below' (hid HB.out) hc
      clear hx'
      go_wp2_with fail
      refine (see_any gx s x hx HK.out _ HX.out).mono ?_
      rintro e w3 ⟨rfl, hg, ha⟩
      have HX3 := hid ha
      have HY3 := hid (grown_block hg HY.out (by omega))
      have HB3 := hid (HB.out.trans (grown_below hg (by rw [HGX.out]; exact Nat.le_refl _) HB.out.size))
      clear ha hg
      go_wp2_with fail
      exact ⟨⟨n + 1, _, by omega, by go_num, see_ok _ _ HK.out, HX3.out, HY3.out, HB3.out⟩, by simp [intOf]; omega⟩
    · go_wp2_with fail
      refine (see_any gx s 0 (by omega) HK.out _ HX.out).mono ?_
      rintro e w3 ⟨rfl, hg, ha⟩
      have HX3 := hid ha
      have HY3 := hid (grown_block hg HY.out (by omega))
      have HB3 := hid (HB.out.trans (grown_below hg (by rw [HGX.out]; exact Nat.le_refl _) HB.out.size))
      clear ha hg HX HY HB
      go_wp2_with fail
      refine (see_any gy s0 0 (by omega) s0_ok _ HY3.out).mono ?_
      rintro e w4 ⟨rfl, hg, ha⟩
      have HY4 := hid ha
      have HX4 := hid (grown_block hg HX3.out (by omega))
      have HB4 := hid (HB3.out.trans (grown_below hg (by rw [HGX.out]; omega) HB3.out.size))
      clear ha hg HX3 HY3 HB3
      go_wp2_with fail
      refine (since_any gx _ _ HX4.out).mono ?_
      rintro e w5 ⟨rfl, hg, ha⟩
      have HX5 := hid ha
      have HY5 := hid (grown_block hg HY4.out (by omega))
      have HB5 := hid (HB4.out.trans (grown_below hg (by rw [HGX.out]; exact Nat.le_refl _) HB4.out.size))
      clear ha hg HX4 HY4 HB4
      go_wp2_with fail
      refine (since_any gy _ _ HY5.out).mono ?_
      rintro e w6 ⟨rfl, hg, ha⟩
      have HY6 := hid ha
      have HX6 := hid (grown_block hg HX5.out (by omega))
      have HB6 := hid (HB5.out.trans (grown_below hg (by rw [HGX.out]; omega) HB5.out.size))
      have KX := hid (ok_since _ (see_ok s 0 HK.out))
      have KY := hid (ok_since _ (see_ok s0 0 s0_ok))
      have KN := hid (low_near s s0)
      obtain ⟨sx, hsx⟩ : ∃ sx, ({ s.see 0 with since := 0 } : St) = sx := ⟨_, rfl⟩
      obtain ⟨sy, hsy⟩ : ∃ sy, ({ s0.see 0 with since := 0 } : St) = sy := ⟨_, rfl⟩
      rw [hsx] at KX KN HX6
      rw [hsy] at KY KN HY6
      clear ha hg HX5 HY5 HB5 hsx hsy HK
      go_wp2_with fail
      go_loopw [8] (fun k wr => ∃ (n : Nat) (x y : St), n ≤ l1.length ∧ k = .int .i64 n ∧ x.ok ∧ y.ok ∧ x.near y ∧ At wr gx x ∧ At wr gy y ∧ Below w.heap.size w wr) (fun k _ => l1.length - (intOf k).toNat)
      case atStart => exact ⟨0, sx, sy, Nat.zero_le _, rfl, KX.out, KY.out, KN.out, HX6.out, HY6.out, HB6.out⟩
      case round =>
        clear KX KY KN HX6 HY6 HB6
        obtain ⟨m, tx, ty, hm, rfl, kx, ky, kn, hx, hy, hb⟩ := hrel
        have KX := hid kx
        have KY := hid ky
        have KN := hid kn
        have HX := hid hx
        have HY := hid hy
        have HB := hid hb
        clear kx ky kn hx hy hb
        by_cases hlt1 : (m : Int) < (l1.length : Int)
        · obtain ⟨ad, hA, hc⟩ := RD1.out m (by omega)
          cases hA
          have hx := wf_u8 (WF1.out.at (i := m) (by omega))
          obtain ⟨x, hx'⟩ : ∃ x, l1.getD m 0 = x := ⟨_, rfl⟩
          rw [hx'] at hc hx
          have HC := hid hc
          have hc := cell_below' (hid HB.out) hc
          clear hx'
          go_wp2_with fail
          refine (see_any gx tx x hx KX.out _ HX.out).mono ?_
          rintro e w7 ⟨rfl, hg, ha⟩
          have HX7 := hid ha
          have HY7 := hid (grown_block hg HY.out (by omega))
          have HB7 := hid (HB.out.trans (grown_below hg (by rw [HGX.out]; exact Nat.le_refl _) HB.out.size))
          clear ha hg HX HY HB hc
          have hc := cell_below' (hid HB7.out) HC.out
          go_wp2_with fail
          refine (see_any gy ty x hx KY.out _ HY7.out).mono ?_
          rintro e w8 ⟨rfl, hg, ha⟩
          rw [near_see KN.out x] at HX7
          have HK := hid (see_ok ty x KY.out)
          obtain ⟨s', hs'⟩ : ∃ s', ty.see x = s' := ⟨_, rfl⟩
          rw [hs'] at ha HX7 HK
          have HX8 := hid (grown_block hg HX7.out (by omega))
          have HY8 := hid ha
          have HB8 := hid (HB7.out.trans (grown_below hg (by rw [HGX.out]; omega) HB7.out.size))
          clear ha hg HX7 HY7 HB7 hc hs' KX KY KN
          go_wp2_with fail
          refine (run_any gx s' _ HX8.out).mono ?_
          rintro e w9 ⟨rfl, hb⟩
          have HX9 := hid (below_block hb HX8.out (lt_of_block HX8.out))
          have HY9 := hid (below_block hb HY8.out (lt_of_block HY8.out))
          have HB9 := hid (below_trans' HB8.out hb HB8.out.size)
          clear hb HX8 HY8 HB8
          go_wp2_with fail
          refine (run_any gy s' _ HY9.out).mono ?_
          rintro e w10 ⟨rfl, hb⟩
          have HX10 := hid (below_block hb HX9.out (lt_of_block HX9.out))
          have HY10 := hid (below_block hb HY9.out (lt_of_block HY9.out))
          have HB10 := hid (below_trans' HB9.out hb HB9.out.size)
          clear hb HX9 HY9 HB9
          go_wp2_with fail
          refine (rose_any gx s' _ HX10.out).mono ?_
          rintro e w11 ⟨rfl, hb⟩
          have HX11 := hid (below_block hb HX10.out (lt_of_block HX10.out))
          have HY11 := hid (below_block hb HY10.out (lt_of_block HY10.out))
          have HB11 := hid (below_trans' HB10.out hb HB10.out.size)
          clear hb HX10 HY10 HB10
          go_wp2_with fail
          refine (rose_any gy s' _ HY11.out).mono ?_
          rintro e w12 ⟨rfl, hb⟩
          have HX12 := hid (below_block hb HX11.out (lt_of_block HX11.out))
          have HY12 := hid (below_block hb HY11.out (lt_of_block HY11.out))
          have HB12 := hid (below_trans' HB11.out hb HB11.out.size)
          clear hb HX11 HY11 HB11
          go_wp2_with fail
          refine (fell_any gx s' _ HX12.out).mono ?_
          rintro e w13 ⟨rfl, hb⟩
          have HX13 := hid (below_block hb HX12.out (lt_of_block HX12.out))
          have HY13 := hid (below_block hb HY12.out (lt_of_block HY12.out))
          have HB13 := hid (below_trans' HB12.out hb HB12.out.size)
          clear hb HX12 HY12 HB12
          go_wp2_with fail
          refine (fell_any gy s' _ HY13.out).mono ?_
          rintro e w14 ⟨rfl, hb⟩
          have HX14 := hid (below_block hb HX13.out (lt_of_block HX13.out))
          have HY14 := hid (below_block hb HY13.out (lt_of_block HY13.out))
          have HB14 := hid (below_trans' HB13.out hb HB13.out.size)
          clear hb HX13 HY13 HB13
          go_wp2_with fail
          exact ⟨⟨m + 1, s', s', by omega, by go_num, HK.out, HK.out, near_refl _, HX14.out, HY14.out, HB14.out⟩, by simp [intOf]; omega⟩
        · have he : tx.since = ty.since := KN.out.2.2.2.2
          have HE := hid he
          clear he
          go_wp2_with fail
          refine (since_any gx tx _ HX.out).mono ?_
          rw [HE.out]
          rintro e w7 ⟨rfl, hg, ha⟩
          have HY7 := hid (grown_block hg HY.out (by omega))
          have HB7 := hid (HB.out.trans (grown_below hg (by rw [HGX.out]; exact Nat.le_refl _) HB.out.size))
          clear ha hg HX HY HB
          go_wp2_with fail
          refine (since_any gy ty _ HY7.out).mono ?_
          rintro e w8 ⟨rfl, hg, ha⟩
          have HB8 := hid (HB7.out.trans (grown_below hg (by rw [HGX.out]; omega) HB7.out.size))
          clear ha hg HY7 HB7
          go_wp2_with fail
          refine (one_any _).mono ?_
          rintro e w9 ⟨rfl, hb⟩
          have HB9 := hid (below_trans' HB8.out hb HB8.out.size)
          clear hb
          go_wp2_with fail
          go_ret
          exact ⟨rfl, HB9.out⟩
end Go.Proofs.Ytfmepbpipknblaa.Rn
