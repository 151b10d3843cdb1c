/- The walk of RunsHold: a run of four lines goes on, whatever one of them does. Helper text. -/
import Derived.Test.YtfmepbpipknblaaRnHold
namespace Go.Proofs.Ytfmepbpipknblaa.Rn
open Go.RowKit Go.Proofs.Ytfmepbpipknblaa.Kx
set_option linter.unusedVariables false
set_option linter.unusedSimpArgs false

set_option maxHeartbeats 2000000 in
theorem hold_walk (a0 a1 : Int) (A2 : Option Addr) (c2 : Nat) (l2 : List Bool) (w : World) (w0 : (Lit.int .i64 a0).wf = true) (w1 : (Lit.int .i64 a1).wf = true) (rd2 : RdB w A2 l2) (lc2 : l2.length ≤ c2) (lm2 : c2 ≤ maxLen) :
    Calls Try.prog 16 #[.int .i64 a0, .int .i64 a1, .slice A2 l2.length c2] w fun e w' => e = .returned (.bool true) ∧ Below w.heap.size w w' := by
  have RD2 := hid rd2
  have hlm : l2.length ≤ 9223372036854775807 := by unfold maxLen at lm2; omega
  clear w0 w1 rd2 lc2 lm2
  obtain ⟨n, hn4, hn⟩ : ∃ n : Nat, n < 4 ∧ bits .and .i64 a0 3 = (n : Int) := ⟨(a0 % 4).toNat, by omega, by rw [i64_and_3]; omega⟩
  obtain ⟨m, hm4, hm⟩ : ∃ m : Nat, m < 4 ∧ bits .and .i64 a1 3 = (m : Int) := ⟨(a1 % 4).toNat, by omega, by rw [i64_and_3]; omega⟩
  obtain ⟨k, hk4, hk⟩ : ∃ k : Nat, k < 4 ∧ bits .and .i64 ((n : Int) + 1) 3 = (k : Int) := ⟨(((n : Int) + 1) % 4).toNat, by omega, by rw [i64_and_3]; omega⟩
  have hkn : k ≠ n := by rw [i64_and_3] at hk; omega
  have case2 : (n : Int) ≠ (m : Int) → n ≠ m := fun h e => h (by rw [e])
  by_cases heq : (n : Int) = (m : Int)
  case pos =>
    have he : ((n : Int) == (m : Int)) = true := by simp [heq]
    have HKN := hid hkn
    clear heq case2 hkn
    go_enter Try.func16, Try.ntmps16
    go_wp2_with fail
    clear he hm hm4 hn hk
    refine (new_any _).mono ?_
    rintro e w1 ⟨rfl, hw⟩
    have HA1 : Hid (At w1 w.heap.size s0) := by rw [hw]; exact heap_alloc_new _ _
    have HG1 : Hid (Below w.heap.size w w1) := by rw [hw]; exact (Below.refl _ _).alloc (Nat.le_refl _) _
    clear hw
    obtain ⟨g, hg⟩ : ∃ g, w.heap.size = g := ⟨_, rfl⟩
    rw [hg] at HA1
    rw [hg]
    have HGX := hid hg
    clear hg
    go_wp2_with fail
    refine (see_any g s0 0 (by omega) s0_ok _ HA1.out).mono ?_
    rintro e w2 ⟨rfl, hg, ha⟩
    have HA2 : Hid (At w2 g s0) := ha
    have HB2 := hid (HG1.out.trans (grown_below hg (by rw [HGX.out]; exact Nat.le_refl _) HG1.out.size))
    clear ha hg HA1 HG1
    go_wp2_with fail
    go_loopw [8] (fun q wr => ∃ (i : Nat) (s : St), i ≤ l2.length ∧ i ≤ 300 ∧ q = .int .i64 i ∧ Hold s n i ∧ At wr g s ∧ Below w.heap.size w wr) (fun q _ => l2.length - (intOf q).toNat)
    case atStart => exact ⟨0, s0, Nat.zero_le _, by omega, rfl, Hold.start n, HA2.out, HB2.out⟩
    case round =>
      obtain ⟨i, s, hi, hi3, rfl, hh, ha, hb⟩ := hrel
      have HH := hid hh
      have HA := hid ha
      have HB := hid hb
      clear hh ha hb HA2 HB2
      by_cases hlt : (i : Int) < (l2.length : Int) ∧ (i : Int) < 300
      · obtain ⟨hlt, hl3⟩ := hlt
        obtain ⟨ad, hA, hc⟩ := RD2.out i (by omega)
        cases hA
        have hc := cell_below' (hid HB.out) hc
        obtain ⟨b, hb'⟩ : ∃ b, l2.getD i false = b := ⟨_, rfl⟩
        rw [hb'] at hc
        clear hb'
        go_wp2_with fail
        refine (set_any 15 n hn4 b _).mono ?_
        rintro e w3 ⟨rfl, rfl⟩
        have hr := (set_facts n hn4 b).1
        have HST := hid (HH.out.step hn4 (by omega) b)
        obtain ⟨x, hx⟩ : ∃ x, setL 15 n b = x := ⟨_, rfl⟩
        rw [hx] at hr HST
        rw [hx]
        clear hx
        go_wp2_with fail
        refine (see_any g s x hr HH.out.ok _ HA.out).mono ?_
        rintro e w3 ⟨rfl, hg, ha⟩
        obtain ⟨s', hs'⟩ : ∃ s', s.see x = s' := ⟨_, rfl⟩
        rw [hs'] at ha HST
        have HA3 := hid ha
        have HB3 := hid (HB.out.trans (grown_below hg (by rw [HGX.out]; exact Nat.le_refl _) HB.out.size))
        clear ha hg HA HB hs' hc hr
        have ht : s'.third = (i : Int) + 1 := HST.out.1.third hn4
        have HT := hid ht
        have hf : s'.fell = 0 := by unfold St.fell; rw [if_neg (by omega)]
        have HF := hid hf
        have hz : s'.rose = ((i : Int) == 0) := by unfold St.rose; rw [ht, HST.out.2, show ((i : Int) + 1 == 0) = false from by simp; omega]; simp
        have HZ := hid hz
        clear ht hf hz
        go_wp2_with fail
        refine (run_any g s' _ HA3.out).mono ?_
        rw [HT.out]
        rintro e w4 ⟨rfl, hb⟩
        have HA4 := hid (below_block hb HA3.out (lt_of_block HA3.out))
        have HB4 := hid (below_trans' HB3.out hb HB3.out.size)
        clear hb HA3 HB3
        go_wp2_with fail
        refine (rose_any g s' _ HA4.out).mono ?_
        rw [HZ.out]
        rintro e w5 ⟨rfl, hb⟩
        have HA5 := hid (below_block hb HA4.out (lt_of_block HA4.out))
        have HB5 := hid (below_trans' HB4.out hb HB4.out.size)
        clear hb HA4 HB4
        go_wp2_with fail
        refine (fell_any g s' _ HA5.out).mono ?_
        rw [HF.out]
        rintro e w6 ⟨rfl, hb⟩
        have HA6 := hid (below_block hb HA5.out (lt_of_block HA5.out))
        have HB6 := hid (below_trans' HB5.out hb HB5.out.size)
        clear hb HA5 HB5
        go_wp2_with fail
        exact ⟨⟨i + 1, s', by omega, by omega, by go_num, HST.out.1, HA6.out, HB6.out⟩, by simp [intOf]; omega⟩
      · have hmin : (min (l2.length : Int) 300) = (i : Int) := by omega
        have HMIN := hid hmin
        have hlt' : ((i : Int) < (l2.length : Int)) = False ∨ (((i : Int) < (l2.length : Int)) = True ∧ ((i : Int) < 300) = False) := by
          by_cases h1 : (i : Int) < (l2.length : Int)
          · right; exact ⟨by simp [h1], by simp; omega⟩
          · left; simp; omega
        clear hmin hlt
        have HTH : Hid (s.third = (i : Int)) := HH.out.third hn4
        rcases hlt' with hlt' | ⟨hlt', hl3⟩
        all_goals
          go_wp2_with fail
          refine (set_any 15 n hn4 false _).mono ?_
          rintro e w3 ⟨rfl, rfl⟩
          have f1 := (set_facts n hn4 false).1
          have f2 := (((set_facts n hn4 false).2.2 0 (by omega)).2 k hk4).2.2
          have HL := hid (both_low s HH.out.ok n k hn4 hk4 (fun e => HKN.out e.symm))
          obtain ⟨x, hx⟩ : ∃ x, setL 15 n false = x := ⟨_, rfl⟩
          rw [hx] at f1 f2 HL
          rw [hx]
          clear hx
          go_wp2_with fail
          refine (set_any x k hk4 false _).mono ?_
          rintro e w3 ⟨rfl, rfl⟩
          obtain ⟨y, hy⟩ : ∃ y, setL x k false = y := ⟨_, rfl⟩
          rw [hy] at f2 HL
          rw [hy]
          clear hy f1
          have f3 : 0 ≤ y ∧ y ≤ 255 := ⟨f2.1, f2.2.1⟩
          clear f2
          go_wp2_with fail
          refine (see_any g s y f3 HH.out.ok _ HA.out).mono ?_
          rintro e w3 ⟨rfl, hg, ha⟩
          have HW : Hid ((s.see y).was = (i : Int)) := HTH.out
          have HK := hid (see_ok s y HH.out.ok)
          obtain ⟨s', hs'⟩ : ∃ s', s.see y = s' := ⟨_, rfl⟩
          rw [hs'] at ha HL HW HK
          have HA3 := hid ha
          have HB3 := hid (HB.out.trans (grown_below hg (by rw [HGX.out]; exact Nat.le_refl _) HB.out.size))
          clear ha hg HA HB hs' f3 HH HTH
          have HF : Hid (s'.fell = min (l2.length : Int) 300) := by
            show s'.fell = _
            unfold St.fell
            rw [if_pos HL.out, HW.out, HMIN.out]
          have HZ : Hid (s'.rose = false) := by
            show s'.rose = false
            unfold St.rose
            rw [HL.out]
            rfl
          go_wp2_with fail
          refine (run_any g s' _ HA3.out).mono ?_
          rw [HL.out]
          rintro e w4 ⟨rfl, hb⟩
          have HA4 := hid (below_block hb HA3.out (lt_of_block HA3.out))
          have HB4 := hid (below_trans' HB3.out hb HB3.out.size)
          clear hb HA3 HB3
          go_wp2_with fail
          refine (fell_any g s' _ HA4.out).mono ?_
          rw [HF.out]
          rintro e w5 ⟨rfl, hb⟩
          have HA5 := hid (below_block hb HA4.out (lt_of_block HA4.out))
          have HB5 := hid (below_trans' HB4.out hb HB4.out.size)
          clear hb HA4 HB4
          go_wp2_with fail
          refine (rose_any g s' _ HA5.out).mono ?_
          rw [HZ.out]
          rintro e w6 ⟨rfl, hb⟩
          have HA6 := hid (below_block hb HA5.out (lt_of_block HA5.out))
          have HB6 := hid (below_trans' HB5.out hb HB5.out.size)
          clear hb HA5 HB5
          go_wp2_with fail
          go_loopw [10] (fun q wr => ∃ (j : Nat) (r : St), j ≤ l2.length ∧ j ≤ 300 ∧ q = .int .i64 j ∧ r.ok ∧ r.third = 0 ∧ At wr g r ∧ Below w.heap.size w wr) (fun q _ => l2.length - (intOf q).toNat)
          case atStart => exact ⟨0, s', Nat.zero_le _, by omega, rfl, HK.out, HL.out, HA6.out, HB6.out⟩
          case round =>
            clear HA6 HB6 HK HL HF HZ HW
            obtain ⟨j, r, hj, hj3, rfl, hk, hl, ha, hb⟩ := hrel
            have HK := hid hk
            have HL := hid hl
            have HA := hid ha
            have HB := hid hb
            clear hk hl ha hb hlt'
            by_cases hjl : (j : Int) < (l2.length : Int) ∧ (j : Int) < 300
            · obtain ⟨hjl, hj3⟩ := hjl
              obtain ⟨ad, hA, hc⟩ := RD2.out j (by omega)
              cases hA
              have hc := cell_below' (hid HB.out) hc
              obtain ⟨b, hb'⟩ : ∃ b, l2.getD j false = b := ⟨_, rfl⟩
              rw [hb'] at hc
              clear hb'
              go_wp2_with fail
              refine (set_any 0 n hn4 b _).mono ?_
              rintro e w7 ⟨rfl, rfl⟩
              have f2 := (((set_facts n hn4 b).2.2 0 (by omega)).2 k hk4).2.2
              have HL2 := hid (two_high r HK.out n k b hn4 hk4 (fun e => HKN.out e.symm))
              obtain ⟨x2, hx⟩ : ∃ x, setL 0 n b = x := ⟨_, rfl⟩
              rw [hx] at f2 HL2
              rw [hx]
              clear hx
              go_wp2_with fail
              refine (set_any x2 k hk4 true _).mono ?_
              rintro e w7 ⟨rfl, rfl⟩
              obtain ⟨y2, hy⟩ : ∃ y, setL x2 k true = y := ⟨_, rfl⟩
              rw [hy] at f2 HL2
              rw [hy]
              clear hy
              have f3 : 0 ≤ y2 ∧ y2 ≤ 255 := ⟨f2.2.2.1, f2.2.2.2⟩
              clear f2
              go_wp2_with fail
              refine (see_any g r y2 f3 HK.out _ HA.out).mono ?_
              rintro e w7 ⟨rfl, hg, ha⟩
              have HW : Hid ((r.see y2).was = 0) := HL.out
              have HK2 := hid (see_ok r y2 HK.out)
              obtain ⟨r', hr'⟩ : ∃ r', r.see y2 = r' := ⟨_, rfl⟩
              rw [hr'] at ha HL2 HW HK2
              have HA7 := hid ha
              have HB7 := hid (HB.out.trans (grown_below hg (by rw [HGX.out]; exact Nat.le_refl _) HB.out.size))
              clear ha hg HA HB hr' f3 HK HL hc
              have HF : Hid (r'.fell = 0) := by
                show r'.fell = _
                unfold St.fell
                rw [if_pos HL2.out, HW.out]
              have HZ : Hid (r'.rose = false) := by
                show r'.rose = false
                unfold St.rose
                rw [HL2.out]
                rfl
              go_wp2_with fail
              refine (run_any g r' _ HA7.out).mono ?_
              rw [HL2.out]
              rintro e w8 ⟨rfl, hb⟩
              have HA8 := hid (below_block hb HA7.out (lt_of_block HA7.out))
              have HB8 := hid (below_trans' HB7.out hb HB7.out.size)
              clear hb HA7 HB7
              go_wp2_with fail
              refine (fell_any g r' _ HA8.out).mono ?_
              rw [HF.out]
              rintro e w9 ⟨rfl, hb⟩
              have HA9 := hid (below_block hb HA8.out (lt_of_block HA8.out))
              have HB9 := hid (below_trans' HB8.out hb HB8.out.size)
              clear hb HA8 HB8
              go_wp2_with fail
              refine (rose_any g r' _ HA9.out).mono ?_
              rw [HZ.out]
              rintro e w10 ⟨rfl, hb⟩
              have HA10 := hid (below_block hb HA9.out (lt_of_block HA9.out))
              have HB10 := hid (below_trans' HB9.out hb HB9.out.size)
              clear hb HA9 HB9
              go_wp2_with fail
              exact ⟨⟨j + 1, r', by omega, by omega, by go_num, HK2.out, HL2.out, HA10.out, HB10.out⟩, by simp [intOf]; omega⟩
            · have hlt2 : ((j : Int) < (l2.length : Int)) = False ∨ (((j : Int) < (l2.length : Int)) = True ∧ ((j : Int) < 300) = False) := by
                by_cases h1 : (j : Int) < (l2.length : Int)
                · right; exact ⟨by simp [h1], by simp; omega⟩
                · left; simp; omega
              clear hjl
              rcases hlt2 with hlt2 | ⟨hlt2, hl4⟩
              all_goals
                go_wp2_with fail
                refine (one_any _).mono ?_
                rintro e w11 ⟨rfl, hb⟩
                have HB11 := hid (below_trans' HB.out hb HB.out.size)
                clear hb
                go_wp2_with fail
                go_ret
                exact ⟨rfl, HB11.out⟩
  case neg =>
    have he : ((n : Int) == (m : Int)) = false := by simp [heq]
    have HKN : Hid (m ≠ n) := fun e => case2 heq e.symm
    clear heq case2 hkn hk hk4
    go_enter Try.func16, Try.ntmps16
    go_wp2_with fail
    clear he hm hn k
    obtain ⟨k, rfl⟩ : ∃ k, k = m := ⟨m, rfl⟩
    have hk4 := hm4
    clear hm4
    refine (new_any _).mono ?_
    rintro e w1 ⟨rfl, hw⟩
    have HA1 : Hid (At w1 w.heap.size s0) := by rw [hw]; exact heap_alloc_new _ _
    have HG1 : Hid (Below w.heap.size w w1) := by rw [hw]; exact (Below.refl _ _).alloc (Nat.le_refl _) _
    clear hw
    obtain ⟨g, hg⟩ : ∃ g, w.heap.size = g := ⟨_, rfl⟩
    rw [hg] at HA1
    rw [hg]
    have HGX := hid hg
    clear hg
    go_wp2_with fail
    refine (see_any g s0 0 (by omega) s0_ok _ HA1.out).mono ?_
    rintro e w2 ⟨rfl, hg, ha⟩
    have HA2 : Hid (At w2 g s0) := ha
    have HB2 := hid (HG1.out.trans (grown_below hg (by rw [HGX.out]; exact Nat.le_refl _) HG1.out.size))
    clear ha hg HA1 HG1
    go_wp2_with fail
    go_loopw [8] (fun q wr => ∃ (i : Nat) (s : St), i ≤ l2.length ∧ i ≤ 300 ∧ q = .int .i64 i ∧ Hold s n i ∧ At wr g s ∧ Below w.heap.size w wr) (fun q _ => l2.length - (intOf q).toNat)
    case atStart => exact ⟨0, s0, Nat.zero_le _, by omega, rfl, Hold.start n, HA2.out, HB2.out⟩
    case round =>
      obtain ⟨i, s, hi, hi3, rfl, hh, ha, hb⟩ := hrel
      have HH := hid hh
      have HA := hid ha
      have HB := hid hb
      clear hh ha hb HA2 HB2
      by_cases hlt : (i : Int) < (l2.length : Int) ∧ (i : Int) < 300
      · obtain ⟨hlt, hl3⟩ := hlt
        obtain ⟨ad, hA, hc⟩ := RD2.out i (by omega)
        cases hA
        have hc := cell_below' (hid HB.out) hc
        obtain ⟨b, hb'⟩ : ∃ b, l2.getD i false = b := ⟨_, rfl⟩
        rw [hb'] at hc
        clear hb'
        go_wp2_with fail
        refine (set_any 15 n hn4 b _).mono ?_
        rintro e w3 ⟨rfl, rfl⟩
        have hr := (set_facts n hn4 b).1
        have HST := hid (HH.out.step hn4 (by omega) b)
        obtain ⟨x, hx⟩ : ∃ x, setL 15 n b = x := ⟨_, rfl⟩
        rw [hx] at hr HST
        rw [hx]
        clear hx
        go_wp2_with fail
        refine (see_any g s x hr HH.out.ok _ HA.out).mono ?_
        rintro e w3 ⟨rfl, hg, ha⟩
        obtain ⟨s', hs'⟩ : ∃ s', s.see x = s' := ⟨_, rfl⟩
        rw [hs'] at ha HST
        have HA3 := hid ha
        have HB3 := hid (HB.out.trans (grown_below hg (by rw [HGX.out]; exact Nat.le_refl _) HB.out.size))
        clear ha hg HA HB hs' hc hr
        have ht : s'.third = (i : Int) + 1 := HST.out.1.third hn4
        have HT := hid ht
        have hf : s'.fell = 0 := by unfold St.fell; rw [if_neg (by omega)]
        have HF := hid hf
        have hz : s'.rose = ((i : Int) == 0) := by unfold St.rose; rw [ht, HST.out.2, show ((i : Int) + 1 == 0) = false from by simp; omega]; simp
        have HZ := hid hz
        clear ht hf hz
        go_wp2_with fail
        refine (run_any g s' _ HA3.out).mono ?_
        rw [HT.out]
        rintro e w4 ⟨rfl, hb⟩
        have HA4 := hid (below_block hb HA3.out (lt_of_block HA3.out))
        have HB4 := hid (below_trans' HB3.out hb HB3.out.size)
        clear hb HA3 HB3
        go_wp2_with fail
        refine (rose_any g s' _ HA4.out).mono ?_
        rw [HZ.out]
        rintro e w5 ⟨rfl, hb⟩
        have HA5 := hid (below_block hb HA4.out (lt_of_block HA4.out))
        have HB5 := hid (below_trans' HB4.out hb HB4.out.size)
        clear hb HA4 HB4
        go_wp2_with fail
        refine (fell_any g s' _ HA5.out).mono ?_
        rw [HF.out]
        rintro e w6 ⟨rfl, hb⟩
        have HA6 := hid (below_block hb HA5.out (lt_of_block HA5.out))
        have HB6 := hid (below_trans' HB5.out hb HB5.out.size)
        clear hb HA5 HB5
        go_wp2_with fail
        exact ⟨⟨i + 1, s', by omega, by omega, by go_num, HST.out.1, HA6.out, HB6.out⟩, by simp [intOf]; omega⟩
      · have hmin : (min (l2.length : Int) 300) = (i : Int) := by omega
        have HMIN := hid hmin
        have hlt' : ((i : Int) < (l2.length : Int)) = False ∨ (((i : Int) < (l2.length : Int)) = True ∧ ((i : Int) < 300) = False) := by
          by_cases h1 : (i : Int) < (l2.length : Int)
          · right; exact ⟨by simp [h1], by simp; omega⟩
          · left; simp; omega
        clear hmin hlt
        have HTH : Hid (s.third = (i : Int)) := HH.out.third hn4
        rcases hlt' with hlt' | ⟨hlt', hl3⟩
        all_goals
          go_wp2_with fail
          refine (set_any 15 n hn4 false _).mono ?_
          rintro e w3 ⟨rfl, rfl⟩
          have f1 := (set_facts n hn4 false).1
          have f2 := (((set_facts n hn4 false).2.2 0 (by omega)).2 k hk4).2.2
          have HL := hid (both_low s HH.out.ok n k hn4 hk4 (fun e => HKN.out e.symm))
          obtain ⟨x, hx⟩ : ∃ x, setL 15 n false = x := ⟨_, rfl⟩
          rw [hx] at f1 f2 HL
          rw [hx]
          clear hx
          go_wp2_with fail
          refine (set_any x k hk4 false _).mono ?_
          rintro e w3 ⟨rfl, rfl⟩
          obtain ⟨y, hy⟩ : ∃ y, setL x k false = y := ⟨_, rfl⟩
          rw [hy] at f2 HL
          rw [hy]
          clear hy f1
          have f3 : 0 ≤ y ∧ y ≤ 255 := ⟨f2.1, f2.2.1⟩
          clear f2
          go_wp2_with fail
          refine (see_any g s y f3 HH.out.ok _ HA.out).mono ?_
          rintro e w3 ⟨rfl, hg, ha⟩
          have HW : Hid ((s.see y).was = (i : Int)) := HTH.out
          have HK := hid (see_ok s y HH.out.ok)
          obtain ⟨s', hs'⟩ : ∃ s', s.see y = s' := ⟨_, rfl⟩
          rw [hs'] at ha HL HW HK
          have HA3 := hid ha
          have HB3 := hid (HB.out.trans (grown_below hg (by rw [HGX.out]; exact Nat.le_refl _) HB.out.size))
          clear ha hg HA HB hs' f3 HH HTH
          have HF : Hid (s'.fell = min (l2.length : Int) 300) := by
            show s'.fell = _
            unfold St.fell
            rw [if_pos HL.out, HW.out, HMIN.out]
          have HZ : Hid (s'.rose = false) := by
            show s'.rose = false
            unfold St.rose
            rw [HL.out]
            rfl
          go_wp2_with fail
          refine (run_any g s' _ HA3.out).mono ?_
          rw [HL.out]
          rintro e w4 ⟨rfl, hb⟩
          have HA4 := hid (below_block hb HA3.out (lt_of_block HA3.out))
          have HB4 := hid (below_trans' HB3.out hb HB3.out.size)
          clear hb HA3 HB3
          go_wp2_with fail
          refine (fell_any g s' _ HA4.out).mono ?_
          rw [HF.out]
          rintro e w5 ⟨rfl, hb⟩
          have HA5 := hid (below_block hb HA4.out (lt_of_block HA4.out))
          have HB5 := hid (below_trans' HB4.out hb HB4.out.size)
          clear hb HA4 HB4
          go_wp2_with fail
          refine (rose_any g s' _ HA5.out).mono ?_
          rw [HZ.out]
          rintro e w6 ⟨rfl, hb⟩
          have HA6 := hid (below_block hb HA5.out (lt_of_block HA5.out))
          have HB6 := hid (below_trans' HB5.out hb HB5.out.size)
          clear hb HA5 HB5
          go_wp2_with fail
          go_loopw [10] (fun q wr => ∃ (j : Nat) (r : St), j ≤ l2.length ∧ j ≤ 300 ∧ q = .int .i64 j ∧ r.ok ∧ r.third = 0 ∧ At wr g r ∧ Below w.heap.size w wr) (fun q _ => l2.length - (intOf q).toNat)
          case atStart => exact ⟨0, s', Nat.zero_le _, by omega, rfl, HK.out, HL.out, HA6.out, HB6.out⟩
          case round =>
            clear HA6 HB6 HK HL HF HZ HW
            obtain ⟨j, r, hj, hj3, rfl, hk, hl, ha, hb⟩ := hrel
            have HK := hid hk
            have HL := hid hl
            have HA := hid ha
            have HB := hid hb
            clear hk hl ha hb hlt'
            by_cases hjl : (j : Int) < (l2.length : Int) ∧ (j : Int) < 300
            · obtain ⟨hjl, hj3⟩ := hjl
              obtain ⟨ad, hA, hc⟩ := RD2.out j (by omega)
              cases hA
              have hc := cell_below' (hid HB.out) hc
              obtain ⟨b, hb'⟩ : ∃ b, l2.getD j false = b := ⟨_, rfl⟩
              rw [hb'] at hc
              clear hb'
              go_wp2_with fail
              refine (set_any 0 n hn4 b _).mono ?_
              rintro e w7 ⟨rfl, rfl⟩
              have f2 := (((set_facts n hn4 b).2.2 0 (by omega)).2 k hk4).2.2
              have HL2 := hid (two_high r HK.out n k b hn4 hk4 (fun e => HKN.out e.symm))
              obtain ⟨x2, hx⟩ : ∃ x, setL 0 n b = x := ⟨_, rfl⟩
              rw [hx] at f2 HL2
              rw [hx]
              clear hx
              go_wp2_with fail
              refine (set_any x2 k hk4 true _).mono ?_
              rintro e w7 ⟨rfl, rfl⟩
              obtain ⟨y2, hy⟩ : ∃ y, setL x2 k true = y := ⟨_, rfl⟩
              rw [hy] at f2 HL2
              rw [hy]
              clear hy
              have f3 : 0 ≤ y2 ∧ y2 ≤ 255 := ⟨f2.2.2.1, f2.2.2.2⟩
              clear f2
              go_wp2_with fail
              refine (see_any g r y2 f3 HK.out _ HA.out).mono ?_
              rintro e w7 ⟨rfl, hg, ha⟩
              have HW : Hid ((r.see y2).was = 0) := HL.out
              have HK2 := hid (see_ok r y2 HK.out)
              obtain ⟨r', hr'⟩ : ∃ r', r.see y2 = r' := ⟨_, rfl⟩
              rw [hr'] at ha HL2 HW HK2
              have HA7 := hid ha
              have HB7 := hid (HB.out.trans (grown_below hg (by rw [HGX.out]; exact Nat.le_refl _) HB.out.size))
              clear ha hg HA HB hr' f3 HK HL hc
              have HF : Hid (r'.fell = 0) := by
                show r'.fell = _
                unfold St.fell
                rw [if_pos HL2.out, HW.out]
              have HZ : Hid (r'.rose = false) := by
                show r'.rose = false
                unfold St.rose
                rw [HL2.out]
                rfl
              go_wp2_with fail
              refine (run_any g r' _ HA7.out).mono ?_
              rw [HL2.out]
              rintro e w8 ⟨rfl, hb⟩
              have HA8 := hid (below_block hb HA7.out (lt_of_block HA7.out))
              have HB8 := hid (below_trans' HB7.out hb HB7.out.size)
              clear hb HA7 HB7
              go_wp2_with fail
              refine (fell_any g r' _ HA8.out).mono ?_
              rw [HF.out]
              rintro e w9 ⟨rfl, hb⟩
              have HA9 := hid (below_block hb HA8.out (lt_of_block HA8.out))
              have HB9 := hid (below_trans' HB8.out hb HB8.out.size)
              clear hb HA8 HB8
              go_wp2_with fail
              refine (rose_any g r' _ HA9.out).mono ?_
              rw [HZ.out]
              rintro e w10 ⟨rfl, hb⟩
              have HA10 := hid (below_block hb HA9.out (lt_of_block HA9.out))
              have HB10 := hid (below_trans' HB9.out hb HB9.out.size)
              clear hb HA9 HB9
              go_wp2_with fail
              exact ⟨⟨j + 1, r', by omega, by omega, by go_num, HK2.out, HL2.out, HA10.out, HB10.out⟩, by simp [intOf]; omega⟩
            · have hlt2 : ((j : Int) < (l2.length : Int)) = False ∨ (((j : Int) < (l2.length : Int)) = True ∧ ((j : Int) < 300) = False) := by
                by_cases h1 : (j : Int) < (l2.length : Int)
                · right; exact ⟨by simp [h1], by simp; omega⟩
                · left; simp; omega
              clear hjl
              rcases hlt2 with hlt2 | ⟨hlt2, hl4⟩
              all_goals
                go_wp2_with fail
                refine (one_any _).mono ?_
                rintro e w11 ⟨rfl, hb⟩
                have HB11 := hid (below_trans' HB.out hb HB.out.size)
                clear hb
                go_wp2_with fail
                go_ret
                exact ⟨rfl, HB11.out⟩
end Go.Proofs.Ytfmepbpipknblaa.Rn
