/- The walk of RunsTell: whatever lines are seen, the runs are the document's. Helper text. -/
import Derived.Test.YtfmepbpipknblaaRnTell
namespace Go.Proofs.Ytfmepbpipknblaa.Rn
open Go.RowKit Go.Proofs.Ytfmepbpipknblaa.Kx
set_option linter.unusedVariables false
set_option linter.unusedSimpArgs false

/-- The runs are those of what was seen. -/
def Seen (s : St) (l : List Int) : Prop := s.a = runs l 0 ∧ s.b = runs l 1 ∧ s.c = runs l 2 ∧ s.d = runs l 3
theorem Seen.third {s : St} {l : List Int} (h : Seen s l) : s.third = Rn.third (runs l 0) (runs l 1) (runs l 2) (runs l 3) := by
  unfold St.third; rw [h.1, h.2.1, h.2.2.1, h.2.2.2]
theorem Seen.line {s : St} {l : List Int} (h : Seen s l) (k : Nat) (hk : k < 4) : (if k = 0 then s.a else if k = 1 then s.b else if k = 2 then s.c else s.d) = runs l k := by
  obtain rfl | rfl | rfl | rfl : k = 0 ∨ k = 1 ∨ k = 2 ∨ k = 3 := by omega
  · exact h.1
  · exact h.2.1
  · exact h.2.2.1
  · exact h.2.2.2
theorem third_ge0 {s : St} (h : s.ok) : 0 ≤ s.third := (third_range _ _ _ _ _ _ h.1 h.2.1 h.2.2.1 h.2.2.2.1).1
theorem take_snoc (l : List Int) (i : Nat) (hi : i < l.length) : l.take (i + 1) = l.take i ++ [l.getD i 0] := by
  rw [List.take_succ_eq_append_getElem hi, List.getD_eq_getElem?_getD, List.getElem?_eq_getElem hi]; rfl
theorem bytes_take (l : List Int) (h : wfs .u8 l) (i : Nat) : bytes8 (l.take i) := fun x hx => wf_u8 (h x (List.mem_of_mem_take hx))
theorem rem_pos (i e : Int) (hi : 0 ≤ i) (he : 0 < e) : i.tmod e = i % e := Int.tmod_eq_emod_of_nonneg hi

set_option maxHeartbeats 2000000 in
set_option maxRecDepth 100000 in
theorem tell_walk (A0 : Option Addr) (c0 : Nat) (l0 : List Int) (a1 : Int) (w : World) (rd0 : RdI w .u8 A0 l0) (wf0 : wfs .u8 l0) (lc0 : l0.length ≤ c0) (lm0 : c0 ≤ maxLen) (w1 : (Lit.int .i64 a1).wf = true) :
    Calls Try.prog 14 #[.slice A0 l0.length c0, .int .i64 a1] w fun e w' => e = .returned (.bool true) ∧ Below w.heap.size w w' := by
  have RD0 := hid rd0
  have WF0 := hid wf0
  clear lc0 lm0 rd0 wf0 w1
  by_cases h0 : (120 : Int) < (l0.length : Int)
  · go_enter Try.func14, Try.ntmps14
    go_wp2_with fail
    go_ret
    exact ⟨rfl, Below.refl _ _⟩
  obtain ⟨v, hv0, hv1, hv⟩ : ∃ v : Int, 1 ≤ 1 + v ∧ 1 + v ≤ 8 ∧ bits .and .i64 a1 7 = v := ⟨a1 % 8, by omega, by omega, i64_and_7 a1⟩
  go_enter Try.func14, Try.ntmps14
  go_wp2_with fail
  refine (new_any _).mono ?_
  rintro e w1 ⟨rfl, hw⟩
  have HA1 : Hid (At w1 w.heap.size s0) := by rw [hw]; exact heap_alloc_new _ _
  have HG1 : Hid (Below w.heap.size w w1) := by rw [hw]; exact (Below.refl _ _).alloc (Nat.le_refl _) _
  clear hw
  obtain ⟨g, hg⟩ : ∃ g, w.heap.size = g := ⟨_, rfl⟩
  rw [hg] at HA1
  rw [hg]
  have HGX := hid hg
  clear hg
  go_wp2_with fail
  clear hv
  obtain ⟨every, hev⟩ : ∃ e, 1 + v = e := ⟨_, rfl⟩
  rw [hev] at hv0 hv1
  rw [hev]
  clear hev
  go_loopw [6, 7, 8, 9] (fun q6 q7 q8 q9 wr => ∃ (i : Nat) (s : St), i ≤ l0.length ∧ q9 = .int .i64 i ∧ s.ok ∧ Seen s (l0.take i) ∧ q6 = .int .i64 s.third ∧ q7 = .int .i64 s.since ∧ OwnI wr (g + 1) 3 .i64 q8 (l0.take i) ∧ At wr g s ∧ Below w.heap.size w wr) (fun _ _ _ q9 _ => l0.length - (intOf q9).toNat)
  case atStart => exact ⟨0, s0, Nat.zero_le _, rfl, s0_ok, ⟨rfl, rfl, rfl, rfl⟩, by rw [show s0.third = 0 from by decide +kernel], rfl, OwnI.nil _ _ _ _, HA1.out, HG1.out⟩
  case round =>
    obtain ⟨i, s, hi, rfl, hk, hsn, rfl, rfl, ho, ha, hb⟩ := hrel
    have HK := hid hk
    have HSN := hid hsn
    have HO := hid ho
    have HA := hid ha
    have HB := hid hb
    clear hk hsn ho ha hb HA1 HG1
    by_cases hlt : (i : Int) < (l0.length : Int)
    · obtain ⟨ad, hA, hc⟩ := RD0.out i (by omega)
      cases hA
      have hx := wf_u8 (WF0.out.at (i := i) (by omega))
      have HT := hid (take_snoc l0 i (by omega))
      obtain ⟨x, hx'⟩ : ∃ x, l0.getD i 0 = x := ⟨_, rfl⟩
      rw [hx'] at hc hx HT
      have HC := hid hc
      have hc := cell_below' (hid HB.out) hc
      clear hx'
      go_wp2_with fail
      refine (see_any g s x hx HK.out _ HA.out).mono ?_
      rintro e w2 ⟨rfl, hg, ha⟩
      have HW : Hid ((s.see x).was = s.third) := rfl
      have HSI : Hid ((s.see x).since = max s.since (s.see x).third) := rfl
      have HK2 := hid (see_ok s x HK.out)
      have hsn : Seen (s.see x) (l0.take i ++ [x]) := runs_see _ _ _ HSN.out (by simp; omega)
      obtain ⟨s', hs'⟩ : ∃ s', s.see x = s' := ⟨_, rfl⟩
      rw [hs'] at ha HW HSI HK2 hsn
      have HSN2 := hid hsn
      have HA2 := hid ha
      have HO2 := hid (HO.out.kept hg (fun r hr => by cases hr; omega))
      have HB2 := hid (HB.out.trans (grown_below hg (by rw [HGX.out]; exact Nat.le_refl _) HB.out.size))
      clear ha hg HA HB HO hs' HK HSN hsn hc
      have hc := cell_below' (hid HB2.out) HC.out
      have hlen : (l0.take i).length = i := by rw [List.length_take]; omega
      go_wp2_with (at_builtin; go_must (refine app_num (g + 1) rfl _ _ 43 3 .i64 8 rfl Try.underlying43 (by kernel_rfl) u8 (l0.take i) x rfl rfl HO2.out ?_ ?_ ?_ ?_))
      · have := lt_of_block HA2.out; omega
      · omega
      · omega
      intro v1 w3 ho hb3 hg3
      have hq := World.ownsRow.lt HO2.out
      have HA3 : Hid (At w3 g s') := by
        refine (hg3.block g (lt_of_block HA2.out) (fun e => ?_)).trans HA2.out
        have := (hq g e.symm).1
        omega
      have HB3 := hid (HB2.out.trans (hb3.mono (by rw [HGX.out]; omega)))
      have HO3 := hid ho
      clear hq hg3 hb3 ho HA2 HB2 HO2 hc
      go_wp2_with fail
      have H8 : Hid (bytes8 (l0.take (i + 1))) := bytes_take _ WF0.out _
      rw [HT.out] at H8
      obtain ⟨xs, hxs⟩ : ∃ xs, l0.take i ++ [x] = xs := ⟨_, rfl⟩
      have hxl : xs.length = i + 1 := by rw [← hxs]; simp; omega
      rw [hxs] at HO3 HSN2 HT H8
      clear hxs hlen
      obtain ⟨A, c, hv, hlc, hcm, rd⟩ := HO3.out.shape
      have RD := hid rd
      clear rd hlc hcm
      subst hv
      refine (ref_third A c xs (by omega) H8.out _ RD.out).mono ?_
      rw [← HSN2.out.third]
      rintro e w4 ⟨rfl, rfl⟩
      have hy0 : 0 ≤ s'.third := third_ge0 HK2.out
      obtain ⟨y, hy⟩ : ∃ y, s'.third = y := ⟨_, rfl⟩
      obtain ⟨p, hp⟩ : ∃ p, s.third = p := ⟨_, rfl⟩
      obtain ⟨q, hq⟩ : ∃ q, s.since = q := ⟨_, rfl⟩
      rw [hy] at hy0 HSI
      rw [hp] at HW
      rw [hq] at HSI
      rw [hy, hp, hq]
      have HY := hid hy
      clear hy hp hq HC RD0 WF0
      have HXL := hid hxl
      clear hxl
      by_cases hyz : y = 0
      · subst hyz
        have HR : Hid (s'.rose = false) := by show s'.rose = false; unfold St.rose; rw [HY.out]; rfl
        have HF : Hid (s'.fell = p) := by show s'.fell = p; unfold St.fell; rw [if_pos HY.out, HW.out]
        go_wp2_with fail
        refine (run_any g s' _ HA3.out).mono ?_
        rw [HY.out]
        rintro e w4 ⟨rfl, hb⟩
        have HA4 := hid (below_block hb HA3.out (lt_of_block HA3.out))
        have HO4 := hid (HO3.out.below hb)
        have HB4 := hid (below_trans' HB3.out hb HB3.out.size)
        clear hb HA3 HB3 HO3
        go_wp2_with fail
        refine (rose_any g s' _ HA4.out).mono ?_
        rw [HR.out]
        rintro e w5 ⟨rfl, hb⟩
        have HA5 := hid (below_block hb HA4.out (lt_of_block HA4.out))
        have HO5 := hid (HO4.out.below hb)
        have HB5 := hid (below_trans' HB4.out hb HB4.out.size)
        clear hb HA4 HB4 HO4
        go_wp2_with fail
        refine (fell_any g s' _ HA5.out).mono ?_
        rw [HF.out]
        rintro e w6 ⟨rfl, hb⟩
        have HA6 := hid (below_block hb HA5.out (lt_of_block HA5.out))
        have HO6 := hid (HO5.out.below hb)
        have HB6 := hid (below_trans' HB5.out hb HB5.out.size)
        clear hb HA5 HB5 HO5
        go_wp2_with fail
        go_loopw [12] (fun q wr => ∃ (j : Nat) (kk : Int), j ≤ 6 ∧ kk = (j : Int) - 1 ∧ q = .int .i64 kk ∧ At wr g s' ∧ OwnI wr (g + 1) 3 .i64 (.slice A xs.length c) xs ∧ Below w.heap.size w wr) (fun q _ => (5 - intOf q).toNat)
        case atStart => exact ⟨0, -1, by omega, rfl, rfl, HA6.out, HO6.out, HB6.out⟩
        case round =>
          clear HA6 HB6 HO6
          obtain ⟨j, kk, hj, hkk, rfl, ha, ho, hb⟩ := hrel
          have HA := hid ha
          have HO := hid ho
          have HB := hid hb
          clear ha ho hb
          by_cases hj6 : j = 6
          · obtain rfl : kk = 5 := by omega
            clear hj hkk hj6
            by_cases hm : (i : Int) % every = 0
            · have hm' : ((i : Int) % every == 0) = true := by simp [hm]
              clear hm
              go_wp2_with fail
              refine (since_any g s' _ HA.out).mono ?_
              rw [HSI.out]
              rintro e w7 ⟨rfl, hg, ha⟩
              have HA7 := hid ha
              have HO7 := hid (HO.out.kept hg (fun r hr => by cases hr; omega))
              have HB7 := hid (HB.out.trans (grown_below hg (by rw [HGX.out]; exact Nat.le_refl _) HB.out.size))
              clear ha hg HA HB HO
              go_wp2_with fail
              exact ⟨⟨i + 1, { s' with since := 0 }, by omega, by go_num, ok_since _ HK2.out, by rw [HT.out]; exact HSN2.out, by rw [← HY.out]; rfl, rfl, by rw [HT.out]; exact HO7.out, HA7.out, HB7.out⟩, by simp [intOf]; omega⟩
            · have hm' : ((i : Int) % every == 0) = false := by simp [hm]
              clear hm
              go_wp2_with fail
              exact ⟨⟨i + 1, s', by omega, by go_num, HK2.out, by rw [HT.out]; exact HSN2.out, by rw [HY.out], by rw [HSI.out], by rw [HT.out]; exact HO.out, HA.out, HB.out⟩, by simp [intOf]; omega⟩
          · by_cases hj0 : 0 ≤ kk ∧ kk < 4
            · obtain ⟨hk0, hk4⟩ := hj0
              obtain ⟨m, hm4, rfl⟩ : ∃ m : Nat, m < 4 ∧ kk = (m : Int) := ⟨kk.toNat, by omega, by omega⟩
              have HKK := hid hkk
              clear hkk
              obtain ⟨A', c', hv', hlc', hcm', rd'⟩ := HO.out.shape
              simp only [Value.slice.injEq, true_and] at hv'
              obtain ⟨rfl, rfl⟩ := hv'
              have RD' := hid rd'
              clear rd' hlc' hcm'
              have HLN := hid (HSN2.out.line m hm4)
              go_wp2_with fail
              refine (ref_run A c xs m hm4 (by have := HXL.out; omega) H8.out _ RD'.out).mono ?_
              rintro e w7 ⟨rfl, rfl⟩
              go_wp2_with fail
              refine (of_line g s' m hm4 _ HA.out).mono ?_
              rw [HLN.out]
              rintro e w7 ⟨rfl, hb⟩
              have HA7 := hid (below_block hb HA.out (lt_of_block HA.out))
              have HO7 := hid (HO.out.below hb)
              have HB7 := hid (below_trans' HB.out hb HB.out.size)
              clear hb HA HB HO
              go_wp2_with fail
              exact ⟨⟨j + 1, _, by omega, by have := HKK.out; omega, rfl, HA7.out, HO7.out, HB7.out⟩, by simp [intOf] <;> omega⟩
            · have hout : kk < 0 ∨ 3 < kk := by omega
              have hk0 : kk = -1 ∨ kk = 4 := by omega
              have HKK := hid hkk
              clear hkk
              clear hj0
              rcases hk0 with rfl | rfl
              all_goals
                go_wp2_with fail
                refine (of_out g s' _ hout _ HA.out).mono ?_
                rintro e w7 ⟨rfl, hb⟩
                have HA7 := hid (below_block hb HA.out (lt_of_block HA.out))
                have HO7 := hid (HO.out.below hb)
                have HB7 := hid (below_trans' HB.out hb HB.out.size)
                clear hb HA HB HO
                go_wp2_with fail
                exact ⟨⟨j + 1, _, by omega, by have := HKK.out; omega, rfl, HA7.out, HO7.out, HB7.out⟩, by simp [intOf] <;> omega⟩
      · have hyp : 0 < y := by omega
        have hyb : (y == 0) = false := by simp [hyz]
        have HF : Hid (s'.fell = 0) := by show s'.fell = 0; unfold St.fell; rw [if_neg (by rw [HY.out]; exact hyz)]
        clear hyz
        by_cases hpz : p = 0
        · subst hpz
          have HR : Hid (s'.rose = true) := by show s'.rose = true; unfold St.rose; rw [HY.out, HW.out, hyb]; rfl
          go_wp2_with fail
          refine (run_any g s' _ HA3.out).mono ?_
          rw [HY.out]
          rintro e w4 ⟨rfl, hb⟩
          have HA4 := hid (below_block hb HA3.out (lt_of_block HA3.out))
          have HO4 := hid (HO3.out.below hb)
          have HB4 := hid (below_trans' HB3.out hb HB3.out.size)
          clear hb HA3 HB3 HO3
          go_wp2_with fail
          refine (rose_any g s' _ HA4.out).mono ?_
          rw [HR.out]
          rintro e w5 ⟨rfl, hb⟩
          have HA5 := hid (below_block hb HA4.out (lt_of_block HA4.out))
          have HO5 := hid (HO4.out.below hb)
          have HB5 := hid (below_trans' HB4.out hb HB4.out.size)
          clear hb HA4 HB4 HO4
          go_wp2_with fail
          refine (fell_any g s' _ HA5.out).mono ?_
          rw [HF.out]
          rintro e w6 ⟨rfl, hb⟩
          have HA6 := hid (below_block hb HA5.out (lt_of_block HA5.out))
          have HO6 := hid (HO5.out.below hb)
          have HB6 := hid (below_trans' HB5.out hb HB5.out.size)
          clear hb HA5 HB5 HO5
          go_wp2_with fail
          go_loopw [12] (fun q wr => ∃ (j : Nat) (kk : Int), j ≤ 6 ∧ kk = (j : Int) - 1 ∧ q = .int .i64 kk ∧ At wr g s' ∧ OwnI wr (g + 1) 3 .i64 (.slice A xs.length c) xs ∧ Below w.heap.size w wr) (fun q _ => (5 - intOf q).toNat)
          case atStart => exact ⟨0, -1, by omega, rfl, rfl, HA6.out, HO6.out, HB6.out⟩
          case round =>
            clear HA6 HB6 HO6
            obtain ⟨j, kk, hj, hkk, rfl, ha, ho, hb⟩ := hrel
            have HA := hid ha
            have HO := hid ho
            have HB := hid hb
            clear ha ho hb
            by_cases hj6 : j = 6
            · obtain rfl : kk = 5 := by omega
              clear hj hkk hj6
              by_cases hm : (i : Int) % every = 0
              · have hm' : ((i : Int) % every == 0) = true := by simp [hm]
                clear hm
                go_wp2_with fail
                refine (since_any g s' _ HA.out).mono ?_
                rw [HSI.out]
                rintro e w7 ⟨rfl, hg, ha⟩
                have HA7 := hid ha
                have HO7 := hid (HO.out.kept hg (fun r hr => by cases hr; omega))
                have HB7 := hid (HB.out.trans (grown_below hg (by rw [HGX.out]; exact Nat.le_refl _) HB.out.size))
                clear ha hg HA HB HO
                go_wp2_with fail
                exact ⟨⟨i + 1, { s' with since := 0 }, by omega, by go_num, ok_since _ HK2.out, by rw [HT.out]; exact HSN2.out, by rw [← HY.out]; rfl, rfl, by rw [HT.out]; exact HO7.out, HA7.out, HB7.out⟩, by simp [intOf]; omega⟩
              · have hm' : ((i : Int) % every == 0) = false := by simp [hm]
                clear hm
                go_wp2_with fail
                exact ⟨⟨i + 1, s', by omega, by go_num, HK2.out, by rw [HT.out]; exact HSN2.out, by rw [HY.out], by rw [HSI.out], by rw [HT.out]; exact HO.out, HA.out, HB.out⟩, by simp [intOf]; omega⟩
            · by_cases hj0 : 0 ≤ kk ∧ kk < 4
              · obtain ⟨hk0, hk4⟩ := hj0
                obtain ⟨m, hm4, rfl⟩ : ∃ m : Nat, m < 4 ∧ kk = (m : Int) := ⟨kk.toNat, by omega, by omega⟩
                have HKK := hid hkk
                clear hkk
                obtain ⟨A', c', hv', hlc', hcm', rd'⟩ := HO.out.shape
                simp only [Value.slice.injEq, true_and] at hv'
                obtain ⟨rfl, rfl⟩ := hv'
                have RD' := hid rd'
                clear rd' hlc' hcm'
                have HLN := hid (HSN2.out.line m hm4)
                go_wp2_with fail
                refine (ref_run A c xs m hm4 (by have := HXL.out; omega) H8.out _ RD'.out).mono ?_
                rintro e w7 ⟨rfl, rfl⟩
                go_wp2_with fail
                refine (of_line g s' m hm4 _ HA.out).mono ?_
                rw [HLN.out]
                rintro e w7 ⟨rfl, hb⟩
                have HA7 := hid (below_block hb HA.out (lt_of_block HA.out))
                have HO7 := hid (HO.out.below hb)
                have HB7 := hid (below_trans' HB.out hb HB.out.size)
                clear hb HA HB HO
                go_wp2_with fail
                exact ⟨⟨j + 1, _, by omega, by have := HKK.out; omega, rfl, HA7.out, HO7.out, HB7.out⟩, by simp [intOf] <;> omega⟩
              · have hout : kk < 0 ∨ 3 < kk := by omega
                have hk0 : kk = -1 ∨ kk = 4 := by omega
                have HKK := hid hkk
                clear hkk
                clear hj0
                rcases hk0 with rfl | rfl
                all_goals
                  go_wp2_with fail
                  refine (of_out g s' _ hout _ HA.out).mono ?_
                  rintro e w7 ⟨rfl, hb⟩
                  have HA7 := hid (below_block hb HA.out (lt_of_block HA.out))
                  have HO7 := hid (HO.out.below hb)
                  have HB7 := hid (below_trans' HB.out hb HB.out.size)
                  clear hb HA HB HO
                  go_wp2_with fail
                  exact ⟨⟨j + 1, _, by omega, by have := HKK.out; omega, rfl, HA7.out, HO7.out, HB7.out⟩, by simp [intOf] <;> omega⟩
        · have hpb : (p == 0) = false := by simp [hpz]
          have HR : Hid (s'.rose = false) := by show s'.rose = false; unfold St.rose; rw [HY.out, HW.out, hyb, hpb]; rfl
          clear hpz
          go_wp2_with fail
          refine (run_any g s' _ HA3.out).mono ?_
          rw [HY.out]
          rintro e w4 ⟨rfl, hb⟩
          have HA4 := hid (below_block hb HA3.out (lt_of_block HA3.out))
          have HO4 := hid (HO3.out.below hb)
          have HB4 := hid (below_trans' HB3.out hb HB3.out.size)
          clear hb HA3 HB3 HO3
          go_wp2_with fail
          refine (rose_any g s' _ HA4.out).mono ?_
          rw [HR.out]
          rintro e w5 ⟨rfl, hb⟩
          have HA5 := hid (below_block hb HA4.out (lt_of_block HA4.out))
          have HO5 := hid (HO4.out.below hb)
          have HB5 := hid (below_trans' HB4.out hb HB4.out.size)
          clear hb HA4 HB4 HO4
          go_wp2_with fail
          refine (fell_any g s' _ HA5.out).mono ?_
          rw [HF.out]
          rintro e w6 ⟨rfl, hb⟩
          have HA6 := hid (below_block hb HA5.out (lt_of_block HA5.out))
          have HO6 := hid (HO5.out.below hb)
          have HB6 := hid (below_trans' HB5.out hb HB5.out.size)
          clear hb HA5 HB5 HO5
          go_wp2_with fail
          go_loopw [12] (fun q wr => ∃ (j : Nat) (kk : Int), j ≤ 6 ∧ kk = (j : Int) - 1 ∧ q = .int .i64 kk ∧ At wr g s' ∧ OwnI wr (g + 1) 3 .i64 (.slice A xs.length c) xs ∧ Below w.heap.size w wr) (fun q _ => (5 - intOf q).toNat)
          case atStart => exact ⟨0, -1, by omega, rfl, rfl, HA6.out, HO6.out, HB6.out⟩
          case round =>
            clear HA6 HB6 HO6
            obtain ⟨j, kk, hj, hkk, rfl, ha, ho, hb⟩ := hrel
            have HA := hid ha
            have HO := hid ho
            have HB := hid hb
            clear ha ho hb
            by_cases hj6 : j = 6
            · obtain rfl : kk = 5 := by omega
              clear hj hkk hj6
              by_cases hm : (i : Int) % every = 0
              · have hm' : ((i : Int) % every == 0) = true := by simp [hm]
                clear hm
                go_wp2_with fail
                refine (since_any g s' _ HA.out).mono ?_
                rw [HSI.out]
                rintro e w7 ⟨rfl, hg, ha⟩
                have HA7 := hid ha
                have HO7 := hid (HO.out.kept hg (fun r hr => by cases hr; omega))
                have HB7 := hid (HB.out.trans (grown_below hg (by rw [HGX.out]; exact Nat.le_refl _) HB.out.size))
                clear ha hg HA HB HO
                go_wp2_with fail
                exact ⟨⟨i + 1, { s' with since := 0 }, by omega, by go_num, ok_since _ HK2.out, by rw [HT.out]; exact HSN2.out, by rw [← HY.out]; rfl, rfl, by rw [HT.out]; exact HO7.out, HA7.out, HB7.out⟩, by simp [intOf]; omega⟩
              · have hm' : ((i : Int) % every == 0) = false := by simp [hm]
                clear hm
                go_wp2_with fail
                exact ⟨⟨i + 1, s', by omega, by go_num, HK2.out, by rw [HT.out]; exact HSN2.out, by rw [HY.out], by rw [HSI.out], by rw [HT.out]; exact HO.out, HA.out, HB.out⟩, by simp [intOf]; omega⟩
            · by_cases hj0 : 0 ≤ kk ∧ kk < 4
              · obtain ⟨hk0, hk4⟩ := hj0
                obtain ⟨m, hm4, rfl⟩ : ∃ m : Nat, m < 4 ∧ kk = (m : Int) := ⟨kk.toNat, by omega, by omega⟩
                have HKK := hid hkk
                clear hkk
                obtain ⟨A', c', hv', hlc', hcm', rd'⟩ := HO.out.shape
                simp only [Value.slice.injEq, true_and] at hv'
                obtain ⟨rfl, rfl⟩ := hv'
                have RD' := hid rd'
                clear rd' hlc' hcm'
                have HLN := hid (HSN2.out.line m hm4)
                go_wp2_with fail
                refine (ref_run A c xs m hm4 (by have := HXL.out; omega) H8.out _ RD'.out).mono ?_
                rintro e w7 ⟨rfl, rfl⟩
                go_wp2_with fail
                refine (of_line g s' m hm4 _ HA.out).mono ?_
                rw [HLN.out]
                rintro e w7 ⟨rfl, hb⟩
                have HA7 := hid (below_block hb HA.out (lt_of_block HA.out))
                have HO7 := hid (HO.out.below hb)
                have HB7 := hid (below_trans' HB.out hb HB.out.size)
                clear hb HA HB HO
                go_wp2_with fail
                exact ⟨⟨j + 1, _, by omega, by have := HKK.out; omega, rfl, HA7.out, HO7.out, HB7.out⟩, by simp [intOf] <;> omega⟩
              · have hout : kk < 0 ∨ 3 < kk := by omega
                have hk0 : kk = -1 ∨ kk = 4 := by omega
                have HKK := hid hkk
                clear hkk
                clear hj0
                rcases hk0 with rfl | rfl
                all_goals
                  go_wp2_with fail
                  refine (of_out g s' _ hout _ HA.out).mono ?_
                  rintro e w7 ⟨rfl, hb⟩
                  have HA7 := hid (below_block hb HA.out (lt_of_block HA.out))
                  have HO7 := hid (HO.out.below hb)
                  have HB7 := hid (below_trans' HB.out hb HB.out.size)
                  clear hb HA HB HO
                  go_wp2_with fail
                  exact ⟨⟨j + 1, _, by omega, by have := HKK.out; omega, rfl, HA7.out, HO7.out, HB7.out⟩, by simp [intOf] <;> omega⟩
    · go_wp2_with fail
      refine (one_any _).mono ?_
      rintro e w9 ⟨rfl, hb⟩
      have HB9 := hid (below_trans' HB.out hb HB.out.size)
      clear hb
      go_wp2_with fail
      go_ret
      exact ⟨rfl, HB9.out⟩
end Go.Proofs.Ytfmepbpipknblaa.Rn
