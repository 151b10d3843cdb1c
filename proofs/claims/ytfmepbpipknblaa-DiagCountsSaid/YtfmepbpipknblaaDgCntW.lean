/- The walk of DiagCounts. Helper text. -/
import Derived.Test.YtfmepbpipknblaaDgCntP
import Derived.Test.YtfmepbpipknblaaDgTells
import Derived.Test.YtfmepbpipknblaaDgOpen
import Derived.Deep.RegionHeld3
namespace Go.Proofs.Ytfmepbpipknblaa.Dg
open Go.RowKit Go.Proofs.Ytfmepbpipknblaa.Kx
set_option linter.unusedVariables false
set_option linter.unusedSimpArgs false

theorem Keeps.low {w0 : World} {g : Nat} {b a1 a2 a3 a4 : Int} {w : World} (h : w.cell? ⟨g, 0, none⟩ = some (.int .i64 b) ∧ w.cell? ⟨g, 1, none⟩ = some (.int .i64 a1) ∧ w.cell? ⟨g, 2, none⟩ = some (.int .i64 a2) ∧ w.cell? ⟨g, 3, none⟩ = some (.int .i64 a3) ∧ w.cell? ⟨g, 4, none⟩ = some (.int .i64 a4) ∧ Below w0.heap.size w0 w) : Below w0.heap.size w0 w := h.2.2.2.2.2
set_option maxRecDepth 100000 in
set_option maxHeartbeats 4000000 in
theorem counts_any (l : List Msg) (A : Option Addr) (c : Nat) (cut : Int) (w : World) (hA : RSl 10 RMsg w A l) (hlc : l.length ≤ c) (hcm : c ≤ maxLen) (hnil : A = none → c = 0) :
    Calls Try.prog 7 #[.slice A l.length c, .int .i64 cut] w fun e w' => e = .returned (.bool true) ∧ Below w.heap.size w w' := by
  have HA := hid hA
  clear hA
  by_cases h60 : (60 : Int) < (l.length : Int)
  · go_enter Try.func7, Try.ntmps7
    go_wp2_with fail
    go_ret
    exact ⟨rfl, Below.refl _ _⟩
  have hl60 : (l.length : Int) ≤ 60 := by omega
  go_enter Try.func7, Try.ntmps7
  go_wp2_with fail
  go_loopw [6, 7] (fun q6 q7 wr => ∃ n : Nat, n ≤ l.length ∧ q6 = .int .i64 n ∧ (∀ j, j < n → (l.getD j default).fit) ∧ wr.heap[w.heap.size]? = some (.cells #[.int .i64 (fb l n), .int .i64 (fo Msg.o0 l n), .int .i64 (fo Msg.o1 l n), .int .i64 (fo Msg.o2 l n), .int .i64 (fo Msg.o3 l n)] 58 (0, 0)) ∧ Below w.heap.size w wr) (fun q6 _ _ => l.length - (intOf q6).toNat)
  case atStart =>
    refine ⟨0, by omega, rfl, fun j hj => by omega, ?_, (Below.refl _ _).alloc (Nat.le_refl _) _⟩
    exact heap_alloc_new _ _
  case round =>
    obtain ⟨n, hn, rfl, hfit, hX, hB⟩ := hrel
    have HX := hid hX
    have HB := hid hB
    have HF := hid hfit
    clear hX hB hfit
    by_cases hlt : (n : Int) < (l.length : Int)
    · obtain ⟨ad, cs, pb, po, rfl, hpl, hpb, hcl, hc, hm⟩ := at_place HA.out (by omega) n (by omega)
      have hc0 : ∀ w', Below w.heap.size w w' → ∀ j, j < 10 → w'.cell? ⟨pb, po + j, none⟩ = ((l.getD n default).cells)[j]? := fun w' hb j hj => by rw [hb.cell hpb, hc j hj, hm]
      have HC := hid hc0
      clear hc0 hc hm hcl
      obtain ⟨m, hme⟩ : ∃ m, l.getD n default = m := ⟨_, rfl⟩
      rw [hme] at HC
      have HM := hid hme
      clear hme
      obtain ⟨wn, hwn⟩ : ∃ x, m.n = x := ⟨_, rfl⟩
      have HWn := hid hwn
      have h3 : wr.cell? ⟨pb, po + 3, none⟩ = some (.slice m.wa wn m.c) := by rw [← hwn]; exact HC.out wr HB.out 3 (by omega)
      clear hwn
      by_cases h100 : (100 : Int) < (wn : Int)
      · go_wp2_with fail
        go_ret
        exact ⟨rfl, HB.out⟩
      have hw100 : (wn : Int) ≤ 100 := by omega
      go_wp2_with fail
      obtain ⟨B, hBv⟩ : ∃ x, fb l n = x := ⟨_, rfl⟩
      have HBv := hid hBv
      rw [hBv] at HX
      obtain ⟨kn, hkn⟩ : ∃ x, m.known = x := ⟨_, rfl⟩
      have HKn := hid hkn
      clear hBv hkn
      have HK : Hid (∀ w', Below w.heap.size w w' → w'.cell? ⟨pb, po + 4, none⟩ = some (.bool kn)) := fun w' hb => by rw [← HKn.out]; exact HC.out w' hb 4 (by omega)
      have HP : Hid (∀ w', Below w.heap.size w w' → ∀ j, j < 4 → w'.cell? ⟨pb, po + 6 + j, none⟩ = some (.int .i64 (m.o j))) := fun w' hb j hj => by
        rw [Nat.add_assoc, HC.out w' hb (6 + j) (by omega)]
        obtain rfl | rfl | rfl | rfl : j = 0 ∨ j = 1 ∨ j = 2 ∨ j = 3 := by omega
        all_goals rfl
      have H3 : Hid (∀ w', Below w.heap.size w w' → w'.cell? ⟨pb, po + 3, none⟩ = some (.slice m.wa wn m.c)) := fun w' hb => by rw [← HWn.out]; exact HC.out w' hb 3 (by omega)
      clear h3
      go_loopw [7] (fun q7 w2 => ∃ j : Nat, j ≤ 4 ∧ q7 = .int .i64 j ∧ (∀ k, k < j → -1099511627776 ≤ m.o k ∧ m.o k ≤ 1099511627776) ∧ w2.heap[w.heap.size]? = some (.cells (arr5 B (fq l n) m.o kn j) 58 (0, 0)) ∧ Below w.heap.size w w2) (fun q7 _ => 4 - (intOf q7).toNat)
      case atStart =>
        refine ⟨0, by omega, rfl, fun k hk => by omega, ?_, HB.out⟩
        rw [arr5_zero]
        exact HX.out
      case round =>
        obtain ⟨j, hj, rfl, hok, hX2, hB2⟩ := hrel
        have HX2 := hid hX2
        have HB2 := hid hB2
        have HOk := hid hok
        clear hX2 hB2 hok
        by_cases hj4 : (j : Int) < 4
        · have hp := HP.out _ HB2.out j (by omega)
          have hk := HK.out _ HB2.out
          have hx : wr.cell? ⟨w.heap.size, 1 + j, none⟩ = some (.int .i64 (fq l n j)) := by
            rw [cell_in HX2.out (1 + j), arr5_at _ _ _ _ _ _ (by omega), xv_at]
          have hfr : wr.frozen? ⟨w.heap.size, 1 + j, none⟩ = false := free_in HX2.out _
          obtain ⟨p, hpv⟩ : ∃ x, m.o j = x := ⟨_, rfl⟩
          obtain ⟨q, hqv⟩ : ∃ x, fq l n j = x := ⟨_, rfl⟩
          rw [hpv] at hp
          rw [hqv] at hx
          have HPv := hid hpv
          have HQv := hid hqv
          clear hpv hqv
          by_cases hlo : p < -1099511627776
          · go_wp2_with fail
            go_ret
            exact ⟨rfl, HB2.out⟩
          · have hlo' : decide (p < -1099511627776) = false := decide_eq_false hlo
            by_cases hhi : (1099511627776 : Int) < p
            · go_wp2_with fail
              go_ret
              exact ⟨rfl, HB2.out⟩
            · have hhi' : decide ((1099511627776 : Int) < p) = false := decide_eq_false hhi
              have hqr := fq_range l n HF.out j
              rw [HQv.out] at hqr
              have hn60 : (n : Int) ≤ 60 := by omega
              have hj1 : (0 : Int) ≤ (j : Int) := by omega
              have hq1 : -70000000000000 ≤ q := by omega
              have hq2 : q ≤ 70000000000000 := by omega
              have hp1 : -1099511627776 ≤ p := by omega
              have hp2 : p ≤ 1099511627776 := by omega
              have HNext : Hid (∀ k, k < j + 1 → -1099511627776 ≤ m.o k ∧ m.o k ≤ 1099511627776) := fun k hk => by
                by_cases hkj : k = j
                · rw [hkj, HPv.out]; exact ⟨hp1, hp2⟩
                · exact HOk.out k (by omega)
              clear hqr hlo hhi
              cases kn
              · go_wp2_with fail
                refine ⟨⟨j + 1, by omega, by go_num, HNext.out, ?_, HB2.out⟩, by simp [intOf]; omega⟩
                rw [← arr5_skip]
                exact HX2.out
              · go_wp2_with fail
                go_region
                go_wp2_with fail
                refine ⟨⟨j + 1, by omega, by go_num, HNext.out, ?_, ?_⟩, by simp [intOf]; omega⟩
                · rw [← arr5_set B (fq l n) m.o j (by omega), HQv.out, HPv.out]
                  exact set_in (w := World.drew _) HX2.out (1 + j) _
                · exact (below_drewN' HB2.out 1).setCell (Nat.le_refl _) _
        · obtain rfl : j = 4 := by omega
          have hfitm := fit_of m (by rw [HWn.out]; omega) HOk.out
          have HF2 : Hid (∀ j, j < n + 1 → (l.getD j default).fit) := fun j hj => by
            by_cases hjn : j = n
            · rw [hjn, HM.out]; exact hfitm
            · exact HF.out j (by omega)
          have hbr := fb_range2 l n HF.out
          rw [HBv.out] at hbr
          have hn60 : (n : Int) ≤ 60 := by omega
          have hB1 : -70000000000000 ≤ B := by omega
          have hB2' : B ≤ 70000000000000 := by omega
          have h3 := H3.out _ HB2.out
          have hk := HK.out _ HB2.out
          have hend := arr5_end l n
          have HEnd := hid hend
          have HFb : Hid (fb l (n + 1) = B + (if kn = true then 8 * (wn : Int) else 0)) := by show fb l (n + 1) = _; rw [fb, HBv.out, HM.out, HKn.out, HWn.out]
          clear hend hbr hfitm
          cases kn
          · go_wp2_with fail
            refine ⟨⟨n + 1, by omega, by go_num, HF2.out, ?_, HB2.out⟩, by simp [intOf]; omega⟩
            rw [← HEnd.out, HM.out, HKn.out, HFb.out]
            simp only [Bool.false_eq_true, if_false, Int.add_zero]
            exact HX2.out
          · have hx : wr.cell? ⟨w.heap.size, 0, none⟩ = some (.int .i64 B) := cell_in HX2.out 0
            have hfr : wr.frozen? ⟨w.heap.size, 0, none⟩ = false := free_in HX2.out _
            go_wp2_with fail
            go_region
            go_wp2_with fail
            refine ⟨⟨n + 1, by omega, by go_num, HF2.out, ?_, (below_drewN' HB2.out 1).setCell (Nat.le_refl _) _⟩, by simp [intOf]; omega⟩
            rw [← HEnd.out, HM.out, HKn.out, HFb.out]
            exact set_in (w := World.drew _) HX2.out 0 _
    · obtain rfl : n = l.length := by omega
      have hfit : ∀ m ∈ l, m.fit := fun m hm => by
        obtain ⟨i, hi, rfl⟩ := List.getElem_of_mem hm
        have := HF.out i hi
        rwa [List.getD_eq_getElem?_getD, List.getElem?_eq_getElem hi] at this
      have HFit := hid hfit
      obtain ⟨cc, hcc⟩ : ∃ cc : Nat, max 0 (min cut (l.length : Int)) = (cc : Int) := ⟨(max 0 (min cut (l.length : Int))).toNat, by omega⟩
      have hcl : (cc : Int) ≤ (l.length : Int) := by omega
      have hcl' : cc ≤ l.length := by omega
      clear hlt hn
      cases A with
      | none =>
        have hl0 : l = [] := by
          cases l with
          | nil => rfl
          | cons x l => obtain ⟨ad, cs, h1, _⟩ := HA.out 0 (by simp); cases h1
        subst hl0
        obtain rfl := hnil rfl
        have HL : Hid (∀ w', Below w.heap.size w w' → Calls Try.prog 42 #[.slice none 0 0] w' fun e w2 => e = .returned (.agg #[.int .i64 0, .int .i64 0, .int .i64 0, .int .i64 0, .int .i64 0]) ∧ Below w'.heap.size w' w2) :=
          fun w' hb => of_any [] none 0 (by simp) HFit.out w' (rmsg_below HA.out hb)
        have HSum : Hid (∀ w', Calls Try.prog 43 #[.agg #[.int .i64 0, .int .i64 0, .int .i64 0, .int .i64 0, .int .i64 0], .agg #[.int .i64 0, .int .i64 0, .int .i64 0, .int .i64 0, .int .i64 0]] w' fun e w2 => e = .returned (.agg #[.int .i64 0, .int .i64 0, .int .i64 0, .int .i64 0, .int .i64 0]) ∧ Below w'.heap.size w' w2) :=
          fun w' => sum_any 0 0 0 0 0 0 0 0 0 0 ⟨by omega, by omega⟩ ⟨by omega, by omega⟩ ⟨by omega, by omega⟩ ⟨by omega, by omega⟩ ⟨by omega, by omega⟩ ⟨by omega, by omega⟩ ⟨by omega, by omega⟩ ⟨by omega, by omega⟩ ⟨by omega, by omega⟩ ⟨by omega, by omega⟩ w'
        have HOne := hid (fun w => one_any w)
        have hX0 : wr.heap[w.heap.size]? = some (.cells #[.int .i64 0, .int .i64 0, .int .i64 0, .int .i64 0, .int .i64 0] 58 (0, 0)) := HX.out
        obtain ⟨c0, c1, c2, c3, c4⟩ := cells5 hX0
        have hB := HB
        have heq := fun a b c d => eq_same a b c d
        obtain rfl : cc = 0 := by simpa using hcl'
        have hHold : Keeps w w.heap.size 0 (four 0 0 0 0) wr := ⟨c0, c1, c2, c3, c4, hB.out⟩
        have hcz : max 0 (min cut 0) = 0 := by omega
        clear hfit hcl hcl' hX0 hcc
        go_wp2_with fail
        go_region_held3 (fun w' => w'.cell? ⟨w.heap.size, 0, none⟩ = some (.int .i64 0) ∧ w'.cell? ⟨w.heap.size, 1, none⟩ = some (.int .i64 0) ∧ w'.cell? ⟨w.heap.size, 2, none⟩ = some (.int .i64 0) ∧ w'.cell? ⟨w.heap.size, 3, none⟩ = some (.int .i64 0) ∧ w'.cell? ⟨w.heap.size, 4, none⟩ = some (.int .i64 0) ∧ Below w.heap.size w w')
          (first | assumption | exact ⟨c0, c1, c2, c3, c4, hB.out.drew⟩ | exact hk2)
          (first
            | (go_at_call 42; refine (HL.out _ ?_).mono ?_; (exact Keeps.low (by assumption)); rintro e w2 ⟨rfl, hb2⟩; have hk2 := Keeps.on (o := four 0 0 0 0) (by assumption) hb2; unfold Keeps at hk2; clear hb2)
            | (go_at_call 43; refine (HSum.out _).mono ?_; rintro e w2 ⟨rfl, hb2⟩; have hk2 := Keeps.on (o := four 0 0 0 0) (by assumption) hb2; unfold Keeps at hk2; clear hb2)
            | (go_at_call 41; refine (HOne.out _).mono ?_; rintro e w2 ⟨rfl, hb2⟩; have hk2 := Keeps.on (o := four 0 0 0 0) (by assumption) hb2; unfold Keeps at hk2; clear hb2))
        go_wp2_with fail
        go_ret
        exact ⟨rfl, hk2.2.2.2.2.2⟩
      | some ad =>
        have HL : Hid (∀ w', Below w.heap.size w w' → Calls Try.prog 42 #[.slice (some ad) l.length c] w' fun e w2 => e = .returned (.agg #[.int .i64 (fb l l.length), .int .i64 (fo Msg.o0 l l.length), .int .i64 (fo Msg.o1 l l.length), .int .i64 (fo Msg.o2 l l.length), .int .i64 (fo Msg.o3 l l.length)]) ∧ Below w'.heap.size w' w2) :=
          fun w' hb => of_any l (some ad) c (by omega) HFit.out w' (rmsg_below HA.out hb)
        by_cases hce : c = cc
        · obtain rfl := hce.symm
          have HOne := hid (fun w => one_any w)
          obtain ⟨c0, c1, c2, c3, c4⟩ := cells5 HX.out
          have hB := HB
          have heq := fun a b c d => eq_same a b c d
          have hcc0 : (0 : Int) ≤ (cc : Int) := by omega
          have hcc1 : (cc : Int) ≤ (cc : Int) := by omega
          have hlc1 : (l.length : Int) ≤ (cc : Int) := by omega
          obtain ⟨P, P0, P1, P2, P3, D, D0, D1, D2, D3, ht, hd, hs⟩ := of_cut l (some ad) (some ad) cc 0 cc (by omega) HFit.out hcl' w (RSl.take HA.out cc) (by rw [List.drop_of_length_le (by omega)]; exact fun i hi => absurd hi (by simp))
          rw [show l.length - cc = 0 by omega] at hd
          have HTk := hid ht
          have HDp := hid hd
          have HSum := hid hs
          clear hfit ht hd hs
          generalize hT : fb l l.length = T at *
          generalize hT0 : fo Msg.o0 l l.length = T0 at *
          generalize hT1 : fo Msg.o1 l l.length = T1 at *
          generalize hT2 : fo Msg.o2 l l.length = T2 at *
          generalize hT3 : fo Msg.o3 l l.length = T3 at *
          have hHold : Keeps w w.heap.size T (four T0 T1 T2 T3) wr := ⟨c0, c1, c2, c3, c4, hB.out⟩
          go_wp2_with fail
          go_region_held3 (fun w' => w'.cell? ⟨w.heap.size, 0, none⟩ = some (.int .i64 T) ∧ w'.cell? ⟨w.heap.size, 1, none⟩ = some (.int .i64 T0) ∧ w'.cell? ⟨w.heap.size, 2, none⟩ = some (.int .i64 T1) ∧ w'.cell? ⟨w.heap.size, 3, none⟩ = some (.int .i64 T2) ∧ w'.cell? ⟨w.heap.size, 4, none⟩ = some (.int .i64 T3) ∧ Below w.heap.size w w')
            (first | assumption | exact ⟨c0, c1, c2, c3, c4, hB.out.drew⟩ | exact hk2)
            (first
              | (go_at_call_of 42 (Value.slice (some ad) l.length cc); refine (HL.out _ ?_).mono ?_; (exact Keeps.low (by assumption)); rintro e w2 ⟨rfl, hb2⟩; have hk2 := Keeps.on (o := four T0 T1 T2 T3) (by assumption) hb2; unfold Keeps at hk2; clear hb2)
              | (go_at_call_of 42 (Value.slice (some ad) cc cc); refine (HTk.out _ ?_).mono ?_; (exact Keeps.low (by assumption)); rintro e w2 ⟨rfl, hb2⟩; have hk2 := Keeps.on (o := four T0 T1 T2 T3) (by assumption) hb2; unfold Keeps at hk2; clear hb2)
              | (go_at_call_of 42 (Value.slice (some ad) 0 0); refine (HDp.out _ ?_).mono ?_; (exact Keeps.low (by assumption)); rintro e w2 ⟨rfl, hb2⟩; have hk2 := Keeps.on (o := four T0 T1 T2 T3) (by assumption) hb2; unfold Keeps at hk2; clear hb2)
              | (go_at_call 43; refine (HSum.out _).mono ?_; rintro e w2 ⟨rfl, hb2⟩; have hk2 := Keeps.on (o := four T0 T1 T2 T3) (by assumption) hb2; unfold Keeps at hk2; clear hb2)
              | (go_at_call 41; refine (HOne.out _).mono ?_; rintro e w2 ⟨rfl, hb2⟩; have hk2 := Keeps.on (o := four T0 T1 T2 T3) (by assumption) hb2; unfold Keeps at hk2; clear hb2)
              | (go_at_call 42; trace_state; fail))
          go_wp2_with fail
          go_ret
          exact ⟨rfl, hk2.2.2.2.2.2⟩
        · have hce' : ¬ cc = c := fun e => hce e.symm
          have HOne := hid (fun w => one_any w)
          obtain ⟨c0, c1, c2, c3, c4⟩ := cells5 HX.out
          have hB := HB
          have heq := fun a b c d => eq_same a b c d
          have hcc0 : (0 : Int) ≤ (cc : Int) := by omega
          have hcc1 : (cc : Int) ≤ (c : Int) := by omega
          have hlc1 : (l.length : Int) ≤ (c : Int) := by omega
          obtain ⟨P, P0, P1, P2, P3, D, D0, D1, D2, D3, ht, hd, hs⟩ := of_cut l (some ad) (some (ad.add (cc * 10))) c (c - cc) cc (by omega) HFit.out hcl' w (RSl.take HA.out cc) (RSl.drop HA.out cc)
          have HTk := hid ht
          have HDp := hid hd
          have HSum := hid hs
          clear hfit ht hd hs
          generalize hT : fb l l.length = T at *
          generalize hT0 : fo Msg.o0 l l.length = T0 at *
          generalize hT1 : fo Msg.o1 l l.length = T1 at *
          generalize hT2 : fo Msg.o2 l l.length = T2 at *
          generalize hT3 : fo Msg.o3 l l.length = T3 at *
          have hHold : Keeps w w.heap.size T (four T0 T1 T2 T3) wr := ⟨c0, c1, c2, c3, c4, hB.out⟩
          go_wp2_with fail
          go_region_held3 (fun w' => w'.cell? ⟨w.heap.size, 0, none⟩ = some (.int .i64 T) ∧ w'.cell? ⟨w.heap.size, 1, none⟩ = some (.int .i64 T0) ∧ w'.cell? ⟨w.heap.size, 2, none⟩ = some (.int .i64 T1) ∧ w'.cell? ⟨w.heap.size, 3, none⟩ = some (.int .i64 T2) ∧ w'.cell? ⟨w.heap.size, 4, none⟩ = some (.int .i64 T3) ∧ Below w.heap.size w w')
            (first | assumption | exact ⟨c0, c1, c2, c3, c4, hB.out.drew⟩ | exact hk2)
            (first
              | (go_at_call_of 42 (Value.slice (some ad) l.length c); refine (HL.out _ ?_).mono ?_; (exact Keeps.low (by assumption)); rintro e w2 ⟨rfl, hb2⟩; have hk2 := Keeps.on (o := four T0 T1 T2 T3) (by assumption) hb2; unfold Keeps at hk2; clear hb2)
              | (go_at_call_of 42 (Value.slice (some ad) cc c); refine (HTk.out _ ?_).mono ?_; (exact Keeps.low (by assumption)); rintro e w2 ⟨rfl, hb2⟩; have hk2 := Keeps.on (o := four T0 T1 T2 T3) (by assumption) hb2; unfold Keeps at hk2; clear hb2)
              | (go_at_call_of 42 (Value.slice (some (ad.add (cc * 10))) (l.length - cc) (c - cc)); refine (HDp.out _ ?_).mono ?_; (exact Keeps.low (by assumption)); rintro e w2 ⟨rfl, hb2⟩; have hk2 := Keeps.on (o := four T0 T1 T2 T3) (by assumption) hb2; unfold Keeps at hk2; clear hb2)
              | (go_at_call 43; refine (HSum.out _).mono ?_; rintro e w2 ⟨rfl, hb2⟩; have hk2 := Keeps.on (o := four T0 T1 T2 T3) (by assumption) hb2; unfold Keeps at hk2; clear hb2)
              | (go_at_call 41; refine (HOne.out _).mono ?_; rintro e w2 ⟨rfl, hb2⟩; have hk2 := Keeps.on (o := four T0 T1 T2 T3) (by assumption) hb2; unfold Keeps at hk2; clear hb2)
              | (go_at_call 42; trace_state; fail))
          go_wp2_with fail
          go_ret
          exact ⟨rfl, hk2.2.2.2.2.2⟩
end Go.Proofs.Ytfmepbpipknblaa.Dg
