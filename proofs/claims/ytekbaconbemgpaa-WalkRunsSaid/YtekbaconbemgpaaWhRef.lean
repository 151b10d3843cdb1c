/- The document's Bits and Spans: their walks. Helper text. -/
import Derived.Test.YtekbaconbemgpaaWhDraw
import Derived.Test.YtekbaconbemgpaaWkPlain
import Derived.BigQuiet
namespace Go.Proofs.Ytekbaconbemgpaa.PWe
open Go.RowKit Go.Proofs.Ytekbaconbemgpaa.Kx Go.Proofs.YtekbaconbemgpaaW.PrintWords Go.Proofs.YtekbaconbemgpaaW.PrintLast Go.Proofs.YtekbaconbemgpaaW.PrintMore
attribute [local go_sem] max2_int min2_int max_two min_two
set_option linter.unusedVariables false
set_option linter.unusedSimpArgs false

theorem cutr_calls (a b : Int) (w : World) {r : Int} (h : mx 0 (mn a b) = r) : Calls Try.prog 52 #[.int .i64 a, .int .i64 b] w fun e w' => e = .returned (.int .i64 r) ∧ w' = w := by
  obtain ⟨j, hj⟩ : ∃ j, (if b < a then b else a) = j := ⟨_, rfl⟩
  have hr : (if 0 < j then j else 0) = r := by rw [← h, ← hj]; rfl
  clear h
  go_enter Try.func52, Try.ntmps52
  go_wp2
  go_ret
  exact ⟨rfl, rfl⟩
/-- One of the document's windows, read. -/
theorem rwin_at {w : World} {A : Option Addr} {l : List S76} (h : Kd.C k44 w A (l.map s44).length (l.map s44)) {i : Nat} (hi : i < l.length) {x : S76} (hx : l[i] = x) : ∃ ad A4 c4 A5 c5, A = some ad ∧ (∀ W, Below w.heap.size w W → W.cell? (ad.add (i * 6)) = some (.int .i64 x.f0) ∧ W.cell? ⟨(ad.add (i * 6)).block, (ad.add (i * 6)).off + 1, none⟩ = some (.int .i64 x.f1) ∧ W.cell? ⟨(ad.add (i * 6)).block, (ad.add (i * 6)).off + 2, none⟩ = some (.int .i64 x.f2) ∧ W.cell? ⟨(ad.add (i * 6)).block, (ad.add (i * 6)).off + 3, none⟩ = some (.int .i64 x.f3) ∧ W.cell? ⟨(ad.add (i * 6)).block, (ad.add (i * 6)).off + 4, none⟩ = some (.slice A4 x.f4.length c4) ∧ W.cell? ⟨(ad.add (i * 6)).block, (ad.add (i * 6)).off + 5, none⟩ = some (.slice A5 x.f5.length c5)) ∧
    x.f4.length ≤ c4 ∧ Kd.C (Kd.int .i64) w A4 x.f4.length x.f4 ∧ x.f5.length ≤ c5 ∧ Kd.C (Kd.int .i64) w A5 x.f5.length x.f5 := by
  subst hx
  have hi2 : i < (l.map s44).length := by rw [List.length_map]; exact hi
  have h := at_T44 h (i : Int) (by omega) (by omega)
  have e : rd_T44 (l.map s44) (i : Int) = s44 l[i] := by
    unfold rd_T44
    rw [Int.toNat_natCast, List.getD_eq_getElem?_getD, List.getElem?_eq_getElem hi2, List.getElem_map]; rfl
  rw [e, Int.toNat_natCast] at h
  obtain ⟨ad, A4, c4, A5, c5, e, x0, x1, x2, x3, x4, x5, r⟩ := h
  have up : ∀ {W : World} {p : Addr} {v : Value}, Below w.heap.size w W → w.cell? p = some v → W.cell? p = some v := fun hb h => (hb.cell (World.block_lt_of_cell? w _ h)).trans h
  exact ⟨ad, A4, c4, A5, c5, e, fun W hb => ⟨up hb x0, up hb x1, up hb x2, up hb x3, up hb x4, up hb x5⟩, r⟩

set_option maxHeartbeats 4000000 in
set_option maxRecDepth 100000 in
theorem bitsr_calls (x : S76) (A4 A5 : Option Addr) (c4 c5 : Nat) (w : World) (hc4 : x.f4.length ≤ 100) :
    Calls Try.prog 51 #[.agg #[.int .i64 x.f0, .int .i64 x.f1, .int .i64 x.f2, .int .i64 x.f3, .slice A4 x.f4.length c4, .slice A5 x.f5.length c5]] w fun e w' => e = .returned (.int .i64 (bitsOf x)) ∧ Below w.heap.size w w' := by
  have HB : Aside0 (Below w.heap.size w w) := ⟨Below.refl _ _⟩
  obtain ⟨f0, f1, f2, f3, f4, f5⟩ := x
  dsimp only at hc4 ⊢
  obtain ⟨bi, hbi⟩ : ∃ b, bitsOf ⟨f0, f1, f2, f3, f4, f5⟩ = b := ⟨_, rfl⟩
  rw [hbi]
  unfold bitsOf wordsOf manyOf at hbi
  dsimp only at hbi
  have HBI := Aside0.mk hbi
  clear hbi
  obtain ⟨n4, hn4⟩ : ∃ n, f4.length = n := ⟨_, rfl⟩
  rw [hn4] at HBI hc4 ⊢
  by_cases h0 : f0 = 0
  · have k0 : (f0 == 0) = true := by simp [h0]
    have hbi := HBI.out
    rw [if_pos h0] at hbi
    obtain ⟨r1, hr1⟩ : ∃ r, mx 0 (mn f2 8) = r := ⟨_, rfl⟩
    obtain ⟨r2, hr2⟩ : ∃ r, mx 0 (mn (n4 : Int) 4) = r := ⟨_, rfl⟩
    obtain ⟨r3, hr3⟩ : ∃ r, (if 0 < r2 - 1 then r2 - 1 else 0) = r := ⟨_, rfl⟩
    have hb1 : 0 ≤ r1 ∧ r1 ≤ 8 := by rw [← hr1]; unfold mx mn; repeat' split <;> omega
    have hb2 : 0 ≤ r2 ∧ r2 ≤ 4 := by rw [← hr2]; unfold mx mn; repeat' split <;> omega
    have hb3 : 0 ≤ r3 ∧ r3 ≤ 3 := by rw [← hr3]; split <;> omega
    have hfin : 10 + 8 * r1 + 4 * r3 = bi := by
      rw [← hbi, ← hr3, ← hr2, ← hr1]
      unfold mx mn
      repeat' split
      all_goals omega
    have HF := Aside0.mk hfin
    have HR1 := Aside0.mk hr1
    have HR2 := Aside0.mk hr2
    clear hbi hr1 hr2 hfin HBI h0 hn4
    go_enter Try.func51, Try.ntmps51
    go_wp2_with (first | ((with_reducible refine gate_dst (N := 1) rfl ?_); refine boxN (w := w) rfl (N := 1) rfl (cs := #[.int .i64 f0, .int .i64 f1, .int .i64 f2, .int .i64 f3, .slice A4 n4 c4, .slice A5 f5.length c5]) (t := 44) (by first | (go_simp; done) | (go_simp; rfl)) HB ?_; intro g1 W0 H0 Lg1 HB_W0 K_W0; have y0 : W0.cell? ⟨g1, 0, none⟩ = some (.int .i64 f0) := cell_in H0.out 0; have y1 : W0.cell? ⟨g1, 1, none⟩ = some (.int .i64 f1) := cell_in H0.out 1; have y2 : W0.cell? ⟨g1, 2, none⟩ = some (.int .i64 f2) := cell_in H0.out 2; have y3 : W0.cell? ⟨g1, 3, none⟩ = some (.int .i64 f3) := cell_in H0.out 3; have y4 : W0.cell? ⟨g1, 4, none⟩ = some (.slice A4 n4 c4) := cell_in H0.out 4))
    go_quiet (first | (go_at_call 52; exact Calls.quiet_of_same (cutr_calls f2 8 _ HR1.out)) | (go_at_call 52; exact Calls.quiet_of_same (cutr_calls (n4 : Int) 4 _ HR2.out)))
    go_wp2_with fail
    all_goals go_ret
    all_goals refine ⟨?_, below_drewN HB_W0.out nq⟩
    all_goals show Ending.returned (Value.int .i64 _) = Ending.returned (Value.int .i64 _)
    all_goals congr 2
    all_goals (have e := HF.out; rw [← hr3] at e; split at e <;> omega)
  have k0 : (f0 == 0) = false := by simpa using h0
  by_cases h1 : f0 = 1
  · have k1 : (f0 == 1) = true := by simp [h1]
    have hr : mx 0 (mn f1 1000) = bi := by
      have hbi := HBI.out
      rw [if_neg h0, if_pos h1] at hbi
      rw [← hbi]
      unfold mx mn
      repeat' split
      all_goals omega
    have HR := Aside0.mk hr
    clear hr HBI h0 h1 hn4
    go_enter Try.func51, Try.ntmps51
    go_wp2_with (first | ((with_reducible refine gate_dst (N := 1) rfl ?_); refine boxN (w := w) rfl (N := 1) rfl (cs := #[.int .i64 f0, .int .i64 f1, .int .i64 f2, .int .i64 f3, .slice A4 n4 c4, .slice A5 f5.length c5]) (t := 44) (by first | (go_simp; done) | (go_simp; rfl)) HB ?_; intro g1 W0 H0 Lg1 HB_W0 K_W0; have y0 : W0.cell? ⟨g1, 0, none⟩ = some (.int .i64 f0) := cell_in H0.out 0; have y1 : W0.cell? ⟨g1, 1, none⟩ = some (.int .i64 f1) := cell_in H0.out 1; have y2 : W0.cell? ⟨g1, 2, none⟩ = some (.int .i64 f2) := cell_in H0.out 2; have y3 : W0.cell? ⟨g1, 3, none⟩ = some (.int .i64 f3) := cell_in H0.out 3; have y4 : W0.cell? ⟨g1, 4, none⟩ = some (.slice A4 n4 c4) := cell_in H0.out 4))
    refine (cutr_calls f1 1000 _ HR.out).mono ?_
    rintro e W1 ⟨rfl, rfl⟩
    go_wp2_with fail
    go_ret
    exact ⟨rfl, HB_W0.out⟩
  have k1 : (f0 == 1) = false := by simpa using h1
  by_cases h2 : f0 = 2
  · have k2 : (f0 == 2) = true := by simp [h2]
    obtain rfl : 6 = bi := by
      have hbi := HBI.out
      rw [if_neg h0, if_neg h1, if_pos h2] at hbi
      exact hbi
    clear HBI h0 h1 h2 hn4
    go_enter Try.func51, Try.ntmps51
    go_wp2_with (first | ((with_reducible refine gate_dst (N := 1) rfl ?_); refine boxN (w := w) rfl (N := 1) rfl (cs := #[.int .i64 f0, .int .i64 f1, .int .i64 f2, .int .i64 f3, .slice A4 n4 c4, .slice A5 f5.length c5]) (t := 44) (by first | (go_simp; done) | (go_simp; rfl)) HB ?_; intro g1 W0 H0 Lg1 HB_W0 K_W0; have y0 : W0.cell? ⟨g1, 0, none⟩ = some (.int .i64 f0) := cell_in H0.out 0; have y1 : W0.cell? ⟨g1, 1, none⟩ = some (.int .i64 f1) := cell_in H0.out 1; have y2 : W0.cell? ⟨g1, 2, none⟩ = some (.int .i64 f2) := cell_in H0.out 2; have y3 : W0.cell? ⟨g1, 3, none⟩ = some (.int .i64 f3) := cell_in H0.out 3; have y4 : W0.cell? ⟨g1, 4, none⟩ = some (.slice A4 n4 c4) := cell_in H0.out 4))
    go_ret
    exact ⟨rfl, HB_W0.out⟩
  have k2 : (f0 == 2) = false := by simpa using h2
  obtain rfl : 0 = bi := by
    have hbi := HBI.out
    rw [if_neg h0, if_neg h1, if_neg h2] at hbi
    exact hbi
  clear HBI h0 h1 h2 hn4
  go_enter Try.func51, Try.ntmps51
  go_wp2_with (first | ((with_reducible refine gate_dst (N := 1) rfl ?_); refine boxN (w := w) rfl (N := 1) rfl (cs := #[.int .i64 f0, .int .i64 f1, .int .i64 f2, .int .i64 f3, .slice A4 n4 c4, .slice A5 f5.length c5]) (t := 44) (by first | (go_simp; done) | (go_simp; rfl)) HB ?_; intro g1 W0 H0 Lg1 HB_W0 K_W0; have y0 : W0.cell? ⟨g1, 0, none⟩ = some (.int .i64 f0) := cell_in H0.out 0; have y1 : W0.cell? ⟨g1, 1, none⟩ = some (.int .i64 f1) := cell_in H0.out 1; have y2 : W0.cell? ⟨g1, 2, none⟩ = some (.int .i64 f2) := cell_in H0.out 2; have y3 : W0.cell? ⟨g1, 3, none⟩ = some (.int .i64 f3) := cell_in H0.out 3; have y4 : W0.cell? ⟨g1, 4, none⟩ = some (.slice A4 n4 c4) := cell_in H0.out 4))
  go_ret
  exact ⟨rfl, HB_W0.out⟩
set_option maxHeartbeats 4000000 in
set_option maxRecDepth 100000 in
theorem spansr_calls (A : Option Addr) (c : Nat) (l : List S76) (v : Int) (w : World) (hr : Kd.C k44 w A (l.map s44).length (l.map s44)) (hc : l.length ≤ c) (hv0 : 0 ≤ v) (hv1 : v < 2) (hf : Fit l) (hx : ∀ x ∈ l, 0 ≤ x.f0 ∧ x.f0 ≤ 2) :
    Calls Try.prog 31 #[.slice A l.length c, .int .i64 v] w fun e w' => ∃ v0_ : Value, e = .returned v0_ ∧ Kd.R (Kd.int .i64) 3 w' w.heap.size (fun _ => True) v0_ (spansW (10 + 2 * v) 3 l) ∧ Below w.heap.size w w' := by
  have HF := Aside0.mk hf
  have HX := Aside0.mk hx
  have HR := Aside0.mk hr
  have hl1000 := hf.1
  have HB : Aside0 (Below w.heap.size w w) := ⟨Below.refl _ _⟩
  clear hf hx hr
  go_enter Try.func31, Try.ntmps31
  go_wp2_with fail
  go_loopw [5, 6, 7, 8] (fun v5 v6 v7 v8 wr => ∃ (i : Nat) (a b : Int) (out : List Int), i ≤ l.length ∧ v8 = .int .i64 (i : Int) ∧ v5 = .int .i64 a ∧ v6 = .int .i64 b ∧ 0 ≤ b ∧ b ≤ a ∧ a + 1000 * ((l.length : Int) - i) ≤ 2000000 ∧ out.length ≤ i ∧ out ++ spansW a b (l.drop i) = spansW (10 + 2 * v) 3 l ∧ Kd.R (Kd.int .i64) 3 wr w.heap.size (fun _ => True) v7 out ∧ Below w.heap.size w wr) (fun _ _ _ v8 _ => ((l.length : Int) - intOf v8).toNat)
  case atStart => exact ⟨0, 10 + 2 * v, 3, [], Nat.zero_le _, rfl, rfl, rfl, by omega, by omega, by omega, Nat.zero_le _, rfl, Kd.R_nil _ _ _ _ _, HB.out⟩
  case round =>
    obtain ⟨i, a, b, out, hi, rfl, rfl, rfl, hb0, hba, ha1, hol, hs, ho, hb⟩ := hrel
    have HS := Aside0.mk hs
    have HO := Aside0.mk ho
    have HBr := Aside0.mk hb
    clear hs ho hb HB
    by_cases hlt : i < l.length
    · have m1 : decide ((i : Int) < (l.length : Int)) = true := decide_eq_true (by omega)
      have m2 : decide (i < l.length) = true := decide_eq_true hlt
      have q1 : (0 ≤ (i : Int)) = True := eq_true (by omega)
      have q2 : ((i : Int) < (l.length : Int)) = True := eq_true (by omega)
      have q3 : (i < l.length) = True := eq_true hlt
      obtain ⟨x, hx⟩ : ∃ x, l[i] = x := ⟨_, rfl⟩
      have hxf : x.f4.length ≤ 100 ∧ x.f5.length ≤ 100 := by rw [← hx]; exact HF.out.2 _ (List.getElem_mem hlt)
      have hx0 : 0 ≤ x.f0 ∧ x.f0 ≤ 2 := by rw [← hx]; exact HX.out _ (List.getElem_mem hlt)
      have hbd := bitsOf_bd x
      obtain ⟨ad, A4, c4, A5, c5, hA, hcl, -, -, -, -⟩ := rwin_at HR.out hlt hx
      obtain ⟨x0, x1, x2, x3, x4, x5⟩ := hcl _ HBr.out
      have HCL := Aside0.mk hcl
      clear hcl
      subst hA
      have hs := HS.out
      rw [List.drop_eq_getElem_cons hlt, hx, spansW, if_neg (by omega)] at hs
      clear hx HS
      by_cases h2 : x.f0 = 2
      · rw [if_pos h2] at hs
        have h6 : bitsOf x = 6 := by unfold bitsOf; rw [if_neg (by omega), if_neg (by omega), if_pos h2]
        have k2 : (x.f0 == 2) = true := by simp [h2]
        have hs2 : (out ++ [a + 2 - b]) ++ spansW (a + bitsOf x) (a + 2) (l.drop (i + 1)) = spansW (10 + 2 * v) 3 l := by rw [List.append_assoc]; exact hs
        rw [h6] at hs2
        have HS2 := Aside0.mk hs2
        have H6 := Aside0.mk h6
        clear hs hs2 h2 hx0 h6
        go_wp2_with (first | ((with_reducible refine gate_builtin (b := .append) (xs := #[.tmp 24, .tmp 29]) rfl ?_); at_builtin; refine appN (w := w) (Kd.int .i64) 3 rfl (.tmp 24) (.tmp 29) 42 (.int .i64 0) 8 rfl Try.underlying42 info3 rfl (by decide) (by omega) (a + 2 - b) [.int .i64 (a + 2 - b)] rfl rfl (rfl) HO HBr (by omega) ?_; intro vA W6 HO6 HB_W6 K_W6; (try obtain ⟨z0, z1, z2, z3, z4, z5⟩ := HCL.out _ HB_W6.out)))
        refine (bitsr_calls x A4 A5 c4 c5 _ hxf.1).mono ?_
        rintro e W7 ⟨rfl, hb⟩
        have HB7 := Aside0.mk (below_step HB_W6.out hb)
        have HO7 := Aside0.mk (Kd.R_below HO6.out hb)
        rw [H6.out]
        clear hb HB_W6 HO6 hbd
        go_wp2_with fail
        exact ⟨⟨i + 1, a + 6, a + 2, out ++ [a + 2 - b], by omega, by rw [Int.natCast_add]; rfl, rfl, rfl, by omega, by omega, by omega, by rw [List.length_append, List.length_singleton]; omega, HS2.out, HO7.out, HB7.out⟩, by simp [intOf]; omega⟩
      · rw [if_neg h2] at hs
        have k2 : (x.f0 == 2) = false := by simpa using h2
        have HS2 := Aside0.mk hs
        clear hs h2 hx0
        go_wp2_with fail
        refine (bitsr_calls x A4 A5 c4 c5 _ hxf.1).mono ?_
        rintro e W7 ⟨rfl, hb⟩
        have HB7 := Aside0.mk (below_step HBr.out hb)
        have HO7 := Aside0.mk (Kd.R_below HO.out hb)
        clear hb
        go_wp2_with fail
        exact ⟨⟨i + 1, a + bitsOf x, b, out, by omega, by rw [Int.natCast_add]; rfl, rfl, rfl, hb0, by omega, by omega, by omega, HS2.out, HO7.out, HB7.out⟩, by simp [intOf]; omega⟩
    · have m1 : decide ((i : Int) < (l.length : Int)) = false := decide_eq_false (by omega)
      have m2 : decide (i < l.length) = false := decide_eq_false hlt
      have hout : out ++ [a + 6 + 3 - b] = spansW (10 + 2 * v) 3 l := by
        have h := HS.out
        rw [List.drop_eq_nil_of_le (by omega)] at h
        exact h
      have HOUT := Aside0.mk hout
      clear hlt hout HS
      go_wp2_with (first | ((with_reducible refine gate_builtin (b := .append) (xs := #[.tmp 40, .tmp 46]) rfl ?_); at_builtin; refine appN (w := w) (Kd.int .i64) 3 rfl (.tmp 40) (.tmp 46) 42 (.int .i64 0) 8 rfl Try.underlying42 info3 rfl (by decide) (by omega) (a + 6 + 3 - b) [.int .i64 (a + 6 + 3 - b)] rfl rfl (rfl) HO HBr (by omega) ?_; intro vA W6 HO6 HB_W6 K_W6; (try obtain ⟨z0, z1, z2, z3, z4, z5⟩ := HCL.out _ HB_W6.out)))
      go_ret
      exact ⟨_, rfl, by rw [← HOUT.out]; exact HO6.out, HB_W6.out⟩
end Go.Proofs.Ytekbaconbemgpaa.PWe
