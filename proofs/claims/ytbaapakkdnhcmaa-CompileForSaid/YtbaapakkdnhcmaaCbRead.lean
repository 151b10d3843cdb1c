/- image.Read: its walk. Helper text. -/
import Derived.Test.YtbaapakkdnhcmaaCbA
import Derived.Test.YtbaapakkdnhcmaaCbPut
namespace Go.Proofs.Ytbaapakkdnhcmaa.PWe
open Go.RowKit Go.Proofs.Ytbaapakkdnhcmaa.Kx Go.Proofs.YtbaapakkdnhcmaaW.PrintWords Go.Proofs.YtbaapakkdnhcmaaW.PrintLast Go.Proofs.YtbaapakkdnhcmaaW.PrintMore
set_option linter.unusedVariables false
set_option linter.unusedSimpArgs false

theorem eq_of_beq_false_ne {a b : Int} (h : (a != b) = false) : a = b := by
  by_cases e : a = b
  · exact e
  · rw [bne_iff_ne.2 e] at h; cases h
theorem drop_C {w : World} {ad : Addr} {c m : Nat} {b : List Int} (h : Kd.C (Kd.int .u8) w (some ad) b.length b) (hm0 : 0 < m) (hm : m ≤ b.length) (hc : b.length ≤ c) (hmc : m ≠ c) : Kd.C (Kd.int .u8) w (some ⟨ad.block, ad.off + m, none⟩) (b.length - m) (b.drop m) := by
  have h1 := Kd.C_drop h hm hc
  rw [if_neg (fun e => hmc e.symm), List.length_drop] at h1
  have h2 := add_field ad 0 m hm0
  rw [Addr.add_zero', Nat.zero_add] at h2
  rw [← h2]
  have e : m * (Kd.int .u8).sz = m := Nat.mul_one m
  rw [e] at h1
  exact h1
theorem of2_drop (b : List Int) (m : Nat) : of2 (b.drop m) 0 = of2 b m := by
  unfold of2 at_
  simp only [List.getD_eq_getElem?_getD, List.getElem?_drop, Nat.add_zero, Nat.zero_add]
theorem ofd_calls (ad : Addr) (c c' m : Nat) (b : List Int) (w : World) (h : Kd.C (Kd.int .u8) w (some ad) b.length b) (hm0 : 0 < m) (hm : m + 2 ≤ b.length) (hc : b.length ≤ c) (hb : Byts b) :
    Calls Try.prog 83 #[.slice (some ⟨ad.block, ad.off + m, none⟩) (b.length - m) c'] w fun e w' => e = .returned (.int .i64 (of2 b m)) ∧ Below w.heap.size w w' := by
  have h1 := drop_C h hm0 (by omega) hc (by omega)
  have h2 := of_calls (some ⟨ad.block, ad.off + m, none⟩) c' (b.drop m) w (by rw [List.length_drop]; exact h1) (by rw [List.length_drop]; omega) (fun c hc => hb c (List.mem_of_mem_drop hc))
  rw [of2_drop, List.length_drop] at h2
  exact h2
theorem C_two {w : World} {g : Nat} {t : TypeId} {fr : Nat × Nat} (h : w.heap[g]? = some (.cells #[.int .u8 84, .int .u8 49] t fr)) : Kd.C (Kd.int .u8) w (some ⟨g, 0, none⟩) 2 [84, 49] :=
  ⟨rfl, by simp [maxLen], fun _ => ⟨⟨g, 0, none⟩, rfl, fun j p hj => ⟨[.int .u8 p], rfl, rfl, fun i u hu => by
    rcases i with _ | i
    · have hu' : Value.int .u8 p = u := Option.some.inj hu
      rw [← hu', Addr.add_lit, cell_in h]
      rcases j with _ | _ | j
      · obtain rfl : (84 : Int) = p := Option.some.inj hj
        rfl
      · obtain rfl : (49 : Int) = p := Option.some.inj hj
        rfl
      · cases hj
    · cases hu⟩⟩⟩
theorem of2_bd {b : List Int} (hb : Byts b) (i : Nat) : 0 ≤ of2 b i ∧ of2 b i < 65536 := by
  have h : ∀ j, 0 ≤ at_ b j ∧ at_ b j < 256 := fun j => by
    unfold at_
    rw [List.getD_eq_getElem?_getD]
    cases hj : b[j]? with
    | none => exact ⟨by decide, by decide⟩
    | some x => exact hb x (List.mem_of_getElem? hj)
  have h1 := h i
  have h2 := h (i + 1)
  unfold of2
  omega
def X2C (ad : Addr) (X : Int) (W : World) : Prop := W.cell? ⟨ad.block, ad.off + 2, none⟩ = some (.int .u8 X)
def rdT : Bool × List (List Nat × List Nat) := (true, [([], []), ([0], [0]), ([1], [1]), ([2], [2]), ([], []), ([4], [4]), ([5], [5]), ([], []), ([7], [7]), ([8, 6], [8]), ([6, 9], [6, 9]), ([], []), ([11, 11], [11]), ([3, 10, 12], [3, 10, 12]), ([], []), ([14, 13, 9, 0, 1, 2, 3, 4, 5, 6, 7, 8, 9, 10, 11, 12, 13, 14], [13, 14])])
def rdT10 : Bool × List (List Nat × List Nat) := (true, [([], []), ([0], [0]), ([], []), ([2], [2]), ([1, 3], [1, 3])])
theorem rdtab10 : rtab .any (opsOf Try.f47 10) = rdT10 := by kernel_rfl
def X3C (ga gm N : Nat) (W : World) : Prop := W.cell? ⟨ga, 3, none⟩ = some (.slice (some ⟨gm, 0, none⟩) N N)
theorem rdtab : rtab .any (opsOf Try.f47 9) = rdT := by kernel_rfl
set_option maxHeartbeats 4000000 in
set_option maxRecDepth 100000 in
theorem read_calls (A : Option Addr) (c : Nat) (b : List Int) (w : World) (hr : Kd.C (Kd.int .u8) w A b.length b) (hc : b.length ≤ c) (hb : Byts b) (hl : b.length ≤ 100000) {r : (Int × Int × Int × List Int) × Int} (hres : tblP b = r) :
    Calls Try.prog 47 #[.slice A b.length c] w fun e w' => ∃ A' c', e = .returned (.tuple #[.agg (imgCs r.1.1 r.1.2.1 r.1.2.2.1 A' r.1.2.2.2.length c'), .int .i64 r.2]) ∧ r.1.2.2.2.length ≤ c' ∧ Kd.C (Kd.int .u8) w' A' r.1.2.2.2.length r.1.2.2.2 ∧ Below w.heap.size w w' := by
  have HR := Aside0.mk hr
  have HBY := Aside0.mk hb
  have HB : Aside0 (Below w.heap.size w w) := ⟨Below.refl _ _⟩
  have HRES := Aside0.mk hres
  clear hb hres
  by_cases h11 : b.length < 11
  · have m1 : decide ((b.length : Int) < 11) = true := decide_eq_true (by omega)
    have m2 : decide (b.length < 11) = true := decide_eq_true h11
    obtain rfl : ((0, 0, 0, []), 10) = r := by
      rw [← HRES.out]
      unfold tblP
      rw [if_pos h11]
    clear hr h11 HRES
    go_enter Try.func47, Try.ntmps47
    go_wp2_with (first | ((with_reducible refine gate_dst (N := 2) rfl ?_); refine boxN (w := w) rfl (N := 2) rfl (cs := imgCs 0 0 0 none 0 0) (t := 25) (by first | (go_simp; done) | (go_simp; rfl)) HB ?_; intro g2 Wa Ha Lg2 HB_Wa K_Wa) | (refine storeCsN (w := w) rfl 25 _ _ rfl g2 (imgCs 0 0 0 none 0 0) rfl rfl 25 _ Ha (by kernel_rfl) rfl (by rw [← Array.all_toList]; rfl) HB_Wa ⟨Lg2.out.1⟩ ?_; intro Wz Hz HBz _))
    refine bodyPost_ret (results_ct (p := 2) (u1 := 3) rfl _ _ g2 (imgCs 0 0 0 none 0 0) rfl (run_loadVar_row _ g2 25 25 (imgCs 0 0 0 none 0 0) (0, 0) _ Hz.out Try.underlying25 rfl (by kernel_rfl))) rfl ?_
    exact ⟨none, 0, rfl, Nat.le_refl _, Kd.C_nil _ _, HBz.out⟩
  · have m1 : decide ((b.length : Int) < 11) = false := decide_eq_false (by omega)
    have m2 : decide (b.length < 11) = false := decide_eq_false h11
    obtain ⟨ad, hA⟩ : ∃ ad, A = some ad := by
      obtain ⟨ad, h, _⟩ := int_at (xs := b) hr (i := 0) (by omega) (by omega) rfl
      exact ⟨ad, h⟩
    subst hA
    have q1 : ((7 : Int) ≤ (b.length : Int)) = True := eq_true (by omega)
    have q2 : (7 ≤ b.length) = True := eq_true (by omega)
    have q3 : (c = 7) = False := eq_false (by omega)
    have q4 : ((b.length : Int) ≤ (c : Int)) = True := eq_true (by omega)
    have q5 : (b.length ≤ c) = True := eq_true hc
    clear hr
    go_enter Try.func47, Try.ntmps47
    go_wp2_with (first | ((with_reducible refine gate_dst (N := 2) rfl ?_); refine boxN (w := w) rfl (N := 2) rfl (cs := imgCs 0 0 0 none 0 0) (t := 25) (by first | (go_simp; done) | (go_simp; rfl)) HB ?_; intro g2 Wa Ha Lg2 HB_Wa K_Wa))
    refine (ofd_calls ad c (c - 7) 7 b Wa (Kd.C_below HR.out HB_Wa.out) (by omega) (by omega) hc HBY.out).mono ?_
    rintro e w3 ⟨rfl, hb3⟩
    have HB3 := Aside0.mk (below_step HB_Wa.out hb3)
    have H23 := Aside0.mk (blk_below Ha.out hb3)
    obtain ⟨LG, hLG⟩ : ∃ x, of2 b 7 = x := ⟨_, rfl⟩
    have hbd := of2_bd HBY.out 7
    rw [hLG] at hbd ⊢
    have HLG := Aside0.mk hLG
    have hcv := Lib.run_convert_bytes_const (P := Try.prog) w3 23 5 #[.int .u8 84, .int .u8 49] 2 2 Try.underlying23 Try.underlying5
    have HBx : Aside0 (Below w.heap.size w (w3.alloc (.cells #[.int .u8 84, .int .u8 49] 5 (2, 3)))) := ⟨below_step HB3.out (below_alloc (Below.refl _ _) _)⟩
    have H2x : Aside0 ((w3.alloc (.cells #[.int .u8 84, .int .u8 49] 5 (2, 3))).heap[g2]? = some (.cells (imgCs 0 0 0 none 0 0) 25 (0, 0))) := ⟨blk_below H23.out (below_alloc (Below.refl _ _) _)⟩
    have HGx : Aside0 ((w3.alloc (.cells #[.int .u8 84, .int .u8 49] 5 (2, 3))).heap[w3.heap.size]? = some (.cells #[.int .u8 84, .int .u8 49] 5 (2, 3))) := ⟨blk_new w3 _⟩
    have e23 := Try.underlying23
    clear hb3 hLG Ha HB_Wa K_Wa q1 q2 q3
    go_wp2_with fail
    refine (prefix_calls (some ad) (some ⟨w3.heap.size, 0, none⟩) c 2 b _ (Kd.C_below HR.out HBx.out) hc (C_two HGx.out) (by omega) HBY.out).mono ?_
    rintro e w' ⟨rfl, rfl⟩
    by_cases hpre : at_ b 0 = 84 ∧ at_ b 1 = 49
    rotate_left
    · have hp : decide (at_ b 0 = 84 ∧ at_ b 1 = 49) = false := decide_eq_false hpre
      rw [hp]
      have hrr : ((0, 0, 0, []), 11) = r := by
        rw [← HRES.out]
        unfold tblP
        rw [if_neg h11, if_pos (.inl hpre)]
      have HRR := Aside0.mk hrr
      clear hp hpre HRES hrr
      go_wp2_with (first | (refine storeCsN (w := w) rfl 25 _ _ rfl g2 (imgCs 0 0 0 none 0 0) rfl rfl 25 _ H2x (by kernel_rfl) rfl (by rw [← Array.all_toList]; rfl) HBx ⟨Lg2.out.1⟩ ?_; intro Wz Hz HBz _))
      refine bodyPost_ret (results_ct (p := 2) (u1 := 3) rfl _ _ g2 (imgCs 0 0 0 none 0 0) rfl (run_loadVar_row _ g2 25 25 (imgCs 0 0 0 none 0 0) (0, 0) _ Hz.out Try.underlying25 rfl (by kernel_rfl))) rfl ?_
      obtain rfl := HRR.out
      exact ⟨none, 0, rfl, Nat.le_refl _, Kd.C_nil _ _, HBz.out⟩
    have hp : decide (at_ b 0 = 84 ∧ at_ b 1 = 49) = true := decide_eq_true hpre
    rw [hp]
    by_cases hlen : (b.length : Int) = 11 + LG
    rotate_left
    · have hrr : ((0, 0, 0, []), 11) = r := by
        rw [← HRES.out]
        unfold tblP
        rw [HLG.out, if_neg h11, if_pos (.inr hlen)]
      have n1 : ((b.length : Int) != 11 + LG) = true := bne_iff_ne.2 hlen
      have HRR := Aside0.mk hrr
      clear hp hpre HRES hlen hrr
      go_wp2_with (first | (refine storeCsN (w := w) rfl 25 _ _ rfl g2 (imgCs 0 0 0 none 0 0) rfl rfl 25 _ H2x (by kernel_rfl) rfl (by rw [← Array.all_toList]; rfl) HBx ⟨Lg2.out.1⟩ ?_; intro Wz Hz HBz _))
      refine bodyPost_ret (results_ct (p := 2) (u1 := 3) rfl _ _ g2 (imgCs 0 0 0 none 0 0) rfl (run_loadVar_row _ g2 25 25 (imgCs 0 0 0 none 0 0) (0, 0) _ Hz.out Try.underlying25 rfl (by kernel_rfl))) rfl ?_
      obtain rfl := HRR.out
      exact ⟨none, 0, rfl, Nat.le_refl _, Kd.C_nil _ _, HBz.out⟩
    have n1 : ((b.length : Int) != 11 + LG) = false := by rw [← hlen]; exact bne_self_eq_false _
    obtain ⟨M, hM⟩ : ∃ M, M + 2 = b.length := ⟨b.length - 2, by omega⟩
    have hM9 : 9 ≤ M := by omega
    have hMl : M ≤ b.length := by omega
    have e1 : (b.length : Int) - 2 = (M : Int) := by omega
    have e2 : b.length - M = 2 := by omega
    have q1 : (0 ≤ (M : Int)) = True := eq_true (by omega)
    have q2 : ((M : Int) ≤ (c : Int)) = True := eq_true (by omega)
    have q3 : (M ≤ c) = True := eq_true (by omega)
    have q6 : ((M : Int) ≤ (b.length : Int)) = True := eq_true (by omega)
    have q7 : (M ≤ b.length) = True := eq_true hMl
    have q8 : (c = M) = False := eq_false (by omega)
    have HE := Aside0.mk hM
    clear hp hlen hM hcv
    go_wp2_with fail
    go_quiet (fail)
    go_wp2_with fail
    obtain ⟨WD, hWD⟩ : ∃ x, (w3.alloc (.cells #[.int .u8 84, .int .u8 49] 5 (2, 3))).drewN nq = x := ⟨_, rfl⟩
    have hbd2 : Below w.heap.size w WD := by rw [← hWD]; exact below_drewN HBx.out nq
    have HBd := Aside0.mk hbd2
    have H2d : Aside0 (WD.heap[g2]? = some (.cells (imgCs 0 0 0 none 0 0) 25 (0, 0))) := ⟨by rw [← hWD]; exact blk_below H2x.out (below_drewN (Below.refl _ _) nq)⟩
    rw [hWD]
    have hof := of_calls (some (ad.add M)) (c - M) (b.drop M) WD (by
      have h := Kd.C_drop (Kd.C_below HR.out hbd2) hMl hc
      rw [if_neg (by omega), show M * (Kd.int .u8).sz = M from Nat.mul_one M] at h
      exact h) (by rw [List.length_drop]; omega) (fun x hx => HBY.out x (List.mem_of_mem_drop hx))
    rw [List.length_drop, e2, of2_drop] at hof
    obtain ⟨SV, hSV⟩ : ∃ x, of2 b M = x := ⟨_, rfl⟩
    have hbs := of2_bd HBY.out M
    rw [hSV] at hof hbs
    have HSV := Aside0.mk hSV
    have HOF := Aside0.mk hof
    clear hof hSV hbd2 hWD H2x HGx HBx
    refine HOF.out.mono ?_
    rintro e w5 ⟨rfl, hb5⟩
    have HB5 := Aside0.mk (below_step HBd.out hb5)
    have H25 := Aside0.mk (blk_below H2d.out hb5)
    clear hb5
    go_wp2_with (first | ((with_reducible refine gate_dst (N := 40) rfl ?_); refine litW (w := w) rfl (N := 40) rfl #[.slice (some ad) M c] 23 1 (by first | (go_simp; done) | (go_simp; rfl)) HB5 ?_; intro g6 W6 H6 Lg6 HB6 K6; have H26 := Aside0.mk (blk_below H25.out K6.out)))
    have hsm := sum_calls g6 (some ad) c (b.take M) W6 ((cell_in H6.out 0).trans (by rw [List.length_take, Nat.min_eq_left hMl]; rfl)) (Kd.C_take (Kd.C_below HR.out HB6.out) hMl) (fun x hx => HBY.out x (List.mem_of_mem_take hx))
    obtain ⟨CR, hCR⟩ : ∃ x, crcL 65535 (b.take M) = x := ⟨_, rfl⟩
    have hcr : CR < 65536 := by rw [← hCR]; exact crc_lt (fun x hx => HBY.out x (List.mem_of_mem_take hx))
    rw [hCR] at hsm
    have HCR := Aside0.mk hCR
    have HSM := Aside0.mk hsm
    clear hsm hCR
    refine HSM.out.mono ?_
    rintro e w' ⟨rfl, hw'⟩
    obtain rfl := hw'.symm
    have hm2 : b.length - 2 = M := by have := HE.out; omega
    by_cases hs : SV = (CR : Int)
    rotate_left
    · have hrr : ((0, 0, 0, []), 12) = r := by
        rw [← HRES.out]
        unfold tblP
        rw [if_neg h11, if_neg (by rw [HLG.out]; intro h; rcases h with h | h; exact h hpre; exact h (by have := HE.out; have := eq_of_beq_false_ne n1; omega)), hm2, HSV.out, HCR.out, if_pos hs]
      have HRR := Aside0.mk hrr
      have n2 : (SV != (CR : Int)) = true := bne_iff_ne.2 hs
      clear HRES hrr hs hpre hm2
      go_wp2_with (first | (refine storeCsN (w := w) rfl 25 _ _ rfl g2 (imgCs 0 0 0 none 0 0) rfl rfl 25 _ H26 (by kernel_rfl) rfl (by rw [← Array.all_toList]; rfl) HB6 ⟨Lg2.out.1⟩ ?_; intro Wz Hz HBz _))
      refine bodyPost_ret (results_ct (p := 2) (u1 := 3) rfl _ _ g2 (imgCs 0 0 0 none 0 0) rfl (run_loadVar_row _ g2 25 25 (imgCs 0 0 0 none 0 0) (0, 0) _ Hz.out Try.underlying25 rfl (by kernel_rfl))) rfl ?_
      obtain rfl := HRR.out
      exact ⟨none, 0, rfl, Nat.le_refl _, Kd.C_nil _ _, HBz.out⟩
    have n2 : (SV != (CR : Int)) = false := by rw [hs]; exact bne_self_eq_false _
    have HS := Aside0.mk hs
    have HPRE0 := Aside0.mk hpre
    obtain ⟨N, hN⟩ := Int.eq_ofNat_of_zero_le hbd.1
    have hlN : b.length = 11 + N := by have := eq_of_beq_false_ne n1; omega
    obtain ⟨X, hX⟩ : ∃ x, b[2] = x := ⟨_, rfl⟩
    obtain ⟨E0, hE0⟩ : ∃ x, of2 b 3 = x := ⟨_, rfl⟩
    obtain ⟨E1, hE1⟩ : ∃ x, of2 b 5 = x := ⟨_, rfl⟩
    have hbX := HBY.out X (by rw [← hX]; exact List.getElem_mem _)
    have htk : (b.take M).length = M := by rw [List.length_take]; omega
    have htg : ∀ i, i < M → at_ (b.take M) i = at_ b i := fun i hi => by
      unfold at_
      rw [List.getD_eq_getElem?_getD, List.getD_eq_getElem?_getD, List.getElem?_take, if_pos hi]
    have ht2 : ∀ i, i + 1 < M → of2 (b.take M) i = of2 b i := fun i hi => by
      unfold of2
      rw [htg i (by omega), htg (i + 1) hi]
    have HTC : Aside0 (∀ W, Below W6.heap.size W6 W → Kd.C (Kd.int .u8) W (some ad) (b.take M).length (b.take M)) := ⟨fun W hb => Kd.C_below (Kd.C_take (Kd.C_below HR.out HB6.out) hMl) hb⟩
    have OF3 : Aside0 (∀ W, Below W6.heap.size W6 W → Calls Try.prog 83 #[.slice (some ⟨ad.block, ad.off + 3, none⟩) (M - 3) (c - 3)] W fun e w' => e = .returned (.int .i64 E0) ∧ Below W.heap.size W w') := ⟨fun W hb => by
      have h := ofd_calls ad c (c - 3) 3 (b.take M) W (HTC.out W hb) (by omega) (by omega) (by omega) (fun x hx => HBY.out x (List.mem_of_mem_take hx))
      rw [htk, ht2 3 (by omega), hE0] at h
      exact h⟩
    have OF5 : Aside0 (∀ W, Below W6.heap.size W6 W → Calls Try.prog 83 #[.slice (some ⟨ad.block, ad.off + 5, none⟩) (M - 5) (c - 5)] W fun e w' => e = .returned (.int .i64 E1) ∧ Below W.heap.size W w') := ⟨fun W hb => by
      have h := ofd_calls ad c (c - 5) 5 (b.take M) W (HTC.out W hb) (by omega) (by omega) (by omega) (fun x hx => HBY.out x (List.mem_of_mem_take hx))
      rw [htk, ht2 5 (by omega), hE1] at h
      exact h⟩
    obtain ⟨ad2, hA2, x2⟩ := int_at (Kd.C_below HR.out HB6.out) (i := 2) (by omega) (by omega) hX
    obtain rfl := Option.some.inj hA2
    have x2' : X2C ad X W6 := by
      have h := add_field ad 0 2 (by omega)
      rw [Addr.add_zero'] at h
      unfold X2C
      rw [← h]
      exact x2
    have HSE : Aside0 (∀ W', Below W6.heap.size W6 W' → X2C ad X W') := ⟨fun W' hb => (hb.cell (World.block_lt_of_cell? W6 _ x2')).trans x2'⟩
    have hX2 : at_ b 2 = X := by
      unfold at_
      rw [List.getD_eq_getElem?_getD, List.getElem?_eq_getElem (by omega), ← hX]
      rfl
    have HX := Aside0.mk hX2
    have HE0 := Aside0.mk hE0
    have HE1 := Aside0.mk hE1
    have HLN := Aside0.mk hlN
    have hXw : IntKind.i64.wrap X = X := by rw [i64_w, w64_in _ (by omega)]
    have hmk : ∀ W, (Instr.makeSlice 23 (.int .i64 (N : Int)) (.int .i64 (N : Int))).run Try.prog W = .ok (.slice (some ⟨W.heap.size, 0, none⟩) N N) (W.alloc (.cells (madeCells #[.int .u8 0] N) 5)) := fun W => by
      have h := print_make_int (P := Try.prog) 23 5 (.int .u8 0) 1 Try.underlying23 info5 rfl (by decide) (N : Int) (by omega) (by omega) W
      rwa [Int.toNat_natCast] at h
    have r1 : (2 < M) = True := eq_true (by omega)
    have r2 : ((2 : Int) < (M : Int)) = True := eq_true (by omega)
    have r3 : (3 ≤ M) = True := eq_true (by omega)
    have r4 : ((3 : Int) ≤ (M : Int)) = True := eq_true (by omega)
    have r5 : (5 ≤ M) = True := eq_true (by omega)
    have r6 : ((5 : Int) ≤ (M : Int)) = True := eq_true (by omega)
    have r7 : (c = 3) = False := eq_false (by omega)
    have r8 : (c = 5) = False := eq_false (by omega)
    subst hN
    clear hlN hX hX2 hE0 hE1 htk htg ht2 x2 x2' hbX hs hpre n1 e1 e2 q6 q7 q8 hbs hbd hm2
    go_wp2_with fail
    go_cut [6] from 45 to 58 (fun v6 wc => ∃ ga gm, v6 = .pointer (some ⟨ga, 0, none⟩) ∧ wc.heap[ga]? = some (.cells (imgCs X E0 E1 (some ⟨gm, 0, none⟩) N N) 25 (0, 0)) ∧ wc.heap[gm]? = some (.cells (madeCells #[.int .u8 0] N) 5 (0, 0)) ∧ gm ≠ ga ∧ W6.heap.size ≤ ga ∧ W6.heap.size ≤ gm ∧ Below W6.heap.size W6 wc)
    case first =>
      (try simp only [Act.put, List.setIfInBounds_toArray, List.set_cons_zero, List.set_cons_succ])
      have KF : Aside0 (Below W6.heap.size W6 W6) := ⟨Below.refl _ _⟩
      refine startD 16 rdtab HSE KF (fun W7 HT B7 K7 => ?_)
      refine pureD 0 (some 45) (lb 16 0x1) HT ?_
      refine pureD 1 (some 46) (lb 16 0x3) HT ?_
      refine takeD 2 (some 47) (lb 16 0x7) HT HSE B7 ?_ (hy := Or.inl ⟨by rfl, by intro w' hs; unfold X2C at hs; go_simp; with_reducible rfl⟩)
      refine pureD 3 (some 48) (lb 16 0xf) HT ?_
      refine pureD 4 (some 49) (lb 16 0x1f) HT ?_
      refine pureD 5 (some 50) (lb 16 0x3f) HT ?_
      refine pureD 7 (some 52) (lb 16 0xbf) HT ?_
      refine pureD 8 (some 53) (lb 16 0x1bf) HT ?_
      refine pureD 11 (some 56) (lb 16 0x9bf) HT ?_
      refine threeD 6 12 14 (some 51) (some 57) (some 6) (lb 16 0x9ff) (lb 16 0x19bf) (lb 16 0x49bf) HT (fun K hK => ?_) (fun K hK => ?_) (fun K hK => ?_)
      · refine callK hK HSE B7 Try.func83 (OF3.out _ B7.out) (fun W8 B8 K8 => ?_)
        refine threeD 9 12 14 (some 54) (some 57) (some 6) (lb 16 0xbff) (lb 16 0x19ff) (lb 16 0x49ff) HT (fun K hK => ?_) (fun K hK => ?_) (fun K hK => ?_)
        · refine callK hK HSE B8 Try.func83 (OF5.out _ B8.out) (fun W9 B9 K9 => ?_)
          refine pureD 10 (some 55) (lb 16 0xfff) HT ?_
          refine twoD 12 14 (some 57) (some 6) (lb 16 0x1fff) (lb 16 0x4fff) HT (fun K hK => ?_) (fun K hK => ?_)
          · refine litE hK HSE B9 (madeCells #[.int .u8 0] N) 5 N (by first | (go_simp; done) | (go_simp; rfl)) (fun gm W10 Hm10 Lm B10 K10 => ?_)
            refine pureD 13 (some 58) (lb 16 0x3fff) HT ?_
            refine oneD 14 (some 6) (lb 16 0x7fff) HT (fun K hK => ?_)
            refine boxE hK HSE B10 (imgCs 0 0 0 none 0 0) 25 (by first | (go_simp; done) | (go_simp; rfl)) (fun ga W11 Hg11 Lg B11 K11 => ?_)
            have Hm11 := Aside0.mk (blk_below Hm10.out K11.out)
            have NE := Aside0.mk (show gm ≠ ga from fun e => by have h1 := lt_of_block Hm10.out; have h2 := Lg.out.2; omega)
            refine oneD 15 none (lb 16 0xffff) HT (fun K hK => ?_)
            refine storeRowE hK HSE B11 ga (imgCs X E0 E1 (some ⟨gm, 0, none⟩) N N) Hg11 ⟨Lg.out.1⟩ (fun WF HgF BF HOF => ?_)
            refine doneD HT ?_
            clear HT
            go_wp2_with fail
            go_meet
            case rel => exact ⟨ga, gm, rfl, HgF.out, (HOF.out gm NE.out).trans Hm11.out, NE.out, Lg.out.1, Lm.out.1, BF.out⟩
          · refine boxE hK HSE B9 (imgCs 0 0 0 none 0 0) 25 (by first | (go_simp; done) | (go_simp; rfl)) (fun ga W10 Hg10 Lg B10 K10 => ?_)
            refine oneD 12 (some 57) (lb 16 0x5fff) HT (fun K hK => ?_)
            refine litE hK HSE B10 (madeCells #[.int .u8 0] N) 5 N (by first | (go_simp; done) | (go_simp; rfl)) (fun gm W11 Hm11 Lm B11 K11 => ?_)
            have Hg11 := Aside0.mk (blk_below Hg10.out K11.out)
            have NE := Aside0.mk (show gm ≠ ga from fun e => by have h1 := lt_of_block Hg10.out; have h2 := Lm.out.2; omega)
            refine pureD 13 (some 58) (lb 16 0x7fff) HT ?_
            refine oneD 15 none (lb 16 0xffff) HT (fun K hK => ?_)
            refine storeRowE hK HSE B11 ga (imgCs X E0 E1 (some ⟨gm, 0, none⟩) N N) Hg11 ⟨Lg.out.1⟩ (fun WF HgF BF HOF => ?_)
            refine doneD HT ?_
            clear HT
            go_wp2_with fail
            go_meet
            case rel => exact ⟨ga, gm, rfl, HgF.out, (HOF.out gm NE.out).trans Hm11.out, NE.out, Lg.out.1, Lm.out.1, BF.out⟩
        · refine litE hK HSE B8 (madeCells #[.int .u8 0] N) 5 N (by first | (go_simp; done) | (go_simp; rfl)) (fun gm W9 Hm9 Lm B9 K9 => ?_)
          refine twoD 9 14 (some 54) (some 6) (lb 16 0x1bff) (lb 16 0x59ff) HT (fun K hK => ?_) (fun K hK => ?_)
          · refine callK hK HSE B9 Try.func83 (OF5.out _ B9.out) (fun W10 B10 K10 => ?_)
            have Hm10 := Aside0.mk (blk_below Hm9.out K10.out)
            refine pureD 10 (some 55) (lb 16 0x1fff) HT ?_
            refine pureD 13 (some 58) (lb 16 0x3fff) HT ?_
            refine oneD 14 (some 6) (lb 16 0x7fff) HT (fun K hK => ?_)
            refine boxE hK HSE B10 (imgCs 0 0 0 none 0 0) 25 (by first | (go_simp; done) | (go_simp; rfl)) (fun ga W11 Hg11 Lg B11 K11 => ?_)
            have Hm11 := Aside0.mk (blk_below Hm10.out K11.out)
            have NE := Aside0.mk (show gm ≠ ga from fun e => by have h1 := lt_of_block Hm10.out; have h2 := Lg.out.2; omega)
            refine oneD 15 none (lb 16 0xffff) HT (fun K hK => ?_)
            refine storeRowE hK HSE B11 ga (imgCs X E0 E1 (some ⟨gm, 0, none⟩) N N) Hg11 ⟨Lg.out.1⟩ (fun WF HgF BF HOF => ?_)
            refine doneD HT ?_
            clear HT
            go_wp2_with fail
            go_meet
            case rel => exact ⟨ga, gm, rfl, HgF.out, (HOF.out gm NE.out).trans Hm11.out, NE.out, Lg.out.1, Lm.out.1, BF.out⟩
          · refine boxE hK HSE B9 (imgCs 0 0 0 none 0 0) 25 (by first | (go_simp; done) | (go_simp; rfl)) (fun ga W10 Hg10 Lg B10 K10 => ?_)
            have Hm10 := Aside0.mk (blk_below Hm9.out K10.out)
            have NE := Aside0.mk (show gm ≠ ga from fun e => by have h1 := lt_of_block Hm9.out; have h2 := Lg.out.2; omega)
            refine oneD 9 (some 54) (lb 16 0x5bff) HT (fun K hK => ?_)
            refine callK hK HSE B10 Try.func83 (OF5.out _ B10.out) (fun W11 B11 K11 => ?_)
            have Hm11 := Aside0.mk (blk_below Hm10.out K11.out)
            have Hg11 := Aside0.mk (blk_below Hg10.out K11.out)
            refine pureD 10 (some 55) (lb 16 0x5fff) HT ?_
            refine pureD 13 (some 58) (lb 16 0x7fff) HT ?_
            refine oneD 15 none (lb 16 0xffff) HT (fun K hK => ?_)
            refine storeRowE hK HSE B11 ga (imgCs X E0 E1 (some ⟨gm, 0, none⟩) N N) Hg11 ⟨Lg.out.1⟩ (fun WF HgF BF HOF => ?_)
            refine doneD HT ?_
            clear HT
            go_wp2_with fail
            go_meet
            case rel => exact ⟨ga, gm, rfl, HgF.out, (HOF.out gm NE.out).trans Hm11.out, NE.out, Lg.out.1, Lm.out.1, BF.out⟩
        · refine boxE hK HSE B8 (imgCs 0 0 0 none 0 0) 25 (by first | (go_simp; done) | (go_simp; rfl)) (fun ga W9 Hg9 Lg B9 K9 => ?_)
          refine twoD 9 12 (some 54) (some 57) (lb 16 0x4bff) (lb 16 0x59ff) HT (fun K hK => ?_) (fun K hK => ?_)
          · refine callK hK HSE B9 Try.func83 (OF5.out _ B9.out) (fun W10 B10 K10 => ?_)
            have Hg10 := Aside0.mk (blk_below Hg9.out K10.out)
            refine pureD 10 (some 55) (lb 16 0x4fff) HT ?_
            refine oneD 12 (some 57) (lb 16 0x5fff) HT (fun K hK => ?_)
            refine litE hK HSE B10 (madeCells #[.int .u8 0] N) 5 N (by first | (go_simp; done) | (go_simp; rfl)) (fun gm W11 Hm11 Lm B11 K11 => ?_)
            have Hg11 := Aside0.mk (blk_below Hg10.out K11.out)
            have NE := Aside0.mk (show gm ≠ ga from fun e => by have h1 := lt_of_block Hg10.out; have h2 := Lm.out.2; omega)
            refine pureD 13 (some 58) (lb 16 0x7fff) HT ?_
            refine oneD 15 none (lb 16 0xffff) HT (fun K hK => ?_)
            refine storeRowE hK HSE B11 ga (imgCs X E0 E1 (some ⟨gm, 0, none⟩) N N) Hg11 ⟨Lg.out.1⟩ (fun WF HgF BF HOF => ?_)
            refine doneD HT ?_
            clear HT
            go_wp2_with fail
            go_meet
            case rel => exact ⟨ga, gm, rfl, HgF.out, (HOF.out gm NE.out).trans Hm11.out, NE.out, Lg.out.1, Lm.out.1, BF.out⟩
          · refine litE hK HSE B9 (madeCells #[.int .u8 0] N) 5 N (by first | (go_simp; done) | (go_simp; rfl)) (fun gm W10 Hm10 Lm B10 K10 => ?_)
            have Hg10 := Aside0.mk (blk_below Hg9.out K10.out)
            have NE := Aside0.mk (show gm ≠ ga from fun e => by have h1 := lt_of_block Hg9.out; have h2 := Lm.out.2; omega)
            refine oneD 9 (some 54) (lb 16 0x5bff) HT (fun K hK => ?_)
            refine callK hK HSE B10 Try.func83 (OF5.out _ B10.out) (fun W11 B11 K11 => ?_)
            have Hm11 := Aside0.mk (blk_below Hm10.out K11.out)
            have Hg11 := Aside0.mk (blk_below Hg10.out K11.out)
            refine pureD 10 (some 55) (lb 16 0x5fff) HT ?_
            refine pureD 13 (some 58) (lb 16 0x7fff) HT ?_
            refine oneD 15 none (lb 16 0xffff) HT (fun K hK => ?_)
            refine storeRowE hK HSE B11 ga (imgCs X E0 E1 (some ⟨gm, 0, none⟩) N N) Hg11 ⟨Lg.out.1⟩ (fun WF HgF BF HOF => ?_)
            refine doneD HT ?_
            clear HT
            go_wp2_with fail
            go_meet
            case rel => exact ⟨ga, gm, rfl, HgF.out, (HOF.out gm NE.out).trans Hm11.out, NE.out, Lg.out.1, Lm.out.1, BF.out⟩
      · refine litE hK HSE B7 (madeCells #[.int .u8 0] N) 5 N (by first | (go_simp; done) | (go_simp; rfl)) (fun gm W8 Hm8 Lm B8 K8 => ?_)
        refine twoD 6 14 (some 51) (some 6) (lb 16 0x19ff) (lb 16 0x59bf) HT (fun K hK => ?_) (fun K hK => ?_)
        · refine callK hK HSE B8 Try.func83 (OF3.out _ B8.out) (fun W9 B9 K9 => ?_)
          have Hm9 := Aside0.mk (blk_below Hm8.out K9.out)
          refine twoD 9 14 (some 54) (some 6) (lb 16 0x1bff) (lb 16 0x59ff) HT (fun K hK => ?_) (fun K hK => ?_)
          · refine callK hK HSE B9 Try.func83 (OF5.out _ B9.out) (fun W10 B10 K10 => ?_)
            have Hm10 := Aside0.mk (blk_below Hm9.out K10.out)
            refine pureD 10 (some 55) (lb 16 0x1fff) HT ?_
            refine pureD 13 (some 58) (lb 16 0x3fff) HT ?_
            refine oneD 14 (some 6) (lb 16 0x7fff) HT (fun K hK => ?_)
            refine boxE hK HSE B10 (imgCs 0 0 0 none 0 0) 25 (by first | (go_simp; done) | (go_simp; rfl)) (fun ga W11 Hg11 Lg B11 K11 => ?_)
            have Hm11 := Aside0.mk (blk_below Hm10.out K11.out)
            have NE := Aside0.mk (show gm ≠ ga from fun e => by have h1 := lt_of_block Hm10.out; have h2 := Lg.out.2; omega)
            refine oneD 15 none (lb 16 0xffff) HT (fun K hK => ?_)
            refine storeRowE hK HSE B11 ga (imgCs X E0 E1 (some ⟨gm, 0, none⟩) N N) Hg11 ⟨Lg.out.1⟩ (fun WF HgF BF HOF => ?_)
            refine doneD HT ?_
            clear HT
            go_wp2_with fail
            go_meet
            case rel => exact ⟨ga, gm, rfl, HgF.out, (HOF.out gm NE.out).trans Hm11.out, NE.out, Lg.out.1, Lm.out.1, BF.out⟩
          · refine boxE hK HSE B9 (imgCs 0 0 0 none 0 0) 25 (by first | (go_simp; done) | (go_simp; rfl)) (fun ga W10 Hg10 Lg B10 K10 => ?_)
            have Hm10 := Aside0.mk (blk_below Hm9.out K10.out)
            have NE := Aside0.mk (show gm ≠ ga from fun e => by have h1 := lt_of_block Hm9.out; have h2 := Lg.out.2; omega)
            refine oneD 9 (some 54) (lb 16 0x5bff) HT (fun K hK => ?_)
            refine callK hK HSE B10 Try.func83 (OF5.out _ B10.out) (fun W11 B11 K11 => ?_)
            have Hm11 := Aside0.mk (blk_below Hm10.out K11.out)
            have Hg11 := Aside0.mk (blk_below Hg10.out K11.out)
            refine pureD 10 (some 55) (lb 16 0x5fff) HT ?_
            refine pureD 13 (some 58) (lb 16 0x7fff) HT ?_
            refine oneD 15 none (lb 16 0xffff) HT (fun K hK => ?_)
            refine storeRowE hK HSE B11 ga (imgCs X E0 E1 (some ⟨gm, 0, none⟩) N N) Hg11 ⟨Lg.out.1⟩ (fun WF HgF BF HOF => ?_)
            refine doneD HT ?_
            clear HT
            go_wp2_with fail
            go_meet
            case rel => exact ⟨ga, gm, rfl, HgF.out, (HOF.out gm NE.out).trans Hm11.out, NE.out, Lg.out.1, Lm.out.1, BF.out⟩
        · refine boxE hK HSE B8 (imgCs 0 0 0 none 0 0) 25 (by first | (go_simp; done) | (go_simp; rfl)) (fun ga W9 Hg9 Lg B9 K9 => ?_)
          have Hm9 := Aside0.mk (blk_below Hm8.out K9.out)
          have NE := Aside0.mk (show gm ≠ ga from fun e => by have h1 := lt_of_block Hm8.out; have h2 := Lg.out.2; omega)
          refine oneD 6 (some 51) (lb 16 0x59ff) HT (fun K hK => ?_)
          refine callK hK HSE B9 Try.func83 (OF3.out _ B9.out) (fun W10 B10 K10 => ?_)
          have Hm10 := Aside0.mk (blk_below Hm9.out K10.out)
          have Hg10 := Aside0.mk (blk_below Hg9.out K10.out)
          refine oneD 9 (some 54) (lb 16 0x5bff) HT (fun K hK => ?_)
          refine callK hK HSE B10 Try.func83 (OF5.out _ B10.out) (fun W11 B11 K11 => ?_)
          have Hm11 := Aside0.mk (blk_below Hm10.out K11.out)
          have Hg11 := Aside0.mk (blk_below Hg10.out K11.out)
          refine pureD 10 (some 55) (lb 16 0x5fff) HT ?_
          refine pureD 13 (some 58) (lb 16 0x7fff) HT ?_
          refine oneD 15 none (lb 16 0xffff) HT (fun K hK => ?_)
          refine storeRowE hK HSE B11 ga (imgCs X E0 E1 (some ⟨gm, 0, none⟩) N N) Hg11 ⟨Lg.out.1⟩ (fun WF HgF BF HOF => ?_)
          refine doneD HT ?_
          clear HT
          go_wp2_with fail
          go_meet
          case rel => exact ⟨ga, gm, rfl, HgF.out, (HOF.out gm NE.out).trans Hm11.out, NE.out, Lg.out.1, Lm.out.1, BF.out⟩
      · refine boxE hK HSE B7 (imgCs 0 0 0 none 0 0) 25 (by first | (go_simp; done) | (go_simp; rfl)) (fun ga W8 Hg8 Lg B8 K8 => ?_)
        refine twoD 6 12 (some 51) (some 57) (lb 16 0x49ff) (lb 16 0x59bf) HT (fun K hK => ?_) (fun K hK => ?_)
        · refine callK hK HSE B8 Try.func83 (OF3.out _ B8.out) (fun W9 B9 K9 => ?_)
          have Hg9 := Aside0.mk (blk_below Hg8.out K9.out)
          refine twoD 9 12 (some 54) (some 57) (lb 16 0x4bff) (lb 16 0x59ff) HT (fun K hK => ?_) (fun K hK => ?_)
          · refine callK hK HSE B9 Try.func83 (OF5.out _ B9.out) (fun W10 B10 K10 => ?_)
            have Hg10 := Aside0.mk (blk_below Hg9.out K10.out)
            refine pureD 10 (some 55) (lb 16 0x4fff) HT ?_
            refine oneD 12 (some 57) (lb 16 0x5fff) HT (fun K hK => ?_)
            refine litE hK HSE B10 (madeCells #[.int .u8 0] N) 5 N (by first | (go_simp; done) | (go_simp; rfl)) (fun gm W11 Hm11 Lm B11 K11 => ?_)
            have Hg11 := Aside0.mk (blk_below Hg10.out K11.out)
            have NE := Aside0.mk (show gm ≠ ga from fun e => by have h1 := lt_of_block Hg10.out; have h2 := Lm.out.2; omega)
            refine pureD 13 (some 58) (lb 16 0x7fff) HT ?_
            refine oneD 15 none (lb 16 0xffff) HT (fun K hK => ?_)
            refine storeRowE hK HSE B11 ga (imgCs X E0 E1 (some ⟨gm, 0, none⟩) N N) Hg11 ⟨Lg.out.1⟩ (fun WF HgF BF HOF => ?_)
            refine doneD HT ?_
            clear HT
            go_wp2_with fail
            go_meet
            case rel => exact ⟨ga, gm, rfl, HgF.out, (HOF.out gm NE.out).trans Hm11.out, NE.out, Lg.out.1, Lm.out.1, BF.out⟩
          · refine litE hK HSE B9 (madeCells #[.int .u8 0] N) 5 N (by first | (go_simp; done) | (go_simp; rfl)) (fun gm W10 Hm10 Lm B10 K10 => ?_)
            have Hg10 := Aside0.mk (blk_below Hg9.out K10.out)
            have NE := Aside0.mk (show gm ≠ ga from fun e => by have h1 := lt_of_block Hg9.out; have h2 := Lm.out.2; omega)
            refine oneD 9 (some 54) (lb 16 0x5bff) HT (fun K hK => ?_)
            refine callK hK HSE B10 Try.func83 (OF5.out _ B10.out) (fun W11 B11 K11 => ?_)
            have Hm11 := Aside0.mk (blk_below Hm10.out K11.out)
            have Hg11 := Aside0.mk (blk_below Hg10.out K11.out)
            refine pureD 10 (some 55) (lb 16 0x5fff) HT ?_
            refine pureD 13 (some 58) (lb 16 0x7fff) HT ?_
            refine oneD 15 none (lb 16 0xffff) HT (fun K hK => ?_)
            refine storeRowE hK HSE B11 ga (imgCs X E0 E1 (some ⟨gm, 0, none⟩) N N) Hg11 ⟨Lg.out.1⟩ (fun WF HgF BF HOF => ?_)
            refine doneD HT ?_
            clear HT
            go_wp2_with fail
            go_meet
            case rel => exact ⟨ga, gm, rfl, HgF.out, (HOF.out gm NE.out).trans Hm11.out, NE.out, Lg.out.1, Lm.out.1, BF.out⟩
        · refine litE hK HSE B8 (madeCells #[.int .u8 0] N) 5 N (by first | (go_simp; done) | (go_simp; rfl)) (fun gm W9 Hm9 Lm B9 K9 => ?_)
          have Hg9 := Aside0.mk (blk_below Hg8.out K9.out)
          have NE := Aside0.mk (show gm ≠ ga from fun e => by have h1 := lt_of_block Hg8.out; have h2 := Lm.out.2; omega)
          refine oneD 6 (some 51) (lb 16 0x59ff) HT (fun K hK => ?_)
          refine callK hK HSE B9 Try.func83 (OF3.out _ B9.out) (fun W10 B10 K10 => ?_)
          have Hm10 := Aside0.mk (blk_below Hm9.out K10.out)
          have Hg10 := Aside0.mk (blk_below Hg9.out K10.out)
          refine oneD 9 (some 54) (lb 16 0x5bff) HT (fun K hK => ?_)
          refine callK hK HSE B10 Try.func83 (OF5.out _ B10.out) (fun W11 B11 K11 => ?_)
          have Hm11 := Aside0.mk (blk_below Hm10.out K11.out)
          have Hg11 := Aside0.mk (blk_below Hg10.out K11.out)
          refine pureD 10 (some 55) (lb 16 0x5fff) HT ?_
          refine pureD 13 (some 58) (lb 16 0x7fff) HT ?_
          refine oneD 15 none (lb 16 0xffff) HT (fun K hK => ?_)
          refine storeRowE hK HSE B11 ga (imgCs X E0 E1 (some ⟨gm, 0, none⟩) N N) Hg11 ⟨Lg.out.1⟩ (fun WF HgF BF HOF => ?_)
          refine doneD HT ?_
          clear HT
          go_wp2_with fail
          go_meet
          case rel => exact ⟨ga, gm, rfl, HgF.out, (HOF.out gm NE.out).trans Hm11.out, NE.out, Lg.out.1, Lm.out.1, BF.out⟩
    case rest =>
      obtain ⟨ga, gm, rfl, hGa, hGm, hne, hga, hgm, hbc⟩ := hcut
      have HGa := Aside0.mk hGa
      have HGm := Aside0.mk hGm
      have HNE := Aside0.mk hne
      have HGL := Aside0.mk (And.intro hga hgm)
      have HBC := Aside0.mk hbc
      have HSX : Aside0 (∀ W', Below wc.heap.size wc W' → X3C ga gm N W') := ⟨fun W' hb => (cell_in (blk_below HGa.out hb) 3).trans rfl⟩
      have KF : Aside0 (Below wc.heap.size wc wc) := ⟨Below.refl _ _⟩
      have r9 : (9 ≤ M) = True := eq_true (by omega)
      have r10 : ((9 : Int) ≤ (M : Int)) = True := eq_true (by omega)
      have r11 : (c = 9) = False := eq_false (by have := HLN.out; omega)
      have eMN : M - 9 = N := by have := HLN.out; have := HE.out; omega
      have HEM := Aside0.mk eMN
      clear hGa hGm hne hga hgm hbc eMN
      go_wp2_with fail
      refine startD 5 rdtab10 HSX KF (fun W12 HT B12 K12 => ?_)
      refine pureD 0 (some 59) (lb 5 0x1) HT ?_
      refine takeD 1 (some 60) (lb 5 0x3) HT HSX B12 ?_ (hy := Or.inl ⟨by rfl, by intro w' hs; unfold X3C at hs; go_simp; with_reducible rfl⟩)
      refine pureD 2 (some 61) (lb 5 0x7) HT ?_
      refine pureD 3 (some 62) (lb 5 0xf) HT ?_
      refine oneD 4 (some 63) (lb 5 0x1f) HT (fun K hK => ?_)
      have htl : (b.take M).length = M := by rw [List.length_take]; omega
      obtain ⟨CD, hCD⟩ : ∃ x, (b.take M).drop 9 = x := ⟨_, rfl⟩
      have hcl : CD.length = N := by rw [← hCD, List.length_drop, htl]; exact HEM.out
      have hW12 : Below W6.heap.size W6 W12 := below_step HBC.out K12.out
      have hys : Kd.C (Kd.int .u8) W12 (some ⟨ad.block, ad.off + 9, none⟩) N CD := by
        have h := drop_C (m := 9) (c := c) (HTC.out W12 hW12) (by omega) (by omega) (by omega) (by have := HLN.out; omega)
        rw [htl, HEM.out, hCD] at h
        exact h
      have HYS := Aside0.mk hys
      have HCL := Aside0.mk hcl
      have HCD := Aside0.mk hCD
      have HGm12 := Aside0.mk (blk_below HGm.out K12.out)
      have HGa12 := Aside0.mk (blk_below HGa.out K12.out)
      have hmc : (madeCells #[Value.int .u8 0] N).size = N := by simp [madeCells]
      clear hCD hcl hys htl
      refine copyE hK 5 gm N (c - 9) HGm12 hmc ⟨ad.block, ad.off + 9, none⟩ CD HYS Try.underlying23 (by kernel_rfl) (fun W2 ho => by unfold X3C World.cell?; rw [ho ga (fun e => HNE.out e.symm)]; exact (cell_in HGa12.out 3).trans rfl) (hs := by show Value.slice _ (M - 9) _ = _; rw [HEM.out]) (fun W13 HG13 HO13 HB13 => ?_)
      refine doneD HT ?_
      have HGa13 := Aside0.mk ((HO13.out ga (fun e => HNE.out e.symm)).trans HGa12.out)
      have HBW := Aside0.mk (HB13.out w.heap.size w (Nat.le_trans (below_size HB6.out) HGL.out.2) (below_step HB6.out hW12))
      have H213 := Aside0.mk ((HO13.out g2 (fun e => by have h1 := lt_of_block H26.out; have h2 := HGL.out.2; omega)).trans (blk_below H26.out hW12))
      have hcd13 : Kd.C (Kd.int .u8) W13 (some ⟨gm, 0, none⟩) CD.length CD := C_block CD (by have := HCL.out; have := HLN.out; omega) HG13.out
      have HCD13 := Aside0.mk hcd13
      obtain ⟨ok, hok⟩ : ∃ x, tokP X E0 E1 CD.length = x := ⟨_, rfl⟩
      have hrt := image_Image_Right.calls X E0 E1 (some ⟨gm, 0, none⟩) N CD ok W13 hcd13 (by have := HCL.out; omega) (by rw [right_is]; exact congrArg some hok)
      rw [HCL.out] at hrt
      have HRT := Aside0.mk hrt
      have HOK := Aside0.mk hok
      clear HT hcd13 hrt hok hmc hW12
      go_wp2_with (first | ((with_reducible refine gate_dst (N := 64) rfl ?_); refine wpList_load_row rfl 25 _ rfl ga rfl 25 _ (0, 0) _ HGa13.out Try.underlying25 rfl (by kernel_rfl) ?_))
      refine HRT.out.mono ?_
      rintro e W14 ⟨rfl, hb14⟩
      have HGa14 := Aside0.mk (blk_below HGa13.out hb14)
      have H214 := Aside0.mk (blk_below H213.out hb14)
      have HGm14 := Aside0.mk (blk_below HG13.out hb14)
      have HNE2 : Aside0 (gm ≠ g2) := ⟨fun e => by have h1 := lt_of_block H26.out; have h2 := HGL.out.2; omega⟩
      have HBW14 := Aside0.mk (below_step HBW.out hb14)
      clear hb14
      cases ok
      · have hrr : ((0, 0, 0, []), 11) = r := by
          rw [← HRES.out]
          unfold tblP
          have hm2 : b.length - 2 = M := by have := HE.out; omega
          have hl11 : b.length - 11 = CD.length := by have := HLN.out; have := HCL.out; omega
          rw [if_neg h11, if_neg (by rw [HLG.out]; intro h; rcases h with h | h; exact h HPRE0.out; exact h (by have := HLN.out; omega)), hm2, HSV.out, HCR.out, if_neg (by rw [HS.out]; intro h; exact h rfl), HX.out, HE0.out, HE1.out, hl11, if_neg (by rw [HOK.out]; decide)]
        have HRR := Aside0.mk hrr
        clear hrr
        go_wp2_with (first | (refine storeCsN (w := w) rfl 25 _ _ rfl g2 (imgCs 0 0 0 none 0 0) rfl rfl 25 _ H214 (by kernel_rfl) rfl (by rw [← Array.all_toList]; rfl) HBW14 ⟨Lg2.out.1⟩ ?_; intro Wz Hz HBz _))
        refine bodyPost_ret (results_ct (p := 2) (u1 := 3) rfl _ _ g2 (imgCs 0 0 0 none 0 0) rfl (run_loadVar_row _ g2 25 25 (imgCs 0 0 0 none 0 0) (0, 0) _ Hz.out Try.underlying25 rfl (by kernel_rfl))) rfl ?_
        obtain rfl := HRR.out
        exact ⟨none, 0, rfl, Nat.le_refl _, Kd.C_nil _ _, HBz.out⟩
      · have hrr : ((X, E0, E1, CD), 0) = r := by
          rw [← HRES.out]
          unfold tblP
          have hm2 : b.length - 2 = M := by have := HE.out; omega
          have hl11 : b.length - 11 = CD.length := by have := HLN.out; have := HCL.out; omega
          rw [if_neg h11, if_neg (by rw [HLG.out]; intro h; rcases h with h | h; exact h HPRE0.out; exact h (by have := HLN.out; omega)), hm2, HSV.out, HCR.out, if_neg (by rw [HS.out]; intro h; exact h rfl), HX.out, HE0.out, HE1.out, hl11, if_pos HOK.out, HCD.out]
        have HRR := Aside0.mk hrr
        clear hrr
        go_wp2_with (first | ((with_reducible refine gate_dst (N := 68) rfl ?_); refine wpList_load_row rfl 25 _ rfl ga rfl 25 _ (0, 0) _ HGa14.out Try.underlying25 rfl (by kernel_rfl) ?_) | (refine storeCsN (w := w) rfl 25 _ _ rfl g2 (imgCs X E0 E1 (some ⟨gm, 0, none⟩) N N) rfl rfl 25 _ H214 (by kernel_rfl) rfl (by rw [← Array.all_toList]; rfl) HBW14 ⟨Lg2.out.1⟩ ?_; intro Wz Hz HBz HOz))
        refine bodyPost_ret (results_ct (p := 2) (u1 := 3) rfl _ _ g2 (imgCs X E0 E1 (some ⟨gm, 0, none⟩) N N) rfl (run_loadVar_row _ g2 25 25 (imgCs X E0 E1 (some ⟨gm, 0, none⟩) N N) (0, 0) _ Hz.out Try.underlying25 rfl (by kernel_rfl))) rfl ?_
        obtain rfl := HRR.out
        exact ⟨some ⟨gm, 0, none⟩, N, (by show _ = Ending.returned (Value.tuple #[.agg (imgCs X E0 E1 (some ⟨gm, 0, none⟩) CD.length N), .int .i64 0]); rw [HCL.out] <;> rfl), Nat.le_of_eq HCL.out, C_block CD (by have := HCL.out; have := HLN.out; omega) ((HOz.out gm HNE2.out).trans HGm14.out), HBz.out⟩
end Go.Proofs.Ytbaapakkdnhcmaa.PWe
