/- CompileBytes: walk. Helper text. -/
import Derived.Test.YtbaapakkdnhcmaaCcL
import Derived.Laws.BitsAllLaws
import Derived.Test.YtbaapakkdnhcmaaK3
namespace Go.Proofs.Ytbaapakkdnhcmaa.PWe
open Go.RowKit Go.Proofs.Ytbaapakkdnhcmaa.Kx Go.Proofs.YtbaapakkdnhcmaaW.PrintWords Go.Proofs.YtbaapakkdnhcmaaW.PrintLast Go.Proofs.YtbaapakkdnhcmaaW.PrintMore
set_option linter.unusedVariables false
set_option linter.unusedSimpArgs false

theorem law_nums (at_ : Int) (L : Nat) (h : 12 ≤ L ∧ L ≤ 2000) : ∃ K J M : Nat, (bits .and .i64 at_ 16777215).tmod (wrap64 (8 * (L : Int))) = (K : Int) ∧ J < L ∧ M < 8 ∧ wrap64 ((K : Int) / 8) = (J : Int) ∧ (K : Int) % 8 = (M : Int) ∧ ((wrap64 (8 * (L : Int)) == 0) = false ∧ ¬ wrap64 (8 * (L : Int)) = 0) := by
  have h1 : wrap64 (8 * (L : Int)) = 8 * (L : Int) := by unfold wrap64; omega
  have h8 : ¬ wrap64 (8 * (L : Int)) = 0 := by rw [h1]; omega
  refine Exists.imp (fun K => Exists.imp fun J => Exists.imp fun M => fun h => ⟨h.1, h.2.1, h.2.2.1, h.2.2.2.1, h.2.2.2.2, by rw [beq_eq_false_iff_ne]; exact h8, h8⟩) (?_ : ∃ K J M : Nat, (bits .and .i64 at_ 16777215).tmod (wrap64 (8 * (L : Int))) = (K : Int) ∧ J < L ∧ M < 8 ∧ wrap64 ((K : Int) / 8) = (J : Int) ∧ (K : Int) % 8 = (M : Int))
  rw [h1, i64_and_16777215, Int.tmod_eq_emod_of_nonneg (by omega)]
  obtain ⟨K, hK⟩ : ∃ K : Nat, at_ % 16777216 % (8 * (L : Int)) = (K : Int) := ⟨(at_ % 16777216 % (8 * (L : Int))).toNat, by have := Int.emod_nonneg (at_ % 16777216) (show 8 * (L : Int) ≠ 0 by omega); omega⟩
  have hlt := Int.emod_lt_of_pos (at_ % 16777216) (show 0 < 8 * (L : Int) by omega)
  rw [hK] at hlt ⊢
  refine ⟨K, K / 8, K % 8, rfl, by omega, by omega, ?_, ?_⟩
  · unfold wrap64
    omega
  · omega
theorem law_bit (o : Int) (M : Nat) (h0 : 0 ≤ o) (h1 : o < 256) (hM : M < 8) : ∃ X, bits .xor .u8 o (2 ^ M % 256) = X ∧ 0 ≤ X ∧ X < 256 ∧ X ≠ o := by
  obtain ⟨a, rfl⟩ := Int.eq_ofNat_of_zero_le h0
  have hp : (2 : Int) ^ M % 256 = ((2 ^ M : Nat) : Int) := by
    rcases (by omega : M = 0 ∨ M = 1 ∨ M = 2 ∨ M = 3 ∨ M = 4 ∨ M = 5 ∨ M = 6 ∨ M = 7) with rfl | rfl | rfl | rfl | rfl | rfl | rfl | rfl <;> rfl
  have hlt : 2 ^ M < 256 := Nat.lt_of_lt_of_le (Nat.pow_lt_pow_right (by decide) hM) (by decide)
  have hpos : 0 < 2 ^ M := Nat.pow_pos (by decide)
  rw [hp, u8_xor_nat a _ (by omega) hlt]
  have hx : a ^^^ 2 ^ M < 2 ^ 8 := Nat.xor_lt_two_pow (by omega) (by omega)
  refine ⟨_, rfl, by omega, by omega, fun e => ?_⟩
  have e2 : a ^^^ 2 ^ M = a := by omega
  have e3 : (a ^^^ 2 ^ M) ^^^ a = a ^^^ a := by rw [e2]
  rw [Nat.xor_self, Nat.xor_comm a, Nat.xor_assoc, Nat.xor_self, Nat.xor_zero] at e3
  omega
theorem load_bad {b : List Int} (h : (tblP b).2 ≠ 0) : ∃ e, loadP b = ((0, [], []), e) ∧ e ≠ 0 := ⟨(tblP b).2, by unfold loadP; rw [if_pos h], h⟩
theorem C_cells {w : World} {g : Nat} {t : TypeId} {fr : Nat × Nat} {cs : Array Value} (xs : List Int) (hm : xs.length ≤ 9223372036854775807) (h : w.heap[g]? = some (.cells cs t fr)) (hcs : ∀ (i : Nat) (x : Int), xs[i]? = some x → cs[i]? = some (Value.int .u8 x)) : Kd.C (Kd.int .u8) w (some ⟨g, 0, none⟩) xs.length xs :=
  ⟨rfl, by simpa [maxLen] using hm, fun _ => ⟨⟨g, 0, none⟩, rfl, fun j p hj => ⟨[.int .u8 p], rfl, rfl, fun i u hu => by
    rcases i with _ | i
    · have hu' : Value.int .u8 p = u := Option.some.inj hu
      rw [← hu', Addr.add_lit, cell_in h]
      show cs[0 + (j * 1 + 0)]? = _
      rw [Nat.mul_one, Nat.zero_add, Nat.add_zero, hcs j p hj]
    · cases hu⟩⟩⟩
set_option maxHeartbeats 4000000 in
set_option maxRecDepth 100000 in
theorem bytes_calls (md e0 e1 : Int) (A : Option Addr) (c : Nat) (code : List Int) (at_ : Int) (w : World) (hr : Kd.C (Kd.int .u8) w A code.length code) (hc : code.length ≤ c) (hb : Byts code) :
    Calls Try.prog 3 #[.agg (imgCs md e0 e1 A code.length c), .int .i64 at_] w fun e w' => e = .returned (.bool true) ∧ Below w.heap.size w w' := by
  have HC := Aside0.mk hr
  have HBY := Aside0.mk hb
  have HB : Aside0 (Below w.heap.size w w) := ⟨Below.refl _ _⟩
  clear hr hb
  by_cases h0 : 1100 < code.length
  · have m0 : decide (1100 < (code.length : Int)) = true := decide_eq_true (by omega)
    have m1 : decide (1100 < code.length) = true := decide_eq_true h0
    clear h0
    unfold imgCs
    go_enter Try.func3, Try.ntmps3
    go_wp2_with (first | ((with_reducible refine gate_dst (N := 2) rfl ?_); refine boxN (w := w) rfl (N := 2) rfl (cs := imgCs md e0 e1 A code.length c) (t := 25) (by first | (go_simp; done) | (go_simp; rfl)) HB ?_; intro g2 Wa Ha Lg2 HBa Ka; have y3 : Wa.cell? ⟨g2, 2 + 1, none⟩ = some (.slice A code.length c) := (cell_in Ha.out 3).trans rfl))
    refine (one_calls Wa).mono ?_
    rintro e w9 ⟨rfl, hb9⟩
    have HB9 := Aside0.mk (below_step HBa.out hb9)
    clear hb9
    go_wp2_with fail
    go_ret
    exact ⟨rfl, HB9.out⟩
  have m0 : decide (1100 < (code.length : Int)) = false := decide_eq_false (by omega)
  have m1 : decide (1100 < code.length) = false := decide_eq_false h0
  obtain ⟨ok, hok⟩ : ∃ x, tokP md e0 e1 code.length = x := ⟨_, rfl⟩
  have HOK := Aside0.mk hok
  have HRT : Aside0 (∀ W, Kd.C (Kd.int .u8) W A code.length code → Calls Try.prog 9 #[.agg (imgCs md e0 e1 A code.length c)] W fun e w' => e = .returned (.bool ok) ∧ Below W.heap.size W w') := ⟨fun W hW => image_Image_Right.calls md e0 e1 A c code ok W hW hc (by rw [right_is]; exact congrArg some hok)⟩
  clear hok
  unfold imgCs
  go_enter Try.func3, Try.ntmps3
  go_wp2_with (first | ((with_reducible refine gate_dst (N := 2) rfl ?_); refine boxN (w := w) rfl (N := 2) rfl (cs := imgCs md e0 e1 A code.length c) (t := 25) (by first | (go_simp; done) | (go_simp; rfl)) HB ?_; intro g2 Wa Ha Lg2 HBa Ka; have y3 : Wa.cell? ⟨g2, 2 + 1, none⟩ = some (.slice A code.length c) := (cell_in Ha.out 3).trans rfl) | ((with_reducible refine gate_dst (N := 22) rfl ?_); refine gate_guard (by rfl) ?_; dsimp only; refine wpList_load_row rfl 25 _ rfl g2 rfl 25 _ (0, 0) _ Ha.out Try.underlying25 rfl (by kernel_rfl) ?_))
  refine (HRT.out Wa (Kd.C_below HC.out HBa.out)).mono ?_
  rintro e w3 ⟨rfl, hb3⟩
  have HB3 := Aside0.mk (below_step HBa.out hb3)
  have Ha3 := Aside0.mk (blk_below Ha.out hb3)
  clear hb3 y3 Ha HBa Ka
  cases ok
  · go_wp2_with fail
    refine (one_calls w3).mono ?_
    rintro e w9 ⟨rfl, hb9⟩
    have HB9 := Aside0.mk (below_step HB3.out hb9)
    clear hb9
    go_wp2_with fail
    go_ret
    exact ⟨rfl, HB9.out⟩
  have htok := HOK.out
  have hn : 1 ≤ code.length ∧ code.length ≤ 1024 := by
    unfold tokP at htok
    have := of_decide_eq_true htok
    omega
  obtain ⟨B, hB⟩ : ∃ x, putP md e0 e1 code = x := ⟨_, rfl⟩
  have hBl : B.length = 11 + code.length := by rw [← hB]; exact put_length _ _ _ _
  have HBB : Aside0 (Byts B) := ⟨by rw [← hB]; exact put_byts HBY.out⟩
  have HPB := Aside0.mk hB
  have HBL := Aside0.mk hBl
  have HTOK := Aside0.mk htok
  clear hB htok hBl
  go_wp2_with (first | ((with_reducible refine gate_dst (N := 28) rfl ?_); refine wpList_load_row rfl 25 _ rfl g2 rfl 25 _ (0, 0) _ Ha3.out Try.underlying25 rfl (by kernel_rfl) ?_))
  refine (put_calls md e0 e1 A c code w3 (Kd.C_below HC.out HB3.out) hc HBY.out HTOK.out).mono ?_
  rintro e w4 ⟨v5, rfl, h5, hb4⟩
  rw [HPB.out] at h5
  obtain ⟨gB, cB, e5, hgB, _, csB, hcsB⟩ := Kd.R_form h5 (by have := HBL.out; omega)
  subst e5
  have hrd := Kd.R_reads' h5
  have HCB := Aside0.mk hrd.2.1
  have hcs : ∀ (i : Nat) (x : Int), B[i]? = some x → csB[i]? = some (Value.int .u8 x) := fun i x hx => by
    have hi := (List.getElem?_eq_some_iff.1 hx)
    obtain ⟨ad, ha, hcell⟩ := int_at hrd.2.2 hi.1 hi.1 hi.2
    obtain rfl := Option.some.inj ha
    rw [Addr.add_lit, cell_in hcsB, Nat.zero_add] at hcell
    exact hcell
  have HCS := Aside0.mk hcs
  have HR4 := Aside0.mk hcsB
  have HGB := Aside0.mk (Nat.le_trans (below_size HB3.out) hgB)
  clear hrd hcs hcsB
  have HB4 := Aside0.mk (below_step HB3.out hb4)
  have Ha4 := Aside0.mk (blk_below Ha3.out hb4)
  clear h5 hb4
  go_wp2_with (first | ((with_reducible refine gate_dst (N := 33) rfl ?_); refine wpList_load_row rfl 25 _ rfl g2 rfl 25 _ (0, 0) _ Ha4.out Try.underlying25 rfl (by kernel_rfl) ?_))
  obtain ⟨R0, hR0⟩ : ∃ x, walkR md e0 e1 code 0 = x := ⟨_, rfl⟩
  obtain ⟨R1, hR1⟩ : ∃ x, walkR md e0 e1 code 1 = x := ⟨_, rfl⟩
  have HW0 := Aside0.mk hR0
  have HW1 := Aside0.mk hR1
  refine (walk_calls md e0 e1 A c code 0 w4 (Kd.C_below HC.out HB4.out) hc HBY.out HW0.out).mono ?_
  rintro e w5 ⟨v7, rfl, h7, hb5⟩
  obtain ⟨A7, c7, e7⟩ := Kd.R_slice h7
  subst e7
  have HR5 := Aside0.mk (blk_below HR4.out hb5)
  have HB5 := Aside0.mk (below_step HB4.out hb5)
  have Ha5 := Aside0.mk (blk_below Ha4.out hb5)
  clear h7 hb5
  go_wp2_with (first | ((with_reducible refine gate_dst (N := 38) rfl ?_); refine wpList_load_row rfl 25 _ rfl g2 rfl 25 _ (0, 0) _ Ha5.out Try.underlying25 rfl (by kernel_rfl) ?_))
  refine (walk_calls md e0 e1 A c code 1 w5 (Kd.C_below HC.out HB5.out) hc HBY.out HW1.out).mono ?_
  rintro e w6 ⟨v9, rfl, h9, hb6⟩
  obtain ⟨A9, c9, e9⟩ := Kd.R_slice h9
  subst e9
  have HR6 := Aside0.mk (blk_below HR5.out hb6)
  have HB6 := Aside0.mk (below_step HB5.out hb6)
  have Ha6 := Aside0.mk (blk_below Ha5.out hb6)
  clear h9 hb6
  go_wp2_with fail
  have htb : tblP B = ((md, e0, e1, code), 0) := by rw [← HPB.out]; exact read_put HBY.out HTOK.out
  obtain ⟨LR, hLR⟩ : ∃ x, loadP B = x := ⟨_, rfl⟩
  have hlr := hLR
  unfold loadP at hlr
  rw [htb] at hlr
  dsimp only at hlr
  rw [if_neg (fun h => h rfl), hR0, hR1] at hlr
  have HLR := Aside0.mk hlr
  refine (load_calls (some ⟨gB, 0, none⟩) cB B w6 (C_cells B (by have := HBL.out; omega) HR6.out HCS.out) HCB.out HBB.out (by have := HBL.out; omega) hLR).mono ?_
  rintro e w7 ⟨P0, d0, P1, d1, rfl, ⟨p01, p02⟩, ⟨p11, p12⟩, hb7⟩
  have HR7 := Aside0.mk (blk_below HR6.out hb7)
  have HB7 := Aside0.mk (below_step HB6.out hb7)
  have Ha7 := Aside0.mk (blk_below Ha6.out hb7)
  clear hb7 htb hLR hlr p01 p02 p11 p12 hR0 hR1
  obtain ⟨L0, q0⟩ := R0
  obtain ⟨L1, q1⟩ := R1
  obtain ⟨⟨pm, M0, M1⟩, ph⟩ := LR
  dsimp only
  dsimp only at HLR
  
  have b0 : ((B.length : Int) == 0) = false := by have := HBL.out; rw [beq_eq_false_iff_ne]; omega
  have b1 : (B.length == 0) = false := by have := HBL.out; rw [beq_eq_false_iff_ne]; omega
  obtain ⟨K, J, M, hK, hJl, hM8, hJ2, hM2, h8z⟩ := law_nums at_ B.length (by have := HBL.out; omega)
  have HK := Aside0.mk hK
  have HJ2 := Aside0.mk hJ2
  have HM2 := Aside0.mk hM2
  have h80 := Aside0.mk h8z
  clear hK hJ2 hM2 h8z
  have i1 : (0 ≤ (J : Int)) = True := eq_true (by omega)
  have i2 : ((J : Int) < (B.length : Int)) = True := eq_true (by omega)
  have i3 : (J < B.length) = True := eq_true hJl
  obtain ⟨o, ho⟩ : ∃ o, B[J] = o := ⟨_, rfl⟩
  have hob := HBB.out o (by rw [← ho]; exact List.getElem_mem _)
  have HO : Aside0 (B[J]? = some o) := ⟨by rw [List.getElem?_eq_getElem hJl, ho]⟩
  have HJL := Aside0.mk hJl
  obtain ⟨X, hX, hX0, hX1, hXo⟩ := law_bit o M hob.1 hob.2 hM8
  have HX := Aside0.mk hX
  have hfl : (tblP (B.set J X)).2 ≠ 0 := by
    have h := read_flip (k := J) (c := X) HBY.out HTOK.out (by rw [HPB.out]; exact hJl) hX0 hX1 (by rw [HPB.out]; unfold PWe.at_; rw [List.getD_eq_getElem?_getD, HO.out]; exact hXo)
    rw [HPB.out] at h
    exact h
  obtain ⟨eF, hEF, heF⟩ := load_bad hfl
  have HEF := Aside0.mk hEF
  have HBX : Aside0 (Byts (B.set J X)) := ⟨fun c hc => by rcases List.mem_or_eq_of_mem_set hc with h | h; exact HBB.out c h; rw [h]; exact ⟨hX0, hX1⟩⟩
  have HNE := Aside0.mk heF
  clear hX hX0 hX1 hXo hfl hEF heF
  have hnil : (⟨gB, 0, none⟩ : Addr).add J = ⟨gB, J, none⟩ := by rw [Addr.add_lit, Nat.zero_add]
  clear ho hJl
  
  by_cases hq0 : q0 = 0
  rotate_left
  · rw [if_pos hq0] at HLR
    obtain ⟨hp1, hp2⟩ := Prod.mk.inj HLR.out
    obtain ⟨hp3, hp4⟩ := Prod.mk.inj hp1
    obtain ⟨hp5, hp6⟩ := Prod.mk.inj hp4
    subst hp2 hp3 hp5 hp6
    have k0 : (q0 != 0) = true := by simpa using hq0
    have k1 : (q0 == 0) = false := by simpa using hq0
    clear HLR hp1 hp4 hq0
    have hK := HK.out
    have hJ2 := HJ2.out
    have hM2 := HM2.out
    have hX := HX.out
    have h81 := h80.out.1
    have h82 := h80.out.2
    go_wp2_with (first | ((with_reducible refine gate_dst (N := 11) rfl ?_); refine boxN (w := w) rfl (N := 11) rfl (cs := prgCs 0 none 0 0 none 0 0) (t := 35) (by first | (go_simp; done) | (go_simp; rfl)) HB7 ?_; intro g11 Wd Hd Lg11 HBd Kd_) | ((with_reducible refine gate_ (.store 35 (.tmp 11) (.tmp 45)) rfl ?_); refine storeCsN (w := w) rfl 35 (.tmp 11) _ rfl g11 (prgCs 0 P0 0 d0 P1 0 d1) rfl rfl 35 _ Hd (by kernel_rfl) rfl (by rw [← Array.all_toList]; rfl) HBd ⟨Lg11.out.1⟩ ?_; intro We He HBe HOe; have hlow : ∀ q, q < w7.heap.size → We.heap[q]? = w7.heap[q]? := (fun q hq => (HOe.out q (fun e => by have h2 := Lg11.out.2; omega)).trans (Kd_.out.block q hq)); have HLOW := Aside0.mk hlow; have Hae := Aside0.mk ((hlow g2 (lt_of_block Ha7.out)).trans Ha7.out); have HRe := Aside0.mk ((hlow gB (lt_of_block HR7.out)).trans HR7.out); have xJ : We.cell? ⟨gB, J, none⟩ = some (.int .u8 o) := (cell_in HRe.out J).trans (HCS.out J o HO.out); have fJ : We.frozen? ⟨gB, J, none⟩ = false := free_in HRe.out J; have y0 : We.cell? ⟨g2, 0, none⟩ = some (.int .i64 md) := (cell_in Hae.out 0).trans rfl; have z0 : We.cell? ⟨g11, 0, none⟩ = some (.int .i64 0) := (cell_in He.out 0).trans rfl; have z1 : We.cell? ⟨g11, 1, none⟩ = some (.slice P0 0 d0) := (cell_in He.out 1).trans rfl; have z2 : We.cell? ⟨g11, 1 + 1, none⟩ = some (.slice P1 0 d1) := (cell_in He.out 2).trans rfl; clear hlow) | ((with_reducible refine gate_ (.store 5 (.tmp 128) (.tmp 127)) rfl ?_); refine storeCellN (w := w) rfl rfl 5 (.tmp 128) (.tmp 127) rfl gB J (.int .u8 X) HRe (by first | (go_simp; done) | (go_simp; rfl)) HBe HGB ?_; intro Wf HWf HBf HOf))
    have hld := load_calls (some ⟨gB, 0, none⟩) cB (B.set J X) Wf (C_cells (B.set J X) (by rw [List.length_set]; have := HBL.out; omega) HWf.out (fun i x hx => by
      by_cases hij : J = i
      · subst hij
        have hi := (List.getElem?_eq_some_iff.1 hx).1
        rw [List.length_set] at hi
        rw [List.getElem?_set_self hi] at hx
        obtain rfl := Option.some.inj hx
        have hj2 : J < csB.size := (Array.getElem?_eq_some_iff.1 (HCS.out J o HO.out)).1
        simp [hj2]
      · rw [List.getElem?_set_ne hij] at hx
        rw [Array.getElem?_setIfInBounds_ne hij]
        exact HCS.out i x hx)) (by rw [List.length_set]; exact HCB.out) HBX.out (by rw [List.length_set]; have := HBL.out; omega) HEF.out
    rw [List.length_set] at hld
    refine hld.mono ?_
    rintro e w8 ⟨P2, d2, P3, d3, rfl, _, _, hb8⟩
    have HB8 := Aside0.mk (below_step HBf.out hb8)
    have e1 : (eF != 0) = true := by simpa using HNE.out
    have e2 : (eF == 0) = false := by simpa using HNE.out
    clear hb8 hld hK hJ2 hM2 hX h81 h82 xJ fJ y0 z0 z1 z2
    go_wp2_with (first | ((with_reducible refine gate_dst (N := 15) rfl ?_); refine boxN (w := w) rfl (N := 15) rfl (cs := prgCs 0 none 0 0 none 0 0) (t := 35) (by first | (go_simp; done) | (go_simp; rfl)) HB8 ?_; intro g15 Wg Hg Lg15 HBg Kg) | ((with_reducible refine gate_ (.store 35 (.tmp 15) (.tmp 132)) rfl ?_); refine storeCsN (w := w) rfl 35 (.tmp 15) _ rfl g15 (prgCs 0 P2 0 d2 P3 0 d3) rfl rfl 35 _ Hg (by kernel_rfl) rfl (by rw [← Array.all_toList]; rfl) HBg ⟨Lg15.out.1⟩ ?_; intro Wh Hh HBh HOh))
    refine (one_calls Wh).mono ?_
    rintro e w9 ⟨rfl, hb9⟩
    have HB9 := Aside0.mk (below_step HBh.out hb9)
    clear hb9
    go_wp2_with fail
    go_ret
    exact ⟨rfl, HB9.out⟩
  subst hq0
  rw [if_neg (fun h => h rfl)] at HLR
  by_cases hq1 : q1 = 0
  rotate_left
  · rw [if_pos hq1] at HLR
    obtain ⟨hp1, hp2⟩ := Prod.mk.inj HLR.out
    obtain ⟨hp3, hp4⟩ := Prod.mk.inj hp1
    obtain ⟨hp5, hp6⟩ := Prod.mk.inj hp4
    subst hp2 hp3 hp5 hp6
    have k0 : (q1 != 0) = true := by simpa using hq1
    have k1 : (q1 == 0) = false := by simpa using hq1
    clear HLR hp1 hp4 hq1
    have hK := HK.out
    have hJ2 := HJ2.out
    have hM2 := HM2.out
    have hX := HX.out
    have h81 := h80.out.1
    have h82 := h80.out.2
    go_wp2_with (first | ((with_reducible refine gate_dst (N := 11) rfl ?_); refine boxN (w := w) rfl (N := 11) rfl (cs := prgCs 0 none 0 0 none 0 0) (t := 35) (by first | (go_simp; done) | (go_simp; rfl)) HB7 ?_; intro g11 Wd Hd Lg11 HBd Kd_) | ((with_reducible refine gate_ (.store 35 (.tmp 11) (.tmp 45)) rfl ?_); refine storeCsN (w := w) rfl 35 (.tmp 11) _ rfl g11 (prgCs 0 P0 0 d0 P1 0 d1) rfl rfl 35 _ Hd (by kernel_rfl) rfl (by rw [← Array.all_toList]; rfl) HBd ⟨Lg11.out.1⟩ ?_; intro We He HBe HOe; have hlow : ∀ q, q < w7.heap.size → We.heap[q]? = w7.heap[q]? := (fun q hq => (HOe.out q (fun e => by have h2 := Lg11.out.2; omega)).trans (Kd_.out.block q hq)); have HLOW := Aside0.mk hlow; have Hae := Aside0.mk ((hlow g2 (lt_of_block Ha7.out)).trans Ha7.out); have HRe := Aside0.mk ((hlow gB (lt_of_block HR7.out)).trans HR7.out); have xJ : We.cell? ⟨gB, J, none⟩ = some (.int .u8 o) := (cell_in HRe.out J).trans (HCS.out J o HO.out); have fJ : We.frozen? ⟨gB, J, none⟩ = false := free_in HRe.out J; have y0 : We.cell? ⟨g2, 0, none⟩ = some (.int .i64 md) := (cell_in Hae.out 0).trans rfl; have z0 : We.cell? ⟨g11, 0, none⟩ = some (.int .i64 0) := (cell_in He.out 0).trans rfl; have z1 : We.cell? ⟨g11, 1, none⟩ = some (.slice P0 0 d0) := (cell_in He.out 1).trans rfl; have z2 : We.cell? ⟨g11, 1 + 1, none⟩ = some (.slice P1 0 d1) := (cell_in He.out 2).trans rfl; clear hlow) | ((with_reducible refine gate_ (.store 5 (.tmp 128) (.tmp 127)) rfl ?_); refine storeCellN (w := w) rfl rfl 5 (.tmp 128) (.tmp 127) rfl gB J (.int .u8 X) HRe (by first | (go_simp; done) | (go_simp; rfl)) HBe HGB ?_; intro Wf HWf HBf HOf))
    have hld := load_calls (some ⟨gB, 0, none⟩) cB (B.set J X) Wf (C_cells (B.set J X) (by rw [List.length_set]; have := HBL.out; omega) HWf.out (fun i x hx => by
      by_cases hij : J = i
      · subst hij
        have hi := (List.getElem?_eq_some_iff.1 hx).1
        rw [List.length_set] at hi
        rw [List.getElem?_set_self hi] at hx
        obtain rfl := Option.some.inj hx
        have hj2 : J < csB.size := (Array.getElem?_eq_some_iff.1 (HCS.out J o HO.out)).1
        simp [hj2]
      · rw [List.getElem?_set_ne hij] at hx
        rw [Array.getElem?_setIfInBounds_ne hij]
        exact HCS.out i x hx)) (by rw [List.length_set]; exact HCB.out) HBX.out (by rw [List.length_set]; have := HBL.out; omega) HEF.out
    rw [List.length_set] at hld
    refine hld.mono ?_
    rintro e w8 ⟨P2, d2, P3, d3, rfl, _, _, hb8⟩
    have HB8 := Aside0.mk (below_step HBf.out hb8)
    have e1 : (eF != 0) = true := by simpa using HNE.out
    have e2 : (eF == 0) = false := by simpa using HNE.out
    clear hb8 hld hK hJ2 hM2 hX h81 h82 xJ fJ y0 z0 z1 z2
    go_wp2_with (first | ((with_reducible refine gate_dst (N := 15) rfl ?_); refine boxN (w := w) rfl (N := 15) rfl (cs := prgCs 0 none 0 0 none 0 0) (t := 35) (by first | (go_simp; done) | (go_simp; rfl)) HB8 ?_; intro g15 Wg Hg Lg15 HBg Kg) | ((with_reducible refine gate_ (.store 35 (.tmp 15) (.tmp 132)) rfl ?_); refine storeCsN (w := w) rfl 35 (.tmp 15) _ rfl g15 (prgCs 0 P2 0 d2 P3 0 d3) rfl rfl 35 _ Hg (by kernel_rfl) rfl (by rw [← Array.all_toList]; rfl) HBg ⟨Lg15.out.1⟩ ?_; intro Wh Hh HBh HOh))
    refine (one_calls Wh).mono ?_
    rintro e w9 ⟨rfl, hb9⟩
    have HB9 := Aside0.mk (below_step HBh.out hb9)
    clear hb9
    go_wp2_with fail
    go_ret
    exact ⟨rfl, HB9.out⟩
  subst hq1
  rw [if_neg (fun h => h rfl)] at HLR
  obtain ⟨hp1, hp2⟩ := Prod.mk.inj HLR.out
  obtain ⟨hp3, hp4⟩ := Prod.mk.inj hp1
  obtain ⟨hp5, hp6⟩ := Prod.mk.inj hp4
  subst hp2 hp3 hp5 hp6
  clear HLR hp1 hp4
  have hK := HK.out
  have hJ2 := HJ2.out
  have hM2 := HM2.out
  have hX := HX.out
  have h81 := h80.out.1
  have h82 := h80.out.2
  go_wp2_with (first | ((with_reducible refine gate_dst (N := 11) rfl ?_); refine boxN (w := w) rfl (N := 11) rfl (cs := prgCs 0 none 0 0 none 0 0) (t := 35) (by first | (go_simp; done) | (go_simp; rfl)) HB7 ?_; intro g11 Wd Hd Lg11 HBd Kd_) | ((with_reducible refine gate_ (.store 35 (.tmp 11) (.tmp 45)) rfl ?_); refine storeCsN (w := w) rfl 35 (.tmp 11) _ rfl g11 (prgCs md P0 L0.length d0 P1 L1.length d1) rfl rfl 35 _ Hd (by kernel_rfl) rfl (by rw [← Array.all_toList]; rfl) HBd ⟨Lg11.out.1⟩ ?_; intro We He HBe HOe; have hlow : ∀ q, q < w7.heap.size → We.heap[q]? = w7.heap[q]? := (fun q hq => (HOe.out q (fun e => by have h2 := Lg11.out.2; omega)).trans (Kd_.out.block q hq)); have HLOW := Aside0.mk hlow; have Hae := Aside0.mk ((hlow g2 (lt_of_block Ha7.out)).trans Ha7.out); have HRe := Aside0.mk ((hlow gB (lt_of_block HR7.out)).trans HR7.out); have xJ : We.cell? ⟨gB, J, none⟩ = some (.int .u8 o) := (cell_in HRe.out J).trans (HCS.out J o HO.out); have fJ : We.frozen? ⟨gB, J, none⟩ = false := free_in HRe.out J; have y0 : We.cell? ⟨g2, 0, none⟩ = some (.int .i64 md) := (cell_in Hae.out 0).trans rfl; have z0 : We.cell? ⟨g11, 0, none⟩ = some (.int .i64 md) := (cell_in He.out 0).trans rfl; have z1 : We.cell? ⟨g11, 1, none⟩ = some (.slice P0 L0.length d0) := (cell_in He.out 1).trans rfl; have z2 : We.cell? ⟨g11, 1 + 1, none⟩ = some (.slice P1 L1.length d1) := (cell_in He.out 2).trans rfl; clear hlow) | ((with_reducible refine gate_ (.store 5 (.tmp 128) (.tmp 127)) rfl ?_); refine storeCellN (w := w) rfl rfl 5 (.tmp 128) (.tmp 127) rfl gB J (.int .u8 X) HRe (by first | (go_simp; done) | (go_simp; rfl)) HBe HGB ?_; intro Wf HWf HBf HOf))
  have hld := load_calls (some ⟨gB, 0, none⟩) cB (B.set J X) Wf (C_cells (B.set J X) (by rw [List.length_set]; have := HBL.out; omega) HWf.out (fun i x hx => by
    by_cases hij : J = i
    · subst hij
      have hi := (List.getElem?_eq_some_iff.1 hx).1
      rw [List.length_set] at hi
      rw [List.getElem?_set_self hi] at hx
      obtain rfl := Option.some.inj hx
      have hj2 : J < csB.size := (Array.getElem?_eq_some_iff.1 (HCS.out J o HO.out)).1
      simp [hj2]
    · rw [List.getElem?_set_ne hij] at hx
      rw [Array.getElem?_setIfInBounds_ne hij]
      exact HCS.out i x hx)) (by rw [List.length_set]; exact HCB.out) HBX.out (by rw [List.length_set]; have := HBL.out; omega) HEF.out
  rw [List.length_set] at hld
  refine hld.mono ?_
  rintro e w8 ⟨P2, d2, P3, d3, rfl, _, _, hb8⟩
  have HB8 := Aside0.mk (below_step HBf.out hb8)
  have e1 : (eF != 0) = true := by simpa using HNE.out
  have e2 : (eF == 0) = false := by simpa using HNE.out
  clear hb8 hld hK hJ2 hM2 hX h81 h82 xJ fJ y0 z0 z1 z2
  go_wp2_with (first | ((with_reducible refine gate_dst (N := 15) rfl ?_); refine boxN (w := w) rfl (N := 15) rfl (cs := prgCs 0 none 0 0 none 0 0) (t := 35) (by first | (go_simp; done) | (go_simp; rfl)) HB8 ?_; intro g15 Wg Hg Lg15 HBg Kg) | ((with_reducible refine gate_ (.store 35 (.tmp 15) (.tmp 132)) rfl ?_); refine storeCsN (w := w) rfl 35 (.tmp 15) _ rfl g15 (prgCs 0 P2 0 d2 P3 0 d3) rfl rfl 35 _ Hg (by kernel_rfl) rfl (by rw [← Array.all_toList]; rfl) HBg ⟨Lg15.out.1⟩ ?_; intro Wh Hh HBh HOh))
  refine (one_calls Wh).mono ?_
  rintro e w9 ⟨rfl, hb9⟩
  have HB9 := Aside0.mk (below_step HBh.out hb9)
  clear hb9
  go_wp2_with fail
  go_ret
  exact ⟨rfl, HB9.out⟩
end Go.Proofs.Ytbaapakkdnhcmaa.PWe
namespace Go.Proofs.Ytbaapakkdnhcmaa.PWe
open Go.RowKit Go.Proofs.Ytbaapakkdnhcmaa.Kx Go.Proofs.YtbaapakkdnhcmaaW.PrintWords Go.Proofs.YtbaapakkdnhcmaaW.PrintLast Go.Proofs.YtbaapakkdnhcmaaW.PrintMore
set_option linter.unusedVariables false
set_option linter.unusedSimpArgs false
/-- An image, as its cells say. -/
structure Img where
  f0 : Int
  f1 : Int
  f2 : Int
  A3 : Option Addr
  l3 : List Int
  c3 : Nat
def Img.arr (x : Img) : Array Value := #[.int .i64 x.f0, .int .i64 x.f1, .int .i64 x.f2, .slice x.A3 x.l3.length x.c3]
def RImg (w : World) (cs : List Value) (x : Img) : Prop := cs = x.arr.toList ∧ Kd.C (Kd.int .u8) w x.A3 x.l3.length x.l3 ∧ x.l3.length ≤ x.c3 ∧ Bytes x.l3
theorem opn_array1 {t e : TypeId} {n : Nat} (ht : Try.prog.underlying t = some (.array n e)) {H : Type} {enc : TypeId × Value → H} {w : World} {held : Bool} {fuel : Nat} {cs : List Value} {d : DataW H × List MemPlace}
    (h : DataW.trod enc Try.prog w 0 (fun _ => true) held fuel t cs = some d) (k : Nat) (hk : Try.prog.cellsOf e = k) (i : Nat) (hi : i < n) : ∃ m y, DataW.trod enc Try.prog w 0 (fun _ => true) held m e ((cs.drop (i * k)).take k) = some y := by
  subst hk
  exact (opn_array ht h).2 i hi
theorem opn_img : Opn 25 RImg := by
  intro H enc w held fuel cs d h
  have hn : Try.prog.cellsOf 3 = 1 := by kernel_rfl
  have hs : Try.prog.cellsOf 23 = 1 := by kernel_rfl
  have ha : Try.prog.cellsOf 22 = 2 := by kernel_rfl
  have h4 : cs.length = 4 := by rw [(opn_struct Try.underlying25 h).1]; kernel_rfl
  obtain ⟨x0, x1, x2, x3, rfl⟩ := list4 cs h4
  obtain ⟨m0, y0, h0⟩ := opn_field Try.underlying25 h 0 3 0 1 (by kernel_rfl) hn
  obtain ⟨mF, yF, hF⟩ := opn_field Try.underlying25 h 1 22 1 2 (by kernel_rfl) ha
  obtain ⟨m3, y3, h3⟩ := opn_field Try.underlying25 h 2 23 3 1 (by kernel_rfl) hs
  obtain ⟨m1, y1, h1⟩ := opn_array1 Try.underlying22 hF 1 hn 0 (by decide)
  obtain ⟨m2, y2, h2⟩ := opn_array1 Try.underlying22 hF 1 hn 1 (by decide)
  obtain ⟨a0, e0, _⟩ := opn_int Try.underlying3 _ _ _ _ _ _ h0
  obtain ⟨a1, e1, _⟩ := opn_int Try.underlying3 _ _ _ _ _ _ h1
  obtain ⟨a2, e2, _⟩ := opn_int Try.underlying3 _ _ _ _ _ _ h2
  obtain ⟨l3, A3, c3, e3, hl3, hm3, hr3⟩ := opn_slice (n := 1) (R := RInt .u8) Try.underlying23 (by kernel_rfl) (opn_int Try.underlying5) _ _ _ _ _ _ h3
  simp at e0 e1 e2 e3
  exact ⟨⟨a0, a1, a2, A3, l3, c3⟩, by rw [e0, e1, e2, e3]; rfl, rsl_reads (d := Kd.int .u8) hr3 (fun cs x hx => hx.1) (Nat.le_trans hl3 hm3), hl3, fun x hx => wf_u8 (hr3.ints.2 x hx)⟩
theorem bytes_row (x : Img) (a1 : Int) (w : World) (hx : Kd.C (Kd.int .u8) w x.A3 x.l3.length x.l3 ∧ x.l3.length ≤ x.c3 ∧ Bytes x.l3) (_ : (Lit.int .i64 a1).wf = true) :
    Calls Try.prog 3 #[.agg x.arr, .int .i64 a1] w fun e w' => e = .returned (.bool true) ∧ Below w.heap.size w w' :=
  bytes_calls x.f0 x.f1 x.f2 x.A3 x.c3 x.l3 a1 w hx.1 hx.2.1 (fun c hc => by have := hx.2.2 c hc; omega)
end Go.Proofs.Ytbaapakkdnhcmaa.PWe
