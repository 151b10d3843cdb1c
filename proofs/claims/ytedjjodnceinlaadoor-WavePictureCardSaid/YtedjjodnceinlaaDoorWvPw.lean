/- busbarlaw37.WavePicture: walk. Helper text. -/
import Derived.Test.YtedjjodnceinlaaDoorWvPi
import Derived.Test.YtedjjodnceinlaaDoorWvLw
namespace Go.Proofs.YtedjjodnceinlaaDoor.PWv
open Go.RowKit Go.Shelf Go.Proofs.YtedjjodnceinlaaDoor.Kx Go.Proofs.YtedjjodnceinlaaDoor.PWe Go.Proofs.YtedjjodnceinlaaDoorW.PrintWords Go.Proofs.YtedjjodnceinlaaDoorW.PrintLast Go.Proofs.YtedjjodnceinlaaDoorW.PrintMore
set_option linter.unusedVariables false
set_option linter.unusedSimpArgs false
attribute [local go_sem] max2_int min2_int max_two min_two
theorem few_case (wv : List S46) : busbarlaw37_Few.f 5000 wv = some 0 ∨ busbarlaw37_Few.f 5000 wv = some 1 ∧ (rawT wv).length ≤ 3000 ∧ wv.length ≤ 200 := by
  obtain ⟨r, h1, h2⟩ := few_raw (k := 5000) wv (by omega)
  rcases h2 with rfl | ⟨rfl, h3, h4⟩
  · exact .inl h1
  · exact .inr ⟨h1, h3, h4⟩
theorem sgF_cases (wv : List S46) (line a b : Int) : (hF (cutF wv a b) line = 0 ∧ sgF wv line a b = 46) ∨ (hF (cutF wv a b) line ≠ 0 ∧ hF (cutF wv a b) line = b - a ∧ sgF wv line a b = 35) ∨ (hF (cutF wv a b) line ≠ 0 ∧ hF (cutF wv a b) line ≠ b - a ∧ sgF wv line a b = 43) := by
  unfold sgF
  by_cases h0 : hF (cutF wv a b) line = 0
  · exact .inl ⟨h0, by rw [if_pos h0]⟩
  · rw [if_neg h0]
    by_cases h1 : hF (cutF wv a b) line = b - a
    · exact .inr (.inl ⟨h0, h1, by rw [if_pos h1]⟩)
    · exact .inr (.inr ⟨h0, h1, by rw [if_neg h1]⟩)
theorem str_snoc (l : List UInt8) (x : UInt8) : (⟨l.toArray⟩ : ByteArray) ++ ⟨#[x]⟩ = ⟨(l ++ [x]).toArray⟩ := by
  apply ByteArray.ext
  simp
set_option maxHeartbeats 4000000 in
set_option maxRecDepth 100000 in
theorem wpic_calls (A : Option Addr) (cap : Nat) (wv : List S46) (per m : Int) (w : World) (hC : Kd.C k46 w A wv.length wv) (hc : wv.length ≤ cap) (hm : w.cell? ⟨0, 0, none⟩ = some (.int .i64 m)) :
    Calls Tryd.prog 5 #[.slice A wv.length cap, .int .i64 per] w fun e w' => e = .returned (.bool true) ∧ Below w.heap.size w w' := by
  have HC := Aside0.mk hC
  have HCc := Aside0.mk hc
  have HM := Aside0.mk hm
  clear hC hc hm
  rcases few_case wv with hf | ⟨hf, h3, h200⟩
  · have HF := Aside0.mk hf
    clear hf
    go_enter Tryd.func5, Tryd.ntmps5
    go_wp2_with fail
    refine (busbarlaw37_Few.calls 5000 A cap wv 0 w HC.out HCc.out HF.out).mono ?_
    rintro e w1 ⟨rfl, hb1⟩
    have HB1 := Aside0.mk hb1
    clear hb1
    go_wp2_with fail
    go_ret
    exact ⟨rfl, HB1.out⟩
  have HF := Aside0.mk hf
  clear hf
  by_cases hp : per < 1
  · have m1 : decide (per < 1) = true := decide_eq_true hp
    have HP := Aside0.mk hp
    have HL := Aside0.mk h200
    have HT := Aside0.mk h3
    clear hp h200 h3
    go_enter Tryd.func5, Tryd.ntmps5
    go_wp2_with fail
    refine (busbarlaw37_Few.calls 5000 A cap wv 1 w HC.out HCc.out HF.out).mono ?_
    rintro e w1 ⟨rfl, hb1⟩
    have HB1 := Aside0.mk hb1
    clear hb1
    go_wp2_with fail
    refine (picture_none A cap wv per w1 (Kd.C_below HC.out HB1.out) HCc.out HL.out HT.out HP.out).mono ?_
    rintro e w2 ⟨rfl, hb2⟩
    have HB2 := Aside0.mk (below_step HB1.out hb2)
    have HM2 := Aside0.mk ((HB2.out.cell (World.block_lt_of_cell? w _ HM.out)).trans HM.out)
    clear hb2
    go_wp2_with fail
    refine (one_calls m w2 HM2.out).mono ?_
    rintro e w3 ⟨rfl, hb3⟩
    have HB3 := Aside0.mk (below_step HB2.out hb3)
    clear hb3
    go_wp2_with fail
    go_ret
    exact ⟨rfl, HB3.out⟩
  have m1 : decide (per < 1) = false := decide_eq_false hp
  have hp1 : 1 ≤ per := by omega
  have hlg := long_raw (k := 5000) wv (by omega) (by omega) (by omega)
  have HL := Aside0.mk h200
  have HT := Aside0.mk h3
  have HPC := Aside0.mk (fun W (hb : Below w.heap.size w W) => picture_calls A cap wv per W (Kd.C_below HC.out hb) HCc.out HL.out HT.out hp1)
  obtain ⟨g, hg⟩ : ∃ g, ((rawT wv).length : Int) = g := ⟨_, rfl⟩
  have hg3 : 0 ≤ g ∧ g ≤ 3000 := by omega
  rw [hg] at hlg HPC
  obtain ⟨D, hD⟩ : ∃ D, picP wv per g 0 = D := ⟨_, rfl⟩
  have HDL : Aside0 (D.length ≤ 20000) := ⟨by rw [← hD]; exact picP_len wv per g hg3⟩
  have HDD := Aside0.mk hD
  rw [hD] at HPC
  have HG := Aside0.mk hg
  have HLG := Aside0.mk hlg
  clear hD hg hlg hp h200 h3
  go_enter Tryd.func5, Tryd.ntmps5
  go_wp2_with fail
  refine (busbarlaw37_Few.calls 5000 A cap wv 1 w HC.out HCc.out HF.out).mono ?_
  rintro e w1 ⟨rfl, hb1⟩
  have HB1 := Aside0.mk hb1
  clear hb1
  go_wp2_with fail
  refine (HPC.out w1 HB1.out).mono ?_
  rintro e w2 ⟨rfl, hb2⟩
  have HB2 := Aside0.mk (below_step HB1.out hb2)
  clear hb2 HPC
  go_wp2_with fail
  refine (wave_Wave_Long.calls 5000 A cap wv g w2 (Kd.C_below HC.out HB2.out) HCc.out HLG.out).mono ?_
  rintro e w3 ⟨rfl, hb3⟩
  have HB3 := Aside0.mk (below_step HB2.out hb3)
  clear hb3
  go_wp2_with fail
  go_loopw [6, 8, 9, 10, 11, 12] (fun v6 v8 _ _ _ _ wr => ∃ (line : Nat) (acc : List UInt8), line ≤ 4 ∧ v8 = .int .i64 (line : Int) ∧ v6 = .string ⟨acc.toArray⟩ ∧ Aside0 (acc ++ picP wv per g line = D) ∧ Aside0 (Below w.heap.size w wr)) (fun _ v8 _ _ _ _ _ => (4 - intOf v8).toNat)
  case atStart => exact ⟨0, [], by omega, rfl, rfl, ⟨HDD.out⟩, HB3⟩
  case round =>
    obtain ⟨line, acc, hle, rfl, rfl, HA, HB⟩ := hrel
    by_cases hlt : line < 4
    · have m2 : decide ((line : Int) < 4) = true := decide_eq_true (by omega)
      have hst := HA.out
      rw [picP_step hlt] at hst
      have HST := Aside0.mk hst
      clear hst HA
      go_wp2_with fail
      go_loopw [6, 9, 10, 11, 12] (fun v6 v9 _ _ _ wr => ∃ (a : Int) (acc : List UInt8), 0 ≤ a ∧ a ≤ g ∧ v9 = .int .i64 a ∧ v6 = .string ⟨acc.toArray⟩ ∧ Aside0 (acc ++ (rowP wv per g (line : Int) a ++ 10 :: picP wv per g (line + 1)) = D) ∧ Aside0 (Below w.heap.size w wr)) (fun _ v9 _ _ _ _ => (g - intOf v9).toNat)
      case atStart => exact ⟨0, acc, Int.le_refl _, hg3.1, rfl, rfl, HST, HB⟩
      case round =>
        clear HST HB
        obtain ⟨a, acc, ha0, hag, rfl, rfl, HA, HB⟩ := hrel
        by_cases hl2 : a < g
        · have m3 : decide (a < g) = true := decide_eq_true hl2
          have hst := HA.out
          rw [rowP_step hp1 hl2] at hst
          have hw := w64 (x := g - a) (by omega) (by omega)
          obtain ⟨t, ht⟩ : ∃ t, mn per (g - a) = t := ⟨_, rfl⟩
          have ht' : (if g - a < per then g - a else per) = t := ht
          have htb : 1 ≤ t ∧ t ≤ g - a := by rw [← ht]; unfold mn; split <;> omega
          have hw2 := w64 (x := t + a) (by omega) (by omega)
          have hw3 : IntKind.i64.wrap (g - a) = g - a := IntWalk.i64_in _ (by omega)
          have hw4 : IntKind.i64.wrap (t + a) = t + a := IntWalk.i64_in _ (by omega)
          rw [ht] at hst
          obtain ⟨c1, c2, c3, c4⟩ := cutF_ok wv HL.out HT.out a (t + a) (by omega) (by have := HG.out; omega)
          have hsg := sgF_cases wv (line : Int) a (t + a)
          have hsub : t + a - a = t := by omega
          rw [hsub] at hsg
          have HST := Aside0.mk hst
          have C1 := Aside0.mk c1
          have C4 := Aside0.mk c4
          have hw5 : wrap64 (t + a - a) = t := by rw [hsub]; exact w64 (by omega) (by omega)
          obtain ⟨S, hS⟩ : ∃ S : UInt8, sgF wv (line : Int) a (t + a) = S := ⟨_, rfl⟩
          obtain ⟨H, hH⟩ : ∃ H, hF (cutF wv a (t + a)) (line : Int) = H := ⟨_, rfl⟩
          rw [hS, hH] at hsg
          have HS := Aside0.mk hS
          have HH := Aside0.mk hH
          have HST2 : Aside0 ((acc ++ [S]) ++ (rowP wv per g (line : Int) (t + a) ++ 10 :: picP wv per g (line + 1)) = D) := ⟨by rw [← HST.out, HS.out]; simp⟩
          have HLN : acc.length ≤ 20000 := by
            have h1 := congrArg List.length HST2.out
            have h2 := HDL.out
            simp only [List.length_append, List.length_cons, List.length_nil] at h1
            omega
          have hcat : ¬ 9223372036854775807 < acc.length + 1 := by omega
          clear hst c1 c2 c3 c4 HA hS hH HLN HST
          have HSG := Aside0.mk hsg
          clear hsg
          go_wp2_with fail
          refine (wave_Wave_Cut.calls 5000 A cap wv a (t + a) _ wr (Kd.C_below HC.out HB.out) HCc.out C1.out).mono ?_
          rintro e w4 ⟨v4, rfl, h4, hb4⟩
          obtain ⟨A4, c4, e4⟩ := Kd.R_slice h4
          subst e4
          have HB4 := Aside0.mk (below_step HB.out hb4)
          have HR4 := Aside0.mk (Kd.R_reads' h4)
          clear h4 hb4 HB
          go_wp2_with fail
          refine (high_calls A4 c4 (cutF wv a (t + a)) (line : Int) w4 HR4.out.2.2 HR4.out.2.1 (Nat.le_trans C4.out (by omega))).mono ?_
          rintro e w5 ⟨rfl, hb5⟩
          have HB5 := Aside0.mk (below_step HB4.out hb5)
          clear hb5 HB4
          rw [HH.out]
          have hcc : (⟨acc.toArray⟩ : ByteArray) ++ ⟨#[S]⟩ = ⟨(acc ++ [S]).toArray⟩ := str_snoc acc S
          rcases HSG.out with ⟨h0, rfl⟩ | ⟨h0, h1, rfl⟩ | ⟨h0, h1, rfl⟩
          · have n1 : (H == 0) = true := by simp [h0]
            have n2 : decide (H = 0) = true := decide_eq_true h0
            clear h0
            go_wp2_with fail
            exact ⟨⟨t + a, acc ++ [46], by omega, by omega, rfl, by rw [← hcc], HST2, HB5⟩, by simp [intOf]; omega⟩
          · have n1 : (H == 0) = false := by simp [h0]
            have n2 : decide (H = 0) = false := decide_eq_false h0
            have n3 : (H == t) = true := by simp [h1]
            have n4 : decide (H = t) = true := decide_eq_true h1
            clear h0 h1
            go_wp2_with fail
            exact ⟨⟨t + a, acc ++ [35], by omega, by omega, rfl, by rw [← hcc], HST2, HB5⟩, by simp [intOf]; omega⟩
          · have n1 : (H == 0) = false := by simp [h0]
            have n2 : decide (H = 0) = false := decide_eq_false h0
            have n3 : (H == t) = false := by simp [h1]
            have n4 : decide (H = t) = false := decide_eq_false h1
            clear h0 h1
            go_wp2_with fail
            exact ⟨⟨t + a, acc ++ [43], by omega, by omega, rfl, by rw [← hcc], HST2, HB5⟩, by simp [intOf]; omega⟩
        · have m3 : decide (a < g) = false := decide_eq_false hl2
          have hst := HA.out
          rw [rowP_end hl2, List.nil_append] at hst
          have HST2 : Aside0 ((acc ++ [10]) ++ picP wv per g (line + 1) = D) := ⟨by rw [← hst]; simp⟩
          have HLN : acc.length ≤ 20000 := by
            have h1 := congrArg List.length HST2.out
            have h2 := HDL.out
            simp only [List.length_append, List.length_cons, List.length_nil] at h1
            omega
          have hcat : ¬ 9223372036854775807 < acc.length + 1 := by omega
          have hcc : (⟨acc.toArray⟩ : ByteArray) ++ ⟨#[10]⟩ = ⟨(acc ++ [10]).toArray⟩ := str_snoc acc 10
          have hw6 : wrap64 ((line : Int) + 1) = ((line + 1 : Nat) : Int) := wS (by omega)
          clear hst HA HLN
          go_wp2_with fail
          exact ⟨⟨line + 1, acc ++ [10], by omega, rfl, by rw [← hcc], HST2, HB⟩, by simp [intOf]; omega⟩
    · have m2 : decide ((line : Int) < 4) = false := decide_eq_false (by omega)
      have hst := HA.out
      rw [picP_end hlt, List.append_nil] at hst
      subst hst
      have hss : (ByteArray.toList ⟨acc.toArray⟩ == ByteArray.toList ⟨acc.toArray⟩) = true := beq_self_eq_true _
      have HM2 := Aside0.mk ((HB.out.cell (World.block_lt_of_cell? w _ HM.out)).trans HM.out)
      go_wp2_with fail
      refine (one_calls m wr HM2.out).mono ?_
      rintro e w3 ⟨rfl, hb3⟩
      have HB3 := Aside0.mk (below_step HB.out hb3)
      clear hb3
      go_wp2_with fail
      go_ret
      exact ⟨rfl, HB3.out⟩
end Go.Proofs.YtedjjodnceinlaaDoor.PWv
