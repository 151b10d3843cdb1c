/- (wave.Wave).sign, Picture: walks. Helper text. -/
import Derived.Test.YtedjjodnceinlaaDoorWvPc
import Derived.Test.YtedjjodnceinlaaDoorWvBld
namespace Go.Proofs.YtedjjodnceinlaaDoor.PWv
open Go.RowKit Go.Shelf Go.Proofs.YtedjjodnceinlaaDoor.Kx Go.Proofs.YtedjjodnceinlaaDoor.PWe Go.Proofs.YtedjjodnceinlaaDoorW.PrintWords Go.Proofs.YtedjjodnceinlaaDoorW.PrintLast Go.Proofs.YtedjjodnceinlaaDoorW.PrintMore
set_option linter.unusedVariables false
set_option linter.unusedSimpArgs false
attribute [local go_sem] max2_int min2_int max_two min_two
set_option maxHeartbeats 1000000 in
set_option maxRecDepth 100000 in
theorem sign_calls (A : Option Addr) (cap : Nat) (c : List S46) (line : Int) (w : World) (hC : Kd.C k46 w A c.length c) (hc : c.length ≤ cap) (hl : c.length ≤ 200) (ht : (rawT c).length ≤ 3000) :
    Calls Tryd.prog 25 #[.slice A c.length cap, .int .i64 line] w fun e w' => e = .returned (.int .u8 ((if hF c line = 0 then 46 else if hF c line = ((rawT c).length : Int) then 35 else 43 : UInt8).toNat : Int)) ∧ Below w.heap.size w w' := by
  have hlg := long_raw (k := 5000) c (by omega) (by omega) (by omega)
  have HC := Aside0.mk hC
  have HCc := Aside0.mk hc
  have HH := Aside0.mk (high_calls A cap c line w hC hc (by omega))
  obtain ⟨h, hh⟩ : ∃ h, hF c line = h := ⟨_, rfl⟩
  obtain ⟨g, hg⟩ : ∃ g, ((rawT c).length : Int) = g := ⟨_, rfl⟩
  rw [hh] at HH ⊢
  rw [hg] at hlg ⊢
  have HLG := Aside0.mk hlg
  obtain ⟨R, hR⟩ : ∃ R : UInt8, (if h = 0 then 46 else if h = g then 35 else 43 : UInt8) = R := ⟨_, rfl⟩
  rw [hR]
  clear hC hc hh hg hlg ht hl
  by_cases h0 : h = 0
  · have m1 : (h == 0) = true := by simp [h0]
    have m2 : decide (h = 0) = true := decide_eq_true h0
    rw [if_pos h0] at hR
    have HR := Aside0.mk hR
    clear h0 hR
    go_enter Tryd.func25, Tryd.ntmps25
    go_wp2_with fail
    refine HH.out.mono ?_
    rintro e w1 ⟨rfl, hb1⟩
    have HB1 := Aside0.mk hb1
    clear hb1 HH
    go_wp2_with fail
    go_ret
    exact ⟨by rw [← HR.out]; rfl, HB1.out⟩
  · have m1 : (h == 0) = false := by simp [h0]
    have m2 : decide (h = 0) = false := decide_eq_false h0
    rw [if_neg h0] at hR
    have HR := Aside0.mk hR
    clear h0 hR
    go_enter Tryd.func25, Tryd.ntmps25
    go_wp2_with fail
    refine HH.out.mono ?_
    rintro e w1 ⟨rfl, hb1⟩
    have HB1 := Aside0.mk hb1
    clear hb1 HH
    go_wp2_with fail
    refine (wave_Wave_Long.calls 5000 A cap c g w1 (Kd.C_below HC.out HB1.out) HCc.out HLG.out).mono ?_
    rintro e w2 ⟨rfl, hb2⟩
    have HB2 := Aside0.mk (below_step HB1.out hb2)
    clear hb2
    by_cases h1 : h = g
    · have m3 : (h == g) = true := by simp [h1]
      have m4 : decide (h = g) = true := decide_eq_true h1
      have HE := Aside0.mk h1
      clear h1
      go_wp2_with fail
      go_ret
      exact ⟨by rw [← HR.out, if_pos HE.out]; rfl, HB2.out⟩
    · have m3 : (h == g) = false := by simp [h1]
      have m4 : decide (h = g) = false := decide_eq_false h1
      have HE := Aside0.mk h1
      clear h1
      go_wp2_with fail
      go_ret
      exact ⟨by rw [← HR.out, if_neg HE.out]; rfl, HB2.out⟩
/-- What a call that keeps all below leaves of a builder of one's own. -/
theorem isBuilder_below {T e B b : Nat} {bs : List Value} {w w1 : World} (h : Lib.IsBuilder T e B b bs w) (hb : Below w.heap.size w w1) : Lib.IsBuilder T e B b bs w1 := by
  have go : ∀ p, Lib.BuilderAt T e B b p bs w → Lib.BuilderAt T e B b p bs w1 := by
    rintro p ⟨h1, v, h2, h3, h4⟩
    refine ⟨h1, v, (hb.block _ (Array.getElem?_eq_some_iff.1 h2).1).trans h2, h3.kept (⟨hb.os, hb.tape, hb.output, hb.size, fun k hk _ => hb.block k hk⟩ : w.grownBy w1 none) ?_, h4⟩
    cases v <;> simp [Value.ownBlock]
    rename_i a _ _
    cases a <;> simp [Value.ownBlock]
  exact h.imp (go _) (go _)
theorem rowN_len (wv : List S46) (per long line : Int) : ∀ (n : Nat) (a : Int), (rowN wv per long line n a).length ≤ n
  | 0, _ => Nat.le_refl _
  | n + 1, a => by
    rw [rowN]
    by_cases h : a < long
    · rw [if_pos h]
      have := rowN_len wv per long line n (mn per (long - a) + a)
      simp only [List.length_cons]
      omega
    · rw [if_neg h]; simp
theorem picP_len (wv : List S46) (per long : Int) (h : 0 ≤ long ∧ long ≤ 3000) : (picP wv per long 0).length ≤ 20000 := by
  have r : ∀ line a, 0 ≤ a → (rowP wv per long line a).length ≤ 3000 := fun line a ha => by
    have := rowN_len wv per long line (long - a).toNat a
    unfold rowP; omega
  have r0 := r ((0 : Nat) : Int) 0 (by omega)
  have r1 := r ((1 : Nat) : Int) 0 (by omega)
  have r2 := r ((2 : Nat) : Int) 0 (by omega)
  have r3 := r ((3 : Nat) : Int) 0 (by omega)
  rw [picP_step (by omega), picP_step (by omega), picP_step (by omega), picP_step (by omega), picP_end (by omega)]
  simp only [List.length_append, List.length_cons, List.length_nil]
  have e1 : ((0 + 1 : Nat) : Int) = ((1 : Nat) : Int) := rfl
  have e2 : ((0 + 1 + 1 : Nat) : Int) = ((2 : Nat) : Int) := rfl
  have e3 : ((0 + 1 + 1 + 1 : Nat) : Int) = ((3 : Nat) : Int) := rfl
  rw [e1, e2, e3]
  omega
set_option maxHeartbeats 2000000 in
set_option maxRecDepth 100000 in
theorem picture_calls (A : Option Addr) (cap : Nat) (wv : List S46) (per : Int) (w : World) (hC : Kd.C k46 w A wv.length wv) (hc : wv.length ≤ cap) (hl : wv.length ≤ 200) (ht : (rawT wv).length ≤ 3000) (hp : 1 ≤ per) :
    Calls Tryd.prog 13 #[.slice A wv.length cap, .int .i64 per] w fun e w' => e = .returned (.string ⟨(picP wv per ((rawT wv).length : Int) 0).toArray⟩) ∧ Below w.heap.size w w' := by
  have hlg := long_raw (k := 5000) wv (by omega) (by omega) (by omega)
  obtain ⟨g, hg⟩ : ∃ g, ((rawT wv).length : Int) = g := ⟨_, rfl⟩
  have hg3 : 0 ≤ g ∧ g ≤ 3000 := by omega
  rw [hg] at hlg ⊢
  obtain ⟨D, hD⟩ : ∃ D, picP wv per g 0 = D := ⟨_, rfl⟩
  have HDL : Aside0 (D.length ≤ 20000) := ⟨by rw [← hD]; exact picP_len wv per g hg3⟩
  have HDD := Aside0.mk hD
  rw [hD]
  clear hD
  have HC := Aside0.mk hC
  have HCc := Aside0.mk hc
  have HLG := Aside0.mk hlg
  have HG := Aside0.mk hg
  have HL := Aside0.mk hl
  have HT := Aside0.mk ht
  have HB0 := Aside0.mk (Below.refl w.heap.size w)
  have m1 : decide (per < 1) = false := decide_eq_false (by omega)
  obtain ⟨mm, hmm⟩ : ∃ m, (if 1048576 < per then (1048576 : Int) else per) = m := ⟨_, rfl⟩
  have hm1 : 1 ≤ mm := by rw [← hmm]; split <;> omega
  have hq : decide (4096 < g / mm) = false := decide_eq_false (by have := Int.ediv_le_self mm hg3.1; omega)
  clear hC hc hlg hg hl ht
  go_enter Tryd.func13, Tryd.ntmps13
  go_wp2_with fail
  refine (wave_Wave_Long.calls 5000 A cap wv g w HC.out HCc.out HLG.out).mono ?_
  rintro e w1 ⟨rfl, hb1⟩
  have HB1 := Aside0.mk hb1
  clear hb1
  go_wp2_with fail
  have HI0 := Aside0.mk (Lib.fresh_isBuilder 57 5 w1)
  have HB2 := Aside0.mk (below_alloc (Below.refl w1.heap.size w1) (.cells #[.pointer none, .slice none 0 0] 57 (0, 0)))
  clear hq hmm hm1 m1
  go_loopw [7, 8, 9] (fun v7 _ _ wr => ∃ (line : Nat) (acc : List UInt8), line ≤ 4 ∧ v7 = .int .i64 (line : Int) ∧ Aside0 (acc ++ picP wv per g line = D) ∧ Aside0 (Lib.IsBuilder 57 5 w1.heap.size w1.heap.size (Lib.byteCells acc) wr) ∧ Aside0 (Below w1.heap.size w1 wr)) (fun v7 _ _ _ => (4 - intOf v7).toNat)
  case atStart => exact ⟨0, [], by omega, rfl, ⟨HDD.out⟩, HI0, HB2⟩
  case round =>
    obtain ⟨line, acc, hle, rfl, HA, HI, HB⟩ := hrel
    by_cases hlt : line < 4
    · have m1 : decide ((line : Int) ≤ 3) = true := decide_eq_true (by omega)
      have hst := HA.out
      rw [picP_step hlt] at hst
      have HST := Aside0.mk hst
      clear hst HA
      go_wp2_with fail
      go_loopw [8, 9] (fun v8 _ wr => ∃ (a : Int) (acc : List UInt8), 0 ≤ a ∧ a ≤ g ∧ v8 = .int .i64 a ∧ Aside0 (acc ++ (rowP wv per g (line : Int) a ++ 10 :: picP wv per g (line + 1)) = D) ∧ Aside0 (Lib.IsBuilder 57 5 w1.heap.size w1.heap.size (Lib.byteCells acc) wr) ∧ Aside0 (Below w1.heap.size w1 wr)) (fun v8 _ _ => (g - intOf v8).toNat)
      case atStart => exact ⟨0, acc, Int.le_refl _, hg3.1, rfl, HST, HI, HB⟩
      case round =>
        clear HST HI HB acc
        obtain ⟨a, acc, ha0, hag, rfl, HA, HI, HB⟩ := hrel
        by_cases hl2 : a < g
        · have m2 : decide (a < g) = true := decide_eq_true hl2
          have hst := HA.out
          rw [rowP_step hp hl2] at hst
          have hw := w64 (x := g - a) (by omega) (by omega)
          obtain ⟨m, hm⟩ : ∃ m, mn per (g - a) = m := ⟨_, rfl⟩
          have hm' : (if g - a < per then g - a else per) = m := hm
          have hmb : 1 ≤ m ∧ m ≤ g - a := by rw [← hm]; unfold mn; split <;> omega
          have hw2 := w64 (x := m + a) (by omega) (by omega)
          have hw3 : IntKind.i64.wrap (g - a) = g - a := IntWalk.i64_in _ (by omega)
          have hw4 : IntKind.i64.wrap (m + a) = m + a := IntWalk.i64_in _ (by omega)
          rw [hm] at hst
          obtain ⟨c1, c2, c3, c4⟩ := cutF_ok wv HL.out HT.out a (m + a) (by omega) (by have := HG.out; omega)
          have HST := Aside0.mk hst
          have C1 := Aside0.mk c1
          have C3 := Aside0.mk c3
          have C4 := Aside0.mk c4
          clear hst c1 c2 c3 c4 HA
          go_wp2_with fail
          refine (wave_Wave_Cut.calls 5000 A cap wv a (m + a) _ wr (Kd.C_below HC.out (HB1.out.trans (HB.out.mono (below_size HB1.out)))) HCc.out C1.out).mono ?_
          rintro e w3 ⟨v3, rfl, h3, hb3⟩
          obtain ⟨A3, c3, e3⟩ := Kd.R_slice h3
          subst e3
          have HI3 := Aside0.mk (isBuilder_below HI.out hb3)
          have HB3 := Aside0.mk (below_step HB.out hb3)
          have HR3 := Aside0.mk (Kd.R_reads' h3)
          clear h3 hb3 HI HB
          go_wp2_with fail
          refine (sign_calls A3 c3 (cutF wv a (m + a)) (line : Int) w3 HR3.out.2.2 HR3.out.2.1 C4.out (by have := C3.out; omega)).mono ?_
          rintro e w4 ⟨rfl, hb4⟩
          have HI4 := Aside0.mk (isBuilder_below HI3.out hb4)
          have HB4 := Aside0.mk (below_step HB3.out hb4)
          clear hb4 HI3 HB3
          obtain ⟨S, hS⟩ : ∃ S : UInt8, (if hF (cutF wv a (m + a)) (line : Int) = 0 then 46 else if hF (cutF wv a (m + a)) (line : Int) = ((rawT (cutF wv a (m + a))).length : Int) then 35 else 43 : UInt8) = S := ⟨_, rfl⟩
          have HS : Aside0 (sgF wv (line : Int) a (m + a) = S) := ⟨by rw [← hS, C3.out]; rfl⟩
          rw [hS]
          have HST2 : Aside0 ((acc ++ [S]) ++ (rowP wv per g (line : Int) (m + a) ++ 10 :: picP wv per g (line + 1)) = D) := ⟨by rw [← HST.out, HS.out]; simp⟩
          have HLN : Aside0 ((Lib.byteCells acc).length + 1 ≤ 140737488355328) := ⟨by
            rw [Lib.byteCells_length]
            have h1 := congrArg List.length HST2.out
            have h2 := HDL.out
            simp only [List.length_append, List.length_cons, List.length_nil] at h1
            omega⟩
          clear hS HST
          go_wp2_with fail
          refine (writeByte_calls w1.heap.size w1.heap.size (Lib.byteCells acc) (S.toNat : Int) w4 HI4.out HLN.out (below_size HB4.out)).mono ?_
          rintro e w5 ⟨rfl, hI5, hb5⟩
          have HI5 : Aside0 (Lib.IsBuilder 57 5 w1.heap.size w1.heap.size (Lib.byteCells (acc ++ [S])) w5) := ⟨by simpa [Lib.byteCells] using hI5⟩
          have HB5 := Aside0.mk (HB4.out.trans hb5)
          clear hI5 hb5 HI4 HB4
          go_wp2_with fail
          exact ⟨⟨m + a, acc ++ [S], by omega, by omega, rfl, HST2, HI5, HB5⟩, by simp [intOf]; omega⟩
        · have m2 : decide (a < g) = false := decide_eq_false hl2
          have hst := HA.out
          rw [rowP_end hl2, List.nil_append] at hst
          have HST2 : Aside0 ((acc ++ [10]) ++ picP wv per g (line + 1) = D) := ⟨by rw [← hst]; simp⟩
          have HLN : Aside0 ((Lib.byteCells acc).length + 1 ≤ 140737488355328) := ⟨by
            rw [Lib.byteCells_length]
            have h1 := congrArg List.length HST2.out
            have h2 := HDL.out
            simp only [List.length_append, List.length_cons, List.length_nil] at h1
            omega⟩
          clear hst HA
          go_wp2_with fail
          refine (writeByte_calls w1.heap.size w1.heap.size (Lib.byteCells acc) 10 wr HI.out HLN.out (below_size HB.out)).mono ?_
          rintro e w5 ⟨rfl, hI5, hb5⟩
          have HI5 : Aside0 (Lib.IsBuilder 57 5 w1.heap.size w1.heap.size (Lib.byteCells (acc ++ [10])) w5) := ⟨by simpa [Lib.byteCells] using hI5⟩
          have HB5 := Aside0.mk (HB.out.trans hb5)
          have hw6 : wrap64 ((line : Int) + 1) = ((line + 1 : Nat) : Int) := wS (by omega)
          clear hI5 hb5 HI HB
          go_wp2_with fail
          exact ⟨⟨line + 1, acc ++ [10], by omega, rfl, HST2, HI5, HB5⟩, by simp [intOf]; omega⟩
    · have m1 : decide ((line : Int) ≤ 3) = false := decide_eq_false (by omega)
      have hst := HA.out
      rw [picP_end hlt, List.append_nil] at hst
      have HST := Aside0.mk hst
      clear hst HA
      go_wp2_with fail
      refine (Tryd.Builder_String_any w1.heap.size w1.heap.size acc wr HI.out (below_size HB.out)).mono ?_
      rintro e w5 ⟨rfl, hb5⟩
      have HB5 := Aside0.mk (HB1.out.trans ((HB.out.trans hb5).mono (below_size HB1.out)))
      clear hb5
      go_wp2_with fail
      go_ret
      exact ⟨by rw [HST.out]; rfl, HB5.out⟩
theorem picture_none (A : Option Addr) (cap : Nat) (wv : List S46) (per : Int) (w : World) (hC : Kd.C k46 w A wv.length wv) (hc : wv.length ≤ cap) (hl : wv.length ≤ 200) (ht : (rawT wv).length ≤ 3000) (hp : per < 1) :
    Calls Tryd.prog 13 #[.slice A wv.length cap, .int .i64 per] w fun e w' => e = .returned (.string ⟨#[]⟩) ∧ Below w.heap.size w w' := by
  have hlg := long_raw (k := 5000) wv (by omega) (by omega) (by omega)
  have HC := Aside0.mk hC
  have HCc := Aside0.mk hc
  have HLG := Aside0.mk hlg
  have m1 : decide (per < 1) = true := decide_eq_true hp
  clear hC hc hlg hl ht hp
  go_enter Tryd.func13, Tryd.ntmps13
  go_wp2_with fail
  refine (wave_Wave_Long.calls 5000 A cap wv _ w HC.out HCc.out HLG.out).mono ?_
  rintro e w1 ⟨rfl, hb1⟩
  have HB1 := Aside0.mk hb1
  clear hb1
  go_wp2_with fail
  go_ret
  exact ⟨rfl, HB1.out⟩
end Go.Proofs.YtedjjodnceinlaaDoor.PWv
