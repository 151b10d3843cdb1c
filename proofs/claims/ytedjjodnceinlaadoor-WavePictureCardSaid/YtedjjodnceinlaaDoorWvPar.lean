/- wave.Parse: walk. Helper text. -/
import Derived.Test.YtedjjodnceinlaaDoorWvPln
namespace Go.Proofs.YtedjjodnceinlaaDoor.PWv
open Go.RowKit Go.Proofs.YtedjjodnceinlaaDoor.Kx Go.Proofs.YtedjjodnceinlaaDoor.PWe Go.Proofs.YtedjjodnceinlaaDoorW.PrintWords Go.Proofs.YtedjjodnceinlaaDoorW.PrintLast Go.Proofs.YtedjjodnceinlaaDoorW.PrintMore
set_option linter.unusedVariables false
set_option linter.unusedSimpArgs false
def spB : ByteArray := ⟨#[32]⟩
def pieces (s : ByteArray) : List ByteArray := Lib.splitB spB 0 (Lib.countB s spB) s
/-- The runs of pieces, read one by one. -/
def parL : List ByteArray → List S46 → Option (List S46)
  | [], out => some out
  | p :: r, out => if (runP p).2 = true ∧ out.length < 1048576 then parL r (out ++ [⟨(runP p).1.1, (runP p).1.2⟩]) else none
def KK : Nat := 100500
/-- A line, read. -/
def parP (s : ByteArray) : List S46 × Int :=
  if (s.toList == [45]) = true then ([], 0) else
  match parL (pieces s) [] with
  | none => ([], 30)
  | some out => match wave_Wave_Text.f KK out with
    | none => ([], 30)
    | some t => if (t.toList == s.toList) = true then (out, 0) else ([], 30)
theorem split_small (sep : ByteArray) : ∀ (k : Nat) (s : ByteArray), ∀ p ∈ Lib.splitB sep 0 k s, p.size ≤ s.size
  | 0, s, p, hp => by rw [List.mem_singleton.1 hp]; exact Nat.le_refl _
  | k + 1, s, p, hp => by
    unfold Lib.splitB at hp
    split at hp
    · rw [List.mem_singleton.1 hp]; exact Nat.le_refl _
    · rcases List.mem_cons.1 hp with rfl | hp
      · rw [ByteArray.size_extract]; omega
      · have h := split_small sep k _ p hp
        rw [ByteArray.size_extract] at h
        omega
theorem pieces_len (s : ByteArray) : (pieces s).length = Lib.countB s spB + 1 := Lib.splitB_all spB (by decide) 0 _ s rfl
theorem pieces_few (s : ByteArray) : (pieces s).length ≤ s.size + 1 := by
  rw [pieces_len]
  have := Lib.countB_le spB (by decide) s.size s (Nat.le_refl _)
  omega
theorem k46_one (w : World) (base : Nat) (L T : Int) : k46.M w base (fun _ => True) ⟨L, T⟩ [.int .u8 L, .int .i64 T] := k46_mkM w base (fun _ => True) ⟨L, T⟩
set_option maxHeartbeats 8000000 in
set_option maxRecDepth 100000 in
theorem parse_calls (s : ByteArray) (m : Int) (w : World) (hs : s.size ≤ 1000) (hm : w.cell? ⟨0, 0, none⟩ = some (.int .i64 m)) {out : List S46} {E : Int} (hR : parP s = (out, E)) :
    Calls Tryd.prog 6 #[.string s] w fun e w' => ∃ v, e = .returned (.tuple #[v, .int .i64 E]) ∧ Kd.R k46 46 w' w.heap.size (fun _ => True) v out ∧ Below w.heap.size w w' := by
  have HM := Aside0.mk hm
  have HB : Aside0 (Below w.heap.size w w) := ⟨Below.refl _ _⟩
  obtain ⟨b0, hb0⟩ : ∃ b, (s.toList == [45]) = b := ⟨_, rfl⟩
  unfold parP at hR
  rw [hb0] at hR
  have HRR := Aside0.mk hR
  clear hm hR
  cases b0
  rotate_left
  · have hE := HRR.out
    rw [if_pos rfl] at hE
    simp only [Prod.mk.injEq] at hE
    obtain ⟨rfl, rfl⟩ := hE
    go_enter Tryd.func6, Tryd.ntmps6
    go_wp2_with fail
    go_ret2
    exact ⟨_, rfl, Kd.R_nil _ _ _ _ _, Below.refl _ _⟩
  have HRR2 := Aside0.mk (show (match parL (pieces s) [] with | none => (([], 30) : List S46 × Int) | some out => match wave_Wave_Text.f KK out with | none => ([], 30) | some t => if (t.toList == s.toList) = true then (out, 0) else ([], 30)) = (out, E) from by rw [← HRR.out, if_neg (by decide)])
  clear HRR
  obtain ⟨ps, hps⟩ : ∃ ps, pieces s = ps := ⟨_, rfl⟩
  have hpl := pieces_len s
  have hpf := pieces_few s
  have hsm : ∀ p ∈ ps, p.size ≤ 1000 := fun p hp => by
    rw [← hps] at hp
    exact Nat.le_trans (split_small spB _ s p hp) hs
  have hsp := Tryd.strings_Split s spB m w (by omega) HM.out (by decide)
  rw [show Lib.splitB spB 0 (Lib.countB s spB) s = ps from hps, ← hpl] at hsp
  rw [hps] at HRR2 hsp hpf
  have HSP := Aside0.mk hsp
  have HSM := Aside0.mk hsm
  clear hps hpl hsm hsp
  obtain ⟨D, hD⟩ : ∃ d, parL ps [] = d := ⟨_, rfl⟩
  rw [hD] at HRR2
  have HD := Aside0.mk hD
  clear hD
  go_enter Tryd.func6, Tryd.ntmps6
  go_wp2_with fail
  refine HSP.out.mono ?_
  rintro e w1 ⟨rfl, hw1⟩
  have HG := Aside0.mk (show w1.heap[w.heap.size]? = some (.cells (ps.map Value.string).toArray 9 (0, 0)) by rw [hw1]; exact blk_new w _)
  have HB1 := Aside0.mk (show Below w.heap.size w w1 by rw [hw1]; exact below_alloc (Below.refl _ _) _)
  obtain ⟨g0, hg0⟩ : ∃ g, w.heap.size = g := ⟨_, rfl⟩
  have HG0 := Aside0.mk hg0
  rw [hg0] at HG ⊢
  clear hw1 hg0 HSP
  have HW11 : Aside0 (Below w1.heap.size w1 w1) := ⟨Below.refl _ _⟩
  go_wp2_with fail
  go_loopw [4, 6, 7, 8, 14] (fun v4 _ _ _ v14 wr => ∃ (i : Nat) (xs : List S46), i ≤ ps.length ∧ v14 = .int .i64 (i : Int) ∧ xs.length = i ∧ Aside0 (parL (ps.drop i) xs = D) ∧ Aside0 (Kd.R k46 46 wr w1.heap.size (fun _ => True) v4 xs) ∧ Below w1.heap.size w1 wr) (fun _ _ _ _ v14 _ => ((ps.length : Int) - intOf v14).toNat)
  case atStart => exact ⟨0, [], Nat.zero_le _, rfl, rfl, ⟨by rw [List.drop_zero]; exact HD.out⟩, ⟨Kd.R_nil _ _ _ _ _⟩, Below.refl _ _⟩
  case round =>
    obtain ⟨i, xs, hi, rfl, hxl, HI, HO, hbr⟩ := hrel
    have HKr := Aside0.mk hbr
    have HBr := Aside0.mk (below_step HB1.out hbr)
    have HXL := Aside0.mk hxl
    obtain ⟨A4, c4, e4⟩ := Kd.R_slice HO.out
    subst e4
    clear hbr hxl
    by_cases hlt : i < ps.length
    · have m1 : decide ((i : Int) < (ps.length : Int)) = true := decide_eq_true (by omega)
      have m2 : decide (i < ps.length) = true := decide_eq_true hlt
      have q1 : (0 ≤ (i : Int)) = True := eq_true (by omega)
      have q2 : ((i : Int) < (ps.length : Int)) = True := eq_true (by omega)
      have q3 : (i < ps.length) = True := eq_true hlt
      obtain ⟨p, hp⟩ : ∃ p, ps[i] = p := ⟨_, rfl⟩
      have hnil : (⟨g0, 0, none⟩ : Addr).add i = ⟨g0, i, none⟩ := by rw [Addr.add_lit, Nat.zero_add]
      have y0 : wr.cell? ⟨g0, i, none⟩ = some (.string p) := (cell_in (blk_below HG.out HKr.out) i).trans (by simp [hlt, hp])
      have HPZ := Aside0.mk (HSM.out p (by rw [← hp]; exact List.getElem_mem hlt))
      obtain ⟨⟨⟨L, T⟩, ok⟩, hrun⟩ : ∃ r, runP p = r := ⟨_, rfl⟩
      have HI2 : Aside0 ((if ok = true ∧ xs.length < 1048576 then parL (ps.drop (i + 1)) (xs ++ [⟨L, T⟩]) else none) = D) := ⟨by
        have h := HI.out
        rw [List.drop_eq_getElem_cons hlt, hp, parL, hrun] at h
        exact h⟩
      have HMr := Aside0.mk ((HBr.out.cell (World.block_lt_of_cell? w _ HM.out)).trans HM.out)
      have HRN := Aside0.mk (run_calls p m wr (by have := HPZ.out; omega) HMr.out hrun)
      have HLT := Aside0.mk hlt
      clear hp hrun HI hlt
      go_wp2_with fail
      refine HRN.out.mono ?_
      rintro e w5 ⟨rfl, hb5⟩
      have HK5 := Aside0.mk (below_step HKr.out hb5)
      have HO5 := Aside0.mk (Kd.R_below HO.out hb5)
      clear hb5 HRN HO y0 hnil
      cases ok
      · have hDn : D = none := by rw [← HI2.out, if_neg (by simp)]
        subst hDn
        have hE := HRR2.out
        simp only [Prod.mk.injEq] at hE
        obtain ⟨rfl, rfl⟩ := hE
        clear HRR2 HI2
        go_wp2_with (first | ((with_reducible refine gate_dst (N := 7) rfl ?_); refine boxN (w := w1) rfl (N := 7) rfl (cs := runC 0 0) (t := 46) (by first | (go_simp; done) | (go_simp; rfl)) HK5 ?_; intro g7 Wb Hb Lg7 HBb Kb) | (refine storeCsN (w := w1) rfl 46 (.tmp 7) _ rfl g7 (runC L T) rfl rfl 46 _ Hb (by kernel_rfl) rfl (by rw [← Array.all_toList]; rfl) HBb ⟨Lg7.out.1⟩ ?_; intro Wc Hc HBc _))
        go_ret2
        exact ⟨_, rfl, Kd.R_nil _ _ _ _ _, below_step HB1.out HBc.out⟩
      · have HI3 : Aside0 (parL (ps.drop (i + 1)) (xs ++ [⟨L, T⟩]) = D) := ⟨by rw [← HI2.out, if_pos ⟨rfl, by have := HXL.out; omega⟩]⟩
        have n1 : decide (1048576 ≤ (xs.length : Int)) = false := decide_eq_false (by have := HXL.out; omega)
        have n2 : decide (1048576 ≤ xs.length) = false := decide_eq_false (by have := HXL.out; omega)
        have hxb : xs.length ≤ 2000 := by have := HXL.out; omega
        clear HI2
        go_wp2_with (first | ((with_reducible refine gate_dst (N := 7) rfl ?_); refine boxN (w := w1) rfl (N := 7) rfl (cs := runC 0 0) (t := 46) (by first | (go_simp; done) | (go_simp; rfl)) HK5 ?_; intro g7 Wb Hb Lg7 HBb Kb; have HO6 := Aside0.mk (Kd.R_below HO5.out Kb.out)) | ((with_reducible refine gate_ (.store 46 (.tmp 7) (.tmp 21)) rfl ?_); refine storeN (w := w1) rfl 46 (.tmp 7) _ rfl g7 (runC L T) rfl rfl 46 _ Hb (by kernel_rfl) rfl (by rw [← Array.all_toList]; rfl) HBb Lg7 Kb ?_; intro Wc Hc HBc Kc; have HO7 := Aside0.mk (Kd.R_below HO5.out Kc.out); have Hc2 := Aside0.mk (show Wc.heap[g7]? = some (.cells #[.int .u8 L, .int .i64 T] 46 (0, 0)) from Hc.out)) | ((with_reducible refine gate_dst (N := 31) rfl ?_); refine wpList_load_row rfl 46 _ rfl g7 rfl 46 _ (0, 0) _ Hc2.out Tryd.underlying46 rfl (by kernel_rfl) ?_) | ((with_reducible refine gate_builtin (b := .append) (xs := #[.tmp 30, .tmp 32]) rfl ?_); refine appN (w := w1) k46 46 rfl (.tmp 30) (.tmp 32) 23 (.agg #[.int .u8 0, .int .i64 0]) 16 rfl Tryd.underlying23 (by kernel_rfl) rfl (by decide) (by decide) (⟨L, T⟩ : S46) [.int .u8 L, .int .i64 T] rfl rfl (k46_mkM _ _ _ ⟨L, T⟩) HO7 HBc (by omega) ?_; intro v1 W1 HO1 HBq _))
        exact ⟨⟨i + 1, xs ++ [⟨L, T⟩], HLT.out, by rw [Int.natCast_add]; rfl, by rw [List.length_append, HXL.out]; rfl, HI3, HO1, HBq.out⟩, by have := HLT.out; simp [intOf]; omega⟩
    · have m1 : decide ((i : Int) < (ps.length : Int)) = false := decide_eq_false (by omega)
      have m2 : decide (i < ps.length) = false := decide_eq_false hlt
      have hDs : D = some xs := by rw [← HI.out, List.drop_eq_nil_of_le (by omega)]; rfl
      subst hDs
      obtain ⟨t, ht⟩ := text_ok (k := KK) xs (by have := HXL.out; show xs.length + 40 ≤ 100500; omega) (by have := HXL.out; omega)
      have hE := HRR2.out
      dsimp only at hE
      rw [ht] at hE
      have hE2 : (if (t.toList == s.toList) = true then (xs, (0 : Int)) else ([], 30)) = (out, E) := hE
      obtain ⟨h1, h2, h3⟩ := Kd.R_reads' HO.out
      have HTX := Aside0.mk (wave_Wave_Text.calls KK A4 c4 xs t wr h3 h2 ht)
      obtain ⟨b, hb⟩ : ∃ b, (t.toList == s.toList) = b := ⟨_, rfl⟩
      have hbn : (t.toList != s.toList) = !b := by rw [← hb]; rfl
      rw [hb] at hE2
      have HE2 := Aside0.mk hE2
      clear hlt HI HRR2 hE hE2 ht h1 h2 h3
      go_wp2_with fail
      refine HTX.out.mono ?_
      rintro e w5 ⟨rfl, hb5⟩
      have HK5 := Aside0.mk (below_step HKr.out hb5)
      have HO5 := Aside0.mk (Kd.R_below HO.out hb5)
      clear hb5 HTX HO
      cases b
      · have hE := HE2.out
        rw [if_neg (by decide)] at hE
        simp only [Prod.mk.injEq] at hE
        obtain ⟨rfl, rfl⟩ := hE
        have hbt : (t.toList != s.toList) = true := hbn
        clear hbn HE2
        go_wp2_with fail
        go_ret2
        exact ⟨_, rfl, Kd.R_nil _ _ _ _ _, below_step HB1.out HK5.out⟩
      · have hE := HE2.out
        rw [if_pos rfl] at hE
        simp only [Prod.mk.injEq] at hE
        obtain ⟨rfl, rfl⟩ := hE
        have hbt : (t.toList != s.toList) = false := hbn
        clear hbn HE2
        go_wp2_with fail
        go_ret2
        exact ⟨_, rfl, Kd.R_lower HO5.out (below_size HB1.out), below_step HB1.out HK5.out⟩
end Go.Proofs.YtedjjodnceinlaaDoor.PWv
