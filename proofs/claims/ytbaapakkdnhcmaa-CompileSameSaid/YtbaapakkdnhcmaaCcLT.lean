/- The law CompileLoads: walk. Helper text. -/
import Derived.Test.YtbaapakkdnhcmaaCcP
import Derived.Test.YtbaapakkdnhcmaaCcL
import Derived.BigQuiet
import Derived.Test.YtbaapakkdnhcmaaCbWrd
namespace Go.Proofs.Ytbaapakkdnhcmaa.PWe
open Go.RowKit Go.Proofs.Ytbaapakkdnhcmaa.Kx Go.Proofs.YtbaapakkdnhcmaaW.PrintWords Go.Proofs.YtbaapakkdnhcmaaW.PrintLast Go.Proofs.YtbaapakkdnhcmaaW.PrintMore
set_option linter.unusedVariables false
set_option linter.unusedSimpArgs false

theorem exec_row {P : Program} {o : Oper} {a : Act} {W : World} (ty : TypeId) (x : Operand) (ho : o.op = .load ty x) (g : Nat) (hx : a.eval x = .pointer (some ⟨g, 0, none⟩)) (t : TypeId) (cs : Array Value) (d : TypeDesc) (hg : W.heap[g]? = some (.cells cs t (0, 0)))
    (hu : P.underlying ty = some d) (hd : (match d with | .struct _ | .array _ _ => true | _ => false) = true) (hi : (P.info? ty).map (·.size) = some cs.size) : (execOp a.eval o).run P W = .ok (.value (.agg cs)) W := by
  unfold execOp
  simp only [ho, hx, Instr.loadAt, Instr.sureAddr, Sem.run_bind, Sem.run_pure, Result.andThen_ok, run_loadVar_row W g t ty cs (0, 0) d hg hu hd hi]
theorem el8_at {w W : World} {A : Option Addr} {n : Nat} {Es : List El8} (h : Kd.C dE w A n Es) (hb : Below w.heap.size w W) {i : Nat} (hi : i < Es.length) (hn : i < n) {x : El8} (hx : Es[i] = x) : ∃ ad, A = some ad ∧ W.cell? (ad.add i) = some (.slice (some ⟨x.g, 0, none⟩) x.xs.length x.c) := by
  obtain ⟨ad, c, e, _, hK, hc⟩ := Kd.C_get h (El8.mk 0 0 []) (i : Int) (by omega) (by omega)
  refine ⟨ad, e, ?_⟩
  have hd : c = [El8.v (Es.getD i (El8.mk 0 0 []))] := by simpa [dE, Kd.scalar] using hK
  subst hd
  have h2 := hc 0 _ rfl
  have h3 : w.cell? (ad.add i) = some (El8.v (Es.getD i (El8.mk 0 0 []))) := by simpa [dE, Kd.scalar] using h2
  rw [List.getD_eq_getElem?_getD, List.getElem?_eq_getElem hi, Option.getD_some, hx] at h3
  exact (hb.cell (World.block_lt_of_cell? w _ h3)).trans h3
/-- Rows of a block from i on: the slots of V. -/
def RowsFrom (cs : Array Value) (V : List S47) (i : Nat) : Prop := ∀ (j : Nat) (s : S47), i ≤ j → V[j]? = some s → ∀ (k : Nat) (x : Value), (sltCs s)[k]? = some x → cs[j * 8 + k]? = some x
theorem RowsFrom.next {cs : Array Value} {V : List S47} {i : Nat} (h : RowsFrom cs V i) : RowsFrom cs V (i + 1) := fun j s hj => h j s (by omega)
theorem RowsFrom.set {cs : Array Value} {V : List S47} {i : Nat} (h : RowsFrom cs V i) (v : Value) : RowsFrom (cs.setIfInBounds (i * 8 + 4) v) V (i + 1) := fun j s hj hs k x hx => by
  have hk : k < 8 := (Array.getElem?_eq_some_iff.1 hx).1
  rw [Array.getElem?_setIfInBounds_ne (by omega)]
  exact h j s (by omega) hs k x hx
theorem rows_of {W : World} {base : Nat} {v : Value} {V : List S47} (h : Kd.R k47 64 W base (fun _ => True) v V) (hp : 0 < V.length) : ∃ g c cs, v = .slice (some ⟨g, 0, none⟩) V.length c ∧ W.heap[g]? = some (.cells cs 64 (0, 0)) ∧ base ≤ g ∧ RowsFrom cs V 0 := by
  obtain ⟨g, cap, e, hg, _, cs, hcs⟩ := Kd.R_form h hp
  subst e
  refine ⟨g, cap, cs, rfl, hcs, hg, fun j s _ hs k x hx => ?_⟩
  obtain ⟨hj, hsj⟩ := List.getElem?_eq_some_iff.1 hs
  have hk : k < 8 := (Array.getElem?_eq_some_iff.1 hx).1
  obtain ⟨ad, ha, x0, x1, x2, x3, x4, x5, x6, x7⟩ := slot_at (Kd.R_reads' h).2.2 (Below.refl _ _) hj hsj
  obtain rfl := Option.some.inj ha
  rw [Addr.add_lit, Nat.zero_add] at x0 x1 x2 x3 x4 x5 x6 x7
  rw [cell_in hcs] at x0 x1 x2 x3 x4 x5 x6 x7
  rcases (by omega : k = 0 ∨ k = 1 ∨ k = 2 ∨ k = 3 ∨ k = 4 ∨ k = 5 ∨ k = 6 ∨ k = 7) with rfl | rfl | rfl | rfl | rfl | rfl | rfl | rfl
  · exact x0.trans hx
  · exact x1.trans hx
  · exact x2.trans hx
  · exact x3.trans hx
  · exact x4.trans hx
  · exact x5.trans hx
  · exact x6.trans hx
  · exact x7.trans hx
theorem row_cells {W : World} {g : Nat} {cs : Array Value} {V : List S47} {i : Nat} {s : S47} (hg : W.heap[g]? = some (.cells cs 64 (0, 0))) (h : RowsFrom cs V i) (hs : V[i]? = some s) :
    W.cell? ⟨g, i * 8, none⟩ = some (.int .i64 s.f0) ∧ W.cell? ⟨g, i * 8 + 1, none⟩ = some (.int .i64 s.f1) ∧ W.cell? ⟨g, i * 8 + 2, none⟩ = some (.int .i64 s.f2) ∧ W.cell? ⟨g, i * 8 + 3, none⟩ = some (.int .i64 s.f3) ∧ W.cell? ⟨g, i * 8 + 4, none⟩ = some (.int .i64 s.f4) ∧ W.cell? ⟨g, i * 8 + 5, none⟩ = some (.int .i64 s.f5) ∧ W.cell? ⟨g, i * 8 + 6, none⟩ = some (.int .i64 s.f6) ∧ W.cell? ⟨g, i * 8 + 7, none⟩ = some (.bool s.f7) := by
  have H := h i s (Nat.le_refl _) hs
  exact ⟨(cell_in hg _).trans (H 0 _ rfl), (cell_in hg _).trans (H 1 _ rfl), (cell_in hg _).trans (H 2 _ rfl), (cell_in hg _).trans (H 3 _ rfl), (cell_in hg _).trans (H 4 _ rfl), (cell_in hg _).trans (H 5 _ rfl), (cell_in hg _).trans (H 6 _ rfl), (cell_in hg _).trans (H 7 _ rfl)⟩
theorem row_fixed {W : World} {g : Nat} {cs : Array Value} {V : List S47} {i : Nat} {s : S47} {v0 : Value} (hg : W.heap[g]? = some (.cells (cs.setIfInBounds (i * 8 + 4) v0) 64 (0, 0))) (h : RowsFrom cs V i) (hs : V[i]? = some s) :
    W.cell? ⟨g, i * 8, none⟩ = some (.int .i64 s.f0) ∧ W.cell? ⟨g, i * 8 + 1, none⟩ = some (.int .i64 s.f1) ∧ W.cell? ⟨g, i * 8 + 2, none⟩ = some (.int .i64 s.f2) ∧ W.cell? ⟨g, i * 8 + 3, none⟩ = some (.int .i64 s.f3) ∧ W.cell? ⟨g, i * 8 + 4, none⟩ = some v0 ∧ W.cell? ⟨g, i * 8 + 5, none⟩ = some (.int .i64 s.f5) ∧ W.cell? ⟨g, i * 8 + 6, none⟩ = some (.int .i64 s.f6) ∧ W.cell? ⟨g, i * 8 + 7, none⟩ = some (.bool s.f7) := by
  have H := h i s (Nat.le_refl _) hs
  have N : ∀ (k : Nat) (x : Value), k ≠ 4 → (sltCs s)[k]? = some x → W.cell? ⟨g, i * 8 + k, none⟩ = some x := fun k x hk hx => by
    rw [cell_in hg, Array.getElem?_setIfInBounds_ne (by omega)]
    exact H k x hx
  have h4 := (Array.getElem?_eq_some_iff.1 (H 4 _ rfl)).1
  refine ⟨N 0 _ (by decide) rfl, N 1 _ (by decide) rfl, N 2 _ (by decide) rfl, N 3 _ (by decide) rfl, ?_, N 5 _ (by decide) rfl, N 6 _ (by decide) rfl, N 7 _ (by decide) rfl⟩
  rw [cell_in hg, Array.getElem?_setIfInBounds_self_of_lt h4]
theorem few_or (l1 l2 : List S76) : fewP l1 l2 = 0 ∨ fewP l1 l2 = 1 := by
  unfold fewP
  split
  · split
    · exact .inr rfl
    · exact .inl rfl
  · exact .inl rfl
theorem few_fit {l1 l2 : List S76} (h : fewP l1 l2 = 1) : Fit l1 ∧ Fit l2 := by
  have ok : ∀ l : List S76, okF l = true → Fit l := fun l hl => by
    unfold okF at hl
    rw [Bool.and_eq_true, decide_eq_true_iff, List.all_eq_true] at hl
    refine ⟨by omega, fun x hx => ?_⟩
    have hw := hl.2 x hx
    unfold okW at hw
    rw [Bool.and_eq_true, decide_eq_true_iff, decide_eq_true_iff] at hw
    omega
  unfold fewP at h
  by_cases h1 : okF l1 = true
  · rw [if_pos h1] at h
    by_cases h2 : okF l2 = true
    · exact ⟨ok _ h1, ok _ h2⟩
    · rw [if_neg h2] at h; cases h
  · rw [if_neg h1] at h; cases h
theorem loadsT : rtab .any (opsOf Try.f5 16) = (true, [([], []), ([], []), ([1, 0], [0, 1]), ([2], [2]), ([3], [3]), ([], []), ([5], [5]), ([4, 6], [4, 6]), ([7], [7]), ([8], [8]), ([8], [8]), ([9, 10, 8, 8], [8, 9, 10]), ([8], [8]), ([8], [8]), ([12, 13, 11, 8], [8, 12, 13]), ([11, 14, 8], [8, 11, 14]), ([8, 15], [8, 15])]) := by kernel_rfl
def LdS (g1 g6 : Nat) (sc pc : Array Value) (y : Nat) (V : Value) (W : World) : Prop := W.cell? ⟨g6, y, none⟩ = some V ∧ W.heap[g1]? = some (.cells sc 43 (0, 0)) ∧ W.heap[g6]? = some (.cells pc 35 (0, 0))
set_option maxHeartbeats 4000000 in
set_option maxRecDepth 100000 in
/-- The law CompileLoads: true of every schedule. -/
theorem loads_calls (m : Int) (A1 A2 : Option Addr) (c1 c2 : Nat) (l1 l2 : List S76) (w : World) (hr1 : Kd.C k76 w A1 l1.length l1) (hc1 : l1.length ≤ c1) (hr2 : Kd.C k76 w A2 l2.length l2) (hc2 : l2.length ≤ c2) :
    Calls Try.prog 5 #[.agg #[.int .i64 m, .slice A1 l1.length c1, .slice A2 l2.length c2]] w fun e w' => e = .returned (.bool true) ∧ Below w.heap.size w w' := by
  have H1 := Aside0.mk hr1
  have H2 := Aside0.mk hr2
  have HB : Aside0 (Below w.heap.size w w) := ⟨Below.refl _ _⟩
  obtain ⟨fw, hfw⟩ : ∃ k, fewP l1 l2 = k := ⟨_, rfl⟩
  have HFW := Aside0.mk hfw
  have hfo := few_or l1 l2
  rw [hfw] at hfo
  clear hr1 hr2 hfw
  go_enter Try.func5, Try.ntmps5
  go_wp2_with (first | ((with_reducible refine gate_dst (N := 1) rfl ?_); refine boxN (w := w) rfl (N := 1) rfl (cs := #[.int .i64 m, .slice A1 l1.length c1, .slice A2 l2.length c2]) (t := 43) (by first | (go_simp; done) | (go_simp; rfl)) HB ?_; intro g1 Wa Ha Lg1 HBa Ka) | ((with_reducible refine gate_dst (N := 11) rfl ?_); refine wpList_load_row rfl 43 _ rfl g1 rfl 43 _ (0, 0) _ Ha.out Try.underlying43 rfl (by kernel_rfl) ?_))
  refine (few_calls m A1 A2 c1 c2 l1 l2 Wa (Kd.C_below H1.out HBa.out) (Kd.C_below H2.out HBa.out) HFW.out).mono ?_
  rintro e w1 ⟨rfl, hb1⟩
  have HB1 := Aside0.mk (below_step HBa.out hb1)
  have Hb1 := Aside0.mk (blk_below Ha.out hb1)
  clear hb1 Ha HBa Ka
  rcases hfo with rfl | rfl
  · go_wp2_with fail
    refine (one_calls _).mono ?_
    rintro e w2 ⟨rfl, hb2⟩
    have HB2 := Aside0.mk (below_step HB1.out hb2)
    clear hb2
    go_wp2_with fail
    go_ret
    exact ⟨rfl, HB2.out⟩
  obtain ⟨hf1, hf2⟩ := few_fit HFW.out
  have HF1 := Aside0.mk hf1
  have HF2 := Aside0.mk hf2
  obtain ⟨ck, hck⟩ : ∃ k, checkP m l1 l2 = k := ⟨_, rfl⟩
  have HCK := Aside0.mk hck
  obtain ⟨cv, cw, bad⟩ := ck
  clear hf1 hf2 hck
  go_wp2_with (first | ((with_reducible refine gate_dst (N := 15) rfl ?_); refine gate_guard (by rfl) ?_; dsimp only; refine wpList_load_row rfl 43 _ rfl g1 rfl 43 _ (0, 0) _ Hb1.out Try.underlying43 rfl (by kernel_rfl) ?_))
  refine (check_calls m A1 A2 c1 c2 l1 l2 w1 (Kd.C_below H1.out HB1.out) hc1 (Kd.C_below H2.out HB1.out) hc2 HF1.out HF2.out HCK.out).mono ?_
  rintro e w3 ⟨rfl, hb3⟩
  have HB3 := Aside0.mk (below_step HB1.out hb3)
  have Hb3 := Aside0.mk (blk_below Hb1.out hb3)
  clear hb3 Hb1 HB1
  unfold fltCs
  have hfld : (Instr.field 58 (.agg #[.int .i64 cv, .int .i64 cw, .int .i64 bad]) 2).run Try.prog w3 = .ok (.int .i64 bad) w3 := by rfl
  by_cases hbad : bad = 0
  rotate_left
  · have k0 : (bad != 0) = true := by simpa using hbad
    have k1 : (bad == 0) = false := by simpa using hbad
    clear hbad
    go_wp2_with fail
    refine (one_calls _).mono ?_
    rintro e w4 ⟨rfl, hb4⟩
    have HB4 := Aside0.mk (below_step HB3.out hb4)
    clear hb4
    go_wp2_with fail
    go_ret
    exact ⟨rfl, HB4.out⟩
  subst hbad
  have HC0 : Aside0 ((checkP m l1 l2).2.2 = 0) := ⟨by rw [HCK.out]⟩
  obtain ⟨⟨hm2, hm16⟩, ⟨hn1, hw1⟩, ⟨hn2, hw2⟩⟩ := check_ok HC0.out
  have HW1 := Aside0.mk hw1
  have HW2 := Aside0.mk hw2
  clear hw1 hw2
  go_wp2_with (first | ((with_reducible refine gate_dst (N := 22) rfl ?_); refine wpList_load_row rfl 43 _ rfl g1 rfl 43 _ (0, 0) _ Hb3.out Try.underlying43 rfl (by kernel_rfl) ?_))
  refine (all_calls m A1 A2 c1 c2 l1 l2 w3 (Kd.C_below H1.out HB3.out) hc1 (Kd.C_below H2.out HB3.out) hc2 HF1.out HF2.out HC0.out).mono ?_
  rintro e wA ⟨AE, cE, Es, rfl, hxs, hEs, hAt, hbA⟩
  have HEC := Aside0.mk (Kd.R_reads' hEs).2.2
  have HXS := Aside0.mk hxs
  have HAT := Aside0.mk hAt
  have HBA := Aside0.mk (below_step HB3.out hbA)
  have HbA := Aside0.mk (blk_below Hb3.out hbA)
  obtain ⟨M, rfl⟩ := Int.eq_ofNat_of_zero_le (show 0 ≤ m by omega)
  have hEM : Es.length = M := by have h := congrArg List.length hxs; rw [List.length_map, List.length_map, List.length_range, Int.toNat_natCast] at h; exact h
  have y0 : wA.cell? ⟨g1, 0, none⟩ = some (.int .i64 (M : Int)) := (cell_in HbA.out 0).trans rfl
  have HEM := Aside0.mk hEM
  rw [hEM]
  clear hEs hxs hAt hbA hEM hfld Hb3
  go_wp2_with fail
  go_loopw [5, 6, 7, 8, 9, 10] (fun v5 _ _ _ _ _ wr => ∃ j : Nat, j ≤ M ∧ v5 = .int .i64 (j : Int) ∧ Below wA.heap.size wA wr) (fun v5 _ _ _ _ _ _ => ((M : Int) - intOf v5).toNat)
  case atStart => exact ⟨0, Nat.zero_le _, rfl, Below.refl _ _⟩
  case round =>
    obtain ⟨j, hj, rfl, hb⟩ := hrel
    have HBr := Aside0.mk hb
    have Hbr := Aside0.mk (blk_below HbA.out hb)
    have yr : wr.cell? ⟨g1, 0, none⟩ = some (.int .i64 (M : Int)) := (cell_in Hbr.out 0).trans rfl
    clear hb y0
    by_cases hlt : j < M
    rotate_left
    · have d1 : decide ((j : Int) < (M : Int)) = false := decide_eq_false (by omega)
      have d2 : decide (j < M) = false := decide_eq_false hlt
      clear hlt
      go_wp2_with fail
      refine (one_calls _).mono ?_
      rintro e w4 ⟨rfl, hb4⟩
      have HB4 := Aside0.mk (below_step HBA.out (below_step HBr.out hb4))
      clear hb4
      go_wp2_with fail
      go_ret
      exact ⟨rfl, HB4.out⟩
    have d1 : decide ((j : Int) < (M : Int)) = true := decide_eq_true (by omega)
    have d2 : decide (j < M) = true := decide_eq_true hlt
    have q1 : (0 ≤ (j : Int)) = True := eq_true (by omega)
    have q2 : ((j : Int) < (M : Int)) = True := eq_true (by omega)
    have q3 : (j < M) = True := eq_true hlt
    have hjE : j < Es.length := by rw [HEM.out]; exact hlt
    obtain ⟨x, hx⟩ : ∃ x, Es[j] = x := ⟨_, rfl⟩
    obtain ⟨ad, hA, hce⟩ := el8_at HEC.out HBr.out hjE hjE hx
    subst hA
    have hxat : x.At wr := (HAT.out x (by rw [← hx]; exact List.getElem_mem hjE)).below HBr.out
    have hxx : x.xs = tabP l1 l2 j := by
      have h := congrArg (fun l => l[j]?) HXS.out
      simp only [List.getElem?_map, List.getElem?_eq_getElem hjE, Option.map_some, hx, Int.toNat_natCast, List.getElem?_range hlt] at h
      exact Option.some.inj h
    obtain ⟨_, htb, htl⟩ := tab_ok HC0.out (show 0 ≤ (j : Int) by omega) (show (j : Int) < (M : Int) by omega)
    have hxb : Byts x.xs := by rw [hxx]; exact put_byts htb
    have hxl : x.xs.length ≤ 100000 := by rw [hxx]; unfold tabP; rw [put_length]; omega
    obtain ⟨V0, hV0⟩ : ∃ V, viewV (j : Int) 0 l1 = V := ⟨_, rfl⟩
    obtain ⟨V1, hV1⟩ : ∃ V, viewV (j : Int) 1 l2 = V := ⟨_, rfl⟩
    obtain ⟨P0, hP0⟩ : ∃ P, V0.map fixA = P := ⟨_, rfl⟩
    obtain ⟨P1, hP1⟩ : ∃ P, V1.map fixA = P := ⟨_, rfl⟩
    have hld : loadP x.xs = (((j : Int), P0, P1), 0) := by rw [hxx, load_tab HC0.out (by omega), hV0, hV1, hP0, hP1]
    have hl0 : P0.length = V0.length := by rw [← hP0, List.length_map]
    have hl1 : P1.length = V1.length := by rw [← hP1, List.length_map]
    have hs0 : SFit P0 := by rw [← hP0, ← hV0]; exact view_fit hn1 (by omega)
    have hs1 : SFit P1 := by rw [← hP1, ← hV1]; exact view_fit hn2 (by omega)
    have hu0 : sumL P0 = 320 + 40 * 0 + ticksL l1 := by rw [← hP0, ← hV0]; exact viewV_sum (fun y hy => wnd_kind (HW1.out y hy))
    have hu1 : sumL P1 = 320 + 40 * 1 + ticksL l2 := by rw [← hP1, ← hV1]; exact viewV_sum (fun y hy => wnd_kind (HW2.out y hy))
    have HV0 := Aside0.mk hV0
    have HV1 := Aside0.mk hV1
    have HP0 := Aside0.mk hP0
    have HP1 := Aside0.mk hP1
    have HL0 := Aside0.mk hl0
    have HL1 := Aside0.mk hl1
    have HS0 := Aside0.mk hs0
    have HS1 := Aside0.mk hs1
    have HU0 := Aside0.mk hu0
    have HU1 := Aside0.mk hu1
    have HLD := Aside0.mk hld
    have HXAT := Aside0.mk hxat
    have HXB := Aside0.mk hxb
    have HXL := Aside0.mk hxl
    have HLT := Aside0.mk hlt
    clear hx hjE hxx htb htl hV0 hV1 hP0 hP1 hl0 hl1 hs0 hs1 hu0 hu1 hld hxat hxb hxl hlt
    go_wp2_with fail
    refine (load_calls (some ⟨x.g, 0, none⟩) x.c x.xs wr (HXAT.out.C (by have := HXL.out; omega)) HXAT.out.1 HXB.out HXL.out HLD.out).mono ?_
    rintro e w5 ⟨D0, e0, D1, e1, rfl, ⟨p01, p02⟩, ⟨p11, p12⟩, hb5⟩
    dsimp only at p01 p02 p11 p12 ⊢
    rw [HL0.out] at p01 p02
    rw [HL1.out] at p11 p12
    rw [HL0.out, HL1.out]
    have HP02 := Aside0.mk p02
    have HP12 := Aside0.mk p12
    have HB5 := Aside0.mk (below_step HBr.out hb5)
    clear p02 p12 hb5 hce yr
    go_wp2_with (first | ((with_reducible refine gate_dst (N := 6) rfl ?_); refine boxN (w := wA) rfl (N := 6) rfl (cs := prgCs 0 none 0 0 none 0 0) (t := 35) (by first | (go_simp; done) | (go_simp; rfl)) HB5 ?_; intro g6 Wb Hb Lg6 HBb Kb) | ((with_reducible refine gate_ (.store 35 (.tmp 6) (.tmp 47)) rfl ?_); refine storeN (w := wA) rfl 35 (.tmp 6) _ rfl g6 (prgCs (j : Int) D0 V0.length e0 D1 V1.length e1) rfl rfl 35 _ Hb (by kernel_rfl) rfl (by rw [← Array.all_toList]; rfl) HBb Lg6 Kb ?_; intro Wc Hc HBc Kc; have z0 : Wc.cell? ⟨g6, 0, none⟩ = some (.int .i64 (j : Int)) := (cell_in Hc.out 0).trans rfl))
    go_loopw [8, 9, 10] (fun v8 _ _ wi => ∃ v : Int, (0 ≤ v ∧ v ≤ 2) ∧ v8 = .int .i64 v ∧ Below Wc.heap.size Wc wi) (fun v8 _ _ _ => (2 - intOf v8).toNat)
    case atStart => exact ⟨0, by omega, rfl, Below.refl _ _⟩
    case round =>
      obtain ⟨v, hv02, rfl, hbi⟩ := hrel
      have HBi := Aside0.mk (below_step HBc.out hbi)
      have HKi := Aside0.mk hbi
      clear hbi z0
      by_cases hv2 : v < 2
      rotate_left
      · have d3 : decide (v < 2) = false := decide_eq_false hv2
        clear hv2
        go_wp2_with fail
        exact ⟨⟨j + 1, by have := HLT.out; omega, by simp, HBi.out⟩, by have := HLT.out; simp [intOf]; omega⟩
      have hv0 : 0 ≤ v := hv02.1
      obtain ⟨V, PV, L, A, c, hcx, hCP, hVV, hPV, hLe, hL, hLf, hsum, hll⟩ : ∃ V PV L A c, (prgCs (j : Int) D0 V0.length e0 D1 V1.length e1)[1 + v.toNat]? = some (.slice A V.length c) ∧ Kd.C k47 w5 A PV.length PV ∧ viewV (j : Int) v L = V ∧ V.map fixA = PV ∧ PV.length = V.length ∧ (if v = 0 then l1 else l2) = L ∧ Fit L ∧ longQ v P0 P1 = 320 + 40 * v + ticksL L ∧ L.length ≤ 32 := by
        rcases (by omega : v = 0 ∨ v = 1) with rfl | rfl
        · exact ⟨V0, P0, l1, D0, e0, rfl, by rw [HL0.out]; exact HP02.out, HV0.out, HP0.out, HL0.out, rfl, HF1.out, HU0.out, hn1⟩
        · exact ⟨V1, P1, l2, D1, e1, rfl, by rw [HL1.out]; exact HP12.out, HV1.out, HP1.out, HL1.out, rfl, HF2.out, HU1.out, hn2⟩
      have HCX := Aside0.mk hcx
      have HCP := Aside0.mk (Kd.C_below (Kd.C_below hCP Kc.out) HKi.out)
      have HVV := Aside0.mk hVV
      have HPV := Aside0.mk hPV
      have HLE := Aside0.mk hLe
      have HL := Aside0.mk hL
      have HLF := Aside0.mk hLf
      have HSM := Aside0.mk hsum
      have hVp : 0 < V.length := by rw [← hVV]; unfold viewV; exact Nat.succ_pos _
      have hVm : V.length ≤ 40 := by rw [← hVV]; unfold viewV; rw [List.length_cons]; have := viewL_len (j : Int) L (200 + 40 * v); omega
      have Hbi := Aside0.mk (blk_below HbA.out HBi.out)
      have Hci := Aside0.mk (blk_below Hc.out HKi.out)
      clear hcx hCP hVV hPV hLe hL hLf hsum
      have d3 : decide (v < 2) = true := decide_eq_true hv2
      go_wp2_with (first | ((with_reducible refine gate_dst (N := 61) rfl ?_); refine wpList_load_row rfl 43 _ rfl g1 rfl 43 _ (0, 0) _ Hbi.out Try.underlying43 rfl (by kernel_rfl) ?_))
      refine (view_calls (M : Int) A1 A2 c1 c2 l1 l2 L v (j : Int) wr (Kd.C_below H1.out (below_step HBA.out HBi.out)) hc1 (Kd.C_below H2.out (below_step HBA.out HBi.out)) hc2 hv0 hv2 HL.out HLF.out).mono ?_
      rintro e w7 ⟨v9, rfl, h9, hb7⟩
      have h9' : Kd.R k47 64 w7 wr.heap.size (fun _ => True) v9 V := by rw [← HVV.out]; exact h9
      obtain ⟨gW, cW, csW, e9, hgW, hgb, hrows⟩ := rows_of h9' hVp
      subst e9
      have HGW := Aside0.mk hgW
      have HROW := Aside0.mk hrows
      have HC7 := Aside0.mk (Kd.C_below HCP.out hb7)
      have HB7 := Aside0.mk (below_step HBi.out hb7)
      have HK7 : Aside0 (Below w7.heap.size w7 w7) := ⟨Below.refl _ _⟩
      have HR7 := Aside0.mk hb7
      have Hs7 := Aside0.mk (blk_below Hbi.out hb7)
      have Hp7 := Aside0.mk (blk_below Hci.out hb7)
      have HS : Aside0 (∀ W', Below w7.heap.size w7 W' → LdS g1 g6 #[.int .i64 (M : Int), .slice A1 l1.length c1, .slice A2 l2.length c2] (prgCs (j : Int) D0 V0.length e0 D1 V1.length e1) (1 + v.toNat) (.slice A V.length c) W') := ⟨fun W' hb => ⟨(cell_in (blk_below Hp7.out hb) _).trans HCX.out, blk_below Hs7.out hb, blk_below Hp7.out hb⟩⟩
      have B1 : Aside0 (∀ W, Below w7.heap.size w7 W → Calls Try.prog 22 #[.agg (prgCs (j : Int) D0 V0.length e0 D1 V1.length e1), .int .i64 v] W fun e w' => e = .returned (.int .i64 (320 + 40 * v + ticksL L)) ∧ Below W.heap.size W w') := ⟨fun W hb => by
        have h := long_calls (j : Int) D0 e0 P0 D1 e1 P1 v W (by rw [HL0.out]; exact Kd.C_below (Kd.C_below (Kd.C_below (Kd.C_below HP02.out Kc.out) HKi.out) hb7) hb) (by rw [HL1.out]; exact Kd.C_below (Kd.C_below (Kd.C_below (Kd.C_below HP12.out Kc.out) HKi.out) hb7) hb) HS0.out HS1.out HSM.out
        rw [HL0.out, HL1.out] at h
        exact h⟩
      have B2 : Aside0 (∀ W, Below w7.heap.size w7 W → Calls Try.prog 23 #[.agg #[.int .i64 (M : Int), .slice A1 l1.length c1, .slice A2 l2.length c2], .int .i64 v] W fun e w' => e = .returned (.int .i64 (320 + 40 * v + ticksL L)) ∧ Below W.heap.size W w') := ⟨fun W hb => frame_calls (M : Int) A1 A2 c1 c2 l1 l2 L v W (Kd.C_below H1.out (below_step HBA.out (below_step HB7.out hb))) hc1 (Kd.C_below H2.out (below_step HBA.out (below_step HB7.out hb))) hc2 hv0 hv2 HL.out HLF.out⟩
      obtain ⟨T, hT⟩ : ∃ T, 320 + 40 * v + ticksL L = T := ⟨_, rfl⟩
      rw [hT] at B1 B2
      clear h9 h9' hgW hrows hb7 hT
      have e33 := Try.underlying33
      have a0 : decide (0 ≤ v) = true := decide_eq_true hv0
      have a1 := eq_true hv0
      have a2 := eq_true hv2
      go_wp2_with fail
      refine startD 17 loadsT HS HK7 (fun W4 HT B4 K4 => ?_)
      refine pureD 0 (some 65) (lb 17 0x1) HT ?_
      refine pureD 1 (some 66) (lb 17 0x3) HT ?_
      refine pureD 2 (some 67) (lb 17 0x7) HT ?_
      refine takeD 3 (some 68) (lb 17 0xf) HT HS B4 ?_ (hy := Or.inl ⟨by rfl, by intro w' hs; unfold LdS at hs; obtain ⟨s0, s1, s2⟩ := hs; go_simp; with_reducible rfl⟩)
      refine pureD 4 (some 69) (lb 17 0x1f) HT ?_
      refine pureD 5 (some 70) (lb 17 0x3f) HT ?_
      refine pureD 6 (some 71) (lb 17 0x7f) HT ?_
      refine pureD 7 (some 72) (lb 17 0xff) HT (v := .bool false) ?_ (hy := Or.inl ⟨by rfl, by intro w'; go_simp⟩)
      refine pureD 8 (some 73) (lb 17 0x1ff) HT ?_
      refine takeD 9 (some 74) (lb 17 0x3ff) HT HS B4 ?_ (hy := Or.inl ⟨by rfl, by intro w' hs; unfold LdS at hs; obtain ⟨s0, s1, s2⟩ := hs; exact exec_row 35 _ rfl g6 rfl 35 (prgCs (j : Int) D0 V0.length e0 D1 V1.length e1) _ s2 Try.underlying35 rfl (by kernel_rfl)⟩)
      refine pureD 10 (some 75) (lb 17 0x7ff) HT ?_
      refine takeD 12 (some 77) (lb 17 0x17ff) HT HS B4 ?_ (hy := Or.inl ⟨by rfl, by intro w' hs; unfold LdS at hs; obtain ⟨s0, s1, s2⟩ := hs; exact exec_row 43 _ rfl g1 rfl 43 #[.int .i64 (M : Int), .slice A1 l1.length c1, .slice A2 l2.length c2] _ s1 Try.underlying43 rfl (by kernel_rfl)⟩)
      refine pureD 13 (some 78) (lb 17 0x37ff) HT ?_
      refine oneD 11 (some 76) (lb 17 0x3fff) HT (fun K hK => ?_)
      refine callK hK HS B4 Try.func22 (B1.out _ B4.out) (fun W5 B5 K5 => ?_)
      refine oneD 14 (some 79) (lb 17 0x7fff) HT (fun K hK => ?_)
      refine callK hK HS B5 Try.func23 (B2.out _ B5.out) (fun W6 B6 K6 => ?_)
      refine pureD 15 (some 80) (lb 17 0xffff) HT (v := .bool false) ?_ (hy := Or.inl ⟨by rfl, by intro w'; go_simp⟩)
      refine pureD 16 (some 81) (lb 17 0x1ffff) HT (v := .bool false) ?_ (hy := Or.inl ⟨by rfl, by intro w'; go_simp⟩)
      refine doneD HT ?_
      clear HT
      have HC6 := Aside0.mk (Kd.C_below HC7.out B6.out)
      have HG6 := Aside0.mk (blk_below HGW.out B6.out)
      have HB6 := Aside0.mk (below_step HB7.out B6.out)
      have Hp6 := Aside0.mk (blk_below Hp7.out B6.out)
      have hgW0 : wr.heap.size ≤ gW := hgb
      have HLG : Aside0 (wr.heap.size ≤ gW) := ⟨hgb⟩
      have HWB : Aside0 (Below wr.heap.size wr W6) := ⟨below_step HR7.out B6.out⟩
      have a3 : ((0 : Int) ≤ v) = True := eq_true hv0
      clear HG6 B1 B2 HS
      go_wp2_with fail
      go_loopw [10] (fun v10 wk => ∃ (i : Nat) (cs : Array Value), i ≤ V.length ∧ v10 = .int .i64 (i : Int) ∧ wk.heap[gW]? = some (.cells cs 64 (0, 0)) ∧ RowsFrom cs V i ∧ Below wr.heap.size wr wk) (fun v10 _ => ((V.length : Int) - intOf v10).toNat)
      case atStart => exact ⟨0, csW, Nat.zero_le _, rfl, blk_below HGW.out B6.out, HROW.out, HWB.out⟩
      case round =>
        obtain ⟨i, cs, hi, rfl, hgk, hrk, hbk⟩ := hrel
        have HGK := Aside0.mk hgk
        have HRK := Aside0.mk hrk
        have HBK := Aside0.mk hbk
        have yx : wr.cell? ⟨g6, 1 + v.toNat, none⟩ = some (.slice A V.length c) := (cell_in (blk_below Hci.out hbk) _).trans HCX.out
        clear hgk hrk hbk
        by_cases hi2 : i < V.length
        rotate_left
        · have b1 : decide ((i : Int) < (V.length : Int)) = false := decide_eq_false (by omega)
          have b2 : decide (i < V.length) = false := decide_eq_false hi2
          clear hi2
          go_wp2_with fail
          exact ⟨⟨v + 1, by omega, by (first | rfl | simp), below_step HKi.out HBK.out⟩, by simp [intOf]; omega⟩
        have b1 : decide ((i : Int) < (V.length : Int)) = true := decide_eq_true (by omega)
        have b2 : decide (i < V.length) = true := decide_eq_true hi2
        have p1 : (0 ≤ (i : Int)) = True := eq_true (by omega)
        have p2 : ((i : Int) < (V.length : Int)) = True := eq_true (by omega)
        have p3 : (i < V.length) = True := eq_true hi2
        obtain ⟨s, hs⟩ : ∃ s, V[i] = s := ⟨_, rfl⟩
        have hs2 : V[i]? = some s := by rw [List.getElem?_eq_getElem hi2, hs]
        have hPi : i < PV.length := by rw [HLE.out]; exact hi2
        have hPs : PV[i] = fixA s := by
          have h := congrArg (fun l => l[i]?) HPV.out
          simp only [List.getElem?_map, hs2, Option.map_some, List.getElem?_eq_getElem hPi] at h
          exact (Option.some.inj h).symm
        obtain ⟨adP, hadP, z0, z1, z2, z3, z4, z5, z6, z7⟩ := slot_at HCP.out HBK.out hPi hPs
        subst hadP
        obtain ⟨x0, x1, x2, x3, x4, x5, x6, x7⟩ := row_cells HGK.out HRK.out hs2
        obtain ⟨a0_, a1_, a2_, a3_, a4_, a5_, a6_, a7_⟩ := s
        dsimp only at x0 x1 x2 x3 x4 x5 x6 x7
        have hnil : (⟨gW, 0, none⟩ : Addr).add (i * 8) = ⟨gW, i * 8, none⟩ := by rw [Addr.add_lit, Nat.zero_add]
        have HI2 := Aside0.mk hi2
        have HS2 := Aside0.mk hs2
        clear hs hi2 hs2
        by_cases h6 : a6_ < 0
        · have k6 : decide (a6_ < 0) = true := decide_eq_true h6
          have K6' := Aside0.mk h6
          clear h6
          cases a7_
          · have hfx : fixA ⟨a0_, a1_, a2_, a3_, a4_, a5_, a6_, false⟩ = ⟨a0_, a1_, a2_, a3_, 0, a5_, a6_, false⟩ := by unfold fixA; rw [if_pos ⟨K6'.out, rfl⟩]
            have f4 : wr.frozen? ⟨gW, i * 8 + 4, none⟩ = false := free_in HGK.out _
            have HSF := Aside0.mk hfx
            clear hfx z0 z1 z2 z3 z4 z5 z6 z7
            go_wp2_with (first | ((with_reducible refine gate_ (.store 3 (.tmp 105) (.const (.int .i64 0))) rfl ?_); go_loud (refine storeCellN rfl rfl 3 (.tmp 105) (.const (.int .i64 0)) rfl gW (i * 8 + 4) (.int .i64 0) HGK (by first | (go_simp; done) | (go_simp; rfl)) HBK HLG ?_; intro W3 HG3 HB3 HO3; clear x0 x1 x2 x3 x4 x5 x6 x7 yx f4; have yx : W3.cell? ⟨g6, 1 + v.toNat, none⟩ = some (.slice (some adP) V.length c) := (cell_in (blk_below Hci.out HB3.out) _).trans HCX.out; obtain ⟨x0, x1, x2, x3, x4, x5, x6, x7⟩ := row_fixed HG3.out HRK.out HS2.out; dsimp only at x0 x1 x2 x3 x4 x5 x6 x7; obtain ⟨adQ, hadQ, z0, z1, z2, z3, z4, z5, z6, z7⟩ := slot_at HCP.out HB3.out hPi hPs; have hq := Option.some.inj hadQ; subst hq; rw [HSF.out] at z0 z1 z2 z3 z4 z5 z6 z7; dsimp only at z0 z1 z2 z3 z4 z5 z6 z7; clear hPi hPs)))
            go_quiet (fail)
            go_wp2_with fail
            exact ⟨⟨i + 1, _, by have := HI2.out; omega, by simp, blk_below HG3.out (below_drewN (Below.refl _ _) nq), HRK.out.set _, below_drewN HB3.out nq⟩, by have := HI2.out; simp [intOf]; omega⟩
          · have hfx : fixA ⟨a0_, a1_, a2_, a3_, a4_, a5_, a6_, true⟩ = ⟨a0_, a1_, a2_, a3_, a4_, a5_, a6_, true⟩ := by unfold fixA; rw [if_neg (fun hh => by cases hh.2)]
            rw [hfx] at z0 z1 z2 z3 z4 z5 z6 z7
            dsimp only at z0 z1 z2 z3 z4 z5 z6 z7
            clear hfx hPi hPs
            go_wp2_with fail
            go_quiet (fail)
            go_wp2_with fail
            exact ⟨⟨i + 1, cs, by have := HI2.out; omega, by simp, blk_below HGK.out (below_drewN (Below.refl _ _) nq), HRK.out.next, below_drewN HBK.out nq⟩, by have := HI2.out; simp [intOf]; omega⟩
        · have k6 : decide (a6_ < 0) = false := decide_eq_false h6
          have hfx : fixA ⟨a0_, a1_, a2_, a3_, a4_, a5_, a6_, a7_⟩ = ⟨a0_, a1_, a2_, a3_, a4_, a5_, a6_, a7_⟩ := by unfold fixA; rw [if_neg (fun hh => h6 hh.1)]
          rw [hfx] at z0 z1 z2 z3 z4 z5 z6 z7
          dsimp only at z0 z1 z2 z3 z4 z5 z6 z7
          clear h6 hfx hPi hPs
          go_wp2_with fail
          go_quiet (fail)
          go_wp2_with fail
          exact ⟨⟨i + 1, cs, by have := HI2.out; omega, by simp, blk_below HGK.out (below_drewN (Below.refl _ _) nq), HRK.out.next, below_drewN HBK.out nq⟩, by have := HI2.out; simp [intOf]; omega⟩
theorem loads_row (x : Sch) (w : World) (hx : Kd.C k76 w x.A0 x.l0.length x.l0 ∧ Kd.C k76 w x.A1 x.l1.length x.l1 ∧ x.l0.length ≤ x.c0 ∧ x.l1.length ≤ x.c1) :
    Calls Try.prog 5 #[.agg x.arr] w fun e w' => e = .returned (.bool true) ∧ Below w.heap.size w w' :=
  loads_calls x.md x.A0 x.A1 x.c0 x.c1 x.l0 x.l1 w hx.1 hx.2.2.1 hx.2.1 hx.2.2.2
end Go.Proofs.Ytbaapakkdnhcmaa.PWe
namespace Go.Proofs.Ytbaapakkdnhcmaa.PWe
open Go.RowKit Go.Proofs.Ytbaapakkdnhcmaa.Kx Go.Proofs.YtbaapakkdnhcmaaW.PrintWords Go.Proofs.YtbaapakkdnhcmaaW.PrintLast Go.Proofs.YtbaapakkdnhcmaaW.PrintMore
set_option linter.unusedVariables false
set_option linter.unusedSimpArgs false

set_option maxHeartbeats 4000000 in
set_option maxRecDepth 100000 in
theorem grows_calls (n : Nat) (w : World) (hn : n ≤ 1000000) :
    Calls Try.prog 99 #[.slice none 0 0, .int .i64 (n : Int)] w fun e w' => ∃ v, e = .returned v ∧ Kd.R k47 64 w' w.heap.size (fun _ => True) v [] ∧ Below w.heap.size w w' := by
  have HB : Aside0 (Below w.heap.size w w) := ⟨Below.refl _ _⟩
  have h0 : decide ((n : Int) < 0) = false := decide_eq_false (by omega)
  have w0 : wrap64 ((n : Int) - 0) = (n : Int) := by unfold wrap64; omega
  by_cases hp : 0 < n
  · have h1 : decide (0 < (n : Int)) = true := decide_eq_true (by omega)
    have h2 : decide (0 < n) = true := decide_eq_true hp
    clear hp
    go_enter Try.func99, Try.ntmps99
    go_wp2_with (first | ((with_reducible refine gate_builtin (b := .append) (xs := #[.tmp 20, .tmp 21]) rfl ?_); at_builtin; refine Kd.R_append_zeros k47 (w0 := w) w.heap.size rfl (.tmp 20) (.tmp 21) 30 3 64 (.agg #[.int .i64 0, .int .i64 0, .int .i64 0, .int .i64 0, .int .i64 0, .int .i64 0, .int .i64 0, .bool false]) 64 rfl Try.underlying30 Try.underlying3 info64 rfl (by decide) (by decide) (.slice none 0 0) [] z47 (n : Int) (fun _ => True) rfl rfl (k47_mkM _ _ _ z47) (fun _ _ => trivial) (Kd.R_nil _ _ _ _ _) (by omega) HB.out (Nat.le_refl _) (by simp; omega) ?_; intro v1 w1 hr1 hb1 _ _; obtain ⟨A1, c1, e1⟩ := Kd.R_slice hr1; subst e1; have HR1 := Aside0.mk hr1; have HB1 := Aside0.mk hb1; clear hr1 hb1))
    go_ret
    exact ⟨_, rfl, Kd.R_take HR1.out (m := 0) (Nat.zero_le _), HB1.out⟩
  · have hn0 : n = 0 := by omega
    subst hn0
    clear hp
    go_enter Try.func99, Try.ntmps99
    go_wp2_with fail
    go_ret
    exact ⟨_, rfl, Kd.R_nil _ _ _ _ _, HB.out⟩
def slvs (x : Option Addr × Nat × List S47) : Value := .slice x.1 x.2.2.length x.2.1
theorem cats_sum : ∀ (E : List (Option Addr × Nat × List S47)) (i : Nat), i < E.length → ((E.take i).flatMap (·.2.2)).length + (E[i]!).2.2.length = ((E.take (i + 1)).flatMap (·.2.2)).length
  | [], i, h => by cases h
  | x :: r, 0, h => by simp
  | x :: r, i + 1, h => by
    have hr := cats_sum r i (by simpa using h)
    simp only [List.take_succ_cons, List.flatMap_cons, List.length_append, List.getElem!_cons_succ] at hr ⊢
    omega
theorem cats_le : ∀ (E : List (Option Addr × Nat × List S47)) (i : Nat), ((E.take i).flatMap (·.2.2)).length ≤ (E.flatMap (·.2.2)).length
  | [], i => by simp
  | x :: r, 0 => by simp
  | x :: r, i + 1 => by
    have hr := cats_le r i
    simp only [List.take_succ_cons, List.flatMap_cons, List.length_append] at hr ⊢
    omega
set_option maxHeartbeats 4000000 in
set_option maxRecDepth 100000 in
theorem concats_calls (Es : List (Option Addr × Nat × List S47)) (g c : Nat) (w : World) {t : TypeId} (hg : w.heap[g]? = some (.cells (Es.map slvs).toArray t (0, 0))) (hC : ∀ x ∈ Es, Kd.C k47 w x.1 x.2.2.length x.2.2) (hl : (Es.flatMap (·.2.2)).length ≤ 100000) (hE : Es.length ≤ 1000) {R : List S47} (hR : Es.flatMap (·.2.2) = R) :
    Calls Try.prog 62 #[.slice (some ⟨g, 0, none⟩) Es.length c] w fun e w' => ∃ v, e = .returned v ∧ Kd.R k47 64 w' w.heap.size (fun _ => True) v R ∧ Below w.heap.size w w' := by
  have HG := Aside0.mk hg
  have HC := Aside0.mk hC
  have HR := Aside0.mk hR
  have HL := Aside0.mk hl
  have HB : Aside0 (Below w.heap.size w w) := ⟨Below.refl _ _⟩
  clear hg hC hl hR
  go_enter Try.func62, Try.ntmps62
  go_wp2_with fail
  go_loopw [3, 5, 11] (fun v3 _ v11 wr => ∃ i : Nat, i ≤ Es.length ∧ v11 = .int .i64 (i : Int) ∧ v3 = .int .i64 ((((Es.take i).flatMap (·.2.2)).length : Nat) : Int) ∧ Below w.heap.size w wr) (fun _ _ v11 _ => ((Es.length : Int) - intOf v11).toNat)
  case atStart => exact ⟨0, Nat.zero_le _, rfl, by simp, Below.refl _ _⟩
  case round =>
    obtain ⟨i, hi, rfl, rfl, hb⟩ := hrel
    have HBr := Aside0.mk hb
    clear hb
    obtain ⟨s, hs⟩ : ∃ s, ((Es.take i).flatMap (·.2.2)).length = s := ⟨_, rfl⟩
    have hsl : s ≤ 100000 := by rw [← hs]; exact Nat.le_trans (cats_le Es i) HL.out
    rw [hs]
    have HS := Aside0.mk hs
    clear hs
    by_cases hlt : i < Es.length
    · have m1 : decide ((i : Int) < (Es.length : Int)) = true := decide_eq_true (by omega)
      have m2 : decide (i < Es.length) = true := decide_eq_true hlt
      have q1 : (0 ≤ (i : Int)) = True := eq_true (by omega)
      have q2 : ((i : Int) < (Es.length : Int)) = True := eq_true (by omega)
      have q3 : (i < Es.length) = True := eq_true hlt
      obtain ⟨x, hx⟩ : ∃ x, Es[i] = x := ⟨_, rfl⟩
      have x0 : wr.cell? ⟨g, i, none⟩ = some (.slice x.1 x.2.2.length x.2.1) := by
        rw [cell_in (blk_below HG.out HBr.out) i, List.getElem?_toArray, List.getElem?_map, List.getElem?_eq_getElem hlt, hx]
        rfl
      have hnil : (⟨g, 0, none⟩ : Addr).add i = ⟨g, i, none⟩ := by rw [Addr.add_lit, Nat.zero_add]
      obtain ⟨A, cx, xs⟩ := x
      dsimp only at x0
      have hsum := cats_sum Es i hlt
      rw [HS.out, getElem!_pos Es i hlt, hx] at hsum
      dsimp only at hsum
      have hle := Nat.le_trans (cats_le Es (i + 1)) HL.out
      have HSUM := Aside0.mk hsum
      have w0 : wrap64 ((s : Int) + (xs.length : Int)) = ((s + xs.length : Nat) : Int) := by unfold wrap64; omega
      have n0 : decide (((s + xs.length : Nat) : Int) < 0) = false := decide_eq_false (by omega)
      have n1 : decide ((s : Int) + (xs.length : Int) < 0) = false := decide_eq_false (by omega)
      have HLT := Aside0.mk hlt
      have W1 : Aside0 (wrap64 ((s : Int) + (xs.length : Int)) = (s : Int) + (xs.length : Int)) := ⟨by unfold wrap64; omega⟩
      clear hx hlt hsum hle
      go_wp2_with fail
      exact ⟨⟨i + 1, by have := HLT.out; omega, by simp, by rw [← HSUM.out, Int.natCast_add]; first | rfl | (simp; rw [W1.out]) | simp, HBr.out⟩, by have := HLT.out; simp [intOf]; omega⟩
    · have m1 : decide ((i : Int) < (Es.length : Int)) = false := decide_eq_false (by omega)
      have m2 : decide (i < Es.length) = false := decide_eq_false hlt
      have HIE : Aside0 (i = Es.length) := ⟨by omega⟩
      clear hlt
      go_wp2_with fail
      refine (grows_calls s wr (by omega)).mono ?_
      rintro e w2 ⟨v, rfl, hr2, hb2⟩
      have HR2 := Aside0.mk (Kd.R_lower hr2 (below_size HBr.out))
      have HB2 := Aside0.mk (below_step HBr.out hb2)
      obtain ⟨A2, c2, e2⟩ := Kd.R_slice hr2
      subst e2
      clear hr2 hb2
      go_wp2_with fail
      go_loopw [6, 8, 27] (fun v6 _ v27 wr => ∃ (i : Nat) (ys : List S47), i ≤ Es.length ∧ v27 = .int .i64 (i : Int) ∧ Aside0 (ys = (Es.take i).flatMap (·.2.2)) ∧ Kd.R k47 64 wr w.heap.size (fun _ => True) v6 ys ∧ Below w.heap.size w wr) (fun _ _ v27 _ => ((Es.length : Int) - intOf v27).toNat)
      case atStart => exact ⟨0, [], Nat.zero_le _, rfl, ⟨by simp⟩, HR2.out, HB2.out⟩
      case round =>
        obtain ⟨j, ys, hj, rfl, HY, ho, hb⟩ := hrel
        obtain ⟨A1, c1, e1⟩ := Kd.R_slice ho
        subst e1
        have HO := Aside0.mk ho
        have HBj := Aside0.mk hb
        have hyl : ys.length ≤ 100000 := by rw [HY.out]; exact Nat.le_trans (cats_le Es j) HL.out
        clear ho hb
        by_cases hlt : j < Es.length
        · have m1 : decide ((j : Int) < (Es.length : Int)) = true := decide_eq_true (by omega)
          have m2 : decide (j < Es.length) = true := decide_eq_true hlt
          have q1 : (0 ≤ (j : Int)) = True := eq_true (by omega)
          have q2 : ((j : Int) < (Es.length : Int)) = True := eq_true (by omega)
          have q3 : (j < Es.length) = True := eq_true hlt
          obtain ⟨x, hx⟩ : ∃ x, Es[j] = x := ⟨_, rfl⟩
          have x0 : wr.cell? ⟨g, j, none⟩ = some (.slice x.1 x.2.2.length x.2.1) := by
            rw [cell_in (blk_below HG.out HBj.out) j, List.getElem?_toArray, List.getElem?_map, List.getElem?_eq_getElem hlt, hx]
            rfl
          have hnil : (⟨g, 0, none⟩ : Addr).add j = ⟨g, j, none⟩ := by rw [Addr.add_lit, Nat.zero_add]
          have hxm : x ∈ Es := by rw [← hx]; exact List.getElem_mem hlt
          have hcx := Kd.C_below (HC.out x hxm) HBj.out
          obtain ⟨A, cx, xs⟩ := x
          dsimp only at x0 hcx
          have HCX := Aside0.mk hcx
          have hnew : ys ++ xs = (Es.take (j + 1)).flatMap (·.2.2) := by
            rw [HY.out, List.take_add_one, List.getElem?_eq_getElem hlt, hx]
            simp
          have hnl : ys.length + xs.length ≤ 100000 := by
            have h := Nat.le_trans (cats_le Es (j + 1)) HL.out
            rw [← hnew, List.length_append] at h
            exact h
          have HNEW := Aside0.mk hnew
          have HLT := Aside0.mk hlt
          clear hx hlt hxm hcx hnew
          go_wp2_with (first | ((with_reducible refine gate_builtin (b := .append) (xs := #[.tmp 31, .tmp 32]) rfl ?_); at_builtin; (refine Kd.R_append_rows k47 (w0 := w) w.heap.size rfl (.tmp 31) (.tmp 32) 30 64 (.agg #[.int .i64 0, .int .i64 0, .int .i64 0, .int .i64 0, .int .i64 0, .int .i64 0, .int .i64 0, .bool false]) 64 rfl Try.underlying30 info64 rfl (by decide) (by decide) _ ys xs A _ cx (fun _ => True) (fun _ => False) rfl rfl HO.out HCX.out (fun _ _ h => h) (fun _ h => h.elim) (fun _ _ => trivial) HBj.out (below_size HBj.out) (by first | omega | (simp; omega)) ?_; intro v8 W8 h8 hb8 hg8 _; have HO8 := Aside0.mk h8; have HB8 := Aside0.mk hb8; clear h8 hb8 hg8)))
          exact ⟨⟨j + 1, ys ++ xs, by have := HLT.out; omega, by simp, HNEW, HO8.out, HB8.out⟩, by have := HLT.out; simp [intOf]; omega⟩
        · have m1 : decide ((j : Int) < (Es.length : Int)) = false := decide_eq_false (by omega)
          have m2 : decide (j < Es.length) = false := decide_eq_false hlt
          have hfin : ys = R := by rw [HY.out, List.take_of_length_le (by omega), HR.out]
          have HFIN := Aside0.mk hfin
          clear hlt hfin
          go_wp2_with fail
          go_ret
          exact ⟨_, rfl, HFIN.out ▸ HO.out, HBj.out⟩
end Go.Proofs.Ytbaapakkdnhcmaa.PWe
namespace Go.Proofs.Ytbaapakkdnhcmaa.PWe
open Go.RowKit Go.Proofs.Ytbaapakkdnhcmaa.Kx Go.Proofs.YtbaapakkdnhcmaaW.PrintWords Go.Proofs.YtbaapakkdnhcmaaW.PrintLast Go.Proofs.YtbaapakkdnhcmaaW.PrintMore
set_option linter.unusedVariables false
set_option linter.unusedSimpArgs false

set_option maxHeartbeats 4000000 in
set_option maxRecDepth 100000 in
theorem eqs_calls (A1 A2 : Option Addr) (c1 c2 : Nat) (L : List S47) (w : World) (h1 : Kd.C k47 w A1 L.length L) (h2 : Kd.C k47 w A2 L.length L) (hm : L.length ≤ 1000) :
    Calls Try.prog 61 #[.slice A1 L.length c1, .slice A2 L.length c2] w fun e w' => e = .returned (.bool true) ∧ Below w.heap.size w w' := by
  have H1 := Aside0.mk h1
  have H2 := Aside0.mk h2
  clear h1 h2
  go_enter Try.func61, Try.ntmps61
  go_wp2_with fail
  go_loopw [5, 13] (fun _ v13 wr => ∃ i : Nat, i ≤ L.length ∧ v13 = .int .i64 (i : Int) ∧ Below w.heap.size w wr) (fun _ v13 _ => ((L.length : Int) - intOf v13).toNat)
  case atStart => exact ⟨0, Nat.zero_le _, rfl, Below.refl _ _⟩
  case round =>
    obtain ⟨i, hi, rfl, hb⟩ := hrel
    have HBr := Aside0.mk hb
    clear hb
    by_cases hlt : i < L.length
    · have m1 : decide ((i : Int) < (L.length : Int)) = true := decide_eq_true (by omega)
      have m2 : decide (i < L.length) = true := decide_eq_true hlt
      have q1 : (0 ≤ (i : Int)) = True := eq_true (by omega)
      have q2 : ((i : Int) < (L.length : Int)) = True := eq_true (by omega)
      have q3 : (i < L.length) = True := eq_true hlt
      obtain ⟨x, hx⟩ : ∃ x, L[i] = x := ⟨_, rfl⟩
      obtain ⟨ad, hA, x0, x1, x2, x3, x4, x5, x6, x7⟩ := slot_at H1.out HBr.out hlt hx
      obtain ⟨ae, hE, z0, z1, z2, z3, z4, z5, z6, z7⟩ := slot_at H2.out HBr.out hlt hx
      subst hA hE
      have HLT := Aside0.mk hlt
      clear hx hlt
      go_wp2_with fail
      go_quiet (fail)
      go_wp2_with fail
      exact ⟨⟨i + 1, by have := HLT.out; omega, by simp, below_drewN HBr.out nq⟩, by have := HLT.out; simp [intOf]; omega⟩
    · have m1 : decide ((i : Int) < (L.length : Int)) = false := decide_eq_false (by omega)
      have m2 : decide (i < L.length) = false := decide_eq_false hlt
      clear hlt
      go_wp2_with fail
      go_ret
      exact ⟨rfl, HBr.out⟩
set_option maxHeartbeats 4000000 in
set_option maxRecDepth 100000 in
/-- Programs of modules that are not the same one are not the same. -/
theorem psame_ne (m1 m2 : Int) (a0 a1 b0 b1 : Option Addr) (n0 c0 n1 c1 k0 d0 k1 d1 : Nat) (w : World) (hne : m1 ≠ m2) :
    Calls Try.prog 24 #[.agg (prgCs m1 a0 n0 c0 a1 n1 c1), .agg (prgCs m2 b0 k0 d0 b1 k1 d1)] w fun e w' => e = .returned (.bool false) ∧ Below w.heap.size w w' := by
  have HB : Aside0 (Below w.heap.size w w) := ⟨Below.refl _ _⟩
  have k1_ : (m1 == m2) = false := by rw [beq_eq_false_iff_ne]; exact hne
  have k2_ : decide (m1 = m2) = false := decide_eq_false hne
  clear hne
  unfold prgCs
  go_enter Try.func24, Try.ntmps24
  go_wp2_with (first | ((with_reducible refine gate_dst (N := 2) rfl ?_); refine boxN (w := w) rfl (N := 2) rfl (cs := prgCs m1 a0 n0 c0 a1 n1 c1) (t := 35) (by first | (go_simp; done) | (go_simp; rfl)) HB ?_; intro g2 Wa Ha Lg2 HBa Ka) | ((with_reducible refine gate_dst (N := 3) rfl ?_); refine boxN (w := w) rfl (N := 3) rfl (cs := prgCs m2 b0 k0 d0 b1 k1 d1) (t := 35) (by first | (go_simp; done) | (go_simp; rfl)) HBa ?_; intro g3 Wb Hb Lg3 HBb Kb; have y0 : Wb.cell? ⟨g2, 0, none⟩ = some (.int .i64 m1) := (cell_in (blk_below Ha.out Kb.out) 0).trans rfl; have z0 : Wb.cell? ⟨g3, 0, none⟩ = some (.int .i64 m2) := (cell_in Hb.out 0).trans rfl))
  go_ret
  exact ⟨rfl, HBb.out⟩
set_option maxHeartbeats 4000000 in
set_option maxRecDepth 100000 in
/-- Programs with the same slots are the same. -/
theorem psame_eq (m : Int) (a0 a1 b0 b1 : Option Addr) (c0 c1 d0 d1 : Nat) (L0 L1 : List S47) (w : World) (h0 : Kd.C k47 w a0 L0.length L0) (h1 : Kd.C k47 w a1 L1.length L1) (g0 : Kd.C k47 w b0 L0.length L0) (g1 : Kd.C k47 w b1 L1.length L1) (hl0 : L0.length ≤ 1000) (hl1 : L1.length ≤ 1000) :
    Calls Try.prog 24 #[.agg (prgCs m a0 L0.length c0 a1 L1.length c1), .agg (prgCs m b0 L0.length d0 b1 L1.length d1)] w fun e w' => e = .returned (.bool true) ∧ Below w.heap.size w w' := by
  have HB : Aside0 (Below w.heap.size w w) := ⟨Below.refl _ _⟩
  have H0 := Aside0.mk h0
  have H1 := Aside0.mk h1
  have G0 := Aside0.mk g0
  have G1 := Aside0.mk g1
  have e33 := Try.underlying33
  clear h0 h1 g0 g1
  unfold prgCs
  go_enter Try.func24, Try.ntmps24
  go_wp2_with (first | ((with_reducible refine gate_dst (N := 2) rfl ?_); refine boxN (w := w) rfl (N := 2) rfl (cs := prgCs m a0 L0.length c0 a1 L1.length c1) (t := 35) (by first | (go_simp; done) | (go_simp; rfl)) HB ?_; intro g2 Wa Ha Lg2 HBa Ka) | ((with_reducible refine gate_dst (N := 3) rfl ?_); refine boxN (w := w) rfl (N := 3) rfl (cs := prgCs m b0 L0.length d0 b1 L1.length d1) (t := 35) (by first | (go_simp; done) | (go_simp; rfl)) HBa ?_; intro g3 Wb Hb Lg3 HBb Kb; have Hab := Aside0.mk (blk_below Ha.out Kb.out); have y0 : Wb.cell? ⟨g2, 0, none⟩ = some (.int .i64 m) := (cell_in Hab.out 0).trans rfl; have z0 : Wb.cell? ⟨g3, 0, none⟩ = some (.int .i64 m) := (cell_in Hb.out 0).trans rfl; have y1 : Wb.cell? ⟨g2, 1, none⟩ = some (.slice a0 L0.length c0) := (cell_in Hab.out 1).trans rfl; have z1 : Wb.cell? ⟨g3, 1, none⟩ = some (.slice b0 L0.length d0) := (cell_in Hb.out 1).trans rfl))
  refine (eqs_calls a0 b0 c0 d0 L0 Wb (Kd.C_below H0.out HBb.out) (Kd.C_below G0.out HBb.out) hl0).mono ?_
  rintro e w2 ⟨rfl, hb2⟩
  have HB2 := Aside0.mk (below_step HBb.out hb2)
  have y2 : w2.cell? ⟨g2, 1 + 1, none⟩ = some (.slice a1 L1.length c1) := (cell_in (blk_below Hab.out hb2) 2).trans rfl
  have z2 : w2.cell? ⟨g3, 1 + 1, none⟩ = some (.slice b1 L1.length d1) := (cell_in (blk_below Hb.out hb2) 2).trans rfl
  clear hb2 y0 z0 y1 z1
  go_wp2_with fail
  refine (eqs_calls a1 b1 c1 d1 L1 w2 (Kd.C_below H1.out HB2.out) (Kd.C_below G1.out HB2.out) hl1).mono ?_
  rintro e w3 ⟨rfl, hb3⟩
  have HB3 := Aside0.mk (below_step HB2.out hb3)
  clear hb3
  go_wp2_with fail
  go_ret
  exact ⟨rfl, HB3.out⟩
/-- How many slots of a kind. -/
def cntL (k : Int) : List S47 → Int
  | [] => 0
  | x :: r => (if x.f0 = k then 1 else 0) + cntL k r
theorem cntL_bd (k : Int) : ∀ L : List S47, 0 ≤ cntL k L ∧ cntL k L ≤ L.length
  | [] => by unfold cntL; simp
  | x :: r => by
    have := cntL_bd k r
    rw [cntL, List.length_cons]
    split <;> omega
theorem cntL_app (k : Int) : ∀ (L M : List S47), cntL k (L ++ M) = cntL k L + cntL k M
  | [], M => by simp [cntL]
  | x :: r, M => by rw [List.cons_append, cntL, cntL, cntL_app k r M]; omega
def doesQ (v k : Int) (L0 L1 : List S47) : Int := if v = 0 then cntL k L0 else if v = 1 then cntL k L1 else 0
set_option maxHeartbeats 4000000 in
set_option maxRecDepth 100000 in
theorem does_calls (md : Int) (A0 : Option Addr) (c0 : Nat) (L0 : List S47) (A1 : Option Addr) (c1 : Nat) (L1 : List S47) (v k : Int) (w : World) (hr0 : Kd.C k47 w A0 L0.length L0) (hr1 : Kd.C k47 w A1 L1.length L1) (hl0 : L0.length ≤ 1000) (hl1 : L1.length ≤ 1000) {r : Int} (hr : doesQ v k L0 L1 = r) :
    Calls Try.prog 26 #[.agg (prgCs md A0 L0.length c0 A1 L1.length c1), .int .i64 v, .int .i64 k] w fun e w' => e = .returned (.int .i64 r) ∧ Below w.heap.size w w' := by
  have HB : Aside0 (Below w.heap.size w w) := ⟨Below.refl _ _⟩
  have HR := Aside0.mk hr
  have e33 := Try.underlying33
  by_cases hv : v = 0 ∨ v = 1
  rotate_left
  · have e0 : (0 : Int) = r := by rw [← hr, doesQ, if_neg (fun h => hv (.inl h)), if_neg (fun h => hv (.inr h))]
    have HE := Aside0.mk e0
    clear hr HR e0 hr0 hr1 hl0 hl1
    by_cases h0 : 0 ≤ v
    · have d0 : decide (0 ≤ v) = true := decide_eq_true h0
      have d1 : decide (v < 2) = false := decide_eq_false (by omega)
      clear hv h0
      unfold prgCs
      go_enter Try.func26, Try.ntmps26
      go_wp2_with (first | ((with_reducible refine gate_dst (N := 3) rfl ?_); refine boxN (w := w) rfl (N := 3) rfl (cs := prgCs md A0 L0.length c0 A1 L1.length c1) (t := 35) (by first | (go_simp; done) | (go_simp; rfl)) HB ?_; intro g2 Wa Ha Lg2 HBa Ka))
      go_ret
      exact ⟨by rw [← HE.out]; rfl, HBa.out⟩
    · have d0 : decide (0 ≤ v) = false := decide_eq_false h0
      clear hv h0
      unfold prgCs
      go_enter Try.func26, Try.ntmps26
      go_wp2_with (first | ((with_reducible refine gate_dst (N := 3) rfl ?_); refine boxN (w := w) rfl (N := 3) rfl (cs := prgCs md A0 L0.length c0 A1 L1.length c1) (t := 35) (by first | (go_simp; done) | (go_simp; rfl)) HB ?_; intro g2 Wa Ha Lg2 HBa Ka))
      go_ret
      exact ⟨by rw [← HE.out]; rfl, HBa.out⟩
  obtain ⟨A, c, L, hLC, hfL, hcx, hL⟩ : ∃ A c L, Kd.C k47 w A L.length L ∧ L.length ≤ 1000 ∧ (prgCs md A0 L0.length c0 A1 L1.length c1)[1 + v.toNat]? = some (.slice A L.length c) ∧ cntL k L = r := by
    rcases hv with rfl | rfl
    · exact ⟨A0, c0, L0, hr0, hl0, rfl, by rw [← hr]; rfl⟩
    · exact ⟨A1, c1, L1, hr1, hl1, rfl, by rw [← hr]; rfl⟩
  have HLC := Aside0.mk hLC
  have HCX := Aside0.mk hcx
  have HL := Aside0.mk hL
  have hv0 : 0 ≤ v := by omega
  have hv1 : v < 2 := by omega
  have d0 : decide (0 ≤ v) = true := decide_eq_true hv0
  have d1 : decide (v < 2) = true := decide_eq_true hv1
  have p1 := eq_true hv0
  have p2 := eq_true hv1
  clear hr HR hr0 hr1 hl0 hl1 hLC hcx hL hv
  unfold prgCs
  go_enter Try.func26, Try.ntmps26
  go_wp2_with (first | ((with_reducible refine gate_dst (N := 3) rfl ?_); refine boxN (w := w) rfl (N := 3) rfl (cs := prgCs md A0 L0.length c0 A1 L1.length c1) (t := 35) (by first | (go_simp; done) | (go_simp; rfl)) HB ?_; intro g2 Wa Ha Lg2 HBa Ka; have y0 : Wa.cell? ⟨g2, 1 + v.toNat, none⟩ = some (.slice A L.length c) := (cell_in Ha.out _).trans HCX.out))
  go_loopw [7, 9, 21] (fun v5 _ v19 wr => ∃ (i : Nat) (acc : Int), i ≤ L.length ∧ v19 = .int .i64 (i : Int) ∧ v5 = .int .i64 acc ∧ (0 ≤ acc ∧ acc ≤ (i : Int)) ∧ Aside0 (acc + cntL k (L.drop i) = r) ∧ Below w.heap.size w wr) (fun _ _ v19 _ => ((L.length : Int) - intOf v19).toNat)
  case atStart => exact ⟨0, 0, Nat.zero_le _, rfl, rfl, by omega, ⟨by rw [List.drop_zero, Int.zero_add]; exact HL.out⟩, HBa.out⟩
  case round =>
    obtain ⟨i, acc, hi, rfl, rfl, hac, HS, hb⟩ := hrel
    have HBr := Aside0.mk hb
    clear hb
    by_cases hlt : i < L.length
    · have m1 : decide ((i : Int) < (L.length : Int)) = true := decide_eq_true (by omega)
      have m2 : decide (i < L.length) = true := decide_eq_true hlt
      have q1 : (0 ≤ (i : Int)) = True := eq_true (by omega)
      have q2 : ((i : Int) < (L.length : Int)) = True := eq_true (by omega)
      have q3 : (i < L.length) = True := eq_true hlt
      obtain ⟨x, hx⟩ : ∃ x, L[i] = x := ⟨_, rfl⟩
      obtain ⟨ad, hA, x0, x1, x2, x3, x4, x5, x6, x7⟩ := slot_at HLC.out HBr.out hlt hx
      subst hA
      have HNEW : Aside0 ((acc + (if x.f0 = k then 1 else 0)) + cntL k (L.drop (i + 1)) = r) := ⟨by have h := HS.out; rw [List.drop_eq_getElem_cons hlt, hx, cntL] at h; omega⟩
      have HLT := Aside0.mk hlt
      have w0 : wrap64 (acc + 1) = acc + 1 := by unfold wrap64; omega
      clear hx HS hlt
      by_cases hk : x.f0 = k
      · have k1 : (x.f0 == k) = true := by simpa using hk
        have k2 : decide (x.f0 = k) = true := decide_eq_true hk
        rw [if_pos hk] at HNEW
        clear hk
        go_wp2_with (first | ((with_reducible refine gate_dst (N := 9) rfl ?_); refine boxN (w := w) rfl (N := 9) rfl (cs := #[.int .i64 0, .int .i64 0, .int .i64 0, .int .i64 0, .int .i64 0, .int .i64 0, .int .i64 0, .bool false]) (t := 64) (by first | (go_simp; done) | (go_simp; rfl)) HBr ?_; intro ga Wb Hb Lga HBb Kb) | ((with_reducible refine gate_ (.store 64 (.tmp 9) (.tmp 24)) rfl ?_); refine storeN (w := w) rfl 64 _ _ rfl ga (sltCs x) rfl rfl 64 _ Hb (by kernel_rfl) rfl (by rw [← Array.all_toList]; rfl) HBb Lga Kb ?_; intro Wc Hc HBc Kc; have z2 : Wc.cell? ⟨ga, 0, none⟩ = some (.int .i64 x.f0) := (cell_in Hc.out 0).trans rfl))
        exact ⟨⟨i + 1, acc + 1, by have := HLT.out; omega, by simp, rfl, by omega, HNEW, HBc.out⟩, by have := HLT.out; simp [intOf]; omega⟩
      · have k1 : (x.f0 == k) = false := by rw [beq_eq_false_iff_ne]; exact hk
        have k2 : decide (x.f0 = k) = false := decide_eq_false hk
        rw [if_neg hk, Int.add_zero] at HNEW
        clear hk
        go_wp2_with (first | ((with_reducible refine gate_dst (N := 9) rfl ?_); refine boxN (w := w) rfl (N := 9) rfl (cs := #[.int .i64 0, .int .i64 0, .int .i64 0, .int .i64 0, .int .i64 0, .int .i64 0, .int .i64 0, .bool false]) (t := 64) (by first | (go_simp; done) | (go_simp; rfl)) HBr ?_; intro ga Wb Hb Lga HBb Kb) | ((with_reducible refine gate_ (.store 64 (.tmp 9) (.tmp 24)) rfl ?_); refine storeN (w := w) rfl 64 _ _ rfl ga (sltCs x) rfl rfl 64 _ Hb (by kernel_rfl) rfl (by rw [← Array.all_toList]; rfl) HBb Lga Kb ?_; intro Wc Hc HBc Kc; have z2 : Wc.cell? ⟨ga, 0, none⟩ = some (.int .i64 x.f0) := (cell_in Hc.out 0).trans rfl))
        exact ⟨⟨i + 1, acc, by have := HLT.out; omega, by simp, rfl, by omega, HNEW, HBc.out⟩, by have := HLT.out; simp [intOf]; omega⟩
    · have m1 : decide ((i : Int) < (L.length : Int)) = false := decide_eq_false (by omega)
      have m2 : decide (i < L.length) = false := decide_eq_false hlt
      have hfin : acc = r := by have h := HS.out; rw [List.drop_eq_nil_of_le (by omega), cntL] at h; omega
      have HFIN := Aside0.mk hfin
      clear HS hlt hfin
      go_wp2_with fail
      go_ret
      exact ⟨by rw [← HFIN.out]; rfl, HBr.out⟩
/-- Does a slot send, or take? -/
def sndX (x : S47) : Bool := decide (x.f0 = 0) && decide (0 ≤ x.f6)
def tkeX (x : S47) : Bool := decide (x.f0 = 0) && x.f7
set_option maxHeartbeats 4000000 in
set_option maxRecDepth 100000 in
theorem talks_calls (md : Int) (A0 : Option Addr) (c0 : Nat) (L0 : List S47) (A1 : Option Addr) (c1 : Nat) (L1 : List S47) (w : World) (hr0 : Kd.C k47 w A0 L0.length L0) (hr1 : Kd.C k47 w A1 L1.length L1) (hl0 : L0.length ≤ 1000) (hl1 : L1.length ≤ 1000) {s u : Bool} (hs : (L0 ++ L1).any sndX = s) (hu : (L0 ++ L1).any tkeX = u) :
    Calls Try.prog 25 #[.agg (prgCs md A0 L0.length c0 A1 L1.length c1)] w fun e w' => e = .returned (.tuple #[.bool s, .bool u]) ∧ Below w.heap.size w w' := by
  have HB : Aside0 (Below w.heap.size w w) := ⟨Below.refl _ _⟩
  have H0 := Aside0.mk hr0
  have H1 := Aside0.mk hr1
  have HS := Aside0.mk hs
  have HU := Aside0.mk hu
  have e33 := Try.underlying33
  clear hr0 hr1 hs hu
  unfold prgCs
  go_enter Try.func25, Try.ntmps25
  go_wp2_with (first | ((with_reducible refine gate_dst (N := 1) rfl ?_); refine boxN (w := w) rfl (N := 1) rfl (cs := prgCs md A0 L0.length c0 A1 L1.length c1) (t := 35) (by first | (go_simp; done) | (go_simp; rfl)) HB ?_; intro g1 Wa Ha Lg1 HBa Ka; have y1 : Wa.cell? ⟨g1, 1, none⟩ = some (.slice A0 L0.length c0) := (cell_in Ha.out 1).trans rfl; have y2 : Wa.cell? ⟨g1, 1 + 1, none⟩ = some (.slice A1 L1.length c1) := (cell_in Ha.out 2).trans rfl) | ((with_reducible refine gate_dst (N := 12) rfl ?_); refine litW (w := w) rfl (N := 12) rfl #[.slice A0 L0.length c0, .slice A1 L1.length c1] 30 2 (by first | (go_simp; done) | (go_simp; rfl)) HBa ?_; intro g9 W9 H9 Lg9 HB9 K9))
  refine (concats_calls [(A0, c0, L0), (A1, c1, L1)] g9 2 W9 H9.out (fun x hx => by
    simp only [List.mem_cons, List.not_mem_nil, or_false] at hx
    rcases hx with rfl | rfl
    · exact Kd.C_below H0.out HB9.out
    · exact Kd.C_below H1.out HB9.out) (by simp; omega) (by simp) (R := L0 ++ L1) (by simp)).mono ?_
  rintro e w10 ⟨v10, rfl, h10, hb10⟩
  obtain ⟨A, c, e10⟩ := Kd.R_slice h10
  subst e10
  obtain ⟨L, hL⟩ : ∃ L, L0 ++ L1 = L := ⟨_, rfl⟩
  have hLl : L.length ≤ 2000 := by rw [← hL, List.length_append]; omega
  rw [hL] at h10 HS HU ⊢
  have HC := Aside0.mk (Kd.R_reads' h10).2.2
  have HB10 := Aside0.mk (below_step HB9.out hb10)
  clear h10 hb10 y1 y2 hL
  go_wp2_with fail
  go_loopw [2, 3, 5, 15] (fun v2 v3 _ v15 wr => ∃ (i : Nat) (s' u' : Bool), i ≤ L.length ∧ v15 = .int .i64 (i : Int) ∧ v2 = .bool s' ∧ v3 = .bool u' ∧ Aside0 ((s' || (L.drop i).any sndX) = s) ∧ Aside0 ((u' || (L.drop i).any tkeX) = u) ∧ Below w10.heap.size w10 wr) (fun _ _ _ v15 _ => ((L.length : Int) - intOf v15).toNat)
  case atStart => exact ⟨0, false, false, Nat.zero_le _, rfl, rfl, rfl, ⟨by rw [List.drop_zero, Bool.false_or]; exact HS.out⟩, ⟨by rw [List.drop_zero, Bool.false_or]; exact HU.out⟩, Below.refl _ _⟩
  case round =>
    obtain ⟨i, s', u', hi, rfl, rfl, rfl, HSi, HUi, hb⟩ := hrel
    have HBr := Aside0.mk hb
    clear hb
    by_cases hlt : i < L.length
    rotate_left
    · have m1 : decide ((i : Int) < (L.length : Int)) = false := decide_eq_false (by omega)
      have m2 : decide (i < L.length) = false := decide_eq_false hlt
      have HF1 : Aside0 (s' = s) := ⟨by have h := HSi.out; rw [List.drop_eq_nil_of_le (by omega)] at h; simpa using h⟩
      have HF2 : Aside0 (u' = u) := ⟨by have h := HUi.out; rw [List.drop_eq_nil_of_le (by omega)] at h; simpa using h⟩
      clear hlt
      go_wp2_with fail
      go_ret2
      exact ⟨by rw [← HF1.out, ← HF2.out]; rfl, below_step HB10.out HBr.out⟩
    have m1 : decide ((i : Int) < (L.length : Int)) = true := decide_eq_true (by omega)
    have m2 : decide (i < L.length) = true := decide_eq_true hlt
    have q1 : (0 ≤ (i : Int)) = True := eq_true (by omega)
    have q2 : ((i : Int) < (L.length : Int)) = True := eq_true (by omega)
    have q3 : (i < L.length) = True := eq_true hlt
    obtain ⟨x, hx⟩ : ∃ x, L[i] = x := ⟨_, rfl⟩
    obtain ⟨ad, hA, x0, x1, x2, x3, x4, x5, x6, x7⟩ := slot_at HC.out HBr.out hlt hx
    subst hA
    have HNS : Aside0 (((s' || sndX x) || (L.drop (i + 1)).any sndX) = s) := ⟨by have h := HSi.out; rw [List.drop_eq_getElem_cons hlt, hx, List.any_cons, ← Bool.or_assoc] at h; exact h⟩
    have HNU : Aside0 (((u' || tkeX x) || (L.drop (i + 1)).any tkeX) = u) := ⟨by have h := HUi.out; rw [List.drop_eq_getElem_cons hlt, hx, List.any_cons, ← Bool.or_assoc] at h; exact h⟩
    have HLT := Aside0.mk hlt
    clear hx HSi HUi hlt
    by_cases hk : x.f0 = 0
    rotate_left
    · have k1 : (x.f0 == 0) = false := by rw [beq_eq_false_iff_ne]; exact hk
      have k2 : decide (x.f0 = 0) = false := decide_eq_false hk
      have hsx : sndX x = false := by unfold sndX; rw [k2]; rfl
      have htx : tkeX x = false := by unfold tkeX; rw [k2]; rfl
      rw [hsx, Bool.or_false] at HNS
      rw [htx, Bool.or_false] at HNU
      clear hk hsx htx
      go_wp2_with (first | ((with_reducible refine gate_dst (N := 5) rfl ?_); refine boxN (w := w10) rfl (N := 5) rfl (cs := #[.int .i64 0, .int .i64 0, .int .i64 0, .int .i64 0, .int .i64 0, .int .i64 0, .int .i64 0, .bool false]) (t := 64) (by first | (go_simp; done) | (go_simp; rfl)) HBr ?_; intro ga Wb Hb Lga HBb Kb) | ((with_reducible refine gate_ (.store 64 (.tmp 5) (.tmp 18)) rfl ?_); refine storeN (w := w10) rfl 64 _ _ rfl ga (sltCs x) rfl rfl 64 _ Hb (by kernel_rfl) rfl (by rw [← Array.all_toList]; rfl) HBb Lga Kb ?_; intro Wc Hc HBc Kc; have z0 : Wc.cell? ⟨ga, 0, none⟩ = some (.int .i64 x.f0) := (cell_in Hc.out 0).trans rfl))
      exact ⟨⟨i + 1, s', u', by have := HLT.out; omega, by simp, rfl, rfl, HNS, HNU, HBc.out⟩, by have := HLT.out; simp [intOf]; omega⟩
    have k1 : (x.f0 == 0) = true := by simpa using hk
    have k2 : decide (x.f0 = 0) = true := decide_eq_true hk
    obtain ⟨d6, hd6⟩ : ∃ b, decide (0 ≤ x.f6) = b := ⟨_, rfl⟩
    obtain ⟨d7, hd7⟩ : ∃ b, x.f7 = b := ⟨_, rfl⟩
    have hsx : sndX x = d6 := by unfold sndX; rw [k2, hd6]; rfl
    have htx : tkeX x = d7 := by unfold tkeX; rw [k2, hd7]; rfl
    have HD7 := Aside0.mk hd7
    have HD6 := Aside0.mk hd6
    rw [hsx] at HNS
    rw [htx] at HNU
    clear hk hsx htx hd6 hd7
    go_wp2_with (first | ((with_reducible refine gate_dst (N := 5) rfl ?_); refine boxN (w := w10) rfl (N := 5) rfl (cs := #[.int .i64 0, .int .i64 0, .int .i64 0, .int .i64 0, .int .i64 0, .int .i64 0, .int .i64 0, .bool false]) (t := 64) (by first | (go_simp; done) | (go_simp; rfl)) HBr ?_; intro ga Wb Hb Lga HBb Kb) | ((with_reducible refine gate_ (.store 64 (.tmp 5) (.tmp 18)) rfl ?_); refine storeN (w := w10) rfl 64 _ _ rfl ga (sltCs x) rfl rfl 64 _ Hb (by kernel_rfl) rfl (by rw [← Array.all_toList]; rfl) HBb Lga Kb ?_; intro Wc Hc HBc Kc; have z0 : Wc.cell? ⟨ga, 0, none⟩ = some (.int .i64 x.f0) := (cell_in Hc.out 0).trans rfl; have z6 : Wc.cell? ⟨ga, 6, none⟩ = some (.int .i64 x.f6) := (cell_in Hc.out 6).trans rfl; have z7 : Wc.cell? ⟨ga, 7, none⟩ = some (.bool d7) := (cell_in Hc.out 7).trans (by rw [← HD7.out]; rfl)))
    have hd6 := HD6.out
    clear x0 x1 x2 x3 x4 x5 x6 x7
    cases s' <;> cases u' <;> cases d6 <;> cases d7 <;> (go_quiet (fail); go_wp2_with fail; exact ⟨⟨i + 1, _, _, by have := HLT.out; omega, by simp, rfl, rfl, HNS, HNU, below_drewN HBc.out nq⟩, by have := HLT.out; simp [intOf]; omega⟩)
end Go.Proofs.Ytbaapakkdnhcmaa.PWe
namespace Go.Proofs.Ytbaapakkdnhcmaa.PWe
open Go.RowKit Go.Proofs.Ytbaapakkdnhcmaa.Kx Go.Proofs.YtbaapakkdnhcmaaW.PrintWords Go.Proofs.YtbaapakkdnhcmaaW.PrintLast Go.Proofs.YtbaapakkdnhcmaaW.PrintMore
set_option linter.unusedVariables false
set_option linter.unusedSimpArgs false

theorem slot_f0 (a md : Int) (x : S76) : (slotOf a md x).f0 = x.f0 := by unfold slotOf; split <;> rfl
theorem fix_f0 (s : S47) : (fixA s).f0 = s.f0 := by unfold fixA; split <;> rfl
theorem fix_f6 (s : S47) : (fixA s).f6 = s.f6 := by unfold fixA; split <;> rfl
theorem fix_f7 (s : S47) : (fixA s).f7 = s.f7 := by unfold fixA; split <;> rfl
theorem viewL_kind (md : Int) : ∀ (l : List S76) (a : Int), ∀ x ∈ viewL md a l, (0 ≤ x.f0 ∧ x.f0 ≤ 4) ∧ (x.f0 = 0 ∨ (x.f6 < 0 ∧ x.f7 = false))
  | [], a, x, hx => by
    rw [viewL] at hx
    obtain rfl := List.mem_singleton.1 hx
    exact ⟨by show (0 : Int) ≤ 4 ∧ (4 : Int) ≤ 4; decide, .inr ⟨by show (-1 : Int) < 0; decide, rfl⟩⟩
  | y :: r, a, x, hx => by
    rw [viewL] at hx
    split at hx
    · exact viewL_kind md r _ x hx
    · rename_i hn
      rcases List.mem_cons.1 hx with rfl | hx
      · refine ⟨by rw [slot_f0]; omega, ?_⟩
        unfold slotOf
        split
        · rename_i h0; exact .inl h0
        · exact .inr ⟨by show (-1 : Int) < 0; decide, rfl⟩
      · exact viewL_kind md r _ x hx
theorem view_kind (md v : Int) (l : List S76) : ∀ x ∈ viewV md v l, (0 ≤ x.f0 ∧ x.f0 ≤ 4) ∧ (x.f0 = 0 ∨ (x.f6 < 0 ∧ x.f7 = false)) := fun x hx => by
  unfold viewV at hx
  rcases List.mem_cons.1 hx with rfl | hx
  · exact ⟨by show (0 : Int) ≤ 3 ∧ (3 : Int) ≤ 4; decide, .inr ⟨by show (-1 : Int) < 0; decide, rfl⟩⟩
  · exact viewL_kind md l _ x hx
theorem cnt_fix (k : Int) : ∀ V : List S47, cntL k (V.map fixA) = cntL k V
  | [] => rfl
  | x :: r => by rw [List.map_cons, cntL, cntL, fix_f0, cnt_fix k r]
theorem cnt_viewL (k md md' : Int) : ∀ (l : List S76) (a : Int), cntL k (viewL md a l) = cntL k (viewL md' a l)
  | [], a => by rw [viewL, viewL]
  | x :: r, a => by
    rw [viewL, viewL]
    split
    · exact cnt_viewL k md md' r _
    · rw [cntL, cntL, slot_f0, slot_f0, cnt_viewL k md md' r _]
theorem cnt_view (k md md' v : Int) (l : List S76) : cntL k (viewV md v l) = cntL k (viewV md' v l) := by
  unfold viewV
  rw [cntL, cntL, cnt_viewL k md md' l _]
theorem any_same {α : Type} {p q : α → Bool} : ∀ l : List α, (∀ x ∈ l, p x = q x) → l.any p = l.any q
  | [], _ => rfl
  | x :: r, h => by rw [List.any_cons, List.any_cons, h x List.mem_cons_self, any_same r (fun y hy => h y (List.mem_cons_of_mem _ hy))]
def sndV (x : S47) : Bool := decide (0 ≤ x.f6)
def tkeV (x : S47) : Bool := x.f7
theorem snd_fix {md v : Int} {l : List S76} : ((viewV md v l).map fixA).any sndX = (viewV md v l).any sndV := by
  rw [List.any_map]
  refine any_same _ fun x hx => ?_
  show sndX (fixA x) = sndV x
  unfold sndX sndV
  rw [fix_f0, fix_f6]
  rcases (view_kind md v l x hx).2 with h | h
  · rw [decide_eq_true h]; rfl
  · rw [decide_eq_false (show ¬ 0 ≤ x.f6 by omega), Bool.and_false]
theorem tke_fix {md v : Int} {l : List S76} : ((viewV md v l).map fixA).any tkeX = (viewV md v l).any tkeV := by
  rw [List.any_map]
  refine any_same _ fun x hx => ?_
  show tkeX (fixA x) = tkeV x
  unfold tkeX tkeV
  rw [fix_f0, fix_f7]
  rcases (view_kind md v l x hx).2 with h | h
  · rw [decide_eq_true h]; rfl
  · rw [h.2, Bool.and_false]
/-- What was found in the versions before v. -/
def accB (p : S47 → Bool) (V0 V1 : List S47) (v : Int) : Bool := if v = 0 then false else if v = 1 then V0.any p else (V0.any p || V1.any p)
/-- The counters of a frame's slots, by their kinds. -/
def cnts (L : List S47) : Array Value := #[.int .i64 (cntL 0 L), .int .i64 (cntL 1 L), .int .i64 (cntL 2 L), .int .i64 (cntL 3 L), .int .i64 (cntL 4 L)]
theorem cnts_get (L : List S47) {K : Nat} (h : K < 5) : (cnts L)[K]? = some (.int .i64 (cntL (K : Int) L)) := by
  rcases (by omega : K = 0 ∨ K = 1 ∨ K = 2 ∨ K = 3 ∨ K = 4) with rfl | rfl | rfl | rfl | rfl <;> rfl
theorem cnts_step (L : List S47) (x : S47) {K : Nat} (h : K < 5) (hx : x.f0 = (K : Int)) : (cnts L).setIfInBounds K (.int .i64 (cntL (K : Int) L + 1)) = cnts (L ++ [x]) := by
  unfold cnts
  simp only [cntL_app, cntL, hx]
  rcases (by omega : K = 0 ∨ K = 1 ∨ K = 2 ∨ K = 3 ∨ K = 4) with rfl | rfl | rfl | rfl | rfl <;> simp
theorem mod_nums (a : Int) (M : Nat) (h : 2 ≤ M ∧ M ≤ 16) : ∃ X : Nat, (bits .and .i64 a 255).tmod (M : Int) = (X : Int) ∧ X < M := by
  rw [i64_and_255, Int.tmod_eq_emod_of_nonneg (by omega)]
  have h0 := Int.emod_nonneg (a % 256) (show (M : Int) ≠ 0 by omega)
  have h1 := Int.emod_lt_of_pos (a % 256) (show 0 < (M : Int) by omega)
  exact ⟨(a % 256 % (M : Int)).toNat, by omega, by omega⟩
end Go.Proofs.Ytbaapakkdnhcmaa.PWe
