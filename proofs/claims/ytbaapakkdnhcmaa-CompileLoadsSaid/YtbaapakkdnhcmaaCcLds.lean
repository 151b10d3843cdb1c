/- The law CompileLoads: walk. Helper text. -/
import Derived.Test.YtbaapakkdnhcmaaCcP
import Derived.Test.YtbaapakkdnhcmaaCcL
import Derived.BigQuiet
namespace Go.Proofs.Ytbaapakkdnhcmaa.PWe
open Go.RowKit Go.Proofs.Ytbaapakkdnhcmaa.Kx Go.Proofs.YtbaapakkdnhcmaaW.PrintWords Go.Proofs.YtbaapakkdnhcmaaW.PrintLast Go.Proofs.YtbaapakkdnhcmaaW.PrintMore
set_option linter.unusedVariables false
set_option linter.unusedSimpArgs false

theorem exec_row {P : Program} {o : Oper} {a : Act} {W : World} (ty : TypeId) (x : Operand) (ho : o.op = .load ty x) (g : Nat) (hx : a.eval x = .pointer (some ⟨g, 0, none⟩)) (t : TypeId) (cs : Array Value) (d : TypeDesc) (hg : W.heap[g]? = some (.cells cs t (0, 0)))
    (hu : P.underlying ty = some d) (hd : (match d with | .struct _ | .array _ _ => true | _ => false) = true) (hi : (P.info? ty).map (·.size) = some cs.size) : (execOp a.eval o).run P W = .ok (.value (.agg cs)) W := by
  unfold execOp
  simp only [ho, hx, Instr.loadAt, Instr.sureAddr, Sem.run_bind, Sem.run_pure, Result.andThen_ok, run_loadVar_row W g t ty cs (0, 0) d hg hu hd hi]
theorem el8_at {w W : World} {A : Option Addr} {n : Nat} {Es : List El8} (h : Kd.C dE w A n Es) (hb : Below w.heap.size w W) {i : Nat} (hi : i < Es.length) (hn : i < n) {x : El8} (hx : Es[i] = x) : ∃ ad, A = some ad ∧ W.cell? (ad.add i) = some (.slice (some ⟨x.g, 0, none⟩) x.xs.length x.c) := by
  obtain ⟨ad, c, e, _, hK, hc⟩ := Kd.C_get h (El8.mk 0 0 []) (i : Int) (by omega) (by omega)
  refine ⟨ad, e, ?_⟩
  have hd : c = [El8.v (Es.getD i (El8.mk 0 0 []))] := by simpa [dE, Kd.scalar] using hK
  subst hd
  have h2 := hc 0 _ rfl
  have h3 : w.cell? (ad.add i) = some (El8.v (Es.getD i (El8.mk 0 0 []))) := by simpa [dE, Kd.scalar] using h2
  rw [List.getD_eq_getElem?_getD, List.getElem?_eq_getElem hi, Option.getD_some, hx] at h3
  exact (hb.cell (World.block_lt_of_cell? w _ h3)).trans h3
/-- Rows of a block from i on: the slots of V. -/
def RowsFrom (cs : Array Value) (V : List S47) (i : Nat) : Prop := ∀ (j : Nat) (s : S47), i ≤ j → V[j]? = some s → ∀ (k : Nat) (x : Value), (sltCs s)[k]? = some x → cs[j * 8 + k]? = some x
theorem RowsFrom.next {cs : Array Value} {V : List S47} {i : Nat} (h : RowsFrom cs V i) : RowsFrom cs V (i + 1) := fun j s hj => h j s (by omega)
theorem RowsFrom.set {cs : Array Value} {V : List S47} {i : Nat} (h : RowsFrom cs V i) (v : Value) : RowsFrom (cs.setIfInBounds (i * 8 + 4) v) V (i + 1) := fun j s hj hs k x hx => by
  have hk : k < 8 := (Array.getElem?_eq_some_iff.1 hx).1
  rw [Array.getElem?_setIfInBounds_ne (by omega)]
  exact h j s (by omega) hs k x hx
theorem rows_of {W : World} {base : Nat} {v : Value} {V : List S47} (h : Kd.R k47 64 W base (fun _ => True) v V) (hp : 0 < V.length) : ∃ g c cs, v = .slice (some ⟨g, 0, none⟩) V.length c ∧ W.heap[g]? = some (.cells cs 64 (0, 0)) ∧ base ≤ g ∧ RowsFrom cs V 0 := by
  obtain ⟨g, cap, e, hg, _, cs, hcs⟩ := Kd.R_form h hp
  subst e
  refine ⟨g, cap, cs, rfl, hcs, hg, fun j s _ hs k x hx => ?_⟩
  obtain ⟨hj, hsj⟩ := List.getElem?_eq_some_iff.1 hs
  have hk : k < 8 := (Array.getElem?_eq_some_iff.1 hx).1
  obtain ⟨ad, ha, x0, x1, x2, x3, x4, x5, x6, x7⟩ := slot_at (Kd.R_reads' h).2.2 (Below.refl _ _) hj hsj
  obtain rfl := Option.some.inj ha
  rw [Addr.add_lit, Nat.zero_add] at x0 x1 x2 x3 x4 x5 x6 x7
  rw [cell_in hcs] at x0 x1 x2 x3 x4 x5 x6 x7
  rcases (by omega : k = 0 ∨ k = 1 ∨ k = 2 ∨ k = 3 ∨ k = 4 ∨ k = 5 ∨ k = 6 ∨ k = 7) with rfl | rfl | rfl | rfl | rfl | rfl | rfl | rfl
  · exact x0.trans hx
  · exact x1.trans hx
  · exact x2.trans hx
  · exact x3.trans hx
  · exact x4.trans hx
  · exact x5.trans hx
  · exact x6.trans hx
  · exact x7.trans hx
theorem row_cells {W : World} {g : Nat} {cs : Array Value} {V : List S47} {i : Nat} {s : S47} (hg : W.heap[g]? = some (.cells cs 64 (0, 0))) (h : RowsFrom cs V i) (hs : V[i]? = some s) :
    W.cell? ⟨g, i * 8, none⟩ = some (.int .i64 s.f0) ∧ W.cell? ⟨g, i * 8 + 1, none⟩ = some (.int .i64 s.f1) ∧ W.cell? ⟨g, i * 8 + 2, none⟩ = some (.int .i64 s.f2) ∧ W.cell? ⟨g, i * 8 + 3, none⟩ = some (.int .i64 s.f3) ∧ W.cell? ⟨g, i * 8 + 4, none⟩ = some (.int .i64 s.f4) ∧ W.cell? ⟨g, i * 8 + 5, none⟩ = some (.int .i64 s.f5) ∧ W.cell? ⟨g, i * 8 + 6, none⟩ = some (.int .i64 s.f6) ∧ W.cell? ⟨g, i * 8 + 7, none⟩ = some (.bool s.f7) := by
  have H := h i s (Nat.le_refl _) hs
  exact ⟨(cell_in hg _).trans (H 0 _ rfl), (cell_in hg _).trans (H 1 _ rfl), (cell_in hg _).trans (H 2 _ rfl), (cell_in hg _).trans (H 3 _ rfl), (cell_in hg _).trans (H 4 _ rfl), (cell_in hg _).trans (H 5 _ rfl), (cell_in hg _).trans (H 6 _ rfl), (cell_in hg _).trans (H 7 _ rfl)⟩
theorem row_fixed {W : World} {g : Nat} {cs : Array Value} {V : List S47} {i : Nat} {s : S47} {v0 : Value} (hg : W.heap[g]? = some (.cells (cs.setIfInBounds (i * 8 + 4) v0) 64 (0, 0))) (h : RowsFrom cs V i) (hs : V[i]? = some s) :
    W.cell? ⟨g, i * 8, none⟩ = some (.int .i64 s.f0) ∧ W.cell? ⟨g, i * 8 + 1, none⟩ = some (.int .i64 s.f1) ∧ W.cell? ⟨g, i * 8 + 2, none⟩ = some (.int .i64 s.f2) ∧ W.cell? ⟨g, i * 8 + 3, none⟩ = some (.int .i64 s.f3) ∧ W.cell? ⟨g, i * 8 + 4, none⟩ = some v0 ∧ W.cell? ⟨g, i * 8 + 5, none⟩ = some (.int .i64 s.f5) ∧ W.cell? ⟨g, i * 8 + 6, none⟩ = some (.int .i64 s.f6) ∧ W.cell? ⟨g, i * 8 + 7, none⟩ = some (.bool s.f7) := by
  have H := h i s (Nat.le_refl _) hs
  have N : ∀ (k : Nat) (x : Value), k ≠ 4 → (sltCs s)[k]? = some x → W.cell? ⟨g, i * 8 + k, none⟩ = some x := fun k x hk hx => by
    rw [cell_in hg, Array.getElem?_setIfInBounds_ne (by omega)]
    exact H k x hx
  have h4 := (Array.getElem?_eq_some_iff.1 (H 4 _ rfl)).1
  refine ⟨N 0 _ (by decide) rfl, N 1 _ (by decide) rfl, N 2 _ (by decide) rfl, N 3 _ (by decide) rfl, ?_, N 5 _ (by decide) rfl, N 6 _ (by decide) rfl, N 7 _ (by decide) rfl⟩
  rw [cell_in hg, Array.getElem?_setIfInBounds_self_of_lt h4]
theorem few_or (l1 l2 : List S76) : fewP l1 l2 = 0 ∨ fewP l1 l2 = 1 := by
  unfold fewP
  split
  · split
    · exact .inr rfl
    · exact .inl rfl
  · exact .inl rfl
theorem few_fit {l1 l2 : List S76} (h : fewP l1 l2 = 1) : Fit l1 ∧ Fit l2 := by
  have ok : ∀ l : List S76, okF l = true → Fit l := fun l hl => by
    unfold okF at hl
    rw [Bool.and_eq_true, decide_eq_true_iff, List.all_eq_true] at hl
    refine ⟨by omega, fun x hx => ?_⟩
    have hw := hl.2 x hx
    unfold okW at hw
    rw [Bool.and_eq_true, decide_eq_true_iff, decide_eq_true_iff] at hw
    omega
  unfold fewP at h
  by_cases h1 : okF l1 = true
  · rw [if_pos h1] at h
    by_cases h2 : okF l2 = true
    · exact ⟨ok _ h1, ok _ h2⟩
    · rw [if_neg h2] at h; cases h
  · rw [if_neg h1] at h; cases h
theorem loadsT : rtab .any (opsOf Try.f5 16) = (true, [([], []), ([], []), ([1, 0], [0, 1]), ([2], [2]), ([3], [3]), ([], []), ([5], [5]), ([4, 6], [4, 6]), ([7], [7]), ([8], [8]), ([8], [8]), ([9, 10, 8, 8], [8, 9, 10]), ([8], [8]), ([8], [8]), ([12, 13, 11, 8], [8, 12, 13]), ([11, 14, 8], [8, 11, 14]), ([8, 15], [8, 15])]) := by kernel_rfl
def LdS (g1 g6 : Nat) (sc pc : Array Value) (y : Nat) (V : Value) (W : World) : Prop := W.cell? ⟨g6, y, none⟩ = some V ∧ W.heap[g1]? = some (.cells sc 43 (0, 0)) ∧ W.heap[g6]? = some (.cells pc 35 (0, 0))
set_option maxHeartbeats 4000000 in
set_option maxRecDepth 100000 in
/-- The law CompileLoads: true of every schedule. -/
theorem loads_calls (m : Int) (A1 A2 : Option Addr) (c1 c2 : Nat) (l1 l2 : List S76) (w : World) (hr1 : Kd.C k76 w A1 l1.length l1) (hc1 : l1.length ≤ c1) (hr2 : Kd.C k76 w A2 l2.length l2) (hc2 : l2.length ≤ c2) :
    Calls Try.prog 5 #[.agg #[.int .i64 m, .slice A1 l1.length c1, .slice A2 l2.length c2]] w fun e w' => e = .returned (.bool true) ∧ Below w.heap.size w w' := by
  have H1 := Aside0.mk hr1
  have H2 := Aside0.mk hr2
  have HB : Aside0 (Below w.heap.size w w) := ⟨Below.refl _ _⟩
  obtain ⟨fw, hfw⟩ : ∃ k, fewP l1 l2 = k := ⟨_, rfl⟩
  have HFW := Aside0.mk hfw
  have hfo := few_or l1 l2
  rw [hfw] at hfo
  clear hr1 hr2 hfw
  go_enter Try.func5, Try.ntmps5
  go_wp2_with (first | ((with_reducible refine gate_dst (N := 1) rfl ?_); refine boxN (w := w) rfl (N := 1) rfl (cs := #[.int .i64 m, .slice A1 l1.length c1, .slice A2 l2.length c2]) (t := 43) (by first | (go_simp; done) | (go_simp; rfl)) HB ?_; intro g1 Wa Ha Lg1 HBa Ka) | ((with_reducible refine gate_dst (N := 11) rfl ?_); refine wpList_load_row rfl 43 _ rfl g1 rfl 43 _ (0, 0) _ Ha.out Try.underlying43 rfl (by kernel_rfl) ?_))
  refine (few_calls m A1 A2 c1 c2 l1 l2 Wa (Kd.C_below H1.out HBa.out) (Kd.C_below H2.out HBa.out) HFW.out).mono ?_
  rintro e w1 ⟨rfl, hb1⟩
  have HB1 := Aside0.mk (below_step HBa.out hb1)
  have Hb1 := Aside0.mk (blk_below Ha.out hb1)
  clear hb1 Ha HBa Ka
  rcases hfo with rfl | rfl
  · go_wp2_with fail
    refine (one_calls _).mono ?_
    rintro e w2 ⟨rfl, hb2⟩
    have HB2 := Aside0.mk (below_step HB1.out hb2)
    clear hb2
    go_wp2_with fail
    go_ret
    exact ⟨rfl, HB2.out⟩
  obtain ⟨hf1, hf2⟩ := few_fit HFW.out
  have HF1 := Aside0.mk hf1
  have HF2 := Aside0.mk hf2
  obtain ⟨ck, hck⟩ : ∃ k, checkP m l1 l2 = k := ⟨_, rfl⟩
  have HCK := Aside0.mk hck
  obtain ⟨cv, cw, bad⟩ := ck
  clear hf1 hf2 hck
  go_wp2_with (first | ((with_reducible refine gate_dst (N := 15) rfl ?_); refine gate_guard (by rfl) ?_; dsimp only; refine wpList_load_row rfl 43 _ rfl g1 rfl 43 _ (0, 0) _ Hb1.out Try.underlying43 rfl (by kernel_rfl) ?_))
  refine (check_calls m A1 A2 c1 c2 l1 l2 w1 (Kd.C_below H1.out HB1.out) hc1 (Kd.C_below H2.out HB1.out) hc2 HF1.out HF2.out HCK.out).mono ?_
  rintro e w3 ⟨rfl, hb3⟩
  have HB3 := Aside0.mk (below_step HB1.out hb3)
  have Hb3 := Aside0.mk (blk_below Hb1.out hb3)
  clear hb3 Hb1 HB1
  unfold fltCs
  have hfld : (Instr.field 58 (.agg #[.int .i64 cv, .int .i64 cw, .int .i64 bad]) 2).run Try.prog w3 = .ok (.int .i64 bad) w3 := by rfl
  by_cases hbad : bad = 0
  rotate_left
  · have k0 : (bad != 0) = true := by simpa using hbad
    have k1 : (bad == 0) = false := by simpa using hbad
    clear hbad
    go_wp2_with fail
    refine (one_calls _).mono ?_
    rintro e w4 ⟨rfl, hb4⟩
    have HB4 := Aside0.mk (below_step HB3.out hb4)
    clear hb4
    go_wp2_with fail
    go_ret
    exact ⟨rfl, HB4.out⟩
  subst hbad
  have HC0 : Aside0 ((checkP m l1 l2).2.2 = 0) := ⟨by rw [HCK.out]⟩
  obtain ⟨⟨hm2, hm16⟩, ⟨hn1, hw1⟩, ⟨hn2, hw2⟩⟩ := check_ok HC0.out
  have HW1 := Aside0.mk hw1
  have HW2 := Aside0.mk hw2
  clear hw1 hw2
  go_wp2_with (first | ((with_reducible refine gate_dst (N := 22) rfl ?_); refine wpList_load_row rfl 43 _ rfl g1 rfl 43 _ (0, 0) _ Hb3.out Try.underlying43 rfl (by kernel_rfl) ?_))
  refine (all_calls m A1 A2 c1 c2 l1 l2 w3 (Kd.C_below H1.out HB3.out) hc1 (Kd.C_below H2.out HB3.out) hc2 HF1.out HF2.out HC0.out).mono ?_
  rintro e wA ⟨AE, cE, Es, rfl, hxs, hEs, hAt, hbA⟩
  have HEC := Aside0.mk (Kd.R_reads' hEs).2.2
  have HXS := Aside0.mk hxs
  have HAT := Aside0.mk hAt
  have HBA := Aside0.mk (below_step HB3.out hbA)
  have HbA := Aside0.mk (blk_below Hb3.out hbA)
  obtain ⟨M, rfl⟩ := Int.eq_ofNat_of_zero_le (show 0 ≤ m by omega)
  have hEM : Es.length = M := by have h := congrArg List.length hxs; rw [List.length_map, List.length_map, List.length_range, Int.toNat_natCast] at h; exact h
  have y0 : wA.cell? ⟨g1, 0, none⟩ = some (.int .i64 (M : Int)) := (cell_in HbA.out 0).trans rfl
  have HEM := Aside0.mk hEM
  rw [hEM]
  clear hEs hxs hAt hbA hEM hfld Hb3
  go_wp2_with fail
  go_loopw [5, 6, 7, 8, 9, 10] (fun v5 _ _ _ _ _ wr => ∃ j : Nat, j ≤ M ∧ v5 = .int .i64 (j : Int) ∧ Below wA.heap.size wA wr) (fun v5 _ _ _ _ _ _ => ((M : Int) - intOf v5).toNat)
  case atStart => exact ⟨0, Nat.zero_le _, rfl, Below.refl _ _⟩
  case round =>
    obtain ⟨j, hj, rfl, hb⟩ := hrel
    have HBr := Aside0.mk hb
    have Hbr := Aside0.mk (blk_below HbA.out hb)
    have yr : wr.cell? ⟨g1, 0, none⟩ = some (.int .i64 (M : Int)) := (cell_in Hbr.out 0).trans rfl
    clear hb y0
    by_cases hlt : j < M
    rotate_left
    · have d1 : decide ((j : Int) < (M : Int)) = false := decide_eq_false (by omega)
      have d2 : decide (j < M) = false := decide_eq_false hlt
      clear hlt
      go_wp2_with fail
      refine (one_calls _).mono ?_
      rintro e w4 ⟨rfl, hb4⟩
      have HB4 := Aside0.mk (below_step HBA.out (below_step HBr.out hb4))
      clear hb4
      go_wp2_with fail
      go_ret
      exact ⟨rfl, HB4.out⟩
    have d1 : decide ((j : Int) < (M : Int)) = true := decide_eq_true (by omega)
    have d2 : decide (j < M) = true := decide_eq_true hlt
    have q1 : (0 ≤ (j : Int)) = True := eq_true (by omega)
    have q2 : ((j : Int) < (M : Int)) = True := eq_true (by omega)
    have q3 : (j < M) = True := eq_true hlt
    have hjE : j < Es.length := by rw [HEM.out]; exact hlt
    obtain ⟨x, hx⟩ : ∃ x, Es[j] = x := ⟨_, rfl⟩
    obtain ⟨ad, hA, hce⟩ := el8_at HEC.out HBr.out hjE hjE hx
    subst hA
    have hxat : x.At wr := (HAT.out x (by rw [← hx]; exact List.getElem_mem hjE)).below HBr.out
    have hxx : x.xs = tabP l1 l2 j := by
      have h := congrArg (fun l => l[j]?) HXS.out
      simp only [List.getElem?_map, List.getElem?_eq_getElem hjE, Option.map_some, hx, Int.toNat_natCast, List.getElem?_range hlt] at h
      exact Option.some.inj h
    obtain ⟨_, htb, htl⟩ := tab_ok HC0.out (show 0 ≤ (j : Int) by omega) (show (j : Int) < (M : Int) by omega)
    have hxb : Byts x.xs := by rw [hxx]; exact put_byts htb
    have hxl : x.xs.length ≤ 100000 := by rw [hxx]; unfold tabP; rw [put_length]; omega
    obtain ⟨V0, hV0⟩ : ∃ V, viewV (j : Int) 0 l1 = V := ⟨_, rfl⟩
    obtain ⟨V1, hV1⟩ : ∃ V, viewV (j : Int) 1 l2 = V := ⟨_, rfl⟩
    obtain ⟨P0, hP0⟩ : ∃ P, V0.map fixA = P := ⟨_, rfl⟩
    obtain ⟨P1, hP1⟩ : ∃ P, V1.map fixA = P := ⟨_, rfl⟩
    have hld : loadP x.xs = (((j : Int), P0, P1), 0) := by rw [hxx, load_tab HC0.out (by omega), hV0, hV1, hP0, hP1]
    have hl0 : P0.length = V0.length := by rw [← hP0, List.length_map]
    have hl1 : P1.length = V1.length := by rw [← hP1, List.length_map]
    have hs0 : SFit P0 := by rw [← hP0, ← hV0]; exact view_fit hn1 (by omega)
    have hs1 : SFit P1 := by rw [← hP1, ← hV1]; exact view_fit hn2 (by omega)
    have hu0 : sumL P0 = 320 + 40 * 0 + ticksL l1 := by rw [← hP0, ← hV0]; exact viewV_sum (fun y hy => wnd_kind (HW1.out y hy))
    have hu1 : sumL P1 = 320 + 40 * 1 + ticksL l2 := by rw [← hP1, ← hV1]; exact viewV_sum (fun y hy => wnd_kind (HW2.out y hy))
    have HV0 := Aside0.mk hV0
    have HV1 := Aside0.mk hV1
    have HP0 := Aside0.mk hP0
    have HP1 := Aside0.mk hP1
    have HL0 := Aside0.mk hl0
    have HL1 := Aside0.mk hl1
    have HS0 := Aside0.mk hs0
    have HS1 := Aside0.mk hs1
    have HU0 := Aside0.mk hu0
    have HU1 := Aside0.mk hu1
    have HLD := Aside0.mk hld
    have HXAT := Aside0.mk hxat
    have HXB := Aside0.mk hxb
    have HXL := Aside0.mk hxl
    have HLT := Aside0.mk hlt
    clear hx hjE hxx htb htl hV0 hV1 hP0 hP1 hl0 hl1 hs0 hs1 hu0 hu1 hld hxat hxb hxl hlt
    go_wp2_with fail
    refine (load_calls (some ⟨x.g, 0, none⟩) x.c x.xs wr (HXAT.out.C (by have := HXL.out; omega)) HXAT.out.1 HXB.out HXL.out HLD.out).mono ?_
    rintro e w5 ⟨D0, e0, D1, e1, rfl, ⟨p01, p02⟩, ⟨p11, p12⟩, hb5⟩
    dsimp only at p01 p02 p11 p12 ⊢
    rw [HL0.out] at p01 p02
    rw [HL1.out] at p11 p12
    rw [HL0.out, HL1.out]
    have HP02 := Aside0.mk p02
    have HP12 := Aside0.mk p12
    have HB5 := Aside0.mk (below_step HBr.out hb5)
    clear p02 p12 hb5 hce yr
    go_wp2_with (first | ((with_reducible refine gate_dst (N := 6) rfl ?_); refine boxN (w := wA) rfl (N := 6) rfl (cs := prgCs 0 none 0 0 none 0 0) (t := 35) (by first | (go_simp; done) | (go_simp; rfl)) HB5 ?_; intro g6 Wb Hb Lg6 HBb Kb) | ((with_reducible refine gate_ (.store 35 (.tmp 6) (.tmp 47)) rfl ?_); refine storeN (w := wA) rfl 35 (.tmp 6) _ rfl g6 (prgCs (j : Int) D0 V0.length e0 D1 V1.length e1) rfl rfl 35 _ Hb (by kernel_rfl) rfl (by rw [← Array.all_toList]; rfl) HBb Lg6 Kb ?_; intro Wc Hc HBc Kc; have z0 : Wc.cell? ⟨g6, 0, none⟩ = some (.int .i64 (j : Int)) := (cell_in Hc.out 0).trans rfl))
    go_loopw [8, 9, 10] (fun v8 _ _ wi => ∃ v : Int, (0 ≤ v ∧ v ≤ 2) ∧ v8 = .int .i64 v ∧ Below Wc.heap.size Wc wi) (fun v8 _ _ _ => (2 - intOf v8).toNat)
    case atStart => exact ⟨0, by omega, rfl, Below.refl _ _⟩
    case round =>
      obtain ⟨v, hv02, rfl, hbi⟩ := hrel
      have HBi := Aside0.mk (below_step HBc.out hbi)
      have HKi := Aside0.mk hbi
      clear hbi z0
      by_cases hv2 : v < 2
      rotate_left
      · have d3 : decide (v < 2) = false := decide_eq_false hv2
        clear hv2
        go_wp2_with fail
        exact ⟨⟨j + 1, by have := HLT.out; omega, by simp, HBi.out⟩, by have := HLT.out; simp [intOf]; omega⟩
      have hv0 : 0 ≤ v := hv02.1
      obtain ⟨V, PV, L, A, c, hcx, hCP, hVV, hPV, hLe, hL, hLf, hsum, hll⟩ : ∃ V PV L A c, (prgCs (j : Int) D0 V0.length e0 D1 V1.length e1)[1 + v.toNat]? = some (.slice A V.length c) ∧ Kd.C k47 w5 A PV.length PV ∧ viewV (j : Int) v L = V ∧ V.map fixA = PV ∧ PV.length = V.length ∧ (if v = 0 then l1 else l2) = L ∧ Fit L ∧ longQ v P0 P1 = 320 + 40 * v + ticksL L ∧ L.length ≤ 32 := by
        rcases (by omega : v = 0 ∨ v = 1) with rfl | rfl
        · exact ⟨V0, P0, l1, D0, e0, rfl, by rw [HL0.out]; exact HP02.out, HV0.out, HP0.out, HL0.out, rfl, HF1.out, HU0.out, hn1⟩
        · exact ⟨V1, P1, l2, D1, e1, rfl, by rw [HL1.out]; exact HP12.out, HV1.out, HP1.out, HL1.out, rfl, HF2.out, HU1.out, hn2⟩
      have HCX := Aside0.mk hcx
      have HCP := Aside0.mk (Kd.C_below (Kd.C_below hCP Kc.out) HKi.out)
      have HVV := Aside0.mk hVV
      have HPV := Aside0.mk hPV
      have HLE := Aside0.mk hLe
      have HL := Aside0.mk hL
      have HLF := Aside0.mk hLf
      have HSM := Aside0.mk hsum
      have hVp : 0 < V.length := by rw [← hVV]; unfold viewV; exact Nat.succ_pos _
      have hVm : V.length ≤ 40 := by rw [← hVV]; unfold viewV; rw [List.length_cons]; have := viewL_len (j : Int) L (200 + 40 * v); omega
      have Hbi := Aside0.mk (blk_below HbA.out HBi.out)
      have Hci := Aside0.mk (blk_below Hc.out HKi.out)
      clear hcx hCP hVV hPV hLe hL hLf hsum
      have d3 : decide (v < 2) = true := decide_eq_true hv2
      go_wp2_with (first | ((with_reducible refine gate_dst (N := 61) rfl ?_); refine wpList_load_row rfl 43 _ rfl g1 rfl 43 _ (0, 0) _ Hbi.out Try.underlying43 rfl (by kernel_rfl) ?_))
      refine (view_calls (M : Int) A1 A2 c1 c2 l1 l2 L v (j : Int) wr (Kd.C_below H1.out (below_step HBA.out HBi.out)) hc1 (Kd.C_below H2.out (below_step HBA.out HBi.out)) hc2 hv0 hv2 HL.out HLF.out).mono ?_
      rintro e w7 ⟨v9, rfl, h9, hb7⟩
      have h9' : Kd.R k47 64 w7 wr.heap.size (fun _ => True) v9 V := by rw [← HVV.out]; exact h9
      obtain ⟨gW, cW, csW, e9, hgW, hgb, hrows⟩ := rows_of h9' hVp
      subst e9
      have HGW := Aside0.mk hgW
      have HROW := Aside0.mk hrows
      have HC7 := Aside0.mk (Kd.C_below HCP.out hb7)
      have HB7 := Aside0.mk (below_step HBi.out hb7)
      have HK7 : Aside0 (Below w7.heap.size w7 w7) := ⟨Below.refl _ _⟩
      have HR7 := Aside0.mk hb7
      have Hs7 := Aside0.mk (blk_below Hbi.out hb7)
      have Hp7 := Aside0.mk (blk_below Hci.out hb7)
      have HS : Aside0 (∀ W', Below w7.heap.size w7 W' → LdS g1 g6 #[.int .i64 (M : Int), .slice A1 l1.length c1, .slice A2 l2.length c2] (prgCs (j : Int) D0 V0.length e0 D1 V1.length e1) (1 + v.toNat) (.slice A V.length c) W') := ⟨fun W' hb => ⟨(cell_in (blk_below Hp7.out hb) _).trans HCX.out, blk_below Hs7.out hb, blk_below Hp7.out hb⟩⟩
      have B1 : Aside0 (∀ W, Below w7.heap.size w7 W → Calls Try.prog 22 #[.agg (prgCs (j : Int) D0 V0.length e0 D1 V1.length e1), .int .i64 v] W fun e w' => e = .returned (.int .i64 (320 + 40 * v + ticksL L)) ∧ Below W.heap.size W w') := ⟨fun W hb => by
        have h := long_calls (j : Int) D0 e0 P0 D1 e1 P1 v W (by rw [HL0.out]; exact Kd.C_below (Kd.C_below (Kd.C_below (Kd.C_below HP02.out Kc.out) HKi.out) hb7) hb) (by rw [HL1.out]; exact Kd.C_below (Kd.C_below (Kd.C_below (Kd.C_below HP12.out Kc.out) HKi.out) hb7) hb) HS0.out HS1.out HSM.out
        rw [HL0.out, HL1.out] at h
        exact h⟩
      have B2 : Aside0 (∀ W, Below w7.heap.size w7 W → Calls Try.prog 23 #[.agg #[.int .i64 (M : Int), .slice A1 l1.length c1, .slice A2 l2.length c2], .int .i64 v] W fun e w' => e = .returned (.int .i64 (320 + 40 * v + ticksL L)) ∧ Below W.heap.size W w') := ⟨fun W hb => frame_calls (M : Int) A1 A2 c1 c2 l1 l2 L v W (Kd.C_below H1.out (below_step HBA.out (below_step HB7.out hb))) hc1 (Kd.C_below H2.out (below_step HBA.out (below_step HB7.out hb))) hc2 hv0 hv2 HL.out HLF.out⟩
      obtain ⟨T, hT⟩ : ∃ T, 320 + 40 * v + ticksL L = T := ⟨_, rfl⟩
      rw [hT] at B1 B2
      clear h9 h9' hgW hrows hb7 hT
      have e33 := Try.underlying33
      have a0 : decide (0 ≤ v) = true := decide_eq_true hv0
      have a1 := eq_true hv0
      have a2 := eq_true hv2
      go_wp2_with fail
      refine startD 17 loadsT HS HK7 (fun W4 HT B4 K4 => ?_)
      refine pureD 0 (some 65) (lb 17 0x1) HT ?_
      refine pureD 1 (some 66) (lb 17 0x3) HT ?_
      refine pureD 2 (some 67) (lb 17 0x7) HT ?_
      refine takeD 3 (some 68) (lb 17 0xf) HT HS B4 ?_ (hy := Or.inl ⟨by rfl, by intro w' hs; unfold LdS at hs; obtain ⟨s0, s1, s2⟩ := hs; go_simp; with_reducible rfl⟩)
      refine pureD 4 (some 69) (lb 17 0x1f) HT ?_
      refine pureD 5 (some 70) (lb 17 0x3f) HT ?_
      refine pureD 6 (some 71) (lb 17 0x7f) HT ?_
      refine pureD 7 (some 72) (lb 17 0xff) HT (v := .bool false) ?_ (hy := Or.inl ⟨by rfl, by intro w'; go_simp⟩)
      refine pureD 8 (some 73) (lb 17 0x1ff) HT ?_
      refine takeD 9 (some 74) (lb 17 0x3ff) HT HS B4 ?_ (hy := Or.inl ⟨by rfl, by intro w' hs; unfold LdS at hs; obtain ⟨s0, s1, s2⟩ := hs; exact exec_row 35 _ rfl g6 rfl 35 (prgCs (j : Int) D0 V0.length e0 D1 V1.length e1) _ s2 Try.underlying35 rfl (by kernel_rfl)⟩)
      refine pureD 10 (some 75) (lb 17 0x7ff) HT ?_
      refine takeD 12 (some 77) (lb 17 0x17ff) HT HS B4 ?_ (hy := Or.inl ⟨by rfl, by intro w' hs; unfold LdS at hs; obtain ⟨s0, s1, s2⟩ := hs; exact exec_row 43 _ rfl g1 rfl 43 #[.int .i64 (M : Int), .slice A1 l1.length c1, .slice A2 l2.length c2] _ s1 Try.underlying43 rfl (by kernel_rfl)⟩)
      refine pureD 13 (some 78) (lb 17 0x37ff) HT ?_
      refine oneD 11 (some 76) (lb 17 0x3fff) HT (fun K hK => ?_)
      refine callK hK HS B4 Try.func22 (B1.out _ B4.out) (fun W5 B5 K5 => ?_)
      refine oneD 14 (some 79) (lb 17 0x7fff) HT (fun K hK => ?_)
      refine callK hK HS B5 Try.func23 (B2.out _ B5.out) (fun W6 B6 K6 => ?_)
      refine pureD 15 (some 80) (lb 17 0xffff) HT (v := .bool false) ?_ (hy := Or.inl ⟨by rfl, by intro w'; go_simp⟩)
      refine pureD 16 (some 81) (lb 17 0x1ffff) HT (v := .bool false) ?_ (hy := Or.inl ⟨by rfl, by intro w'; go_simp⟩)
      refine doneD HT ?_
      clear HT
      have HC6 := Aside0.mk (Kd.C_below HC7.out B6.out)
      have HG6 := Aside0.mk (blk_below HGW.out B6.out)
      have HB6 := Aside0.mk (below_step HB7.out B6.out)
      have Hp6 := Aside0.mk (blk_below Hp7.out B6.out)
      have hgW0 : wr.heap.size ≤ gW := hgb
      have HLG : Aside0 (wr.heap.size ≤ gW) := ⟨hgb⟩
      have HWB : Aside0 (Below wr.heap.size wr W6) := ⟨below_step HR7.out B6.out⟩
      have a3 : ((0 : Int) ≤ v) = True := eq_true hv0
      clear HG6 B1 B2 HS
      go_wp2_with fail
      go_loopw [10] (fun v10 wk => ∃ (i : Nat) (cs : Array Value), i ≤ V.length ∧ v10 = .int .i64 (i : Int) ∧ wk.heap[gW]? = some (.cells cs 64 (0, 0)) ∧ RowsFrom cs V i ∧ Below wr.heap.size wr wk) (fun v10 _ => ((V.length : Int) - intOf v10).toNat)
      case atStart => exact ⟨0, csW, Nat.zero_le _, rfl, blk_below HGW.out B6.out, HROW.out, HWB.out⟩
      case round =>
        obtain ⟨i, cs, hi, rfl, hgk, hrk, hbk⟩ := hrel
        have HGK := Aside0.mk hgk
        have HRK := Aside0.mk hrk
        have HBK := Aside0.mk hbk
        have yx : wr.cell? ⟨g6, 1 + v.toNat, none⟩ = some (.slice A V.length c) := (cell_in (blk_below Hci.out hbk) _).trans HCX.out
        clear hgk hrk hbk
        by_cases hi2 : i < V.length
        rotate_left
        · have b1 : decide ((i : Int) < (V.length : Int)) = false := decide_eq_false (by omega)
          have b2 : decide (i < V.length) = false := decide_eq_false hi2
          clear hi2
          go_wp2_with fail
          exact ⟨⟨v + 1, by omega, by (first | rfl | simp), below_step HKi.out HBK.out⟩, by simp [intOf]; omega⟩
        have b1 : decide ((i : Int) < (V.length : Int)) = true := decide_eq_true (by omega)
        have b2 : decide (i < V.length) = true := decide_eq_true hi2
        have p1 : (0 ≤ (i : Int)) = True := eq_true (by omega)
        have p2 : ((i : Int) < (V.length : Int)) = True := eq_true (by omega)
        have p3 : (i < V.length) = True := eq_true hi2
        obtain ⟨s, hs⟩ : ∃ s, V[i] = s := ⟨_, rfl⟩
        have hs2 : V[i]? = some s := by rw [List.getElem?_eq_getElem hi2, hs]
        have hPi : i < PV.length := by rw [HLE.out]; exact hi2
        have hPs : PV[i] = fixA s := by
          have h := congrArg (fun l => l[i]?) HPV.out
          simp only [List.getElem?_map, hs2, Option.map_some, List.getElem?_eq_getElem hPi] at h
          exact (Option.some.inj h).symm
        obtain ⟨adP, hadP, z0, z1, z2, z3, z4, z5, z6, z7⟩ := slot_at HCP.out HBK.out hPi hPs
        subst hadP
        obtain ⟨x0, x1, x2, x3, x4, x5, x6, x7⟩ := row_cells HGK.out HRK.out hs2
        obtain ⟨a0_, a1_, a2_, a3_, a4_, a5_, a6_, a7_⟩ := s
        dsimp only at x0 x1 x2 x3 x4 x5 x6 x7
        have hnil : (⟨gW, 0, none⟩ : Addr).add (i * 8) = ⟨gW, i * 8, none⟩ := by rw [Addr.add_lit, Nat.zero_add]
        have HI2 := Aside0.mk hi2
        have HS2 := Aside0.mk hs2
        clear hs hi2 hs2
        by_cases h6 : a6_ < 0
        · have k6 : decide (a6_ < 0) = true := decide_eq_true h6
          have K6' := Aside0.mk h6
          clear h6
          cases a7_
          · have hfx : fixA ⟨a0_, a1_, a2_, a3_, a4_, a5_, a6_, false⟩ = ⟨a0_, a1_, a2_, a3_, 0, a5_, a6_, false⟩ := by unfold fixA; rw [if_pos ⟨K6'.out, rfl⟩]
            have f4 : wr.frozen? ⟨gW, i * 8 + 4, none⟩ = false := free_in HGK.out _
            have HSF := Aside0.mk hfx
            clear hfx z0 z1 z2 z3 z4 z5 z6 z7
            go_wp2_with (first | ((with_reducible refine gate_ (.store 3 (.tmp 105) (.const (.int .i64 0))) rfl ?_); go_loud (refine storeCellN rfl rfl 3 (.tmp 105) (.const (.int .i64 0)) rfl gW (i * 8 + 4) (.int .i64 0) HGK (by first | (go_simp; done) | (go_simp; rfl)) HBK HLG ?_; intro W3 HG3 HB3 HO3; clear x0 x1 x2 x3 x4 x5 x6 x7 yx f4; have yx : W3.cell? ⟨g6, 1 + v.toNat, none⟩ = some (.slice (some adP) V.length c) := (cell_in (blk_below Hci.out HB3.out) _).trans HCX.out; obtain ⟨x0, x1, x2, x3, x4, x5, x6, x7⟩ := row_fixed HG3.out HRK.out HS2.out; dsimp only at x0 x1 x2 x3 x4 x5 x6 x7; obtain ⟨adQ, hadQ, z0, z1, z2, z3, z4, z5, z6, z7⟩ := slot_at HCP.out HB3.out hPi hPs; have hq := Option.some.inj hadQ; subst hq; rw [HSF.out] at z0 z1 z2 z3 z4 z5 z6 z7; dsimp only at z0 z1 z2 z3 z4 z5 z6 z7; clear hPi hPs)))
            go_quiet (fail)
            go_wp2_with fail
            exact ⟨⟨i + 1, _, by have := HI2.out; omega, by simp, blk_below HG3.out (below_drewN (Below.refl _ _) nq), HRK.out.set _, below_drewN HB3.out nq⟩, by have := HI2.out; simp [intOf]; omega⟩
          · have hfx : fixA ⟨a0_, a1_, a2_, a3_, a4_, a5_, a6_, true⟩ = ⟨a0_, a1_, a2_, a3_, a4_, a5_, a6_, true⟩ := by unfold fixA; rw [if_neg (fun hh => by cases hh.2)]
            rw [hfx] at z0 z1 z2 z3 z4 z5 z6 z7
            dsimp only at z0 z1 z2 z3 z4 z5 z6 z7
            clear hfx hPi hPs
            go_wp2_with fail
            go_quiet (fail)
            go_wp2_with fail
            exact ⟨⟨i + 1, cs, by have := HI2.out; omega, by simp, blk_below HGK.out (below_drewN (Below.refl _ _) nq), HRK.out.next, below_drewN HBK.out nq⟩, by have := HI2.out; simp [intOf]; omega⟩
        · have k6 : decide (a6_ < 0) = false := decide_eq_false h6
          have hfx : fixA ⟨a0_, a1_, a2_, a3_, a4_, a5_, a6_, a7_⟩ = ⟨a0_, a1_, a2_, a3_, a4_, a5_, a6_, a7_⟩ := by unfold fixA; rw [if_neg (fun hh => h6 hh.1)]
          rw [hfx] at z0 z1 z2 z3 z4 z5 z6 z7
          dsimp only at z0 z1 z2 z3 z4 z5 z6 z7
          clear h6 hfx hPi hPs
          go_wp2_with fail
          go_quiet (fail)
          go_wp2_with fail
          exact ⟨⟨i + 1, cs, by have := HI2.out; omega, by simp, blk_below HGK.out (below_drewN (Below.refl _ _) nq), HRK.out.next, below_drewN HBK.out nq⟩, by have := HI2.out; simp [intOf]; omega⟩
theorem loads_row (x : Sch) (w : World) (hx : Kd.C k76 w x.A0 x.l0.length x.l0 ∧ Kd.C k76 w x.A1 x.l1.length x.l1 ∧ x.l0.length ≤ x.c0 ∧ x.l1.length ≤ x.c1) :
    Calls Try.prog 5 #[.agg x.arr] w fun e w' => e = .returned (.bool true) ∧ Below w.heap.size w w' :=
  loads_calls x.md x.A0 x.A1 x.c0 x.c1 x.l0 x.l1 w hx.1 hx.2.2.1 hx.2.1 hx.2.2.2
end Go.Proofs.Ytbaapakkdnhcmaa.PWe
