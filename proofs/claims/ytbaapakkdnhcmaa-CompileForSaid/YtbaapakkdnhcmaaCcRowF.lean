/- compile.All of a schedule that may not be; the law CompileFor: walks. Helper text. -/
import Derived.Test.YtbaapakkdnhcmaaRfG
import Derived.Test.YtbaapakkdnhcmaaRfD
import Derived.Test.YtbaapakkdnhcmaaCcL
import Derived.Deep.DeepCutAuto
import Derived.DeepKeys
import Derived.Test.YtbaapakkdnhcmaaRows
import Derived.Test.YtbaapakkdnhcmaaCcP
import Derived.WalkKit
import Derived.ProofKit
import Derived.OpenShut
import Derived.ShutString
import Derived.ChangeOld
import Derived.Below
import Derived.SizedLaws
import Derived.Deep.Grids
namespace Go.Proofs.Ytbaapakkdnhcmaa.PWe
open Go.RowKit Go.Proofs.Ytbaapakkdnhcmaa.Kx Go.Proofs.YtbaapakkdnhcmaaW.PrintWords Go.Proofs.YtbaapakkdnhcmaaW.PrintLast Go.Proofs.YtbaapakkdnhcmaaW.PrintMore
set_option linter.unusedVariables false
set_option linter.unusedSimpArgs false
theorem cf_few_or (l1 l2 : List S76) : fewP l1 l2 = 0 ∨ fewP l1 l2 = 1 := by
  unfold fewP
  split
  · split
    · exact .inr rfl
    · exact .inl rfl
  · exact .inl rfl
theorem cf_few_fit {l1 l2 : List S76} (h : fewP l1 l2 = 1) : Fit l1 ∧ Fit l2 := by
  have ok : ∀ l : List S76, okF l = true → Fit l := fun l hl => by
    unfold okF at hl
    rw [Bool.and_eq_true, decide_eq_true_iff, List.all_eq_true] at hl
    refine ⟨by omega, fun x hx => ?_⟩
    have hw := hl.2 x hx
    unfold okW at hw
    rw [Bool.and_eq_true, decide_eq_true_iff, decide_eq_true_iff] at hw
    omega
  unfold fewP at h
  by_cases h1 : okF l1 = true
  · rw [if_pos h1] at h
    by_cases h2 : okF l2 = true
    · exact ⟨ok _ h1, ok _ h2⟩
    · rw [if_neg h2] at h; cases h
  · rw [if_neg h1] at h; cases h
theorem cf_row {P : Program} {o : Oper} {a : Act} {W : World} (ty : TypeId) (x : Operand) (ho : o.op = .load ty x) (g : Nat) (hx : a.eval x = .pointer (some ⟨g, 0, none⟩)) (t : TypeId) (cs : Array Value) (d : TypeDesc) (hg : W.heap[g]? = some (.cells cs t (0, 0)))
    (hu : P.underlying ty = some d) (hd : (match d with | .struct _ | .array _ _ => true | _ => false) = true) (hi : (P.info? ty).map (·.size) = some cs.size) : (execOp a.eval o).run P W = .ok (.value (.agg cs)) W := by
  unfold execOp
  simp only [ho, hx, Instr.loadAt, Instr.sureAddr, Sem.run_bind, Sem.run_pure, Result.andThen_ok, run_loadVar_row W g t ty cs (0, 0) d hg hu hd hi]
/-- One module's table, among all. -/
theorem cf_tab {m : Int} {l1 l2 : List S76} {Es : List El8} {w W : World} {A : Option Addr} {M : Nat} (hm : m = (M : Int)) (hck : (checkP m l1 l2).2.2 = 0) (hxs : Es.map El8.xs = (List.range M).map (tabP l1 l2)) (hC : Kd.C dE w A Es.length Es) (hat : ∀ x ∈ Es, x.At w) (hb : Below w.heap.size w W) {X : Nat} (hX : X < M) :
    ∃ (g c : Nat) (ad : Addr), A = some ad ∧ W.cell? (ad.add X) = some (.slice (some ⟨g, 0, none⟩) (tabP l1 l2 X).length c) ∧ Kd.C (Kd.int .u8) W (some ⟨g, 0, none⟩) (tabP l1 l2 X).length (tabP l1 l2 X) := by
  subst hm
  have hl : Es.length = M := by have h := congrArg List.length hxs; rw [List.length_map, List.length_map, List.length_range] at h; exact h
  have hi : X < Es.length := by omega
  obtain ⟨x, hx⟩ : ∃ x, Es[X] = x := ⟨_, rfl⟩
  obtain ⟨_, _, htl⟩ := tab_ok hck (show 0 ≤ (X : Int) by omega) (show (X : Int) < (M : Int) by omega)
  have hxx : x.xs = tabP l1 l2 X := by
    have h := congrArg (fun l => l[X]?) hxs
    simp only [List.getElem?_map, List.getElem?_eq_getElem hi, Option.map_some, hx, List.getElem?_range hX] at h
    exact Option.some.inj h
  obtain ⟨ad, c, e, _, hK, hc⟩ := Kd.C_get hC x (X : Int) (by omega) (by omega)
  have hk2 : c = [x.v] := by
    have h3 : Es.getD (X : Int).toNat x = x := by rw [Int.toNat_natCast, List.getD_eq_getElem?_getD, List.getElem?_eq_getElem hi, hx]; rfl
    rw [h3] at hK
    exact hK
  have h0 := hc 0 x.v (by rw [hk2]; rfl)
  rw [Int.toNat_natCast, show X * dE.sz + 0 = X from by show X * 1 + 0 = X; omega] at h0
  have hA := (hat x (by rw [← hx]; exact List.getElem_mem hi)).below hb
  refine ⟨x.g, x.c, ad, e, ?_, ?_⟩
  · rw [← hxx]
    exact (hb.cell (World.block_lt_of_cell? w _ h0)).trans h0
  · rw [← hxx]
    exact hA.C (by rw [hxx]; unfold tabP; rw [put_length]; omega)
set_option maxHeartbeats 4000000 in
set_option maxRecDepth 100000 in
theorem allbad_calls (m : Int) (A1 A2 : Option Addr) (c1 c2 : Nat) (l1 l2 : List S76) (w : World) (hr1 : Kd.C k76 w A1 l1.length l1) (hc1 : l1.length ≤ c1) (hr2 : Kd.C k76 w A2 l2.length l2) (hc2 : l2.length ≤ c2) (hf1 : Fit l1) (hf2 : Fit l2) {bad : Int} (hck : (checkP m l1 l2).2.2 = bad) (hbad : bad ≠ 0) :
    Calls Try.prog 17 #[.agg #[.int .i64 m, .slice A1 l1.length c1, .slice A2 l2.length c2]] w fun e w' => e = .returned (.tuple #[.slice none 0 0, .int .i64 bad]) ∧ Below w.heap.size w w' := by
  have H1 := Aside0.mk hr1
  have H2 := Aside0.mk hr2
  have HF1 := Aside0.mk hf1
  have HF2 := Aside0.mk hf2
  have hfp : forP m l1 l2 0 = ((0, 0, 0, []), bad) := by unfold forP; rw [hck, if_pos hbad]
  have HFP := Aside0.mk hfp
  have HB : Aside0 (Below w.heap.size w w) := ⟨Below.refl _ _⟩
  have k1 : (bad != 0) = true := by simpa using hbad
  have k2 : (bad == 0) = false := by simpa using hbad
  obtain ⟨N0, hN0⟩ : ∃ n, min m 16 = n := ⟨_, rfl⟩
  obtain ⟨N, hN⟩ : ∃ n, max 1 N0 = n := ⟨_, rfl⟩
  have j1 : (if 16 < m then 16 else m) = N0 := by rw [← hN0]; split <;> omega
  have j2 : (if 1 < N0 then N0 else 1) = N := by rw [← hN]; split <;> omega
  have j3 : (if m ≤ 16 then m else 16) = N0 := by rw [← hN0]; split <;> omega
  have j4 : (if 1 ≤ N0 then N0 else 1) = N := by rw [← hN]; split <;> omega
  have d1 : decide (0 < N) = true := decide_eq_true (by omega)
  clear hr1 hr2 hf1 hf2 hck hfp hbad
  go_enter Try.func17, Try.ntmps17
  go_wp2_with (first | ((with_reducible refine gate_dst (N := 1) rfl ?_); refine boxN (w := w) rfl (N := 1) rfl (cs := #[.int .i64 m, .slice A1 l1.length c1, .slice A2 l2.length c2]) (t := 43) (by first | (go_simp; done) | (go_simp; rfl)) HB ?_; intro g1 Wa Ha Lg1 HBa Ka; have y0 : Wa.cell? ⟨g1, 0, none⟩ = some (.int .i64 m) := (cell_in Ha.out 0).trans rfl))
  go_loopw [4, 5, 6, 7, 8, 13] (fun _ _ _ _ _ v13 wr => v13 = .int .i64 0 ∧ wr = Wa) (fun _ _ _ _ _ v13 _ => (1 - intOf v13).toNat)
  case atStart => exact ⟨rfl, rfl⟩
  case round =>
    obtain ⟨rfl, hwr⟩ := hrel
    obtain rfl := hwr.symm
    go_wp2_with (first | ((with_reducible refine gate_dst (N := 17) rfl ?_); refine wpList_load_row rfl 43 _ rfl g1 rfl 43 _ (0, 0) _ Ha.out Try.underlying43 rfl (by kernel_rfl) ?_))
    refine (for_calls m A1 A2 c1 c2 l1 l2 0 Wa (Kd.C_below H1.out HBa.out) hc1 (Kd.C_below H2.out HBa.out) hc2 HF1.out HF2.out HFP.out).mono ?_
    rintro e w5 ⟨AC, cC, rfl, hcc, hC, hb5⟩
    dsimp only at hcc hC ⊢
    have HB5 := Aside0.mk (below_step HBa.out hb5)
    clear hcc hC hb5
    go_wp2_with (first | ((with_reducible refine gate_dst (N := 6) rfl ?_); refine boxN (w := w) rfl (N := 6) rfl (cs := imgCs 0 0 0 none 0 0) (t := 25) (by first | (go_simp; done) | (go_simp; rfl)) HB5 ?_; intro g6 Wb Hb Lg6 HBb Kb) | ((with_reducible refine gate_ (.store 25 (.tmp 6) (.tmp 20)) rfl ?_); refine storeCsN (w := w) rfl 25 (.tmp 6) _ rfl g6 (imgCs 0 0 0 AC 0 cC) rfl rfl 25 _ Hb (by kernel_rfl) rfl (by rw [← Array.all_toList]; rfl) HBb ⟨Lg6.out.1⟩ ?_; intro Wc Hc HBc _))
    go_ret2
    exact ⟨rfl, HBc.out⟩
theorem cforT3 : rtab .any (opsOf Try.f4 3) = (true, [([], []), ([0], [0]), ([1], [1]), ([2], [2]), ([], []), ([4], [4]), ([5], [5]), ([6, 3], [6]), ([3, 7], [3, 7]), ([], []), ([9, 8, 7, 0, 1, 2, 3, 4, 5, 6, 7, 8, 9], [8, 9])]) := by kernel_rfl
theorem cforT14 : rtab .any (opsOf Try.f4 14) = (true, [([], []), ([0], [0]), ([1], [1]), ([2], [2]), ([3, 2], [2, 3]), ([2, 4], [2, 4]), ([5, 2], [5]), ([6], [6]), ([7, 6], [6, 7]), ([8, 6], [6, 8]), ([6], [6]), ([6], [6]), ([10, 11, 6, 6], [6, 10, 11]), ([9, 12, 6], [6, 9, 12]), ([6, 13], [6, 13]), ([14, 12], [14]), ([15], [15]), ([16, 15], [15, 16]), ([15], [15]), ([17, 18, 15], [15, 17, 18]), ([15, 19], [15, 19]), ([20, 15], [20]), ([21], [21]), ([22, 21], [21, 22]), ([21], [21]), ([23, 24, 21], [21, 23, 24]), ([21, 25], [21, 25]), ([26, 21], [26]), ([27], [27]), ([27], [27]), ([28, 29, 27], [27, 28, 29]), ([30, 27], [27, 30]), ([31, 27], [27, 31]), ([27], [27]), ([33, 27], [27, 33]), ([32, 34, 27], [27, 32, 34]), ([27, 35], [27, 35]), ([36, 27], [36]), ([37, 37], [37]), ([37, 38], [37, 38]), ([39, 38, 0, 1, 2, 3, 4, 5, 6, 7, 8, 9, 10, 11, 12, 13, 14, 15, 16, 17, 18, 19, 20, 21, 22, 23, 24, 25, 26, 27, 28, 29, 30, 31, 32, 33, 34, 35, 36, 37, 38, 39], [39])]) := by kernel_rfl
def OwnV (w1 : World) (l : List S76) (v : Value) (W : World) : Prop := ∃ rs, Kd.R kO 93 W w1.heap.size (fun _ => True) v rs ∧ RowsOf w1 l rs
theorem OwnV.below {w1 : World} {l : List S76} {v : Value} {W W' : World} (h : OwnV w1 l v W) (hb : Below W.heap.size W W') : OwnV w1 l v W' := by
  obtain ⟨rs, h, hr⟩ := h
  exact ⟨rs, Kd.R_below h hb, hr⟩
theorem OwnV.far {w1 : World} {l : List S76} {v : Value} {W W' : World} (h : OwnV w1 l v W) {g : Nat} {cs : Array Value} (hg : W.heap[g]? = some (.cells cs 47 (0, 0))) (ho : ∀ b, b ≠ g → W'.heap[b]? = W.heap[b]?) : OwnV w1 l v W' := by
  obtain ⟨rs, h, hr⟩ := h
  exact ⟨rs, Kd.R_mono (Kd.R_move (Kd.R_types h hg (by decide)) (fun k hk => ho k hk.2)) (fun _ _ => trivial), hr⟩
theorem OwnV.slice {w1 : World} {l : List S76} {v : Value} {W : World} (h : OwnV w1 l v W) : ∃ A c, v = .slice A l.length c ∧ l.length ≤ c := by
  obtain ⟨rs, h, hr⟩ := h
  obtain ⟨A, c, e⟩ := Kd.R_slice h
  subst e
  have h2 := (Kd.R_reads' h).2.1
  rw [hr.1] at h2 ⊢
  exact ⟨A, c, rfl, h2⟩
theorem OwnV.reads {w1 : World} {l : List S76} {A : Option Addr} {n c : Nat} {W : World} (h : OwnV w1 l (.slice A n c) W) (hb : Below w1.heap.size w1 W) : Kd.C k76 W A l.length l := by
  obtain ⟨rs, h, hr⟩ := h
  exact own_reads (Kd.R_reads' h).2.2 hr hb
theorem ownV_calls (A : Option Addr) (c : Nat) (l : List S76) (w wb : World) (hr : Kd.C k76 wb A l.length l) (hl : l.length ≤ 100000) (hb : Below wb.heap.size wb w) (Φ : World → Prop) (hΦ : ∀ W', Below w.heap.size w W' → Φ W') :
    Calls Try.prog 15 #[.slice A l.length c] w fun e w' => ∃ v, e = .returned v ∧ (OwnV wb l v w' ∧ Φ w') ∧ Below wb.heap.size wb w' :=
  (own_calls A c l wb w hr hb hl).mono fun e w' ⟨v', rs, he, hC, hrs, hb'⟩ => ⟨v', he, ⟨⟨rs, Kd.R_lower hC (below_size hb), hrs⟩, hΦ w' hb'⟩, below_step hb hb'⟩
theorem eq04 (w : World) : (Op.equalIn 10000 22 (.agg #[.int .i64 0, .int .i64 4]) (.agg #[.int .i64 0, .int .i64 4])).run Try.prog w = .ok true w := by
  obtain ⟨r, hr, hi⟩ := run_equalIn_deep (P := Try.prog) 9990 10 22 (by kernel_rfl) w 10 10 (.agg #[.int .i64 0, .int .i64 4]) (.agg #[.int .i64 0, .int .i64 4]) [.int .i64 0, .int .i64 4] [.int .i64 0, .int .i64 4] (by kernel_rfl) (by kernel_rfl) (by kernel_rfl) (by kernel_rfl)
  rw [hi.2 rfl] at hr
  exact hr
/-- What the last comparison reads. -/
def CfS (g5 g6 : Nat) (cs5 : Array Value) (md : Int) (AC : Option Addr) (nC cC : Nat) (ad : Addr) (X gT nT cT : Nat) (AB : Option Addr) (cB : Nat) (s1 s2 : ByteArray) (W : World) : Prop :=
  W.heap[g5]? = some (.cells cs5 47 (0, 0)) ∧ W.heap[g6]? = some (.cells (imgCs md 0 4 AC nC cC) 25 (0, 0)) ∧ W.cell? (ad.add X) = some (.slice (some ⟨gT, 0, none⟩) nT cT) ∧
  (convert 23 9 (.slice AC nC cC)).run Try.prog W = .ok (.string s1) W ∧ (convert 23 9 (.slice (some ⟨gT, 0, none⟩) nT cT)).run Try.prog W = .ok (.string s2) W ∧ (convert 23 9 (.slice AB nT cB)).run Try.prog W = .ok (.string s2) W
theorem img_cells {W : World} {g : Nat} {md e0 e1 : Int} {A : Option Addr} {n c : Nat} {t : TypeId} (h : W.heap[g]? = some (.cells (imgCs md e0 e1 A n c) t (0, 0))) : W.cell? ⟨g, 0, none⟩ = some (.int .i64 md) ∧ W.cell? ⟨g, 1, none⟩ = some (.int .i64 e0) ∧ W.cell? ⟨g, 2, none⟩ = some (.int .i64 e1) ∧ W.cell? ⟨g, 3, none⟩ = some (.slice A n c) :=
  ⟨(cell_in h 0).trans rfl, (cell_in h 1).trans rfl, (cell_in h 2).trans rfl, (cell_in h 3).trans rfl⟩
set_option maxHeartbeats 16000000 in
set_option maxRecDepth 100000 in
theorem cfor_calls (m : Int) (A1 A2 : Option Addr) (c1 c2 : Nat) (l1 l2 : List S76) (md : Int) (w : World) (hr1 : Kd.C k76 w A1 l1.length l1) (hc1 : l1.length ≤ c1) (hr2 : Kd.C k76 w A2 l2.length l2) (hc2 : l2.length ≤ c2) :
    Calls Try.prog 4 #[.agg #[.int .i64 m, .slice A1 l1.length c1, .slice A2 l2.length c2], .int .i64 md] w fun e w' => e = .returned (.bool true) ∧ Below w.heap.size w w' := by
  have H1 := Aside0.mk hr1
  have H2 := Aside0.mk hr2
  have HB : Aside0 (Below w.heap.size w w) := ⟨Below.refl _ _⟩
  obtain ⟨fw, hfw⟩ : ∃ k, fewP l1 l2 = k := ⟨_, rfl⟩
  have HFW := Aside0.mk hfw
  have hfo := cf_few_or l1 l2
  rw [hfw] at hfo
  clear hr1 hr2 hfw
  go_enter Try.func4, Try.ntmps4
  go_wp2_with (first | ((with_reducible refine gate_dst (N := 2) rfl ?_); refine boxN (w := w) rfl (N := 2) rfl (cs := #[.int .i64 m, .slice A1 l1.length c1, .slice A2 l2.length c2]) (t := 43) (by first | (go_simp; done) | (go_simp; rfl)) HB ?_; intro g2 Wa Ha Lg2 HBa Ka) | ((with_reducible refine gate_dst (N := 15) rfl ?_); refine wpList_load_row rfl 43 _ rfl g2 rfl 43 _ (0, 0) _ Ha.out Try.underlying43 rfl (by kernel_rfl) ?_))
  refine (few_calls m A1 A2 c1 c2 l1 l2 Wa (Kd.C_below H1.out HBa.out) (Kd.C_below H2.out HBa.out) HFW.out).mono ?_
  rintro e w1 ⟨rfl, hb1⟩
  have HB1 := Aside0.mk (below_step HBa.out hb1)
  have Hs1 := Aside0.mk (blk_below Ha.out hb1)
  clear hb1 Ha HBa Ka
  rcases hfo with rfl | rfl
  · go_wp2_with fail
    go_ret
    exact ⟨rfl, HB1.out⟩
  obtain ⟨hf1, hf2⟩ := cf_few_fit HFW.out
  have HF1 := Aside0.mk hf1
  have HF2 := Aside0.mk hf2
  have hl1 := hf1.1
  have hl2 := hf2.1
  clear hf1 hf2
  go_upto_region 3 with fail
  go_cut [5] (fun v5 wc => ∃ (g5 : Nat) (B1 B2 : Option Addr) (d1 d2 : Nat), v5 = .pointer (some ⟨g5, 0, none⟩) ∧ (l1.length ≤ d1 ∧ l2.length ≤ d2) ∧ Aside0 (wc.heap[g5]? = some (.cells #[.slice B1 l1.length d1, .slice B2 l2.length d2] 47 (0, 0))) ∧ Aside0 (Kd.C k76 wc B1 l1.length l1) ∧ Aside0 (Kd.C k76 wc B2 l2.length l2) ∧ Aside0 (Below w1.heap.size w1 wc))
  case first =>
    have HS : Aside0 (∀ W', Below w1.heap.size w1 W' → SchC g2 A1 A2 l1.length c1 l2.length c2 W') := ⟨fun W' hb => ⟨(cell_in (blk_below Hs1.out hb) 1).trans rfl, (cell_in (blk_below Hs1.out hb) 2).trans rfl⟩⟩
    have e41 := Try.underlying41
    have K1 := Aside0.mk (Kd.C_below H1.out HB1.out)
    have K2 := Aside0.mk (Kd.C_below H2.out HB1.out)
    refine startD 11 cforT3 HS ⟨Below.refl _ _⟩ (fun W4 HT B4 K4 => ?_)
    refine pureD 0 (some 18) (lb 11 0x1) HT ?_
    refine pureD 1 (some 19) (lb 11 0x3) HT ?_
    refine pureD 4 (some 22) (lb 11 0x13) HT ?_
    refine pureD 5 (some 23) (lb 11 0x33) HT ?_
    refine takeD 2 (some 20) (lb 11 0x37) HT HS B4 ?_ (hy := Or.inl ⟨by rfl, by intro w' hs; unfold SchC at hs; obtain ⟨s0, s1⟩ := hs; go_simp; with_reducible rfl⟩)
    refine takeD 6 (some 24) (lb 11 0x77) HT HS B4 ?_ (hy := Or.inl ⟨by rfl, by intro w' hs; unfold SchC at hs; obtain ⟨s0, s1⟩ := hs; go_simp; with_reducible rfl⟩)
    refine twoD 3 9 (some 21) (some 5) (lb 11 0x7f) (lb 11 0x277) HT (fun K hK => ?_) (fun K hK => ?_)
    · refine callV (Φ := fun v W => OwnV w1 l1 v W ∧ True) hK HS B4 Try.func15 (ownV_calls A1 c1 l1 _ w1 K1.out (by omega) B4.out _ (fun _ _ => trivial)) (fun v5 W5 H5 B5 => ?_)
      refine twoD 7 9 (some 25) (some 5) (lb 11 0xff) (lb 11 0x27f) HT (fun K hK => ?_) (fun K hK => ?_)
      · refine callV (Φ := fun v W => OwnV w1 l2 v W ∧ OwnV w1 l1 v5 W) hK HS B5 Try.func15 (ownV_calls A2 c2 l2 _ w1 K2.out (by omega) B5.out _ (fun _ h => H5.out.1.below h)) (fun v6 W6 H6 B6 => ?_)
        obtain ⟨hob, hoa⟩ := H6.out
        obtain ⟨Bb, db, eb, hdb⟩ := hob.slice
        obtain ⟨Ba, da, ea, hda⟩ := hoa.slice
        subst eb ea
        have HOb := Aside0.mk hob
        have HOa := Aside0.mk hoa
        refine pureD 8 (some 26) (lb 11 0x1ff) HT ?_
        refine oneD 9 (some 5) (lb 11 0x3ff) HT (fun K hK => ?_)
        refine boxE hK HS B6 #[.slice none 0 0, .slice none 0 0] 47 (by first | (go_simp; done) | (go_simp; rfl)) (fun g5 W7 G7 L7 B7 K7 => ?_)
        refine oneD 10 none (lb 11 0x7ff) HT (fun K hK => ?_)
        refine storeRowE hK HS B7 g5 #[.slice Ba l1.length da, .slice Bb l2.length db] G7 ⟨L7.out.1⟩ (fun W8 G8 B8 O8 => ?_)
        refine doneD HT ?_
        go_wp2_with fail
        go_meet
        exact ⟨g5, Ba, Bb, da, db, rfl, ⟨hda, hdb⟩, G8, ⟨((HOa.out.below K7.out).far G7.out O8.out).reads B8.out⟩, ⟨((HOb.out.below K7.out).far G7.out O8.out).reads B8.out⟩, B8⟩
      · refine boxE hK HS B5 #[.slice none 0 0, .slice none 0 0] 47 (by first | (go_simp; done) | (go_simp; rfl)) (fun g5 W6 G6 L6 B6 K6 => ?_)
        refine oneD 7 (some 25) (lb 11 0x2ff) HT (fun K hK => ?_)
        refine callV (Φ := fun v W => OwnV w1 l2 v W ∧ (OwnV w1 l1 v5 W ∧ W.heap[g5]? = some (.cells #[.slice none 0 0, .slice none 0 0] 47 (0, 0)))) hK HS B6 Try.func15 (ownV_calls A2 c2 l2 _ w1 K2.out (by omega) B6.out _ (fun _ h => ⟨(H5.out.1.below K6.out).below h, blk_below G6.out h⟩)) (fun v6 W7 H7 B7 => ?_)
        obtain ⟨hob, hoa, hG7⟩ := H7.out
        obtain ⟨Bb, db, eb, hdb⟩ := hob.slice
        obtain ⟨Ba, da, ea, hda⟩ := hoa.slice
        subst eb ea
        have HOb := Aside0.mk hob
        have HOa := Aside0.mk hoa
        have G7 := Aside0.mk hG7
        refine pureD 8 (some 26) (lb 11 0x3ff) HT ?_
        refine oneD 10 none (lb 11 0x7ff) HT (fun K hK => ?_)
        refine storeRowE hK HS B7 g5 #[.slice Ba l1.length da, .slice Bb l2.length db] G7 ⟨L6.out.1⟩ (fun W8 G8 B8 O8 => ?_)
        refine doneD HT ?_
        go_wp2_with fail
        go_meet
        exact ⟨g5, Ba, Bb, da, db, rfl, ⟨hda, hdb⟩, G8, ⟨(HOa.out.far G7.out O8.out).reads B8.out⟩, ⟨(HOb.out.far G7.out O8.out).reads B8.out⟩, B8⟩
    · refine boxE hK HS B4 #[.slice none 0 0, .slice none 0 0] 47 (by first | (go_simp; done) | (go_simp; rfl)) (fun g5 W5 G5 L5 B5 K5 => ?_)
      refine oneD 3 (some 21) (lb 11 0x27f) HT (fun K hK => ?_)
      refine callV (Φ := fun v W => OwnV w1 l1 v W ∧ W.heap[g5]? = some (.cells #[.slice none 0 0, .slice none 0 0] 47 (0, 0))) hK HS B5 Try.func15 (ownV_calls A1 c1 l1 _ w1 K1.out (by omega) B5.out _ (fun _ h => blk_below G5.out h)) (fun v5 W6 H6 B6 => ?_)
      refine oneD 7 (some 25) (lb 11 0x2ff) HT (fun K hK => ?_)
      refine callV (Φ := fun v W => OwnV w1 l2 v W ∧ (OwnV w1 l1 v5 W ∧ W.heap[g5]? = some (.cells #[.slice none 0 0, .slice none 0 0] 47 (0, 0)))) hK HS B6 Try.func15 (ownV_calls A2 c2 l2 _ w1 K2.out (by omega) B6.out _ (fun _ h => ⟨H6.out.1.below h, blk_below H6.out.2 h⟩)) (fun v6 W7 H7 B7 => ?_)
      obtain ⟨hob, hoa, hG7⟩ := H7.out
      obtain ⟨Bb, db, eb, hdb⟩ := hob.slice
      obtain ⟨Ba, da, ea, hda⟩ := hoa.slice
      subst eb ea
      have HOb := Aside0.mk hob
      have HOa := Aside0.mk hoa
      have G7 := Aside0.mk hG7
      refine pureD 8 (some 26) (lb 11 0x3ff) HT ?_
      refine oneD 10 none (lb 11 0x7ff) HT (fun K hK => ?_)
      refine storeRowE hK HS B7 g5 #[.slice Ba l1.length da, .slice Bb l2.length db] G7 ⟨L5.out.1⟩ (fun W8 G8 B8 O8 => ?_)
      refine doneD HT ?_
      go_wp2_with fail
      go_meet
      exact ⟨g5, Ba, Bb, da, db, rfl, ⟨hda, hdb⟩, G8, ⟨(HOa.out.far G7.out O8.out).reads B8.out⟩, ⟨(HOb.out.far G7.out O8.out).reads B8.out⟩, B8⟩
  case rest =>
    obtain ⟨g5, B1, B2, d1, d2, rfl, ⟨hd1, hd2⟩, G5, HC1, HC2, HKc⟩ := hcut
    have HBc := Aside0.mk (below_step HB1.out HKc.out)
    have Hsc := Aside0.mk (blk_below Hs1.out HKc.out)
    clear Hs1 HB1 HKc
    obtain ⟨⟨⟨fa, f0, f1, CD⟩, E⟩, hfp⟩ : ∃ r, forP m l1 l2 md = r := ⟨_, rfl⟩
    have HFP := Aside0.mk hfp
    obtain ⟨⟨cv, cw, bad⟩, hck⟩ : ∃ k, checkP m l1 l2 = k := ⟨_, rfl⟩
    have HCK := Aside0.mk hck
    clear hfp hck
    go_wp2_with (first | ((with_reducible refine gate_dst (N := 28) rfl ?_); refine wpList_load_row rfl 43 _ rfl g2 rfl 43 _ (0, 0) _ Hsc.out Try.underlying43 rfl (by kernel_rfl) ?_))
    refine (for_calls m A1 A2 c1 c2 l1 l2 md wc (Kd.C_below H1.out HBc.out) hc1 (Kd.C_below H2.out HBc.out) hc2 HF1.out HF2.out HFP.out).mono ?_
    rintro e w4 ⟨AC, cC, rfl, hcC, hCC, hb4⟩
    dsimp only at hcC hCC ⊢
    have HB4 := Aside0.mk (below_step HBc.out hb4)
    have HCC4 := Aside0.mk hCC
    have Hs4 := Aside0.mk (blk_below Hsc.out hb4)
    have G54 := Aside0.mk (blk_below G5.out hb4)
    have HC14 := Aside0.mk (Kd.C_below HC1.out hb4)
    have HC24 := Aside0.mk (Kd.C_below HC2.out hb4)
    clear hCC hb4 Hsc HBc G5 HC1 HC2
    go_upto_region 5 with (first | ((with_reducible refine gate_dst (N := 6) rfl ?_); refine boxN (w := w4) rfl (N := 6) rfl (cs := imgCs 0 0 0 none 0 0) (t := 25) (by first | (go_simp; done) | (go_simp; rfl)) ⟨Below.refl _ _⟩ ?_; intro g6 Wb Hb Lg6 HBb Kb) | ((with_reducible refine gate_ (.store 25 (.tmp 6) (.tmp 31)) rfl ?_); refine storeCsN (w := w4) rfl 25 (.tmp 6) _ rfl g6 (imgCs fa f0 f1 AC CD.length cC) rfl rfl 25 _ Hb (by kernel_rfl) rfl (by rw [← Array.all_toList]; rfl) HBb ⟨Lg6.out.1⟩ ?_; intro Wc Hc HBc _))
    have HK5 := Aside0.mk HBc.out
    have HB5 := Aside0.mk (below_step HB4.out HBc.out)
    have Hs5 := Aside0.mk (blk_below Hs4.out HBc.out)
    have G55 := Aside0.mk (blk_below G54.out HBc.out)
    have HC15 := Aside0.mk (Kd.C_below HC14.out HBc.out)
    have HC25 := Aside0.mk (Kd.C_below HC24.out HBc.out)
    have HCC5 := Aside0.mk (Kd.C_below HCC4.out HBc.out)
    clear Hb HBb Kb HBc HB4 Hs4 G54 HC14 HC24 HCC4
    have hbd : bad = 0 ∨ bad ≠ 0 := by omega
    rcases hbd with hbd | hbd
    rotate_left
    · have hE : (((fa, f0, f1, CD) : Int × Int × Int × List Int), E) = ((0, 0, 0, []), bad) := by rw [← HFP.out]; unfold forP; rw [HCK.out, if_pos hbd]
      simp only [Prod.mk.injEq] at hE
      obtain ⟨⟨rfl, rfl, rfl, rfl⟩, rfl⟩ := hE
      have k0 : (E != 0) = true := by simpa using hbd
      have k1 : (E == 0) = false := by simpa using hbd
      have HBD := Aside0.mk hbd
      clear hbd
      go_wp2_with (first | ((with_reducible refine gate_dst (N := 34) rfl ?_); refine wpList_load_row rfl 43 _ rfl g2 rfl 43 _ (0, 0) _ Hs5.out Try.underlying43 rfl (by kernel_rfl) ?_))
      refine (allbad_calls m A1 A2 c1 c2 l1 l2 Wc (Kd.C_below H1.out HB5.out) hc1 (Kd.C_below H2.out HB5.out) hc2 HF1.out HF2.out (by rw [HCK.out]) HBD.out).mono ?_
      rintro e w6 ⟨rfl, hb6⟩
      have HB6 := Aside0.mk (below_step HB5.out hb6)
      have Hs6 := Aside0.mk (blk_below Hs5.out hb6)
      have G56 := Aside0.mk (blk_below G55.out hb6)
      have Hc6 := Aside0.mk (blk_below Hc.out hb6)
      have HC16 := Aside0.mk (Kd.C_below HC15.out hb6)
      have HC26 := Aside0.mk (Kd.C_below HC25.out hb6)
      have y0 : w6.cell? ⟨g2, 0, none⟩ = some (.int .i64 m) := (cell_in Hs6.out 0).trans rfl
      clear hb6 HB5 Hs5 G55 Hc HC15 HC25 HCC5
      go_wp2_with (first | ((with_reducible refine gate_dst (N := 41) rfl ?_); refine wpList_load_row rfl 47 _ rfl g5 rfl 47 _ (0, 0) _ G56.out Try.underlying47 rfl (by kernel_rfl) ?_))
      refine (rcheck_calls m B1 B2 d1 d2 l1 l2 w6 HC16.out hd1 HC26.out hd2 HF1.out HF2.out HCK.out).mono ?_
      rintro e w7 ⟨rfl, hb7⟩
      have HB7 := Aside0.mk (below_step HB6.out hb7)
      obtain ⟨z0, z1, z2, z3⟩ := img_cells (blk_below Hc6.out hb7)
      clear hb7 y0
      go_wp2_with fail
      refine (one_calls _).mono ?_
      rintro e w8 ⟨rfl, hb8⟩
      have HB8 := Aside0.mk (below_step HB7.out hb8)
      clear hb8
      go_wp2_with fail
      go_ret
      exact ⟨rfl, HB8.out⟩
    subst hbd
    have HC0 : Aside0 ((checkP m l1 l2).2.2 = 0) := ⟨by rw [HCK.out]⟩
    obtain ⟨⟨hm2, hm16⟩, HW1, HW2⟩ := check_ok HC0.out
    have HW1' := Aside0.mk HW1
    have HW2' := Aside0.mk HW2
    clear HW1 HW2
    obtain ⟨M, rfl⟩ := Int.eq_ofNat_of_zero_le (show 0 ≤ m by omega)
    go_wp2_with (first | ((with_reducible refine gate_dst (N := 34) rfl ?_); refine wpList_load_row rfl 43 _ rfl g2 rfl 43 _ (0, 0) _ Hs5.out Try.underlying43 rfl (by kernel_rfl) ?_))
    refine (all_calls (M : Int) A1 A2 c1 c2 l1 l2 Wc (Kd.C_below H1.out HB5.out) hc1 (Kd.C_below H2.out HB5.out) hc2 HF1.out HF2.out HC0.out).mono ?_
    rintro e w6 ⟨AE, cE, Es, rfl, hxs, hEs, hAt, hb6⟩
    rw [Int.toNat_natCast] at hxs
    have hEM : Es.length = M := by have h := congrArg List.length hxs; rw [List.length_map, List.length_map, List.length_range] at h; exact h
    have HEC := Aside0.mk (Kd.R_reads' hEs).2.2
    have HAT := Aside0.mk hAt
    have HXS := Aside0.mk hxs
    rw [hEM]
    have HEM := Aside0.mk hEM
    have HB6 := Aside0.mk (below_step HB5.out hb6)
    have Hs6 := Aside0.mk (blk_below Hs5.out hb6)
    have G56 := Aside0.mk (blk_below G55.out hb6)
    have Hc6 := Aside0.mk (blk_below Hc.out hb6)
    have HC16 := Aside0.mk (Kd.C_below HC15.out hb6)
    have HC26 := Aside0.mk (Kd.C_below HC25.out hb6)
    have HCC6 := Aside0.mk (Kd.C_below HCC5.out hb6)
    have y0 : w6.cell? ⟨g2, 0, none⟩ = some (.int .i64 (M : Int)) := (cell_in Hs6.out 0).trans rfl
    clear hb6 HB5 Hs5 G55 Hc HC15 HC25 HCC5 hxs hEs hAt hEM
    go_wp2_with (first | ((with_reducible refine gate_dst (N := 41) rfl ?_); refine wpList_load_row rfl 47 _ rfl g5 rfl 47 _ (0, 0) _ G56.out Try.underlying47 rfl (by kernel_rfl) ?_))
    refine (rcheck_calls (M : Int) B1 B2 d1 d2 l1 l2 w6 HC16.out hd1 HC26.out hd2 HF1.out HF2.out HCK.out).mono ?_
    rintro e w7 ⟨rfl, hb7⟩
    have HK7 := Aside0.mk hb7
    have HB7 := Aside0.mk (below_step HB6.out hb7)
    have Hs7 := Aside0.mk (blk_below Hs6.out hb7)
    have G57 := Aside0.mk (blk_below G56.out hb7)
    have Hc7 := Aside0.mk (blk_below Hc6.out hb7)
    have HC17 := Aside0.mk (Kd.C_below HC16.out hb7)
    have HC27 := Aside0.mk (Kd.C_below HC26.out hb7)
    have HCC7 := Aside0.mk (Kd.C_below HCC6.out hb7)
    have y0 : w7.cell? ⟨g2, 0, none⟩ = some (.int .i64 (M : Int)) := (cell_in Hs7.out 0).trans rfl
    obtain ⟨z0, z1, z2, z3⟩ := img_cells Hc7.out
    clear hb7 HB6 Hs6 G56 Hc6 HC16 HC26 HCC6 Hs7
    have k0 : ((M : Int) != (M : Int)) = false := by simp
    have hmd : ((((fa, f0, f1, CD) : Int × Int × Int × List Int), E) = ((0, 0, 0, []), 2) ∧ ((decide (md < 0) = true) ∨ (decide (md < 0) = false ∧ decide ((M : Int) ≤ md) = true))) ∨ ((((fa, f0, f1, CD) : Int × Int × Int × List Int), E) = ((md, 0, 4, codeP l1 l2 md), 0) ∧ (0 ≤ md ∧ md < (M : Int))) := by
      simp only [decide_eq_true_eq, decide_eq_false_iff_not]
      have h := HFP.out
      unfold forP at h
      rw [if_neg (by rw [HC0.out]; decide)] at h
      by_cases b1 : md < 0
      · rw [if_pos b1] at h; exact .inl ⟨h.symm, .inl b1⟩
      by_cases b2 : (M : Int) ≤ md
      · rw [if_neg b1, if_pos b2] at h; exact .inl ⟨h.symm, .inr ⟨b1, b2⟩⟩
      · rw [if_neg b1, if_neg b2] at h; exact .inr ⟨h.symm, by omega⟩
    rcases hmd with ⟨hE, hmd⟩ | ⟨hE, hmd0, hmdM⟩
    · simp only [Prod.mk.injEq] at hE
      obtain ⟨⟨rfl, rfl, rfl, rfl⟩, rfl⟩ := hE
      rcases hmd with n1 | ⟨n1, n2⟩
      all_goals
        go_wp2_with fail
        refine (one_calls _).mono ?_
        rintro e w8 ⟨rfl, hb8⟩
        have HB8 := Aside0.mk (below_step HB7.out hb8)
        clear hb8
        go_wp2_with fail
        go_ret
        exact ⟨rfl, HB8.out⟩
    obtain ⟨X, rfl⟩ := Int.eq_ofNat_of_zero_le hmd0
    have hXM : X < M := by omega
    have HXM := Aside0.mk hXM
    obtain ⟨CQ, hCQ⟩ : ∃ c, codeP l1 l2 (X : Int) = c := ⟨_, rfl⟩
    rw [hCQ] at hE
    simp only [Prod.mk.injEq] at hE
    obtain ⟨⟨rfl, rfl, rfl, rfl⟩, rfl⟩ := hE
    have HCQ := Aside0.mk hCQ
    have HTK : Aside0 (tokP (X : Int) 0 4 CD.length = true ∧ Byts CD ∧ CD.length ≤ 1024) := ⟨by rw [← hCQ]; exact tab_ok HC0.out hmd0 hmdM⟩
    obtain ⟨TB, hTB⟩ : ∃ b, putP (X : Int) 0 4 CD = b := ⟨_, rfl⟩
    have HTB : Aside0 (tabP l1 l2 X = TB) := ⟨by unfold tabP; rw [hCQ, hTB]⟩
    have hpt := put_calls (X : Int) 0 4 AC cC CD w7 HCC7.out hcC HTK.out.2.1 HTK.out.1
    rw [hTB] at hpt
    have HPT := Aside0.mk hpt
    have n1 : decide ((X : Int) < 0) = false := decide_eq_false (by omega)
    have n2 : decide ((M : Int) ≤ (X : Int)) = false := decide_eq_false (by omega)
    have n3 : decide (M ≤ X) = false := decide_eq_false (by omega)
    clear hmd0 hmdM hXM hCQ hTB hpt
    go_upto_region 14 with (first | ((with_reducible refine gate_dst (N := 97) rfl ?_); refine wpList_load_row rfl 25 _ rfl g6 rfl 25 _ (0, 0) _ Hc7.out Try.underlying25 rfl (by kernel_rfl) ?_))
    refine HPT.out.mono ?_
    rintro e w8 ⟨v8, rfl, h8, hb8⟩
    obtain ⟨AB, cB, e8⟩ := Kd.R_slice h8
    subst e8
    have HTB8 := Aside0.mk (Kd.R_reads' h8).2.2
    have HB8 := Aside0.mk (below_step HB7.out hb8)
    have HK8 := Aside0.mk (below_step HK7.out hb8)
    obtain ⟨gT, cT, adT, hA, ct, hCT⟩ := cf_tab rfl HC0.out HXS.out HEC.out HAT.out HK8.out HXM.out
    rw [HTB.out] at ct hCT
    subst hA
    have HCT := Aside0.mk hCT
    have Hct := Aside0.mk ct
    have G58 := Aside0.mk (blk_below G57.out hb8)
    have Hc8 := Aside0.mk (blk_below Hc7.out hb8)
    have HC18 := Aside0.mk (Kd.C_below HC17.out hb8)
    have HC28 := Aside0.mk (Kd.C_below HC27.out hb8)
    have HCC8 := Aside0.mk (Kd.C_below HCC7.out hb8)
    obtain ⟨s1, hs1⟩ : ∃ s, strOfNums CD = s := ⟨_, rfl⟩
    obtain ⟨s2, hs2⟩ : ∃ s, strOfNums TB = s := ⟨_, rfl⟩
    have HS1 : Aside0 (strOfNums (rcodeP l1 l2 (X : Int)) = s1) := ⟨by rw [rcode_is HW1'.out HW2'.out, HCQ.out, hs1]⟩
    have hsv : ∀ W, (Kd.int .u8).C W AC CD.length CD → (convert 23 9 (.slice AC CD.length cC)).run Try.prog W = .ok (.string s1) W := fun W h => by rw [← hs1]; exact Kd.C_string (P := Try.prog) Try.underlying23 Try.underlying5 Try.underlying9 h
    have htv : ∀ W A c, (Kd.int .u8).C W A TB.length TB → (convert 23 9 (.slice A TB.length c)).run Try.prog W = .ok (.string s2) W := fun W A c h => by rw [← hs2]; exact Kd.C_string (P := Try.prog) Try.underlying23 Try.underlying5 Try.underlying9 h
    have HS : Aside0 (∀ W', Below w8.heap.size w8 W' → CfS g5 g6 #[.slice B1 l1.length d1, .slice B2 l2.length d2] (X : Int) AC CD.length cC adT X gT TB.length cT AB cB s1 s2 W') := ⟨fun W' h =>
      ⟨blk_below G58.out h, blk_below Hc8.out h, (h.cell (World.block_lt_of_cell? _ _ Hct.out)).trans Hct.out, hsv _ (Kd.C_below HCC8.out h), htv _ _ _ (Kd.C_below HCT.out h), htv _ _ _ (Kd.C_below HTB8.out h)⟩⟩
    have q1 : (0 ≤ (X : Int)) = True := eq_true (by omega)
    have q2 : ((X : Int) < (M : Int)) = True := eq_true (by have := HXM.out; omega)
    have q3 : (X < M) = True := eq_true HXM.out
    have e22 := Try.underlying22
    clear h8 hb8 hCT hs1 hs2 hsv htv ct z0 z1 z2 z3 y0 n1 n2 n3
    go_upto_region 14 with fail
    refine startD 41 cforT14 HS ⟨Below.refl _ _⟩ (fun W4 HT B4 K4 => ?_)
    refine pureD 0 (some 101) (lb 41 0x1) HT ?_
    refine pureD 1 (some 102) (lb 41 0x3) HT (v := .bool true) ?_ (hy := Or.inl ⟨by rfl, by intro w'; go_simp⟩)
    refine pureD 2 (some 103) (lb 41 0x7) HT ?_
    refine pureD 3 (some 104) (lb 41 0xf) HT ?_
    refine pureD 4 (some 105) (lb 41 0x1f) HT (v := .bool true) ?_ (hy := Or.inl ⟨by rfl, by intro w'; go_simp⟩)
    refine pureD 5 (some 106) (lb 41 0x3f) HT ?_
    refine pureD 6 (some 107) (lb 41 0x7f) HT ?_
    refine pureD 7 (some 108) (lb 41 0xff) HT ?_
    refine takeD 8 (some 109) (lb 41 0x1ff) HT HS B4 ?_ (hy := Or.inl ⟨by rfl, by intro w' hs; unfold CfS at hs; obtain ⟨s0_, s1_, s2_, s3_, s4_, s5_⟩ := hs; have z_ := img_cells s1_; obtain ⟨z0, z1, z2, z3⟩ := z_; go_simp; with_reducible rfl⟩)
    refine takeD 9 (some 110) (lb 41 0x3ff) HT HS B4 ?_ (hy := Or.inl ⟨by rfl, by intro w' hs; unfold CfS at hs; obtain ⟨s0_, s1_, s2_, s3_, s4_, s5_⟩ := hs; go_simp; with_reducible rfl⟩)
    refine takeD 10 (some 111) (lb 41 0x7ff) HT HS B4 ?_ (hy := Or.inl ⟨by rfl, by intro w' hs; unfold CfS at hs; obtain ⟨s0_, s1_, s2_, s3_, s4_, s5_⟩ := hs; exact cf_row 47 _ rfl g5 rfl 47 _ _ s0_ Try.underlying47 rfl (by kernel_rfl)⟩)
    refine pureD 11 (some 112) (lb 41 0xfff) HT ?_
    refine oneD 12 (some 113) (lb 41 0x1fff) HT (fun K hK => ?_)
    refine callK hK HS B4 Try.func19 (rcode_calls B1 B2 d1 d2 l1 l2 (X : Int) _ (Kd.C_below HC18.out B4.out) (Kd.C_below HC28.out B4.out) hl1 hl2 HS1.out) (fun W5 B5 K5 => ?_)
    refine pureD 13 (some 114) (lb 41 0x3fff) HT (v := .bool true) ?_ (hy := Or.inl ⟨by rfl, by intro w'; go_simp⟩)
    refine pureD 14 (some 115) (lb 41 0x7fff) HT ?_
    refine pureD 15 (some 116) (lb 41 0xffff) HT ?_
    refine pureD 16 (some 117) (lb 41 0x1ffff) HT ?_
    refine takeD 17 (some 118) (lb 41 0x3ffff) HT HS B5 ?_ (hy := Or.inl ⟨by rfl, by intro w' hs; unfold CfS at hs; obtain ⟨s0_, s1_, s2_, s3_, s4_, s5_⟩ := hs; have z_ := img_cells s1_; obtain ⟨z0, z1, z2, z3⟩ := z_; go_simp; with_reducible rfl⟩)
    refine pureD 18 (some 119) (lb 41 0x7ffff) HT ?_
    refine pureD 19 (some 120) (lb 41 0xfffff) HT (v := .bool true) ?_ (hy := Or.inl ⟨by rfl, by intro w'; go_simp⟩)
    refine pureD 20 (some 121) (lb 41 0x1fffff) HT ?_
    refine pureD 21 (some 122) (lb 41 0x3fffff) HT ?_
    refine pureD 22 (some 123) (lb 41 0x7fffff) HT ?_
    refine takeD 23 (some 124) (lb 41 0xffffff) HT HS B5 ?_ (hy := Or.inl ⟨by rfl, by intro w' hs; unfold CfS at hs; obtain ⟨s0_, s1_, s2_, s3_, s4_, s5_⟩ := hs; have z_ := img_cells s1_; obtain ⟨z0, z1, z2, z3⟩ := z_; go_simp; with_reducible rfl⟩)
    refine pureD 24 (some 125) (lb 41 0x1ffffff) HT ?_
    refine pureD 25 (some 126) (lb 41 0x3ffffff) HT (v := .bool true) ?_ (hy := Or.inl ⟨by rfl, by intro w'; have eq_ := eq04 w'; go_simp⟩)
    refine pureD 26 (some 127) (lb 41 0x7ffffff) HT ?_
    refine pureD 27 (some 128) (lb 41 0xfffffff) HT ?_
    refine pureD 28 (some 129) (lb 41 0x1fffffff) HT ?_
    refine pureD 29 (some 130) (lb 41 0x3fffffff) HT ?_
    refine pureD 30 (some 131) (lb 41 0x7fffffff) HT ?_
    refine takeD 31 (some 132) (lb 41 0xffffffff) HT HS B5 ?_ (hy := Or.inl ⟨by rfl, by intro w' hs; unfold CfS at hs; obtain ⟨s0_, s1_, s2_, s3_, s4_, s5_⟩ := hs; go_simp; with_reducible rfl⟩)
    refine takeD 32 (some 133) (lb 41 0x1ffffffff) HT HS B5 ?_ (hy := Or.inl ⟨by rfl, by intro w' hs; unfold CfS at hs; obtain ⟨s0_, s1_, s2_, s3_, s4_, s5_⟩ := hs; go_simp; with_reducible rfl⟩)
    refine pureD 33 (some 134) (lb 41 0x3ffffffff) HT ?_
    refine takeD 34 (some 135) (lb 41 0x7ffffffff) HT HS B5 ?_ (hy := Or.inl ⟨by rfl, by intro w' hs; unfold CfS at hs; obtain ⟨s0_, s1_, s2_, s3_, s4_, s5_⟩ := hs; go_simp; with_reducible rfl⟩)
    refine pureD 35 (some 136) (lb 41 0xfffffffff) HT (v := .bool true) ?_ (hy := Or.inl ⟨by rfl, by intro w'; go_simp⟩)
    refine pureD 36 (some 137) (lb 41 0x1fffffffff) HT ?_
    refine pureD 37 (some 138) (lb 41 0x3fffffffff) HT ?_
    refine oneD 38 (some 139) (lb 41 0x7fffffffff) HT (fun K hK => ?_)
    refine callK hK HS B5 Try.func10 (one_calls _) (fun W6 B6 K6 => ?_)
    refine pureD 39 (some 140) (lb 41 0xffffffffff) HT ?_
    refine pureD 40 (some 4) (lb 41 0x1ffffffffff) HT ?_
    refine doneD HT ?_
    clear HT
    go_wp2_with fail
    go_ret
    exact ⟨rfl, below_step HB8.out B6.out⟩
end Go.Proofs.Ytbaapakkdnhcmaa.PWe
namespace Go.Proofs.Ytbaapakkdnhcmaa.PWe
open Go.RowKit Go.Proofs.Ytbaapakkdnhcmaa.Kx Go.Proofs.YtbaapakkdnhcmaaW.PrintWords Go.Proofs.YtbaapakkdnhcmaaW.PrintLast Go.Proofs.YtbaapakkdnhcmaaW.PrintMore
theorem cfor_row (x : Sch) (a1 : Int) (w : World) (hx : Kd.C k76 w x.A0 x.l0.length x.l0 ∧ Kd.C k76 w x.A1 x.l1.length x.l1 ∧ x.l0.length ≤ x.c0 ∧ x.l1.length ≤ x.c1) (_ : (Lit.int .i64 a1).wf = true) :
    Calls Try.prog 4 #[.agg x.arr, .int .i64 a1] w fun e w' => e = .returned (.bool true) ∧ Below w.heap.size w w' :=
  cfor_calls x.md x.A0 x.A1 x.c0 x.c1 x.l0 x.l1 a1 w hx.1 hx.2.2.1 hx.2.1 hx.2.2.2
end Go.Proofs.Ytbaapakkdnhcmaa.PWe
namespace Go.Proofs.Ytbaapakkdnhcmaa.compileFor
open Go.ChangeShapes Go.WideShapes Go.ChangeAt Go.RowKit Go.Proofs.Ytbaapakkdnhcmaa.Kx
open Go.ChangeMaps (open_string shut_string)
set_option linter.unusedVariables false
set_option linter.unusedSimpArgs false
theorem own : ownKnob Try.prog.godebug = none := by kernel_rfl
theorem laidOut : laidOutB Try.prog = true := by kernel_rfl
set_option maxRecDepth 100000 in
theorem lifted (os : Os) (started : os.Started) (H : Type) (enc : TypeId × Value → H) :
    ReturnsInHanded {} Try.checked os 4 .any (Rows.compileForSpec.pre6 enc Try.prog Try.f4 Rows.compileForRow.domain false) (Rows.compileForSpec.post enc Try.prog Try.f4 false true false false) := by
  refine returnsInHanded_of_change_sized (C := Try.checked) own started (by kernel_rfl) Try.func4
    (ChangeSpec.witness6 (enc := enc) (C := Try.checked) false ⟨#[], #[.agg #[.int .i64 0, .slice none 0 0, .slice none 0 0], .int .i64 0], []⟩ 8 (by kernel_rfl) (by kernel_rfl) (by kernel_rfl) (by kernel_rfl)) ?_
  intro W base args ds gs before hval0 hW hcnd hsz0 _
  have hsz : (DataW.weightsEach Try.prog (Try.f4.params.toList ++ Rows.compileForSpec.plain.varTypes Try.prog) (ds ++ gs)).all (· ≤ reachBytes) = true := hsz0
  have hval : ∀ (j : Nat) t v, Try.f4.params[j]? = some t → args[j]? = some v → Value.okWide Try.prog W .any base t v := hval0
  have hW' := hW
  obtain ⟨p, q, hA0, hV, rfl, hfz, hnd⟩ := hW
  have hA : DataW.TrodAll enc Try.prog W 0 (fun _ => true) true Try.f4.params.toList args.toList ds p := hA0
  rw [Try.params4] at hA hval hsz
  obtain ⟨v0, vs0, d0, ds0, p0, q0, hargs, rfl, rfl, h0, r0⟩ := trodAll_cons hA
  obtain ⟨v1, vs1, d1, ds1, p1, q1, rfl, rfl, rfl, h1, r1⟩ := trodAll_cons r0
  obtain ⟨rfl, rfl, rfl⟩ := trodAll_nil r1
  obtain rfl : args = #[v0, v1] := by cases args; simp_all
  obtain ⟨rfl, rfl⟩ := trodVars_none hV
  obtain ⟨cs0, rfl, _⟩ := okWide_struct Try.underlying43 (hval 0 43 v0 rfl rfl)
  have k0 := h0
  have lt0 : ∀ x ∈ p0, x.block < W.heap.size := by obtain ⟨m, hm⟩ := k0; exact DataW.trod_lt m _ _ _ hm
  have hx0 : ∃ x, PWe.RSch W (Value.agg cs0).cells.toList x := by obtain ⟨fuel, hf⟩ := h0; exact PWe.opn_sch _ _ _ _ _ _ hf
  obtain ⟨a0, hcs0, w0⟩ := hx0
  obtain rfl : cs0 = PWe.Sch.arr a0 := Array.toList_inj.1 hcs0
  obtain ⟨a1, rfl, rfl, rfl, w1⟩ := open_int Try.underlying3 (hval 1 3 v1 rfl rfl) h1
  clear hA0 hval0 hsz0 hsz
  refine (PWe.cfor_row a0 a1 W w0 w1).mono fun e W' ⟨he, bel⟩ => ?_
  subst he
  exact ⟨_, rfl, _, _, _, [], _, [], hW', trodAll_mk1 (shut_bool Try.underlying4 _), (trodAll_cons_mk (Below.trod laidOut (by kernel_rfl) (of_decide_eq_true (by kernel_rfl)) k0 bel lt0) (trodAll_cons_mk (shut_int Try.underlying3 w1) trodAll_mk0)), rfl, bel.frame _, fun h => by cases h⟩
theorem over : Rows.compileForRow.holds Try.pinned (OpenSpec.ofChange Rows.compileForSpec) :=
  OpenClaim.holds_of_wide 4 Try.f4 rfl rfl rfl rfl rfl rfl rfl ⟨rfl, rfl, rfl, rfl, rfl⟩ rfl rfl rfl rfl rfl (by kernel_rfl) Try.func4 (by kernel_rfl)
    (of_decide_eq_true (by kernel_rfl)) (by unfold Func.isWrapper; first | (rw [if_pos (by decide +kernel)]; kernel_rfl) | (rw [if_neg (by decide +kernel)]; exact ⟨rfl, rfl⟩))
    (fun os started H enc _ => lifted os started H enc)
theorem proved : Rows.CompileForSaid := over
#print axioms proved
end Go.Proofs.Ytbaapakkdnhcmaa.compileFor
namespace Go.Proofs.Ytbaapakkdnhcmaa
/-- The row, under a short name, for the claim. -/
theorem compileFor_holds : Rows.CompileForSaid := compileFor.proved
end Go.Proofs.Ytbaapakkdnhcmaa
