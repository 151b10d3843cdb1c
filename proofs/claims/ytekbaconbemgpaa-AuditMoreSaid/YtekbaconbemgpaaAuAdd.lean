/- An event of a window, noted: walk. Helper text. -/
import Derived.Test.YtekbaconbemgpaaAuPut
namespace Go.Proofs.Ytekbaconbemgpaa.PWe
open Go.RowKit Go.Proofs.Ytekbaconbemgpaa.Kx Go.Proofs.YtekbaconbemgpaaW.PrintWords Go.Proofs.YtekbaconbemgpaaW.PrintLast Go.Proofs.YtekbaconbemgpaaW.PrintMore
set_option linter.unusedVariables false
set_option linter.unusedSimpArgs false

/-! ### Steps of drawn regions whose last operations (ds) write what they read -/
section
variable {P : Program} {ops : Array Oper} {Q : Exit → Act → World → Prop} {S : World → Prop} {T : Bool × List (List Nat × List Nat)} {ds : List Nat} {w : World}
theorem startE {id : Nat} (n : Nat) (ds : List Nat) {a : Act} (hT : rtab .any ops = T) (hS : S w.drew) (h : Aside0 (rtab .any ops = T) → wpAnyLast P .any ops Q S ds n (lb n 0) a w.drew)
    (hm : P.follows .mixedOrders = true := by kernel_rfl) (hn : ops.size = n := by rfl) (hl : Array.replicate n false = lb n 0 := by kernel_rfl) : (Code.region id ops true).wp P Q a w :=
  start_ (ds := ds) (lb n 0) hm hn hl hS fun _ => h ⟨hT⟩
variable {N : Option Tmp} {oi : Oper} {v : Value} {fuel : Nat} {l : Array Bool} {a a' : Act}
theorem pureE (i : Nat) (N : Option Tmp) (l' : Array Bool) (HT : Aside0 (rtab .any ops = T)) (h : wpAnyLast P .any ops Q S ds fuel l' a' w)
    (hi : ops[i]? = some oi := by rfl) (hN : oi.dst = N := by rfl) (hc : anyT T l.toList l'.toList i = true := by kernel_rfl) (hQ : ∀ c a w, Q (.panic c) (a.put oi.dst v) w → Q (.panic c) a w := by exact fun _ _ _ h => h)
    (hy : Yields P ops oi v a := by exact Or.inl ⟨by rfl, by intro w'; go_simp; with_reducible rfl⟩) (ha : a.put N v = a' := by (simp only [Act.put, List.setIfInBounds_toArray, List.set_cons_zero, List.set_cons_succ, i64_w, i32_w]; rfl)) : wpAnyLast P .any ops Q S ds (fuel + 1) l a w :=
  pure_ l' hi hN (any_of HT.out hc) hQ hy ha h
theorem takeE (i : Nat) (N : Option Tmp) (l' : Array Bool) (HT : Aside0 (rtab .any ops = T)) (hS : S w) (h : wpAnyLast P .any ops Q S ds fuel l' a' w)
    (hi : ops[i]? = some oi := by rfl) (hN : oi.dst = N := by rfl) (hc : takeT T ds l.toList l'.toList i = true := by kernel_rfl) (hQ : ∀ c a w, Q (.panic c) (a.put oi.dst v) w → Q (.panic c) a w := by exact fun _ _ _ h => h)
    (hy : YieldsIf P ops S oi v a := by exact Or.inl ⟨by rfl, by intro w' hs; obtain ⟨s0, s1⟩ := hs; go_simp; with_reducible rfl⟩) (ha : a.put N v = a' := by (simp only [Act.put, List.setIfInBounds_toArray, List.set_cons_zero, List.set_cons_succ, i64_w, i32_w]; rfl)) : wpAnyLast P .any ops Q S ds (fuel + 1) l a w :=
  take_ l' hi hN (take_of HT.out hc) hQ hy hS ha h
/-- A call whose one result is new. -/
theorem callG (i : Nat) (N : Option Tmp) (l' : Array Bool) (HT : Aside0 (rtab .any ops = T)) {f : FuncId} {fn : Func} {args : Array Value} (hf : P.funcs[f]? = some fn) {F : Value → World → Prop} {a' : Value → Act}
    (hcall : Calls P f args w fun e w' => ∃ b : Value, e = .returned b ∧ F b w') (hS : ∀ b W2, F b W2 → S W2) (h : ∀ b W2, F b W2 → wpAnyLast P .any ops Q S ds fuel l' (a' b) W2) {as_ : Array Operand} {ts : Array TypeId}
    (hi : ops[i]? = some oi := by rfl) (hop : oi.op = .call { callee := .value (.func f), args := as_, argTypes := ts } := by rfl) (hN : oi.dst = N := by rfl) (hc : (readyT T.2 l.toList == [i] && l.toList.set i true == l'.toList) = true := by kernel_rfl) (hds : i ∉ ds := by simp)
    (hname : (fn.name == "runtime.NumGoroutine") = false := by rfl) (hb : fn.body.isSome = true := by rfl) (hw : Region.wanted oi (yielded ops a.tmps) = true := by rfl)
    (hargs : as_.map a.eval = args := by (simp only [List.map_toArray, List.map_cons, List.map_nil]; first | done | rfl)) (ha : ∀ b : Value, a.put N b = a' b := by (intro b; simp only [Act.put, List.setIfInBounds_toArray, List.set_cons_zero, List.set_cons_succ]; rfl)) : wpAnyLast P .any ops Q S ds (fuel + 1) l a w := by
  refine one_ l' hi hN (one_of HT.out hc) hds fun K hK => ?_
  refine goes_ hf hname hb args hw hN hop hargs (hcall.mono ?_)
  rintro e w2 ⟨b, rfl, hF⟩
  exact ⟨_, rfl, hK.out _ _ (hS b w2 hF) fun _ => by rw [ha b]; exact h b w2 hF⟩
/-- A store of one cell, one of the last. -/
theorem storeL (i : Nat) (l' : Array Bool) (HT : Aside0 (rtab .any ops = T)) (g j : Nat) (V : Value) (h : wpAnyLast P .any ops Q S ds fuel l' a (w.setCell ⟨g, j, none⟩ V))
    (hi : ops[i]? = some oi := by rfl) (hd : oi.dst = none := by rfl) (hc : (readyT T.2 l.toList == [i] && l.toList.set i true == l'.toList) = true := by kernel_rfl) (hds : i ∈ ds := by simp) (hw : Region.wanted oi (yielded ops a.tmps) = true := by rfl) (hrun : (execOp a.eval oi).run P w = .ok .skip (w.setCell ⟨g, j, none⟩ V) := by go_simp) : wpAnyLast P .any ops Q S ds (fuel + 1) l a w := by
  refine last_ l' hi hd (one_of HT.out hc) hds fun K hK => ?_
  exact skip_ hw hd hrun (hK.out _ _ h)
theorem doneE (HT : Aside0 (rtab .any ops = T)) {n : Nat} (h : Q .normal a w) (hc : (readyT T.2 l.toList == []) = true := by kernel_rfl) : wpAnyLast P .any ops Q S ds n l a w := done_ (done_of HT.out hc) h
end
/-- What changed: the block g, the block of a row, nothing else that was there. -/
structure Chg (g : Nat) (row : Option Nat) (w w' : World) : Prop where
  os : w'.os = w.os
  tape : w'.tape = w.tape
  output : w'.output = w.output
  size : w.heap.size ≤ w'.heap.size
  block : ∀ k, k < w.heap.size → k ≠ g → some k ≠ row → w'.heap[k]? = w.heap[k]?
theorem chg_of {g : Nat} {row : Option Nat} {w w1 w2 w3 : World} (h1 : Below w.heap.size w w1) (h2 : w1.grownBy w2 row) (h3 : w2.grownBy w3 (some g)) : Chg g row w w3 := by
  have s1 := h1.size
  have s2 := h2.size
  have s3 := h3.size
  exact ⟨h3.os.trans (h2.os.trans h1.os), h3.tape.trans (h2.tape.trans h1.tape), h3.output.trans (h2.output.trans h1.output), by omega, fun k hk hg hr => (h3.block k (by omega) (fun e => hg (Option.some.inj e))).trans ((h2.block k (by omega) hr).trans (h1.block k hk))⟩
def AddS (g o : Nat) (ge : Nat) (v0 v1 : Value) (W : World) : Prop := W.cell? ⟨g, o, none⟩ = some v0 ∧ W.cell? ⟨ge, 1, none⟩ = some v1
def addT : Bool × List (List Nat × List Nat) := (true, [([], []), ([], []), ([1], [1]), ([2], [2]), ([3], [3]), ([], []), ([5], [5]), ([4, 6], [4, 6]), ([0, 0, 1, 2, 3, 4, 5, 6, 7], [0]), ([8, 0, 1, 2, 3, 4, 5, 6, 7], [8]), ([9, 7, 7, 0, 1, 2, 3, 4, 5, 6, 7], [7, 9])])
theorem addtab3 : rtab .any (opsOf Try.f76 3) = addT := by kernel_rfl
theorem addtab5 : rtab .any (opsOf Try.f76 5) = addT := by kernel_rfl
theorem addtab8 : rtab .any (opsOf Try.f76 8) = addT := by kernel_rfl
/-- What noting came to: v1 is the new row. -/
def Added (w : World) (g o : Nat) (cs : Array Value) (base : Nat) (ok : Nat → Prop) (vo : Value) (lo : List Int) (m : Int) (first : Bool) (e' : Ending) (w' : World) : Prop :=
  ∃ v1, e' = .returned (.bool first) ∧ Kd.R (Kd.int .i64) 3 w' base ok v1 (putL lo m) ∧ w'.heap[g]? = some (.cells (cs.setIfInBounds o v1) 101 (0, 0)) ∧ Chg g vo.ownBlock w w' ∧ (v1.ownBlock = vo.ownBlock ∨ ∃ b, v1.ownBlock = some b ∧ w.heap.size ≤ b)
theorem added_of {w w1 w2 w3 : World} {g o base : Nat} {cs : Array Value} {ok : Nat → Prop} {vo v1 : Value} {lo : List Int} {m : Int} {first : Bool} (hg : w.heap[g]? = some (.cells cs 101 (0, 0))) (hok : ¬ ok g) (hvo : vo.ownBlock ≠ some g) (hb : Below w.heap.size w w1)
    (hR : Kd.R (Kd.int .i64) 3 w2 base ok v1 (putL lo m)) (hgr : w1.grownBy w2 vo.ownBlock) (hat : v1.ownBlock = vo.ownBlock ∨ ∃ b, v1.ownBlock = some b ∧ w1.heap.size ≤ b) (hw3 : w3 = w2.setCell ⟨g, o, none⟩ v1) : Added w g o cs base ok vo lo m first (.returned (.bool first)) w3 := by
  subst hw3
  have s1 := hb.size
  have hg2 : w2.heap[g]? = some (.cells cs 101 (0, 0)) := (hgr.block g (by have := blk_lt hg; omega) (fun e => hvo e.symm)).trans ((hb.block g (blk_lt hg)).trans hg)
  exact ⟨v1, rfl, Kd.R_grown hR (setCell_grown w2 g o v1) (fun k hk e => hok (by rw [← Option.some.inj e]; exact hk)), set_in hg2 o v1, chg_of hb hgr (setCell_grown w2 g o v1), hat.imp id fun ⟨b, e, h⟩ => ⟨b, e, by omega⟩⟩
section
variable (e : S95) (A7 : Option Addr) (c7 g o base : Nat) (cs : Array Value) (ok : Nat → Prop) (vo : Value) (lo : List Int) (w : World) (hg : w.heap[g]? = some (.cells cs 101 (0, 0))) (hbase : base ≤ w.heap.size) (hfresh : ∀ k, w.heap.size ≤ k → ok k) (hokg : ¬ ok g)
  (hR : Kd.R (Kd.int .i64) 3 w base ok vo lo) (hl : lo.length ≤ 999999) (hs : lo.Pairwise (· < ·))
include hg hbase hfresh hokg hR hl hs
set_option maxHeartbeats 2000000 in
set_option maxRecDepth 100000 in
theorem add1_calls (hw : e.f2 = 1) (hc : cs[o + 3]? = some vo) :
    Calls Try.prog 76 #[.pointer (some ⟨g, o, none⟩), .agg (evc e A7 c7)] w (Added w g (o + 3) cs base ok vo lo e.f1 false) := by
  have hvo : vo.ownBlock ≠ some g := fun h => hokg (hR.1 g h)
  have HG := Aside0.mk hg
  have HOKG := Aside0.mk hokg
  have HVO := Aside0.mk hvo
  have HFR := Aside0.mk hfresh
  have HC := Aside0.mk hc
  have HR := Aside0.mk hR
  have HS := Aside0.mk hs
  have HW := Aside0.mk hw
  have HB : Aside0 (Below w.heap.size w w) := ⟨Below.refl _ _⟩
  unfold evc
  obtain ⟨A, c, rfl⟩ := Kd.R_slice hR
  have k1 : (e.f2 == 1) = true := by rw [hw]; rfl
  have k2 : (e.f2 == 2) = false := by rw [hw]; rfl
  have k3 : (e.f2 == 3) = false := by rw [hw]; rfl
  clear hg hfresh hokg hR hs hw hc hvo
  go_enter Try.func76, Try.ntmps76
  go_wp2_with (first | ((with_reducible refine gate_dst (N := 3) rfl ?_); refine boxN (w := w) rfl (N := 3) rfl (cs := #[.int .i64 e.f0, .int .i64 e.f1, .int .i64 e.f2, .int .i64 e.f3, .int .i64 e.f4, .int .i64 e.f5, .int .i64 e.f6, .slice A7 e.f7.length c7]) (t := 95) (by first | (go_simp; done) | (go_simp; rfl)) HB ?_; intro ga Wa Ha Lga HB_Wa K_Wa; have z2 : Wa.cell? ⟨ga, 2, none⟩ = some (.int .i64 e.f2) := cell_in Ha.out 2))
  (try simp only [Act.put, List.setIfInBounds_toArray, List.set_cons_zero, List.set_cons_succ])
  have hSa : ∀ W, Below Wa.heap.size Wa W → AddS g (o + 3) ga (.slice A lo.length c) (.int .i64 e.f1) W := fun W hb =>
    ⟨(cell_in (blk_below (blk_below HG.out K_Wa.out) hb) _).trans HC.out, cell_in (blk_below Ha.out hb) 1⟩
  have HSA := Aside0.mk hSa
  clear hSa
  have HBD : Aside0 (Below w.heap.size w Wa.drew) := ⟨below_drew1 HB_Wa.out⟩
  have KD : Aside0 (Below Wa.heap.size Wa Wa.drew) := ⟨below_drew1 (Below.refl _ _)⟩
  refine startE 11 [10] addtab3 (HSA.out _ KD.out) (fun HT => ?_)
  obtain ⟨Wb, hWb⟩ : ∃ W, Wa.drew = W := ⟨_, rfl⟩
  rw [hWb] at HBD KD ⊢
  clear hWb
  refine pureE 0 (some 10) (lb 11 0x1) HT ?_
  refine pureE 1 (some 11) (lb 11 0x3) HT ?_
  refine pureE 2 (some 12) (lb 11 0x7) HT ?_
  refine pureE 3 (some 13) (lb 11 0xf) HT ?_
  refine takeE 4 (some 14) (lb 11 0x1f) HT (HSA.out _ KD.out) ?_
  refine pureE 5 (some 15) (lb 11 0x3f) HT ?_
  refine takeE 6 (some 16) (lb 11 0x7f) HT (HSA.out _ KD.out) ?_
  have hRb : Kd.R (Kd.int .i64) 3 Wb base ok (.slice A lo.length c) lo := Kd.R_below HR.out HBD.out
  have hsb := HBD.out.size
  refine callG 7 (some 17) (lb 11 0xff) HT Try.func81 (put_calls (.slice A lo.length c) lo e.f1 base ok Wb hRb hl HS.out (by omega) (fun k hk => HFR.out k (by omega))) ?_ ?_
  · rintro b W2 ⟨-, hgr, -⟩
    have hgb : Wb.heap[g]? = some (.cells cs 101 (0, 0)) := blk_below HG.out HBD.out
    have hab := blk_below Ha.out KD.out
    have hg2 := (hgr.block g (blk_lt hgb) (fun h => HVO.out h.symm)).trans hgb
    have ha2 := (hgr.block ga (blk_lt hab) (fun h => by
      have h1 := Kd.R_lt HR.out ga h.symm
      have h2 := Lga.out.1
      omega)).trans hab
    exact ⟨(cell_in hg2 _).trans HC.out, cell_in ha2 1⟩
  rintro v1 W2 ⟨hR1, hgr, hat⟩
  obtain ⟨A1, c1, rfl⟩ := Kd.R_slice hR1
  obtain ⟨n1, hn1⟩ : ∃ n, (putL lo e.f1).length = n := ⟨_, rfl⟩
  rw [hn1] at hR1 hat ⊢
  have hgb : Wb.heap[g]? = some (.cells cs 101 (0, 0)) := blk_below HG.out HBD.out
  have hg2 := (hgr.block g (blk_lt hgb) (fun h => HVO.out h.symm)).trans hgb
  have d0 : W2.cell? ⟨g, o + 3, none⟩ = some (.slice A lo.length c) := (cell_in hg2 _).trans HC.out
  have d1 := free_in hg2 (o + 3)
  have HAD := Aside0.mk (added_of (o := o + 3) (first := false) (m := e.f1) HG.out HOKG.out HVO.out HBD.out hR1 hgr hat rfl)
  clear hR1 hgr hat hgb hg2 hRb hsb hn1
  refine pureE 8 (some 18) (lb 11 0x1ff) HT ?_
  refine pureE 9 (some 19) (lb 11 0x3ff) HT ?_
  refine storeL 10 (lb 11 0x7ff) HT g (o + 3) (.slice A1 n1 c1) ?_
  refine doneE HT ?_
  clear HT d0 d1
  go_wp2_with fail
  go_ret
  exact HAD.out
set_option maxHeartbeats 2000000 in
set_option maxRecDepth 100000 in
theorem add3_calls (hw : e.f2 = 3) (hc : cs[o + 5]? = some vo) :
    Calls Try.prog 76 #[.pointer (some ⟨g, o, none⟩), .agg (evc e A7 c7)] w (Added w g (o + 5) cs base ok vo lo e.f1 false) := by
  have hvo : vo.ownBlock ≠ some g := fun h => hokg (hR.1 g h)
  have HG := Aside0.mk hg
  have HOKG := Aside0.mk hokg
  have HVO := Aside0.mk hvo
  have HFR := Aside0.mk hfresh
  have HC := Aside0.mk hc
  have HR := Aside0.mk hR
  have HS := Aside0.mk hs
  have HW := Aside0.mk hw
  have HB : Aside0 (Below w.heap.size w w) := ⟨Below.refl _ _⟩
  unfold evc
  obtain ⟨A, c, rfl⟩ := Kd.R_slice hR
  have k1 : (e.f2 == 1) = false := by rw [hw]; rfl
  have k2 : (e.f2 == 2) = false := by rw [hw]; rfl
  have k3 : (e.f2 == 3) = true := by rw [hw]; rfl
  clear hg hfresh hokg hR hs hw hc hvo
  go_enter Try.func76, Try.ntmps76
  go_wp2_with (first | ((with_reducible refine gate_dst (N := 3) rfl ?_); refine boxN (w := w) rfl (N := 3) rfl (cs := #[.int .i64 e.f0, .int .i64 e.f1, .int .i64 e.f2, .int .i64 e.f3, .int .i64 e.f4, .int .i64 e.f5, .int .i64 e.f6, .slice A7 e.f7.length c7]) (t := 95) (by first | (go_simp; done) | (go_simp; rfl)) HB ?_; intro ga Wa Ha Lga HB_Wa K_Wa; have z2 : Wa.cell? ⟨ga, 2, none⟩ = some (.int .i64 e.f2) := cell_in Ha.out 2))
  (try simp only [Act.put, List.setIfInBounds_toArray, List.set_cons_zero, List.set_cons_succ])
  have hSa : ∀ W, Below Wa.heap.size Wa W → AddS g (o + 5) ga (.slice A lo.length c) (.int .i64 e.f1) W := fun W hb =>
    ⟨(cell_in (blk_below (blk_below HG.out K_Wa.out) hb) _).trans HC.out, cell_in (blk_below Ha.out hb) 1⟩
  have HSA := Aside0.mk hSa
  clear hSa
  have HBD : Aside0 (Below w.heap.size w Wa.drew) := ⟨below_drew1 HB_Wa.out⟩
  have KD : Aside0 (Below Wa.heap.size Wa Wa.drew) := ⟨below_drew1 (Below.refl _ _)⟩
  refine startE 11 [10] addtab5 (HSA.out _ KD.out) (fun HT => ?_)
  obtain ⟨Wb, hWb⟩ : ∃ W, Wa.drew = W := ⟨_, rfl⟩
  rw [hWb] at HBD KD ⊢
  clear hWb
  refine pureE 0 (some 22) (lb 11 0x1) HT ?_
  refine pureE 1 (some 23) (lb 11 0x3) HT ?_
  refine pureE 2 (some 24) (lb 11 0x7) HT ?_
  refine pureE 3 (some 25) (lb 11 0xf) HT ?_
  refine takeE 4 (some 26) (lb 11 0x1f) HT (HSA.out _ KD.out) ?_
  refine pureE 5 (some 27) (lb 11 0x3f) HT ?_
  refine takeE 6 (some 28) (lb 11 0x7f) HT (HSA.out _ KD.out) ?_
  have hRb : Kd.R (Kd.int .i64) 3 Wb base ok (.slice A lo.length c) lo := Kd.R_below HR.out HBD.out
  have hsb := HBD.out.size
  refine callG 7 (some 29) (lb 11 0xff) HT Try.func81 (put_calls (.slice A lo.length c) lo e.f1 base ok Wb hRb hl HS.out (by omega) (fun k hk => HFR.out k (by omega))) ?_ ?_
  · rintro b W2 ⟨-, hgr, -⟩
    have hgb : Wb.heap[g]? = some (.cells cs 101 (0, 0)) := blk_below HG.out HBD.out
    have hab := blk_below Ha.out KD.out
    have hg2 := (hgr.block g (blk_lt hgb) (fun h => HVO.out h.symm)).trans hgb
    have ha2 := (hgr.block ga (blk_lt hab) (fun h => by
      have h1 := Kd.R_lt HR.out ga h.symm
      have h2 := Lga.out.1
      omega)).trans hab
    exact ⟨(cell_in hg2 _).trans HC.out, cell_in ha2 1⟩
  rintro v1 W2 ⟨hR1, hgr, hat⟩
  obtain ⟨A1, c1, rfl⟩ := Kd.R_slice hR1
  obtain ⟨n1, hn1⟩ : ∃ n, (putL lo e.f1).length = n := ⟨_, rfl⟩
  rw [hn1] at hR1 hat ⊢
  have hgb : Wb.heap[g]? = some (.cells cs 101 (0, 0)) := blk_below HG.out HBD.out
  have hg2 := (hgr.block g (blk_lt hgb) (fun h => HVO.out h.symm)).trans hgb
  have d0 : W2.cell? ⟨g, o + 5, none⟩ = some (.slice A lo.length c) := (cell_in hg2 _).trans HC.out
  have d1 := free_in hg2 (o + 5)
  have HAD := Aside0.mk (added_of (o := o + 5) (first := false) (m := e.f1) HG.out HOKG.out HVO.out HBD.out hR1 hgr hat rfl)
  clear hR1 hgr hat hgb hg2 hRb hsb hn1
  refine pureE 8 (some 30) (lb 11 0x1ff) HT ?_
  refine pureE 9 (some 31) (lb 11 0x3ff) HT ?_
  refine storeL 10 (lb 11 0x7ff) HT g (o + 5) (.slice A1 n1 c1) ?_
  refine doneE HT ?_
  clear HT d0 d1
  go_wp2_with fail
  go_ret
  exact HAD.out
set_option maxHeartbeats 2000000 in
set_option maxRecDepth 100000 in
theorem add2_calls (hw : e.f2 = 2) (hc : cs[o + 4]? = some vo) :
    Calls Try.prog 76 #[.pointer (some ⟨g, o, none⟩), .agg (evc e A7 c7)] w (Added w g (o + 4) cs base ok vo lo e.f1 ((lo.length : Int) == 0)) := by
  have hvo : vo.ownBlock ≠ some g := fun h => hokg (hR.1 g h)
  have HG := Aside0.mk hg
  have HOKG := Aside0.mk hokg
  have HVO := Aside0.mk hvo
  have HFR := Aside0.mk hfresh
  have HC := Aside0.mk hc
  have HR := Aside0.mk hR
  have HS := Aside0.mk hs
  have HW := Aside0.mk hw
  have HB : Aside0 (Below w.heap.size w w) := ⟨Below.refl _ _⟩
  unfold evc
  obtain ⟨A, c, rfl⟩ := Kd.R_slice hR
  have k1 : (e.f2 == 1) = false := by rw [hw]; rfl
  have k2 : (e.f2 == 2) = true := by rw [hw]; rfl
  have k3 : (e.f2 == 3) = false := by rw [hw]; rfl
  clear hg hfresh hokg hR hs hw hc hvo
  go_enter Try.func76, Try.ntmps76
  go_wp2_with (first | ((with_reducible refine gate_dst (N := 3) rfl ?_); refine boxN (w := w) rfl (N := 3) rfl (cs := #[.int .i64 e.f0, .int .i64 e.f1, .int .i64 e.f2, .int .i64 e.f3, .int .i64 e.f4, .int .i64 e.f5, .int .i64 e.f6, .slice A7 e.f7.length c7]) (t := 95) (by first | (go_simp; done) | (go_simp; rfl)) HB ?_; intro ga Wa Ha Lga HB_Wa K_Wa; have z2 : Wa.cell? ⟨ga, 2, none⟩ = some (.int .i64 e.f2) := cell_in Ha.out 2; have y4 : Wa.cell? ⟨g, o + 4, none⟩ = some (.slice A lo.length c) := (cell_in (blk_below HG.out K_Wa.out) _).trans HC.out))
  (try simp only [Act.put, List.setIfInBounds_toArray, List.set_cons_zero, List.set_cons_succ])
  have hSa : ∀ W, Below Wa.heap.size Wa W → AddS g (o + 4) ga (.slice A lo.length c) (.int .i64 e.f1) W := fun W hb =>
    ⟨(cell_in (blk_below (blk_below HG.out K_Wa.out) hb) _).trans HC.out, cell_in (blk_below Ha.out hb) 1⟩
  have HSA := Aside0.mk hSa
  clear hSa
  have HBD : Aside0 (Below w.heap.size w Wa.drew) := ⟨below_drew1 HB_Wa.out⟩
  have KD : Aside0 (Below Wa.heap.size Wa Wa.drew) := ⟨below_drew1 (Below.refl _ _)⟩
  refine startE 11 [10] addtab8 (HSA.out _ KD.out) (fun HT => ?_)
  obtain ⟨Wb, hWb⟩ : ∃ W, Wa.drew = W := ⟨_, rfl⟩
  rw [hWb] at HBD KD ⊢
  clear hWb
  refine pureE 0 (some 40) (lb 11 0x1) HT ?_
  refine pureE 1 (some 41) (lb 11 0x3) HT ?_
  refine pureE 2 (some 42) (lb 11 0x7) HT ?_
  refine pureE 3 (some 43) (lb 11 0xf) HT ?_
  refine takeE 4 (some 44) (lb 11 0x1f) HT (HSA.out _ KD.out) ?_
  refine pureE 5 (some 45) (lb 11 0x3f) HT ?_
  refine takeE 6 (some 46) (lb 11 0x7f) HT (HSA.out _ KD.out) ?_
  have hRb : Kd.R (Kd.int .i64) 3 Wb base ok (.slice A lo.length c) lo := Kd.R_below HR.out HBD.out
  have hsb := HBD.out.size
  refine callG 7 (some 47) (lb 11 0xff) HT Try.func81 (put_calls (.slice A lo.length c) lo e.f1 base ok Wb hRb hl HS.out (by omega) (fun k hk => HFR.out k (by omega))) ?_ ?_
  · rintro b W2 ⟨-, hgr, -⟩
    have hgb : Wb.heap[g]? = some (.cells cs 101 (0, 0)) := blk_below HG.out HBD.out
    have hab := blk_below Ha.out KD.out
    have hg2 := (hgr.block g (blk_lt hgb) (fun h => HVO.out h.symm)).trans hgb
    have ha2 := (hgr.block ga (blk_lt hab) (fun h => by
      have h1 := Kd.R_lt HR.out ga h.symm
      have h2 := Lga.out.1
      omega)).trans hab
    exact ⟨(cell_in hg2 _).trans HC.out, cell_in ha2 1⟩
  rintro v1 W2 ⟨hR1, hgr, hat⟩
  obtain ⟨A1, c1, rfl⟩ := Kd.R_slice hR1
  obtain ⟨n1, hn1⟩ : ∃ n, (putL lo e.f1).length = n := ⟨_, rfl⟩
  rw [hn1] at hR1 hat ⊢
  have hgb : Wb.heap[g]? = some (.cells cs 101 (0, 0)) := blk_below HG.out HBD.out
  have hg2 := (hgr.block g (blk_lt hgb) (fun h => HVO.out h.symm)).trans hgb
  have d0 : W2.cell? ⟨g, o + 4, none⟩ = some (.slice A lo.length c) := (cell_in hg2 _).trans HC.out
  have d1 := free_in hg2 (o + 4)
  have HAD := Aside0.mk (added_of (o := o + 4) (first := ((lo.length : Int) == 0)) (m := e.f1) HG.out HOKG.out HVO.out HBD.out hR1 hgr hat rfl)
  clear hR1 hgr hat hgb hg2 hRb hsb hn1
  refine pureE 8 (some 48) (lb 11 0x1ff) HT ?_
  refine pureE 9 (some 49) (lb 11 0x3ff) HT ?_
  refine storeL 10 (lb 11 0x7ff) HT g (o + 4) (.slice A1 n1 c1) ?_
  refine doneE HT ?_
  clear HT d0 d1
  go_wp2_with fail
  go_ret
  exact HAD.out

end
end Go.Proofs.Ytekbaconbemgpaa.PWe
