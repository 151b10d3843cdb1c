/- Words for walks by hand, more: a cell written, a block written, a call that answers a list; elements of lists. Helper text. -/
import Derived.Test.YtmoodblpgnnenaaDoorWhDraw
import Derived.Test.YtmoodblpgnnenaaDoorK5
namespace Go.Proofs.YtmoodblpgnnenaaDoor.PWe
open Go.RowKit Go.Proofs.YtmoodblpgnnenaaDoor.Kx Go.Proofs.YtmoodblpgnnenaaDoorW.PrintWords Go.Proofs.YtmoodblpgnnenaaDoorW.PrintLast Go.Proofs.YtmoodblpgnnenaaDoorW.PrintMore
set_option linter.unusedVariables false
set_option linter.unusedSimpArgs false

section
variable {P : Program} {ops : Array Oper} {rest : List Oper} {o : Oper} {a : Act} {Q : Exit → Act → World → Prop} {w W : World}
/-- A list made, its block. -/
theorem litW (hgd : o.guard = none) {N : Tmp} (hd : o.dst = some N) (cs : Array Value) (e : TypeId) (n : Nat)
    (hrun : (execOp a.eval o).run P W = .ok (.value (.slice (some ⟨W.heap.size, 0, none⟩) n n)) (W.alloc (.cells cs e))) (HB : Aside0 (Below w.heap.size w W))
    (h : ∀ g w1, Aside0 (w1.heap[g]? = some (.cells cs e (0, 0))) → Aside0 (W.heap.size ≤ g) → Aside0 (Below w.heap.size w w1) → Aside0 (Below W.heap.size W w1) → wpList P ops Q rest (a.put o.dst (.slice (some ⟨g, 0, none⟩) n n)) w1) : wpList P ops Q (o :: rest) a W :=
  Kd.event_run hgd hrun (h _ _ ⟨blk_new W _⟩ ⟨Nat.le_refl _⟩ ⟨below_step HB.out (below_alloc (Below.refl _ _) _)⟩ ⟨below_alloc (Below.refl _ _) _⟩)
/-- One cell of a block is written. -/
theorem storeCellN (hgd : o.guard = none) (hd : o.dst = none) (ty : TypeId) (x y : Operand) (ho : o.op = .store ty x y) (g j : Nat) (V : Value) {t : TypeId} {cs : Array Value} (hg : Aside0 (W.heap[g]? = some (.cells cs t (0, 0))))
    (hrun : (execOp a.eval o).run P W = .ok .skip (W.setCell ⟨g, j, none⟩ V)) (HB : Aside0 (Below w.heap.size w W)) (hle : Aside0 (w.heap.size ≤ g))
    (h : ∀ W3, Aside0 (W3.heap[g]? = some (.cells (cs.setIfInBounds j V) t (0, 0))) → Aside0 (Below w.heap.size w W3) → Aside0 (∀ b, b ≠ g → W3.heap[b]? = W.heap[b]?) → wpList P ops Q rest (a.put o.dst undef) W3) : wpList P ops Q (o :: rest) a W := by
  refine wpList_plain hgd fun K hK => ?_
  unfold Oper.wp
  rw [hrun]
  exact hK _ _ (h _ ⟨set_in hg.out j V⟩ ⟨below_set HB.out hle.out⟩ ⟨fun b hb => set_ne j V (fun e => hb e.symm)⟩)
/-- A whole block is written; the other blocks stay. -/
theorem storeCsN (hgd : o.guard = none) (ty : TypeId) (x y : Operand) (ho : o.op = .store ty x y)
    (g : Nat) (cells : Array Value) (hx : a.eval x = .pointer (some ⟨g, 0, none⟩)) (hy : a.eval y = .agg cells)
    (t : TypeId) (old : Array Value) (hg : Aside0 (W.heap[g]? = some (.cells old t (0, 0)))) (hi : (P.info? ty).map (·.size) = some cells.size)
    (hold : old.size = cells.size) (h1 : cells.all (·.oneCell') = true) (HB : Aside0 (Below w.heap.size w W)) (hle : Aside0 (w.heap.size ≤ g))
    (h : ∀ W3, Aside0 (W3.heap[g]? = some (.cells cells t (0, 0))) → Aside0 (Below w.heap.size w W3) → Aside0 (∀ b, b ≠ g → W3.heap[b]? = W.heap[b]?) → wpList P ops Q rest (a.put o.dst undef) W3) : wpList P ops Q (o :: rest) a W :=
  wpList_store_row hgd ty x y ho g cells hx hy t old hg.out hi hold h1 (h _ ⟨setRow_heap _ _ _ _ _ _ hg.out⟩ ⟨Kx.below_setRow HB.out hle.out⟩ ⟨fun b hb => setRow_other W g b cells hb⟩)
end
section
variable {P : Program} {ops : Array Oper} {Q : Exit → Act → World → Prop} {S : World → Prop} {w wb : World} {K : Act → World → Prop} {l' : Array Bool} {oi : Oper} {a : Act} {fuel : Nat} {N : Option Tmp}
/-- A call whose answer is told by a property. -/
theorem callV {Φ : Value → World → Prop} {a' : Value → Act} (hK : Shut (∀ a' w', S w' → (S w' → wpAnyLast P .any ops Q S [] fuel l' a' w') → K a' w')) (HS : Aside0 (∀ W', Below wb.heap.size wb W' → S W')) (HB : Aside0 (Below wb.heap.size wb w))
    {f : FuncId} {fn : Func} {args : Array Value} (hf : P.funcs[f]? = some fn) (hcall : Calls P f args w fun e w' => ∃ v, e = .returned v ∧ Φ v w' ∧ Below wb.heap.size wb w') (h : ∀ v W2, Aside0 (Φ v W2) → Aside0 (Below wb.heap.size wb W2) → wpAnyLast P .any ops Q S [] fuel l' (a' v) W2)
    {as_ : Array Operand} {ts : Array TypeId} (hop : oi.op = .call { callee := .value (.func f), args := as_, argTypes := ts } := by rfl) (hname : (fn.name == "runtime.NumGoroutine") = false := by rfl) (hb : fn.body.isSome = true := by rfl)
    (hw : Region.wanted oi (yielded ops a.tmps) = true := by rfl) (hN : oi.dst = N := by rfl) (hargs : as_.map a.eval = args := by (simp only [List.map_toArray, List.map_cons, List.map_nil]; first | done | rfl)) (ha : ∀ v, a.put N v = a' v := by (intro v; simp only [Act.put, List.setIfInBounds_toArray, List.set_cons_zero, List.set_cons_succ, i64_w, i32_w]; rfl)) :
    if Region.wanted oi (yielded ops a.tmps) = true then Oper.wp P oi a w K Q else K (a.put N undef) w := by
  refine goes_ hf hname hb args hw hN hop hargs (hcall.mono ?_)
  rintro e w2 ⟨v, rfl, hp, hb3⟩
  exact ⟨_, rfl, hK.out _ _ (HS.out _ hb3) fun _ => (ha v).symm ▸ h v w2 ⟨hp⟩ ⟨hb3⟩⟩
end
/-! ### Steps of drawn regions whose last operations (ds) write what they read -/
section
variable {P : Program} {ops : Array Oper} {Q : Exit → Act → World → Prop} {S : World → Prop} {T : Bool × List (List Nat × List Nat)} {ds : List Nat} {w : World}
theorem startE {id : Nat} (n : Nat) (ds : List Nat) {a : Act} (hT : rtab .any ops = T) (hS : S w.drew) (h : Aside0 (rtab .any ops = T) → wpAnyLast P .any ops Q S ds n (lb n 0) a w.drew)
    (hm : P.follows .mixedOrders = true := by kernel_rfl) (hn : ops.size = n := by rfl) (hl : Array.replicate n false = lb n 0 := by kernel_rfl) : (Code.region id ops true).wp P Q a w :=
  start_ (ds := ds) (lb n 0) hm hn hl hS fun _ => h ⟨hT⟩
variable {N : Option Tmp} {oi : Oper} {v : Value} {fuel : Nat} {l : Array Bool} {a a' : Act}
theorem pureE (i : Nat) (N : Option Tmp) (l' : Array Bool) (HT : Aside0 (rtab .any ops = T)) (h : wpAnyLast P .any ops Q S ds fuel l' a' w)
    (hi : ops[i]? = some oi := by rfl) (hN : oi.dst = N := by rfl) (hc : anyT T l.toList l'.toList i = true := by kernel_rfl) (hQ : ∀ c a w, Q (.panic c) (a.put oi.dst v) w → Q (.panic c) a w := by exact fun _ _ _ h => h)
    (hy : Yields P ops oi v a := by exact Or.inl ⟨by rfl, by intro w'; go_simp; with_reducible rfl⟩) (ha : a.put N v = a' := by (simp only [Act.put, List.setIfInBounds_toArray, List.set_cons_zero, List.set_cons_succ, i64_w, i32_w]; rfl)) : wpAnyLast P .any ops Q S ds (fuel + 1) l a w :=
  pure_ l' hi hN (any_of HT.out hc) hQ hy ha h
theorem takeE (i : Nat) (N : Option Tmp) (l' : Array Bool) (HT : Aside0 (rtab .any ops = T)) (hS : S w) (h : wpAnyLast P .any ops Q S ds fuel l' a' w)
    (hi : ops[i]? = some oi := by rfl) (hN : oi.dst = N := by rfl) (hc : takeT T ds l.toList l'.toList i = true := by kernel_rfl) (hQ : ∀ c a w, Q (.panic c) (a.put oi.dst v) w → Q (.panic c) a w := by exact fun _ _ _ h => h)
    (hy : YieldsIf P ops S oi v a := by exact Or.inl ⟨by rfl, by intro w' hs; obtain ⟨s0, s1⟩ := hs; go_simp; with_reducible rfl⟩) (ha : a.put N v = a' := by (simp only [Act.put, List.setIfInBounds_toArray, List.set_cons_zero, List.set_cons_succ, i64_w, i32_w]; rfl)) : wpAnyLast P .any ops Q S ds (fuel + 1) l a w :=
  take_ l' hi hN (take_of HT.out hc) hQ hy hS ha h
/-- A call whose one result is new. -/
theorem callG (i : Nat) (N : Option Tmp) (l' : Array Bool) (HT : Aside0 (rtab .any ops = T)) {f : FuncId} {fn : Func} {args : Array Value} (hf : P.funcs[f]? = some fn) {F : Value → World → Prop} {a' : Value → Act}
    (hcall : Calls P f args w fun e w' => ∃ b : Value, e = .returned b ∧ F b w') (hS : ∀ b W2, F b W2 → S W2) (h : ∀ b W2, F b W2 → wpAnyLast P .any ops Q S ds fuel l' (a' b) W2) {as_ : Array Operand} {ts : Array TypeId}
    (hi : ops[i]? = some oi := by rfl) (hop : oi.op = .call { callee := .value (.func f), args := as_, argTypes := ts } := by rfl) (hN : oi.dst = N := by rfl) (hc : (readyT T.2 l.toList == [i] && l.toList.set i true == l'.toList) = true := by kernel_rfl) (hds : i ∉ ds := by simp)
    (hname : (fn.name == "runtime.NumGoroutine") = false := by rfl) (hb : fn.body.isSome = true := by rfl) (hw : Region.wanted oi (yielded ops a.tmps) = true := by rfl)
    (hargs : as_.map a.eval = args := by (simp only [List.map_toArray, List.map_cons, List.map_nil]; first | done | rfl)) (ha : ∀ b : Value, a.put N b = a' b := by (intro b; simp only [Act.put, List.setIfInBounds_toArray, List.set_cons_zero, List.set_cons_succ]; rfl)) : wpAnyLast P .any ops Q S ds (fuel + 1) l a w := by
  refine one_ l' hi hN (one_of HT.out hc) hds fun K hK => ?_
  refine goes_ hf hname hb args hw hN hop hargs (hcall.mono ?_)
  rintro e w2 ⟨b, rfl, hF⟩
  exact ⟨_, rfl, hK.out _ _ (hS b w2 hF) fun _ => by rw [ha b]; exact h b w2 hF⟩
/-- A store of one cell, one of the last. -/
theorem storeL (i : Nat) (l' : Array Bool) (HT : Aside0 (rtab .any ops = T)) (g j : Nat) (V : Value) (h : wpAnyLast P .any ops Q S ds fuel l' a (w.setCell ⟨g, j, none⟩ V))
    (hi : ops[i]? = some oi := by rfl) (hd : oi.dst = none := by rfl) (hc : (readyT T.2 l.toList == [i] && l.toList.set i true == l'.toList) = true := by kernel_rfl) (hds : i ∈ ds := by simp) (hw : Region.wanted oi (yielded ops a.tmps) = true := by rfl) (hrun : (execOp a.eval oi).run P w = .ok .skip (w.setCell ⟨g, j, none⟩ V) := by go_simp) : wpAnyLast P .any ops Q S ds (fuel + 1) l a w := by
  refine last_ l' hi hd (one_of HT.out hc) hds fun K hK => ?_
  exact skip_ hw hd hrun (hK.out _ _ h)
theorem doneE (HT : Aside0 (rtab .any ops = T)) {n : Nat} (h : Q .normal a w) (hc : (readyT T.2 l.toList == []) = true := by kernel_rfl) : wpAnyLast P .any ops Q S ds n l a w := done_ (done_of HT.out hc) h
end
section
variable {P : Program} {ops : Array Oper} {Q : Exit → Act → World → Prop} {S : World → Prop} {T : Bool × List (List Nat × List Nat)} {w wb : World} {K : Act → World → Prop} {l' : Array Bool} {oi : Oper} {a : Act} {fuel : Nat}
theorem boxE {a' : Nat → Act} (hK : Shut (∀ a' w', S w' → (S w' → wpAnyLast P .any ops Q S [] fuel l' a' w') → K a' w')) (HS : Aside0 (∀ W', Below wb.heap.size wb W' → S W')) (HB : Aside0 (Below wb.heap.size wb w)) {M : Tmp} (cs : Array Value) (t : TypeId)
    (hrun : (execOp a.eval oi).run P w = .ok (.value (.pointer (some ⟨w.heap.size, 0, none⟩))) (w.alloc (.cells cs t (0, 0))))
    (h : ∀ g W2, Aside0 (W2.heap[g]? = some (.cells cs t (0, 0))) → Aside0 (wb.heap.size ≤ g ∧ w.heap.size ≤ g) → Aside0 (Below wb.heap.size wb W2) → Aside0 (Below w.heap.size w W2) → wpAnyLast P .any ops Q S [] fuel l' (a' g) W2)
    (hw : Region.wanted oi (yielded ops a.tmps) = true := by rfl) (hd : oi.dst = some M := by rfl) (ha : ∀ g : Nat, a.put (some M) (.pointer (some ⟨g, 0, none⟩)) = a' g := by (intro g; simp only [Act.put, List.setIfInBounds_toArray, List.set_cons_zero, List.set_cons_succ]; rfl)) :
    if Region.wanted oi (yielded ops a.tmps) = true then Oper.wp P oi a w K Q else K (a.put (some M) undef) w := by
  rw [← hd]
  refine box_step hw hd hrun ?_
  rintro g hg w1 hbox hb2
  have hb3 := below_step HB.out hb2
  rw [hd, ha g]
  exact hK.out _ _ (HS.out _ hb3) fun _ => h g w1 ⟨hbox⟩ ⟨by rw [hg]; exact ⟨below_size HB.out, Nat.le_refl _⟩⟩ ⟨hb3⟩ ⟨hb2⟩
theorem litE {a' : Nat → Act} (hK : Shut (∀ a' w', S w' → (S w' → wpAnyLast P .any ops Q S [] fuel l' a' w') → K a' w')) (HS : Aside0 (∀ W', Below wb.heap.size wb W' → S W')) (HB : Aside0 (Below wb.heap.size wb w)) {M : Tmp} (cs : Array Value) (e : TypeId) (n : Nat)
    (hrun : (execOp a.eval oi).run P w = .ok (.value (.slice (some ⟨w.heap.size, 0, none⟩) n n)) (w.alloc (.cells cs e)))
    (h : ∀ g W2, Aside0 (W2.heap[g]? = some (.cells cs e (0, 0))) → Aside0 (wb.heap.size ≤ g ∧ w.heap.size ≤ g) → Aside0 (Below wb.heap.size wb W2) → Aside0 (Below w.heap.size w W2) → wpAnyLast P .any ops Q S [] fuel l' (a' g) W2)
    (hw : Region.wanted oi (yielded ops a.tmps) = true := by rfl) (hd : oi.dst = some M := by rfl) (ha : ∀ g : Nat, a.put (some M) (.slice (some ⟨g, 0, none⟩) n n) = a' g := by (intro g; simp only [Act.put, List.setIfInBounds_toArray, List.set_cons_zero, List.set_cons_succ]; rfl)) :
    if Region.wanted oi (yielded ops a.tmps) = true then Oper.wp P oi a w K Q else K (a.put (some M) undef) w := by
  rw [← hd]
  refine event_step hw hrun ?_
  have hb2 := below_alloc (Below.refl w.heap.size w) (.cells cs e)
  have hb3 := below_step HB.out hb2
  rw [hd, ha]
  exact hK.out _ _ (HS.out _ hb3) fun _ => h _ _ ⟨blk_new w _⟩ ⟨below_size HB.out, Nat.le_refl _⟩ ⟨hb3⟩ ⟨hb2⟩
theorem storeRowE (hK : Shut (∀ a' w', S w' → (S w' → wpAnyLast P .any ops Q S [] fuel l' a' w') → K a' w')) (HS : Aside0 (∀ W', Below wb.heap.size wb W' → S W')) (HB : Aside0 (Below wb.heap.size wb w))
    (g : Nat) (cells : Array Value) {t : TypeId} {old : Array Value} (hg : Aside0 (w.heap[g]? = some (.cells old t (0, 0)))) (hle : Aside0 (wb.heap.size ≤ g))
    (h : ∀ W2, Aside0 (W2.heap[g]? = some (.cells cells t (0, 0))) → Aside0 (Below wb.heap.size wb W2) → Aside0 (∀ b, b ≠ g → W2.heap[b]? = w.heap[b]?) → wpAnyLast P .any ops Q S [] fuel l' a W2)
    {ty : TypeId} {x y : Operand} (ho : oi.op = .store ty x y := by rfl) (hx : a.eval x = .pointer (some ⟨g, 0, none⟩) := by rfl) (hy : a.eval y = .agg cells := by rfl) (hi : (P.info? ty).map (·.size) = some cells.size := by kernel_rfl) (hold : old.size = cells.size := by rfl)
    (h1 : cells.all (·.oneCell') = true := by (rw [← Array.all_toList]; rfl)) (hw : Region.wanted oi (yielded ops a.tmps) = true := by rfl) (hd : oi.dst = none := by rfl) : if Region.wanted oi (yielded ops a.tmps) = true then Oper.wp P oi a w K Q else K (a.put none undef) w := by
  rw [if_pos hw]
  have hb3 := below_setRow (cs := cells) HB.out hle.out
  refine wp_store_row ty x y ho g cells hx hy t old hg.out hi hold h1 ?_
  rw [hd]
  exact hK.out _ _ (HS.out _ hb3) fun _ => h _ ⟨setRow_heap _ _ _ _ _ _ hg.out⟩ ⟨hb3⟩ ⟨fun b hb => setRow_other w g b cells hb⟩
theorem threeD (i j k : Nat) (Ni Nj Nk : Option Tmp) (li lj lk : Array Bool) (HT : Aside0 (rtab .any ops = T)) {l : Array Bool} {oj ok : Oper}
    (h1 : ∀ K : Act → World → Prop, Shut (∀ a' w', S w' → (S w' → wpAnyLast P .any ops Q S [] fuel li a' w') → K a' w') → if Region.wanted oi (yielded ops a.tmps) = true then Oper.wp P oi a w K Q else K (a.put Ni undef) w)
    (h2 : ∀ K : Act → World → Prop, Shut (∀ a' w', S w' → (S w' → wpAnyLast P .any ops Q S [] fuel lj a' w') → K a' w') → if Region.wanted oj (yielded ops a.tmps) = true then Oper.wp P oj a w K Q else K (a.put Nj undef) w)
    (h3 : ∀ K : Act → World → Prop, Shut (∀ a' w', S w' → (S w' → wpAnyLast P .any ops Q S [] fuel lk a' w') → K a' w') → if Region.wanted ok (yielded ops a.tmps) = true then Oper.wp P ok a w K Q else K (a.put Nk undef) w)
    (hi : ops[i]? = some oi := by rfl) (hj : ops[j]? = some oj := by rfl) (hk : ops[k]? = some ok := by rfl) (hNi : oi.dst = Ni := by rfl) (hNj : oj.dst = Nj := by rfl) (hNk : ok.dst = Nk := by rfl)
    (hc : (readyT T.2 l.toList == [i, j, k] && l.toList.set i true == li.toList && l.toList.set j true == lj.toList && l.toList.set k true == lk.toList) = true := by kernel_rfl) : wpAnyLast P .any ops Q S [] (fuel + 1) l a w :=
  three_ li lj lk hi hj hk hNi hNj hNk (three_of HT.out hc) (by simp) (by simp) (by simp) h1 h2 h3
end
theorem cell_same {w W : World} {p : Addr} (h : W.heap[p.block]? = w.heap[p.block]?) : W.cell? p = w.cell? p := by
  unfold World.cell?
  rw [h]
theorem add_block (ad : Addr) (k : Nat) : (ad.add k).block = ad.block := by
  unfold Addr.add
  split <;> rfl
theorem int_at {w : World} {k : IntKind} {A : Option Addr} {n : Nat} {xs : List Int} (h : Kd.C (Kd.int k) w A n xs) {i : Nat} (hi : i < xs.length) (hn : i < n) {x : Int} (hx : xs[i] = x) : ∃ ad, A = some ad ∧ w.cell? (ad.add i) = some (.int k x) := by
  obtain ⟨ad, c, e, _, hK, hc⟩ := Kd.C_get h 0 (i : Int) (by omega) (by omega)
  refine ⟨ad, e, ?_⟩
  obtain rfl : c = [.int k (xs.getD i 0)] := by simpa [Kd.int, Kd.scalar] using hK
  have := hc 0 _ rfl
  rw [← hx]
  simpa [Kd.int, Kd.scalar, List.getD_eq_getElem?_getD, List.getElem?_eq_getElem hi] using this
end Go.Proofs.YtmoodblpgnnenaaDoor.PWe
