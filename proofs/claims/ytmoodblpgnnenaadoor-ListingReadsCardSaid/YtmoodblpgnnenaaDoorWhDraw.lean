/- Steps of walks by hand: a box made, a whole struct written, a list made, one more in a list; each hands its facts on. Helper text. -/
import Derived.Test.YtmoodblpgnnenaaDoorK4
import Derived.Test.YtmoodblpgnnenaaDoorWMore
import Derived.Test.YtmoodblpgnnenaaDoorK5
import Derived.Test.YtmoodblpgnnenaaDoorWTab
namespace Go.Proofs.YtmoodblpgnnenaaDoor.PWe
open Go.RowKit Go.Proofs.YtmoodblpgnnenaaDoor.Kx Go.Proofs.YtmoodblpgnnenaaDoorW.PrintWords Go.Proofs.YtmoodblpgnnenaaDoorW.PrintLast Go.Proofs.YtmoodblpgnnenaaDoorW.PrintMore
set_option linter.unusedVariables false
section
variable {P : Program} {ops : Array Oper} {rest : List Oper} {o : Oper} {a : Act} {Q : Exit → Act → World → Prop} {α : Type} {w wb W : World}
theorem boxN (hgd : o.guard = none) {N : Tmp} (hd : o.dst = some N) {cs : Array Value} {t : TypeId}
    (hrun : (execOp a.eval o).run P W = .ok (.value (.pointer (some ⟨W.heap.size, 0, none⟩))) (W.alloc (.cells cs t (0, 0)))) (HB : Aside0 (Below w.heap.size w W))
    (h : ∀ g w1, Aside0 (w1.heap[g]? = some (.cells cs t (0, 0))) → Aside0 (w.heap.size ≤ g ∧ W.heap.size ≤ g) → Aside0 (Below w.heap.size w w1) → Aside0 (Below W.heap.size W w1) → wpList P ops Q rest (a.put o.dst (.pointer (some ⟨g, 0, none⟩))) w1) : wpList P ops Q (o :: rest) a W :=
  box_event hgd hd hrun fun g hg w1 h1 hb => h g w1 ⟨h1⟩ ⟨by rw [hg]; exact ⟨below_size HB.out, Nat.le_refl _⟩⟩ ⟨below_step HB.out hb⟩ ⟨hb⟩
theorem litN (d : Kd α) (e : Nat) (hgd : o.guard = none) {N : Tmp} (hd : o.dst = some N) {xs : List α} {inner : List Value}
    (hrun : (execOp a.eval o).run P W = .ok (.value (.slice (some ⟨W.heap.size, 0, none⟩) xs.length xs.length)) (W.alloc (.cells inner.toArray e)))
    (hrep : Reps (d.M W w.heap.size (fun _ => True)) d.sz xs inner) (HB : Aside0 (Below w.heap.size w W)) (hm : xs.length ≤ 9223372036854775807)
    (h : ∀ v1 w1, Aside0 (d.R e w1 w.heap.size (fun _ => True) v1 xs) → Aside0 (Below w.heap.size w w1) → Aside0 (Below W.heap.size W w1) → wpList P ops Q rest (a.put o.dst v1) w1) : wpList P ops Q (o :: rest) a W :=
  Kd.R_lit d w.heap.size e hgd hd hrun hrep (fun _ hk => hk) trivial HB.out (below_size HB.out) hm fun v1 w1 h1 h2 h3 _ => h v1 w1 ⟨h1⟩ ⟨h2⟩ ⟨⟨h3.os, h3.tape, h3.output, h3.size, fun k hk => h3.block k hk (by simp)⟩⟩
/-- One more behind a list; hk: what is not the list's own block stays. -/
theorem appN (d : Kd α) (e : Nat) (hgd : o.guard = none) (s x : Operand) (t : TypeId) (z : Value) (bytes : Nat)
    (ho : o.op = .call { callee := .builtin .append, args := #[s, x], argTypes := #[t, t] })
    (ht : P.underlying t = some (.slice e)) (hinfo : (P.info? e).map (fun i => (i.zero, i.size, i.bytes)) = some (some z, d.sz, bytes)) (hz : z.cells.size = d.sz) (hs0 : 0 < d.sz) (hb0 : 0 < bytes)
    {v : Value} {xs : List α} (p : α) (cs : List Value) (hs : a.eval s = v) (hx : a.eval x = .slice (some ⟨W.heap.size, 0, none⟩) 1 1) (hp : d.M W w.heap.size (fun _ => False) p cs)
    (HO : Aside0 (d.R e W w.heap.size (fun _ => True) v xs)) (HB : Aside0 (Below w.heap.size w W)) (hl : (xs.length + 1) * bytes ≤ 140737488355328)
    (h : ∀ v1 w1, Aside0 (d.R e w1 w.heap.size (fun _ => True) v1 (xs ++ [p])) → Aside0 (Below w.heap.size w w1) → Aside0 (W.grownBy w1 v.ownBlock) → wpList P ops Q rest (a.put o.dst v1) w1) : wpList P ops Q (o :: rest) a (W.alloc (.cells cs.toArray e)) :=
  Kd.R_append d w.heap.size hgd s x t e z bytes ho ht hinfo hz hs0 hb0 v xs p cs (fun _ => True) (fun _ => False) hs hx hp (fun _ h => h.elim) (fun _ _ => trivial) HO.out HB.out (below_size HB.out) hl fun v1 w1 h1 h2 h3 _ => h v1 w1 ⟨h1⟩ ⟨h2⟩ ⟨h3⟩
theorem storeN (hgd : o.guard = none) (ty : TypeId) (x y : Operand) (ho : o.op = .store ty x y)
    (g : Nat) (cells : Array Value) (hx : a.eval x = .pointer (some ⟨g, 0, none⟩)) (hy : a.eval y = .agg cells)
    (t : TypeId) (old : Array Value) (hg : Aside0 (W.heap[g]? = some (.cells old t (0, 0)))) (hi : (P.info? ty).map (·.size) = some cells.size)
    (hold : old.size = cells.size) (h1 : cells.all (·.oneCell') = true) (HB : Aside0 (Below w.heap.size w W)) (hle : Aside0 (w.heap.size ≤ g ∧ wb.heap.size ≤ g)) (HK : Aside0 (Below wb.heap.size wb W))
    (h : ∀ W3, Aside0 (W3.heap[g]? = some (.cells cells t (0, 0))) → Aside0 (Below w.heap.size w W3) → Aside0 (Below wb.heap.size wb W3) → wpList P ops Q rest (a.put o.dst undef) W3) : wpList P ops Q (o :: rest) a W :=
  wpList_store_row hgd ty x y ho g cells hx hy t old hg.out hi hold h1 (h _ ⟨setRow_heap _ _ _ _ _ _ hg.out⟩ ⟨Kx.below_setRow HB.out hle.out.1⟩ ⟨Kx.below_setRow HK.out hle.out.2⟩)
end
end Go.Proofs.YtmoodblpgnnenaaDoor.PWe
namespace Go.Proofs.YtmoodblpgnnenaaDoor.PWe
open Go.RowKit Go.Proofs.YtmoodblpgnnenaaDoor.Kx Go.Proofs.YtmoodblpgnnenaaDoorW.PrintWords Go.Proofs.YtmoodblpgnnenaaDoorW.PrintLast Go.Proofs.YtmoodblpgnnenaaDoorW.PrintMore
set_option linter.unusedVariables false

/-- n marks, by bits. -/
def lb (n bits : Nat) : Array Bool := ((List.range n).map fun i => bits.testBit i).toArray
/-- Six cells of a block, as they are read. -/
def Six (g : Nat) (v0 v1 v2 v3 v4 v5 : Value) (w' : World) : Prop :=
  w'.cell? ⟨g, 0, none⟩ = some v0 ∧ w'.cell? ⟨g, 1, none⟩ = some v1 ∧ w'.cell? ⟨g, 2, none⟩ = some v2 ∧ w'.cell? ⟨g, 3, none⟩ = some v3 ∧ w'.cell? ⟨g, 4, none⟩ = some v4 ∧ w'.cell? ⟨g, 5, none⟩ = some v5
theorem six_of {w : World} {g : Nat} {v0 v1 v2 v3 v4 v5 : Value} {t : TypeId} (h : w.heap[g]? = some (.cells #[v0, v1, v2, v3, v4, v5] t (0, 0))) (W : World) (hb : Below w.heap.size w W) : Six g v0 v1 v2 v3 v4 v5 W := by
  have h2 := blk_below h hb
  exact ⟨cell_in h2 0, cell_in h2 1, cell_in h2 2, cell_in h2 3, cell_in h2 4, cell_in h2 5⟩
section
variable {P : Program} {ops : Array Oper} {Q : Exit → Act → World → Prop} {S : World → Prop} {T : Bool × List (List Nat × List Nat)} {w wb : World}
theorem startD {id : Nat} (n : Nat) {a : Act} (hT : rtab .any ops = T) (HS : Aside0 (∀ W', Below wb.heap.size wb W' → S W')) (HB : Aside0 (Below wb.heap.size wb w))
    (h : ∀ W1, Aside0 (rtab .any ops = T) → Aside0 (Below wb.heap.size wb W1) → Aside0 (Below w.heap.size w W1) → wpAnyLast P .any ops Q S [] n (lb n 0) a W1)
    (hm : P.follows .mixedOrders = true := by kernel_rfl) (hn : ops.size = n := by rfl) (hl : Array.replicate n false = lb n 0 := by kernel_rfl) : (Code.region id ops true).wp P Q a w :=
  have hb : Below w.heap.size w w.drew := below_drew1 (Below.refl _ _)
  start_ (ds := []) (lb n 0) hm hn hl (HS.out _ (below_step HB.out hb)) fun _ => h _ ⟨hT⟩ ⟨below_step HB.out hb⟩ ⟨hb⟩
variable {N : Option Tmp} {oi : Oper} {v : Value} {fuel : Nat} {l : Array Bool} {a a' : Act}
theorem pureD (i : Nat) (N : Option Tmp) (l' : Array Bool) (HT : Aside0 (rtab .any ops = T)) (h : wpAnyLast P .any ops Q S [] fuel l' a' w)
    (hi : ops[i]? = some oi := by rfl) (hN : oi.dst = N := by rfl) (hc : anyT T l.toList l'.toList i = true := by kernel_rfl) (hQ : ∀ c a w, Q (.panic c) (a.put oi.dst v) w → Q (.panic c) a w := by exact fun _ _ _ h => h)
    (hy : Yields P ops oi v a := by exact Or.inl ⟨by rfl, by intro w'; go_simp; with_reducible rfl⟩) (ha : a.put N v = a' := by (simp only [Act.put, List.setIfInBounds_toArray, List.set_cons_zero, List.set_cons_succ, i64_w, i32_w]; rfl)) : wpAnyLast P .any ops Q S [] (fuel + 1) l a w :=
  pure_ l' hi hN (any_of HT.out hc) hQ hy ha h
theorem takeD (i : Nat) (N : Option Tmp) (l' : Array Bool) (HT : Aside0 (rtab .any ops = T)) (HS : Aside0 (∀ W', Below wb.heap.size wb W' → S W')) (HB : Aside0 (Below wb.heap.size wb w)) (h : wpAnyLast P .any ops Q S [] fuel l' a' w)
    (hi : ops[i]? = some oi := by rfl) (hN : oi.dst = N := by rfl) (hc : takeT T [] l.toList l'.toList i = true := by kernel_rfl) (hQ : ∀ c a w, Q (.panic c) (a.put oi.dst v) w → Q (.panic c) a w := by exact fun _ _ _ h => h)
    (hy : YieldsIf P ops S oi v a := by exact Or.inl ⟨by rfl, by intro w' hs; obtain ⟨s0, s1, s2, s3, s4, s5⟩ := hs; go_simp; with_reducible rfl⟩) (ha : a.put N v = a' := by (simp only [Act.put, List.setIfInBounds_toArray, List.set_cons_zero, List.set_cons_succ, i64_w, i32_w]; rfl)) : wpAnyLast P .any ops Q S [] (fuel + 1) l a w :=
  take_ l' hi hN (take_of HT.out hc) hQ hy (HS.out _ HB.out) ha h
theorem oneD (i : Nat) (N : Option Tmp) (l' : Array Bool) (HT : Aside0 (rtab .any ops = T))
    (h : ∀ K : Act → World → Prop, Shut (∀ a' w', S w' → (S w' → wpAnyLast P .any ops Q S [] fuel l' a' w') → K a' w') → if Region.wanted oi (yielded ops a.tmps) = true then Oper.wp P oi a w K Q else K (a.put N undef) w)
    (hi : ops[i]? = some oi := by rfl) (hN : oi.dst = N := by rfl) (hc : (readyT T.2 l.toList == [i] && l.toList.set i true == l'.toList) = true := by kernel_rfl) : wpAnyLast P .any ops Q S [] (fuel + 1) l a w :=
  one_ l' hi hN (one_of HT.out hc) (by simp) h
theorem twoD (i j : Nat) (Ni Nj : Option Tmp) (li lj : Array Bool) (HT : Aside0 (rtab .any ops = T)) {oj : Oper}
    (h1 : ∀ K : Act → World → Prop, Shut (∀ a' w', S w' → (S w' → wpAnyLast P .any ops Q S [] fuel li a' w') → K a' w') → if Region.wanted oi (yielded ops a.tmps) = true then Oper.wp P oi a w K Q else K (a.put Ni undef) w)
    (h2 : ∀ K : Act → World → Prop, Shut (∀ a' w', S w' → (S w' → wpAnyLast P .any ops Q S [] fuel lj a' w') → K a' w') → if Region.wanted oj (yielded ops a.tmps) = true then Oper.wp P oj a w K Q else K (a.put Nj undef) w)
    (hi : ops[i]? = some oi := by rfl) (hj : ops[j]? = some oj := by rfl) (hNi : oi.dst = Ni := by rfl) (hNj : oj.dst = Nj := by rfl)
    (hc : (readyT T.2 l.toList == [i, j] && l.toList.set i true == li.toList && l.toList.set j true == lj.toList) = true := by kernel_rfl) : wpAnyLast P .any ops Q S [] (fuel + 1) l a w :=
  two_ li lj hi hj hNi hNj (two_of HT.out hc) (by simp) (by simp) h1 h2
variable {K : Act → World → Prop} {l' : Array Bool}
theorem callK (hK : Shut (∀ a' w', S w' → (S w' → wpAnyLast P .any ops Q S [] fuel l' a' w') → K a' w')) (HS : Aside0 (∀ W', Below wb.heap.size wb W' → S W')) (HB : Aside0 (Below wb.heap.size wb w))
    {f : FuncId} {fn : Func} {args : Array Value} (hf : P.funcs[f]? = some fn) (hcall : Calls P f args w fun e w' => e = .returned v ∧ Below w.heap.size w w') (h : ∀ W2, Aside0 (Below wb.heap.size wb W2) → Aside0 (Below w.heap.size w W2) → wpAnyLast P .any ops Q S [] fuel l' a' W2)
    {as_ : Array Operand} {ts : Array TypeId} (hop : oi.op = .call { callee := .value (.func f), args := as_, argTypes := ts } := by rfl) (hname : (fn.name == "runtime.NumGoroutine") = false := by rfl) (hb : fn.body.isSome = true := by rfl)
    (hw : Region.wanted oi (yielded ops a.tmps) = true := by rfl) (hN : oi.dst = N := by rfl) (hargs : as_.map a.eval = args := by (simp only [List.map_toArray, List.map_cons, List.map_nil]; first | done | rfl)) (ha : a.put N v = a' := by (simp only [Act.put, List.setIfInBounds_toArray, List.set_cons_zero, List.set_cons_succ, i64_w, i32_w]; rfl)) :
    if Region.wanted oi (yielded ops a.tmps) = true then Oper.wp P oi a w K Q else K (a.put N undef) w := by
  refine goes_ hf hname hb args hw hN hop hargs (hcall.mono ?_)
  rintro e w2 ⟨rfl, hb2⟩
  have hb3 := below_step HB.out hb2
  exact ⟨_, rfl, hK.out _ _ (HS.out _ hb3) fun _ => ha ▸ h w2 ⟨hb3⟩ ⟨hb2⟩⟩
theorem boxK {a' : Nat → Act} (hK : Shut (∀ a' w', S w' → (S w' → wpAnyLast P .any ops Q S [] fuel l' a' w') → K a' w')) (HS : Aside0 (∀ W', Below wb.heap.size wb W' → S W')) (HB : Aside0 (Below wb.heap.size wb w)) {M : Tmp} (cs : Array Value) (t : TypeId)
    (hrun : (execOp a.eval oi).run P w = .ok (.value (.pointer (some ⟨w.heap.size, 0, none⟩))) (w.alloc (.cells cs t (0, 0))))
    (h : ∀ g W2, Aside0 (W2.heap[g]? = some (.cells cs t (0, 0))) → Aside0 (wb.heap.size ≤ g) → Aside0 (Below wb.heap.size wb W2) → wpAnyLast P .any ops Q S [] fuel l' (a' g) W2)
    (hw : Region.wanted oi (yielded ops a.tmps) = true := by rfl) (hd : oi.dst = some M := by rfl) (ha : ∀ g : Nat, a.put (some M) (.pointer (some ⟨g, 0, none⟩)) = a' g := by (intro g; simp only [Act.put, List.setIfInBounds_toArray, List.set_cons_zero, List.set_cons_succ]; rfl)) :
    if Region.wanted oi (yielded ops a.tmps) = true then Oper.wp P oi a w K Q else K (a.put (some M) undef) w := by
  rw [← hd]
  refine box_step hw hd hrun ?_
  rintro g hg w1 hbox hb2
  have hb3 := below_step HB.out hb2
  rw [hd, ha g]
  exact hK.out _ _ (HS.out _ hb3) fun _ => h g w1 ⟨hbox⟩ ⟨by rw [hg]; exact below_size HB.out⟩ ⟨hb3⟩
theorem storeRowK (hK : Shut (∀ a' w', S w' → (S w' → wpAnyLast P .any ops Q S [] fuel l' a' w') → K a' w')) (HS : Aside0 (∀ W', Below wb.heap.size wb W' → S W')) (HB : Aside0 (Below wb.heap.size wb w))
    (g : Nat) (cells : Array Value) {t : TypeId} {old : Array Value} (hg : Aside0 (w.heap[g]? = some (.cells old t (0, 0)))) (hle : Aside0 (wb.heap.size ≤ g))
    (h : ∀ W2, Aside0 (W2.heap[g]? = some (.cells cells t (0, 0))) → Aside0 (Below wb.heap.size wb W2) → wpAnyLast P .any ops Q S [] fuel l' a W2)
    {ty : TypeId} {x y : Operand} (ho : oi.op = .store ty x y := by rfl) (hx : a.eval x = .pointer (some ⟨g, 0, none⟩) := by rfl) (hy : a.eval y = .agg cells := by rfl) (hi : (P.info? ty).map (·.size) = some cells.size := by kernel_rfl) (hold : old.size = cells.size := by rfl)
    (h1 : cells.all (·.oneCell') = true := by (rw [← Array.all_toList]; rfl)) (hw : Region.wanted oi (yielded ops a.tmps) = true := by rfl) (hd : oi.dst = none := by rfl) : if Region.wanted oi (yielded ops a.tmps) = true then Oper.wp P oi a w K Q else K (a.put none undef) w := by
  rw [if_pos hw]
  have hb3 := below_setRow (cs := cells) HB.out hle.out
  refine wp_store_row ty x y ho g cells hx hy t old hg.out hi hold h1 ?_
  rw [hd]
  exact hK.out _ _ (HS.out _ hb3) fun _ => h _ ⟨setRow_heap _ _ _ _ _ _ hg.out⟩ ⟨hb3⟩
theorem storeCellK (hK : Shut (∀ a' w', S w' → (S w' → wpAnyLast P .any ops Q S [] fuel l' a' w') → K a' w')) (HS : Aside0 (∀ W', Below wb.heap.size wb W' → S W')) (HB : Aside0 (Below wb.heap.size wb w))
    (g j : Nat) (V : Value) {t : TypeId} {cs : Array Value} (hg : Aside0 (w.heap[g]? = some (.cells cs t (0, 0)))) (hle : Aside0 (wb.heap.size ≤ g)) (hrun : (execOp a.eval oi).run P w = .ok .skip (w.setCell ⟨g, j, none⟩ V))
    (h : ∀ W2, Aside0 (W2.heap[g]? = some (.cells (cs.setIfInBounds j V) t (0, 0))) → Aside0 (Below wb.heap.size wb W2) → wpAnyLast P .any ops Q S [] fuel l' a W2)
    (hw : Region.wanted oi (yielded ops a.tmps) = true := by rfl) (hd : oi.dst = none := by rfl) : if Region.wanted oi (yielded ops a.tmps) = true then Oper.wp P oi a w K Q else K (a.put none undef) w := by
  have hb3 := below_set (j := j) (v := V) HB.out hle.out
  exact skip_ hw hd hrun (hK.out _ _ (HS.out _ hb3) fun _ => h _ ⟨set_in hg.out j V⟩ ⟨hb3⟩)
theorem doneD (HT : Aside0 (rtab .any ops = T)) {n : Nat} (h : Q .normal a w) (hc : (readyT T.2 l.toList == []) = true := by kernel_rfl) : wpAnyLast P .any ops Q S [] n l a w := done_ (done_of HT.out hc) h
end
end Go.Proofs.YtmoodblpgnnenaaDoor.PWe
