/- Slices that a call itself makes and appends to: the law of append at one element of so many cells, how such a slice reads. Helper text. -/
import Derived.Test.YtfmepbpipknblaaKx
import Derived.Maps.AppendAt
namespace Go.Proofs.Ytfmepbpipknblaa.Kx
open Go.RowKit
set_option linter.unusedVariables false
set_option linter.unusedSimpArgs false

section
variable {P : Program} {ops : Array Oper} {rest : List Oper} {o : Oper} {a : Act} {Q : Exit → Act → World → Prop}
/-- 'append(v, x)', x's cells in the block that was just made. -/
theorem app_one {W : World} (base : Nat) (hgd : o.guard = none) (s x : Operand) (t e : TypeId) (z : Value) (size bytes : Nat)
    (ho : o.op = .call { callee := .builtin .append, args := #[s, x], argTypes := #[t, t] })
    (ht : P.underlying t = some (.slice e)) (hinfo : (P.info? e).map (fun i => (i.zero, i.size, i.bytes)) = some (some z, size, bytes)) (hz : z.cells.size = size) (hsz : 0 < size)
    (v : Value) (n : Nat) (xs : List Value) (cs : Array Value) (hs : a.eval s = v) (hx : a.eval x = .slice (some ⟨W.heap.size, 0, none⟩) 1 1) (hcs : cs.size = size) (h1 : ∀ u ∈ cs.toList, u.oneCell' = true)
    (HO : W.ownsRow base e size v n xs) (hbase : base ≤ W.heap.size) (hl : (n + 1) * bytes ≤ 140737488355328) (hm : n + 1 ≤ 140737488355328)
    (h : ∀ v1 w1, w1.ownsRow base e size v1 (n + 1) (xs ++ cs.toList) → W.grownBy w1 v.ownBlock → (v1.ownBlock = v.ownBlock ∨ ∃ b, v1.ownBlock = some b ∧ W.heap.size ≤ b) → wpList P ops Q rest (a.put o.dst v1) w1) :
    wpList P ops Q (o :: rest) a (W.alloc (.cells cs e)) := by
  obtain ⟨i0, hi, hzz⟩ := Option.map_eq_some_iff.1 hinfo
  simp only [Prod.mk.injEq] at hzz
  obtain ⟨hz0, hz1, hz2⟩ := hzz
  refine wpList_append_own_at (W.alloc (.cells cs e)) hgd s x t ho base e i0 z size bytes ht hi hz0 hz1 hz2 hz hsz v n xs hs (HO.alloc _) ⟨W.heap.size, 0, none⟩ 1 1 cs.toList hx (by simp [hcs]) ?_ h1 (by simp only [maxLen]; omega) hl (by simp; omega) ?_
  · intro j u hu
    have hadd : (⟨W.heap.size, 0, none⟩ : Addr).add j = ⟨W.heap.size, j, none⟩ := by unfold Addr.add; split <;> simp_all
    rw [hadd, cell_in (heap_alloc_new _ _) j]
    simpa using hu
  · intro v1 w1 hown hg _ hat
    refine h v1 w1 hown (World.grownBy.trans (World.grownBy_alloc W _ _) hg) ?_
    rcases hat with hat | hat
    · exact .inl hat
    · exact .inr ⟨_, hat, by simp⟩
end

/-- A slice of the call's own, of whole numbers. -/
def OwnI (w : World) (base : Nat) (e : TypeId) (k : IntKind) (v : Value) (xs : List Int) : Prop := w.ownsRow base e 1 v xs.length (xs.map (Value.int k))
theorem OwnI.nil (w : World) (base : Nat) (e : TypeId) (k : IntKind) : OwnI w base e k (.slice none 0 0) [] := World.ownsRow_nil w base e 1
theorem OwnI.kept {w w1 : World} {base : Nat} {e : TypeId} {k : IntKind} {v : Value} {xs : List Int} (h : OwnI w base e k v xs) {row : Option Nat} (hg : w.grownBy w1 row) (hr : ∀ r, row = some r → r < base) : OwnI w1 base e k v xs := by
  refine World.ownsRow.kept h hg ?_
  cases hv : v.ownBlock with
  | none => exact .inl rfl
  | some g =>
    refine .inr fun hc => ?_
    have := hr g hc.symm
    have := (World.ownsRow.lt h g hv).1
    omega
theorem OwnI.below {w w1 : World} {base : Nat} {e : TypeId} {k : IntKind} {v : Value} {xs : List Int} (h : OwnI w base e k v xs) (hb : Below w.heap.size w w1) : OwnI w1 base e k v xs :=
  h.kept (grown_of_below' hb none) (fun r hr => by cases hr)
theorem OwnI.shape {w : World} {base : Nat} {e : TypeId} {k : IntKind} {v : Value} {xs : List Int} (h : OwnI w base e k v xs) : ∃ A c, v = .slice A xs.length c ∧ xs.length ≤ c ∧ c ≤ maxLen ∧ RdI w k A xs := by
  rcases h.2 with ⟨rfl, h0⟩ | ⟨g, cap, cur, rfl, hb, hg, hn, hm, hc, ht⟩
  · rw [h0]
    exact ⟨none, 0, rfl, Nat.le_refl _, by simp [maxLen], fun i hi => by omega⟩
  · refine ⟨_, cap, rfl, hn, hm, fun i hi => ⟨_, rfl, ?_⟩⟩
    refine World.ownsRow.cells h (g := g) rfl i _ ?_
    simp [List.getElem?_eq_getElem hi, List.getD_eq_getElem?_getD]
/-- Where nothing but the slice's own row, or new memory, was written, what lay below base is as it was. -/
theorem grown_own {w w1 : World} {base : Nat} {e : TypeId} {size n : Nat} {v : Value} {xs : List Value} (h : w.ownsRow base e size v n xs) (hg : w.grownBy w1 v.ownBlock) (hb : base ≤ w.heap.size) : Below base w w1 :=
  ⟨hg.os, hg.tape, hg.output, hg.size, fun k hk => hg.block k (by omega) (fun e => by have := (World.ownsRow.lt h k e.symm).1; omega)⟩
theorem app_num {P : Program} {ops : Array Oper} {rest : List Oper} {o : Oper} {a : Act} {Q : Exit → Act → World → Prop} {W : World} (base : Nat) (hgd : o.guard = none) (s x : Operand) (t e : TypeId) (k : IntKind) (bytes : Nat)
    (ho : o.op = .call { callee := .builtin .append, args := #[s, x], argTypes := #[t, t] })
    (ht : P.underlying t = some (.slice e)) (hinfo : (P.info? e).map (fun i => (i.zero, i.size, i.bytes)) = some (some (.int k 0), 1, bytes))
    (v : Value) (xs : List Int) (y : Int) (hs : a.eval s = v) (hx : a.eval x = .slice (some ⟨W.heap.size, 0, none⟩) 1 1)
    (HO : OwnI W base e k v xs) (hbase : base ≤ W.heap.size) (hl : (xs.length + 1) * bytes ≤ 140737488355328) (hm : xs.length + 1 ≤ 140737488355328)
    (h : ∀ v1 w1, OwnI w1 base e k v1 (xs ++ [y]) → Below base W w1 → W.grownBy w1 v.ownBlock → wpList P ops Q rest (a.put o.dst v1) w1) :
    wpList P ops Q (o :: rest) a (W.alloc (.cells #[.int k y] e)) :=
  app_one base hgd s x t e (.int k 0) 1 bytes ho ht hinfo rfl (by omega) v xs.length (xs.map (Value.int k)) #[.int k y] hs hx rfl (by simp [Value.oneCell']) HO hbase hl hm
    (fun v1 w1 hown hg _ => h v1 w1 (by unfold OwnI; simpa using hown) (grown_own HO hg hbase) hg)

/-- 'append(v, x, y, ..)': m elements of one cell each, in the block that was just made. -/
theorem app_many {P : Program} {ops : Array Oper} {rest : List Oper} {o : Oper} {a : Act} {Q : Exit → Act → World → Prop} {W : World} (base : Nat) (hgd : o.guard = none) (s x : Operand) (t e : TypeId) (z : Value) (bytes : Nat)
    (ho : o.op = .call { callee := .builtin .append, args := #[s, x], argTypes := #[t, t] })
    (ht : P.underlying t = some (.slice e)) (hinfo : (P.info? e).map (fun i => (i.zero, i.size, i.bytes)) = some (some z, 1, bytes)) (hz : z.cells.size = 1)
    (v : Value) (n m : Nat) (xs : List Value) (cs : Array Value) (hs : a.eval s = v) (hx : a.eval x = .slice (some ⟨W.heap.size, 0, none⟩) m m) (hcs : cs.size = m) (h1 : ∀ u ∈ cs.toList, u.oneCell' = true)
    (HO : W.ownsRow base e 1 v n xs) (hbase : base ≤ W.heap.size) (hl : (n + m) * bytes ≤ 140737488355328) (hm : n + m ≤ 140737488355328)
    (h : ∀ v1 w1, w1.ownsRow base e 1 v1 (n + m) (xs ++ cs.toList) → Below base W w1 → W.grownBy w1 v.ownBlock → wpList P ops Q rest (a.put o.dst v1) w1) :
    wpList P ops Q (o :: rest) a (W.alloc (.cells cs e)) := by
  obtain ⟨i0, hi, hzz⟩ := Option.map_eq_some_iff.1 hinfo
  simp only [Prod.mk.injEq] at hzz
  obtain ⟨hz0, hz1, hz2⟩ := hzz
  refine wpList_append_own_at (W.alloc (.cells cs e)) hgd s x t ho base e i0 z 1 bytes ht hi hz0 hz1 hz2 hz (by omega) v n xs hs (HO.alloc _) ⟨W.heap.size, 0, none⟩ m m cs.toList hx (by simp [hcs]) ?_ h1 (by simp only [maxLen]; omega) hl (by simp; omega) ?_
  · intro j u hu
    have hadd : (⟨W.heap.size, 0, none⟩ : Addr).add j = ⟨W.heap.size, j, none⟩ := by unfold Addr.add; split <;> simp_all
    rw [hadd, cell_in (heap_alloc_new _ _) j]
    simpa using hu
  · intro v1 w1 hown hg _ _
    have hg' := World.grownBy.trans (World.grownBy_alloc W _ _) hg
    exact h v1 w1 hown (grown_own HO hg' hbase) hg'

/-- A slice of the call's own that holds texts. -/
def strs (l : List (List UInt8)) : List Value := l.map fun x => .string ⟨x.toArray⟩
def OwnS (w : World) (base : Nat) (e : TypeId) (v : Value) (l : List (List UInt8)) : Prop := w.ownsRow base e 1 v l.length (strs l)
theorem OwnS.kept {w w1 : World} {base : Nat} {e : TypeId} {v : Value} {l : List (List UInt8)} (h : OwnS w base e v l) {row : Option Nat} (hg : w.grownBy w1 row) (hr : ∀ r, row = some r → r < base) : OwnS w1 base e v l := by
  refine World.ownsRow.kept h hg ?_
  cases hv : v.ownBlock with
  | none => exact .inl rfl
  | some g =>
    refine .inr fun hc => ?_
    have := hr g hc.symm
    have := (World.ownsRow.lt h g hv).1
    omega
theorem OwnS.below {w w1 : World} {base : Nat} {e : TypeId} {v : Value} {l : List (List UInt8)} (h : OwnS w base e v l) (hb : Below w.heap.size w w1) : OwnS w1 base e v l :=
  h.kept (grown_of_below' hb none) (fun r hr => by cases hr)
/-- .. as strings.Join asks for it. -/
theorem OwnS.shape {w : World} {base : Nat} {e : TypeId} {v : Value} {l : List (List UInt8)} (h : OwnS w base e v l) (h0 : 0 < l.length) : ∃ g c, v = .slice (some ⟨g, 0, none⟩) l.length c ∧ l.length ≤ c ∧ g < w.heap.size ∧
    ∀ (j : Nat) x, (l.map fun x => (⟨x.toArray⟩ : ByteArray))[j]? = some x → w.cell? ⟨g, 0 + j, none⟩ = some (.string x) := by
  rcases h.2 with ⟨rfl, hn⟩ | ⟨g, cap, cur, rfl, hb, hg, hn, hm, hc, ht⟩
  · omega
  · refine ⟨g, cap, rfl, hn, (Array.getElem?_eq_some_iff.1 hg).1, fun j x hx => ?_⟩
    have := World.ownsRow.cells h (g := g) rfl j (.string x) (by
      unfold strs
      rw [List.getElem?_map] at hx ⊢
      cases hj : l[j]? with
      | none => rw [hj] at hx; cases hx
      | some y => rw [hj] at hx; simp only [Option.map_some] at hx ⊢; injection hx with hx; rw [hx])
    have hadd : (⟨g, 0, none⟩ : Addr).add j = ⟨g, 0 + j, none⟩ := by unfold Addr.add; split <;> simp_all
    rwa [hadd] at this
/-- A slice of texts that was just built. -/
theorem OwnS.fresh (w : World) (base : Nat) (e : TypeId) (l : List (List UInt8)) (cs : Array Value) (hcs : cs.toList = strs l) (hb : base ≤ w.heap.size) (hm : l.length ≤ maxLen) : OwnS (w.alloc (.cells cs e)) base e (.slice (some ⟨w.heap.size, 0, none⟩) l.length l.length) l := by
  have hl : cs.size = l.length := by rw [← Array.length_toList, hcs]; simp [strs]
  exact ⟨by simp [strs], .inr ⟨w.heap.size, l.length, cs, rfl, hb, heap_alloc_new _ _, Nat.le_refl _, hm, by omega, by rw [hcs]; exact List.take_of_length_le (by simp [strs])⟩⟩
/-- 'append(l, x, y, ..)', texts. -/
theorem app_strs {P : Program} {ops : Array Oper} {rest : List Oper} {o : Oper} {a : Act} {Q : Exit → Act → World → Prop} {W : World} (base : Nat) (hgd : o.guard = none) (s x : Operand) (t e : TypeId) (bytes : Nat)
    (ho : o.op = .call { callee := .builtin .append, args := #[s, x], argTypes := #[t, t] })
    (ht : P.underlying t = some (.slice e)) (hinfo : (P.info? e).map (fun i => (i.zero, i.size, i.bytes)) = some (some (.string ⟨#[]⟩), 1, bytes))
    (v : Value) (l ys : List (List UInt8)) (cs : Array Value) (hcs : cs.toList = strs ys) (hs : a.eval s = v) (hx : a.eval x = .slice (some ⟨W.heap.size, 0, none⟩) ys.length ys.length)
    (HO : OwnS W base e v l) (hbase : base ≤ W.heap.size) (hl : (l.length + ys.length) * bytes ≤ 140737488355328) (hm : l.length + ys.length ≤ 140737488355328)
    (h : ∀ v1 w1, OwnS w1 base e v1 (l ++ ys) → Below base W w1 → W.grownBy w1 v.ownBlock → wpList P ops Q rest (a.put o.dst v1) w1) :
    wpList P ops Q (o :: rest) a (W.alloc (.cells cs e)) :=
  app_many base hgd s x t e (.string ⟨#[]⟩) bytes ho ht hinfo rfl v l.length ys.length (strs l) cs hs hx (by rw [← Array.length_toList, hcs]; simp [strs]) (by rw [hcs]; intro u hu; obtain ⟨z, _, rfl⟩ := List.mem_map.1 hu; rfl) HO hbase hl hm
    (fun v1 w1 hown hb hg => h v1 w1 (by unfold OwnS; rw [List.length_append]; rw [hcs] at hown; simpa [strs] using hown) hb hg)
theorem lens_map (l : List (List UInt8)) : (l.map fun x => (⟨x.toArray⟩ : ByteArray)).length = l.length := by simp
theorem datas_map (l : List (List UInt8)) : (l.map fun x => (⟨x.toArray⟩ : ByteArray)).map (·.data.toList) = l := by
  rw [List.map_map]
  conv => rhs; rw [← List.map_id l]
  exact List.map_congr_left fun x _ => rfl
end Go.Proofs.Ytfmepbpipknblaa.Kx
