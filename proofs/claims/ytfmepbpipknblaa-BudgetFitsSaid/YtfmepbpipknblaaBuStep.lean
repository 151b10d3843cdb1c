/- Steps of a region that draws its order: a look-up and a store in a map of ticks. What a course's check and fit come to, in plain words. Helper text. -/
import Derived.Test.YtfmepbpipknblaaBuKey
import Derived.Test.YtfmepbpipknblaaBuClone
import Derived.Test.YtfmepbpipknblaaPBux3
import Derived.Test.YtfmepbpipknblaaPBux4
import Derived.Test.YtfmepbpipknblaaK4
import Derived.Deep.RegionHeld3
namespace Go.Proofs.Ytfmepbpipknblaa.PBu
open Go.RowKit Go.Proofs.YtfmepbpipknblaaW.PrintWords Go.Proofs.YtfmepbpipknblaaW.PrintLast Go.Proofs.YtfmepbpipknblaaW.PrintMore
set_option linter.unusedVariables false
set_option linter.unusedSimpArgs false

section
variable {H : Type} {P : Program} {ops : Array Oper} {o : Oper} {a : Act} {Q : Exit → Act → World → Prop} {Kc : Act → World → Prop} {E0 : Prop}
theorem step_lookup (w : World) (hgd : o.guard = none) (m x : Operand) (t : TypeId) (hop : o.op = Op.lookup t m x false)
    (k E e : TypeId) (q : IntKind) (K : Maps.Keyed P k) (ht : P.underlying t = some (.map k E)) (hz : (zeroValue E).run P w = .ok (.slice none 0 0) w) (base b n : Nat) (D : DataW H)
    (hm : a.eval m = .map (some b)) (hown : w.ownsGroups P k base e q b n D) (hn : n < maxLen) (key : Value) (kl : Lit) (hx : a.eval x = key) (hkey : keyOf P k key = some kl)
    (hK : ∀ v zs, D.atKey kl .nil = rowDatum q v zs → w.ownsInts base e q v zs → zs.length ≤ n → w.groupBack P t k base e q b n D key kl v → Kc (a.put o.dst v) w) :
    if Region.wanted o (yielded ops a.tmps) = true then Oper.wp P o a w Kc Q else E0 := by
  obtain ⟨v, zs, hrun, hat, hoi, hzl, hback⟩ := hown.at K ht hz hn hkey
  rw [if_pos (by simp [Region.wanted, hgd])]
  unfold Oper.wp
  simp [execOp, hop, hm, hx, hrun, Result.andThen]
  exact hK v zs hat hoi hzl hback
theorem step_update (w : World) (hgd : o.guard = none) (m x v : Operand) (t : TypeId) (hop : o.op = Op.mapUpdate t m x v)
    {w0 : World} {k : TypeId} {base : Nat} {e : TypeId} {q : IntKind} {b n : Nat} {D : DataW H} {key : Value} {kl : Lit} {u v' : Value} {zs' : List Int}
    (hback : w0.groupBack P t k base e q b n D key kl u) (hm : a.eval m = .map (some b)) (hx : a.eval x = key) (hv : a.eval v = v')
    (hgr : w0.grownBy w u.ownBlock) (hown' : w.ownsInts base e q v' zs') (hl' : zs'.length ≤ n + 1) (hloc : v'.ownBlock = u.ownBlock ∨ ∃ g, v'.ownBlock = some g ∧ w0.heap.size ≤ g)
    (hK : ∀ w2, w2.ownsGroups P k base e q b (n + 1) (D.put kl (rowDatum q v' zs')) → w.grownBy w2 (some b) → Kc (a.put o.dst undef) w2) :
    if Region.wanted o (yielded ops a.tmps) = true then Oper.wp P o a w Kc Q else E0 := by
  obtain ⟨w2, hrun, r1, r2⟩ := hback w v' zs' hgr hown' hl' hloc
  rw [if_pos (by simp [Region.wanted, hgd])]
  unfold Oper.wp
  simp [execOp, hop, hm, hx, hv, hrun, Result.andThen]
  exact hK w2 r1 r2
end

/-- May a slip be? -/
def mayB (s : S40) (m : Int) : Bool := decide (0 ≤ s.f0 ∧ s.f0 < m ∧ 0 ≤ s.f2 ∧ s.f2 ≤ 1099511627776 ∧ (s.f3 = 1 ∨ s.f3 = -1))
theorem may_is (s : S40) (m : Int) : budget_Slip_may.f s.f0 s.f1 s.f2 s.f3 m = some (mayB s m) := by
  unfold budget_Slip_may.f mayB
  split
  · split
    · split
      · split
        · split
          · rw [decide_eq_true (by omega)]
          · rename_i h1 h2 h3 h4 h5
            congr 1
            rw [Bool.eq_iff_iff]
            simp only [beq_iff_eq, decide_eq_true_eq]
            omega
        · rw [decide_eq_false (by omega)]
      · rw [decide_eq_false (by omega)]
    · rw [decide_eq_false (by omega)]
  · rw [decide_eq_false (by omega)]
/-- Is a slip too near to earlier ones of its clock? -/
def nearB (acc : List S40) (s : S40) : Bool := (grp acc s.f0 s.f1).any (nearP s.f2)
/-- The first error of slips. -/
def chk (m : Int) : List S40 → List S40 → Int
  | _, [] => 0
  | acc, s :: r => if mayB s m = true then (if nearB acc s = true then 19 else chk m (acc ++ [s]) r) else 2
/-- The slips that fit. -/
def fits (m : Int) : List S40 → List S40 → List S40
  | acc, [] => acc
  | acc, s :: r => if mayB s m = true ∧ nearB acc s = false then fits m (acc ++ [s]) r else fits m acc r
def okL (l : List S40) : Bool := decide (l.length ≤ 1000) && l.all fun s => (Lit.int .i64 s.f0).wf
theorem okL_len {l : List S40} (h : okL l = true) : l.length ≤ 1000 := by simp [okL] at h; exact h.1
theorem okL_wf {l : List S40} (h : okL l = true) {s : S40} (hs : s ∈ l) : (Lit.int .i64 s.f0).wf = true := by simp [okL] at h; exact h.2 s hs
def z40' : S40 := z40
theorem drop_at (l : List S40) (k : Nat) (hk : k < l.length) : l.drop k = l.getD k z40 :: l.drop (k + 1) := by
  rw [List.drop_eq_getElem_cons hk, List.getD_eq_getElem?_getD, List.getElem?_eq_getElem hk]
  rfl
theorem take_at (l : List S40) (k : Nat) (hk : k < l.length) : l.take (k + 1) = l.take k ++ [l.getD k z40] := by
  rw [List.take_succ_eq_append_getElem hk, List.getD_eq_getElem?_getD, List.getElem?_eq_getElem hk]
  rfl
/-- An element of slips that came in: its cells. -/
theorem at_slip {w : World} {A : Option Addr} {n : Nat} {xs : List S40} (h : Kd.C k40 w A n xs) (i : Nat) (hi : i < n) : ∃ ad, A = some ad ∧ ∀ j, j < ([Value.int .i64 (xs.getD i z40).f0, .bool (xs.getD i z40).f1, .int .i64 (xs.getD i z40).f2, .int .i64 (xs.getD i z40).f3]).length →
    w.cell? ((ad.add (i * 4)).add j) = ([Value.int .i64 (xs.getD i z40).f0, .bool (xs.getD i z40).f1, .int .i64 (xs.getD i z40).f2, .int .i64 (xs.getD i z40).f3])[j]? := by
  obtain ⟨ad, c, e, hl, hK, hc⟩ := Kd.C_get h z40 (i : Int) (by omega) (by omega)
  refine ⟨ad, e, fun j hj => ?_⟩
  obtain rfl := k40_open hK
  have hs : k40.sz = 4 := rfl
  rw [hs, Int.toNat_natCast] at hc
  rw [← Kx.add_two]
  exact (hc j _ (List.getElem?_eq_getElem hj)).trans (List.getElem?_eq_getElem hj).symm
/-- 'append(v, y)', y's cell anywhere. -/
theorem step_append_one {P : Program} {ops : Array Oper} {o : Oper} {a : Act} {Q : Exit → Act → World → Prop} {Kc : Act → World → Prop} {E0 : Prop} (W : World) (base : Nat) (hgd : o.guard = none) (s x : Operand) (t e : TypeId) (bytes : Nat)
    (ho : o.op = .call { callee := .builtin .append, args := #[s, x], argTypes := #[t, t] })
    (ht : P.underlying t = some (.slice e)) (hinfo : (P.info? e).map (fun i => (i.zero, i.size, i.bytes)) = some (some (.int .i64 0), 1, bytes)) (hb0 : 0 < bytes)
    (v : Value) (zs : List Int) (y : Int) (L : Nat) (hs : a.eval s = v) (hx : a.eval x = .slice (some ⟨L, 0, none⟩) 1 1) (hcell : W.cell? ⟨L, 0, none⟩ = some (.int .i64 y)) (hy : (Lit.int .i64 y).wf = true)
    (HO : W.ownsInts base e .i64 v zs) (hbase : base ≤ W.heap.size) (hl : (zs.length + 1) * bytes ≤ 140737488355328)
    (h : ∀ v1 w1, w1.ownsInts base e .i64 v1 (zs ++ [y]) → W.grownBy w1 v.ownBlock → (v1.ownBlock = v.ownBlock ∨ ∃ b, v1.ownBlock = some b ∧ W.heap.size ≤ b) → Kc (a.put o.dst v1) w1) :
    if Region.wanted o (yielded ops a.tmps) = true then Oper.wp P o a W Kc Q else E0 := by
  obtain ⟨i0, hi, hzz⟩ := Option.map_eq_some_iff.1 hinfo
  simp only [Prod.mk.injEq] at hzz
  obtain ⟨hz0, hz1, hz2⟩ := hzz
  have hlen : zs.length + 1 ≤ 140737488355328 := Nat.le_trans (Nat.le_mul_of_pos_right _ hb0) hl
  obtain ⟨v1, w1, hrun, h2, hg, _, hat⟩ := run_append_own_at (P := P) W base t o.type e i0 (.int .i64 0) 1 bytes ht hi hz0 hz1 hz2 rfl (by omega) v zs.length (zs.map (Value.int .i64)) HO.1 ⟨L, 0, none⟩ 1 1 [.int .i64 y] (by simp) (fun j u hu => by
    cases j with
    | zero =>
      obtain rfl : Value.int .i64 y = u := by simpa using hu
      rw [add_plain]
      exact hcell
    | succ j => simp at hu) (by simp [Value.oneCell']) (by simp only [maxLen]; omega) hl hbase
  rw [if_pos (by simp [Region.wanted, hgd])]
  unfold Oper.wp execOp
  simp only [ho, resolve, invoke, builtin, Sem.run_bind, Sem.run_pure, Result.andThen_ok, List.map_toArray, List.map_cons, List.map_nil, hs, hx, hrun]
  exact h v1 w1 (HO.appended h2 hy) hg (by
    rcases hat with hat | hat
    · exact .inl hat
    · exact .inr ⟨_, hat, Nat.le_refl _⟩)
theorem ints_shape {w : World} {base : Nat} {e : TypeId} {v : Value} {zs : List Int} (h : w.ownsInts base e .i64 v zs) : ∃ A c, v = .slice A zs.length c ∧ Kd.C (Kd.int .i64) w A zs.length zs := by
  obtain ⟨A, c, e1, _, h2⟩ := Kd.R_reads (Kd.R_of_own (enc := Value.int .i64) (h1 := fun _ => rfl) (ok := fun _ => True) h.1 (fun _ _ => trivial))
  exact ⟨A, c, e1, h2⟩

/-- What is carried along lives on: where the world grows, where a row of ticks is written, where the map is. -/
structure Car (w1 : World) (X : World → Prop) : Prop where
  on : ∀ {W W' : World}, X W → Below W.heap.size W W' → X W'
  row : ∀ {W W' : World} {v : Value}, X W → (∀ k, v.ownBlock = some k → ∃ cells, W.heap[k]? = some (.cells cells 3 (0, 0))) → W.grownBy W' v.ownBlock → X W'
  map : ∀ {W W' : World}, X W → W.grownBy W' (some w1.heap.size) → X W'
theorem car_true (w1 : World) : Car w1 (fun _ => True) := ⟨fun _ _ => trivial, fun _ _ _ => trivial, fun _ _ => trivial⟩
/-- What stands while a slip is looked at: its own variable, the map, and, once they are there, the tick's row, what was found, and what it has become. -/
def Inv (X : World → Prop) (w w1 : World) (S : Nat) (s : S40) (l : List S40) (n : Nat) (D : DataW Unit) (lit : Option Nat) (look : Option (World × Value × Value × List Int)) (W : World) : Prop :=
  (W.heap[S]? = some (.cells #[.int .i64 s.f0, .bool s.f1, .int .i64 s.f2, .int .i64 s.f3] 40 (0, 0)) ∧ GRel D l ∧ (Lit.int .i64 s.f0).wf = true ∧ n < maxLen ∧ l.length ≤ n ∧ S ≠ w1.heap.size ∧ Car w1 X ∧ X W) ∧ W.ownsGroups Try.prog 134 (w1.heap.size + 1) 3 .i64 w1.heap.size n D ∧ Below w.heap.size w W ∧ w.heap.size ≤ w1.heap.size ∧ w1.heap.size < W.heap.size ∧
  (∀ L, lit = some L → W.cell? ⟨L, 0, none⟩ = some (.int .i64 s.f2)) ∧
  (∀ p, look = some p → p.1.groupBack Try.prog 130 134 (w1.heap.size + 1) 3 .i64 w1.heap.size n D (.agg #[.int .i64 s.f0, .bool s.f1]) (kl s.f0 s.f1) p.2.1 ∧ p.1.grownBy W p.2.1.ownBlock ∧ W.ownsInts (w1.heap.size + 1) 3 .i64 p.2.2.1 p.2.2.2 ∧
    (p.2.2.1.ownBlock = p.2.1.ownBlock ∨ ∃ g, p.2.2.1.ownBlock = some g ∧ p.1.heap.size ≤ g))
section
variable {X : World → Prop} {w w1 : World} {S : Nat} {s : S40} {l : List S40} {n : Nat} {D : DataW Unit} {li : Option Nat} {look : Option (World × Value × Value × List Int)} {W W' : World}
theorem Inv.on (h : Inv X w w1 S s l n D li look W) (hb : Below W.heap.size W W') : Inv X w w1 S s l n D li look W' := by
  obtain ⟨⟨h1, hg, hw, hn, hln, hne, hcar, hx⟩, h2, h3, h4, h5, h6, h7⟩ := h
  refine ⟨⟨blk_below h1 hb, hg, hw, hn, hln, hne, hcar, hcar.on hx hb⟩, h2.kept (row := none) (grown_of_below hb none) (by simp) (fun es clock _ x _ => by cases x.val.ownBlock <;> simp), below_then h3 h3.size hb, h4, Nat.lt_of_lt_of_le h5 hb.size, fun L hL => pw_cell_below hb (h6 L hL), fun p hp => ?_⟩
  obtain ⟨k1, k2, k3, k4⟩ := h7 p hp
  exact ⟨k1, k2.trans (grown_of_below hb _), k3.kept (row := none) (grown_of_below hb none) (by cases p.2.2.1.ownBlock <;> simp), k4⟩
theorem Inv.lit (h : Inv X w w1 S s l n D none look W) : Inv X w w1 S s l n D (some W.heap.size) look (W.alloc (.cells #[.int .i64 s.f2] 3)) := by
  have h' := h.on (below_alloc (Below.refl W.heap.size W) (.cells #[.int .i64 s.f2] 3))
  obtain ⟨h1, h2, h3, h4, h5, h6, h7⟩ := h'
  exact ⟨h1, h2, h3, h4, h5, fun L hL => by cases hL; exact (blk_cell (blk_new W _) 0).trans rfl, h7⟩
theorem Inv.cells (h : Inv X w w1 S s l n D li look W) :
    W.cell? ⟨S, 0, none⟩ = some (.int .i64 s.f0) ∧ W.cell? ⟨S, 1, none⟩ = some (.bool s.f1) ∧ W.cell? ⟨S, 2, none⟩ = some (.int .i64 s.f2) ∧ W.cell? ⟨S, 3, none⟩ = some (.int .i64 s.f3) :=
  ⟨(blk_cell h.1.1 0).trans rfl, (blk_cell h.1.1 1).trans rfl, (blk_cell h.1.1 2).trans rfl, (blk_cell h.1.1 3).trans rfl⟩
theorem nodup_key {es : List MapEntry} (h : (es.map (·.key)).Nodup) {x y : MapEntry} (hx : x ∈ es) (hy : y ∈ es) (e : x.key = y.key) : x = y := by
  induction es with
  | nil => cases hx
  | cons a r ih =>
    rw [List.map_cons, List.nodup_cons] at h
    obtain ⟨h1, h2⟩ := h
    by_cases hxa : x = a
    · by_cases hya : y = a
      · rw [hxa, hya]
      · have hy' : y ∈ r := (List.mem_cons.1 hy).resolve_left hya
        exact absurd (hxa ▸ e ▸ List.mem_map_of_mem hy') h1
    · have hx' : x ∈ r := (List.mem_cons.1 hx).resolve_left hxa
      by_cases hya : y = a
      · exact absurd (by rw [← hya, ← e]; exact List.mem_map_of_mem hx') h1
      · exact ih h2 hx' ((List.mem_cons.1 hy).resolve_left hya)
set_option maxRecDepth 100000 in
theorem look_same {base b n : Nat} {D D' : DataW Unit} {key : Value} {kl : Lit} {v v' : Value} (own : W.ownsGroups Try.prog 134 base 3 .i64 b n D) (own' : W'.ownsGroups Try.prog 134 base 3 .i64 b n D') (hbk : W'.heap[b]? = W.heap[b]?) (hkey : keyOf Try.prog 134 key = some kl)
    (hr : (Instr.lookup 130 (.map (some b)) key false).run Try.prog W = .ok v W) (hr' : (Instr.lookup 130 (.map (some b)) key false).run Try.prog W' = .ok v' W') : v' = v := by
  obtain ⟨es, clock, hb, F, _⟩ := own
  obtain ⟨es', clock', hb', F', _⟩ := own'
  rw [hbk, hb] at hb'
  injection hb' with hb'
  injection hb' with e1 e2
  subst e1; subst e2
  have hd := F.stamped.2.2
  rcases Maps.fit_look false clock_law Try.underlying130 (by rfl) hb F hkey with ⟨h1, h2, _⟩ | ⟨e0, y, h1, h2, h3, _⟩
  · rcases Maps.fit_look false clock_law Try.underlying130 (by rfl) (hbk.trans hb) F' hkey with ⟨k1, _, _⟩ | ⟨e0, y, k1, k2, k3, _⟩
    · rw [hr] at h1
      rw [hr'] at k1
      injection h1 with h1
      injection k1 with k1
      rw [h1, k1]
    · exact absurd k2 (h2 _ k1)
  · rcases Maps.fit_look false clock_law Try.underlying130 (by rfl) (hbk.trans hb) F' hkey with ⟨_, k2, _⟩ | ⟨e0', y', k1, k2, k3, _⟩
    · exact absurd h2 (k2 _ h1)
    · obtain rfl := nodup_key hd h1 k1 (h2.trans k2.symm)
      rw [hr] at h3
      rw [hr'] at k3
      injection h3 with h3
      injection k3 with k3
      rw [h3, k3]
set_option maxRecDepth 100000 in
theorem Inv.look_ (h : Inv X w w1 S s l n D li none W) : ∃ v, (Instr.lookup 130 (.map (some w1.heap.size)) (.agg #[.int .i64 s.f0, .bool s.f1]) false).run Try.prog W = .ok v W ∧ Inv X w w1 S s l n D li (some (W, v, v, grp l s.f0 s.f1)) W := by
  obtain ⟨⟨h1, hg, hw, hn, hln, hne, hcar, hx⟩, h2, h3, h4, h5, h6, h7⟩ := h
  obtain ⟨v, zs, hrun, hat, hoi, hzl, hback⟩ := h2.at clock_law Try.underlying130 (by rfl) hn (key_clock s.f0 s.f1 hw)
  obtain rfl := GRel.found hg hw hat hoi
  exact ⟨v, hrun, ⟨h1, hg, hw, hn, hln, hne, hcar, hx⟩, h2, h3, h4, h5, h6, fun p hp => by cases hp; exact ⟨hback, World.grownBy.refl _ _, hoi, .inl rfl⟩⟩
/-- What is found is the same, in whatever world that has grown. -/
theorem Inv.looks (h : Inv X w w1 S s l n D li none W) : ∃ v, ∀ W' li', Inv X w w1 S s l n D li' none W' → Below W.heap.size W W' →
    (Instr.lookup 130 (.map (some w1.heap.size)) (.agg #[.int .i64 s.f0, .bool s.f1]) false).run Try.prog W' = .ok v W' ∧ Inv X w w1 S s l n D li' (some (W', v, v, grp l s.f0 s.f1)) W' := by
  obtain ⟨v, hrun, _⟩ := h.look_
  refine ⟨v, fun W' li' h' hb => ?_⟩
  obtain ⟨v', hrun', hi'⟩ := h'.look_
  obtain rfl := look_same h.2.1 h'.2.1 (hb.block _ h.2.2.2.2.1) (key_clock s.f0 s.f1 h.1.2.2.1) hrun hrun'
  exact ⟨hrun', hi'⟩
theorem Inv.own {W0 : World} {v v' : Value} {zs : List Int} (h : Inv X w w1 S s l n D li (some (W0, v, v', zs)) W) : W.ownsInts (w1.heap.size + 1) 3 .i64 v' zs := (h.2.2.2.2.2.2 _ rfl).2.2.1
theorem Inv.litAt {L : Nat} (h : Inv X w w1 S s l n D (some L) look W) : W.cell? ⟨L, 0, none⟩ = some (.int .i64 s.f2) := h.2.2.2.2.2.1 L rfl
/-- What a round leaves. -/
def Fin (X : World → Prop) (w w1 : World) (S : Nat) (s : S40) (l : List S40) (n : Nat) (W : World) : Prop := W.heap[S]? = some (.cells #[.int .i64 s.f0, .bool s.f1, .int .i64 s.f2, .int .i64 s.f3] 40 (0, 0)) ∧ X W ∧ (∃ D, W.ownsGroups Try.prog 134 (w1.heap.size + 1) 3 .i64 w1.heap.size (n + 1) D ∧ GRel D l) ∧ Below w.heap.size w W ∧ w1.heap.size < W.heap.size
/-- What stands behind the append. -/
def Inv2 (X : World → Prop) (w w1 : World) (S : Nat) (s : S40) (l : List S40) (n : Nat) (D : DataW Unit) (v1 : Value) (W : World) : Prop :=
  (GRel D l ∧ (Lit.int .i64 s.f0).wf = true ∧ l.length ≤ n ∧ W.heap[S]? = some (.cells #[.int .i64 s.f0, .bool s.f1, .int .i64 s.f2, .int .i64 s.f3] 40 (0, 0)) ∧ S ≠ w1.heap.size ∧ Car w1 X ∧ X W) ∧ Below w.heap.size w W ∧ w.heap.size ≤ w1.heap.size ∧ w1.heap.size < W.heap.size ∧ W.ownsInts (w1.heap.size + 1) 3 .i64 v1 (grp l s.f0 s.f1 ++ [s.f2]) ∧
  ∃ W0 v, World.groupBack W0 Try.prog 130 134 (w1.heap.size + 1) 3 .i64 w1.heap.size n D (.agg #[.int .i64 s.f0, .bool s.f1]) (kl s.f0 s.f1) v ∧ W0.grownBy W v.ownBlock ∧ (v1.ownBlock = v.ownBlock ∨ ∃ g, v1.ownBlock = some g ∧ W0.heap.size ≤ g)
theorem Inv.app {L : Nat} {W0 : World} {v v1 : Value} (h : Inv X w w1 S s l n D (some L) (some (W0, v, v, grp l s.f0 s.f1)) W) (ho : W'.ownsInts (w1.heap.size + 1) 3 .i64 v1 (grp l s.f0 s.f1 ++ [s.f2])) (hg : W.grownBy W' v.ownBlock) (hat : v1.ownBlock = v.ownBlock ∨ ∃ b, v1.ownBlock = some b ∧ W.heap.size ≤ b) : Inv2 X w w1 S s l n D v1 W' := by
  obtain ⟨⟨h1, hgr, hw, hn, hln, hne, hcar, hx⟩, h2, h3, h4, h5, h6, h7⟩ := h
  obtain ⟨k1, k2, k3, k4⟩ := h7 _ rfl
  refine ⟨⟨hgr, hw, hln, blk_grown h1 hg (own_ne k3.1 h1 (by decide)), hne, hcar, hcar.row hx (own_typed k3.1) hg⟩, pw_below_grown h3 _ h3.size hg (fun k hk => ?_), h4, Nat.lt_of_lt_of_le h5 hg.size, ho, W0, v, k1, k2.trans hg, ?_⟩
  · have := own_base k3.1 k hk
    omega
  · rcases hat with hat | ⟨b, hb, hle⟩
    · exact .inl hat
    · exact .inr ⟨b, hb, Nat.le_trans k2.size hle⟩
theorem Inv2.on {v1 : Value} (h : Inv2 X w w1 S s l n D v1 W) (hb : Below W.heap.size W W') : Inv2 X w w1 S s l n D v1 W' := by
  obtain ⟨h1, h2, h3, h4, h5, W0, v, k1, k2, k3⟩ := h
  obtain ⟨g1, g2, g3, g4, g5, g6, g7⟩ := h1
  exact ⟨⟨g1, g2, g3, blk_below g4 hb, g5, g6, g6.on g7 hb⟩, below_then h2 h2.size hb, h3, Nat.lt_of_lt_of_le h4 hb.size, h5.kept (row := none) (grown_of_below hb none) (by cases v1.ownBlock <;> simp), W0, v, k1, k2.trans (grown_of_below hb _), k3⟩
theorem Inv2.cells {v1 : Value} (h : Inv2 X w w1 S s l n D v1 W) :
    W.cell? ⟨S, 0, none⟩ = some (.int .i64 s.f0) ∧ W.cell? ⟨S, 1, none⟩ = some (.bool s.f1) ∧ W.cell? ⟨S, 2, none⟩ = some (.int .i64 s.f2) ∧ W.cell? ⟨S, 3, none⟩ = some (.int .i64 s.f3) :=
  ⟨(blk_cell h.1.2.2.2.1 0).trans rfl, (blk_cell h.1.2.2.2.1 1).trans rfl, (blk_cell h.1.2.2.2.1 2).trans rfl, (blk_cell h.1.2.2.2.1 3).trans rfl⟩
theorem Fin.cells (h : Fin X w w1 S s l n W) :
    W.cell? ⟨S, 0, none⟩ = some (.int .i64 s.f0) ∧ W.cell? ⟨S, 1, none⟩ = some (.bool s.f1) ∧ W.cell? ⟨S, 2, none⟩ = some (.int .i64 s.f2) ∧ W.cell? ⟨S, 3, none⟩ = some (.int .i64 s.f3) :=
  ⟨(blk_cell h.1 0).trans rfl, (blk_cell h.1 1).trans rfl, (blk_cell h.1 2).trans rfl, (blk_cell h.1 3).trans rfl⟩
theorem Inv2.update {v1 : Value} (h : Inv2 X w w1 S s l n D v1 W) : ∃ w2, (Instr.mapUpdate 130 (.map (some w1.heap.size)) (.agg #[.int .i64 s.f0, .bool s.f1]) v1).run Try.prog W = .ok () w2 ∧ Fin X w w1 S s (l ++ [s]) n w2 := by
  obtain ⟨⟨hg, hw, hln, hS, hne, hcar, hx⟩, h2, h3, h4, h5, W0, v, k1, k2, k3⟩ := h
  obtain ⟨w2, hrun, r1, r2⟩ := k1 W v1 _ k2 h5 (by rw [List.length_append]; have := grp_len l s.f0 s.f1; simp; omega) k3
  exact ⟨w2, hrun, blk_grown hS r2 (fun e => hne (Option.some.inj e)), hcar.map hx r2, ⟨_, r1, GRel.put hg s hw h5⟩, pw_below_grown h2 _ h2.size r2 (fun k hk => by cases hk; exact h3), Nat.lt_of_lt_of_le h4 r2.size⟩
/-- A world that has grown out of an earlier one. -/
def Kp (W0 W : World) : Prop := Below W0.heap.size W0 W
theorem Kp.on {W0 : World} (h : Kp W0 W) (hb : Below W.heap.size W W') : Kp W0 W' := below_then h h.size hb
theorem Kp.lit {W0 : World} (h : Kp W0 W) (o : Obj) : Kp W0 (W.alloc o) := below_alloc h o
theorem Inv.base (h : Inv X w w1 S s l n D li look W) : w1.heap.size + 1 ≤ W.heap.size := h.2.2.2.2.1
theorem info3i : (Try.prog.info? 3).map (fun i => (i.zero, i.size, i.bytes)) = some (some (.int .i64 0), 1, 8) := by kernel_rfl
end
end Go.Proofs.Ytfmepbpipknblaa.PBu
