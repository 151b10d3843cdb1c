/- One number put into a list of the call's own: by the library's contracts of slices.Insert. Helper text. -/
import Derived.Test.YtekbaconbemgpaaAuBin
import Derived.Shelf.Spec.SlicesInsert
import Derived.Shelf.Spec.SlicesInsertGrow
namespace Go.Proofs.Ytekbaconbemgpaa.PWe
open Go.RowKit Go.Proofs.Ytekbaconbemgpaa.Kx Go.Proofs.YtekbaconbemgpaaW.PrintWords Go.Proofs.YtekbaconbemgpaaW.PrintLast Go.Proofs.YtekbaconbemgpaaW.PrintMore
set_option linter.unusedVariables false
set_option linter.unusedSimpArgs false

def insRen : Go.Shelf.Ren := ⟨fun | 21 => 83 | 27 => 86 | 28 => 87 | 35 => 89 | 39 => 90 | n => n, fun | 0 => 0 | 3 => 3 | 4 => 4 | 22 => 42 | n => n, fun | n => n⟩
theorem insLay : Go.Proofs.Lays2.n21 Try.prog insRen := {
  mixed := by kernel_rfl
  f21 := Try.func83.trans (congrArg some (by kernel_rfl))
  f27 := Try.func86.trans (congrArg some (by kernel_rfl))
  f28 := Try.func87.trans (congrArg some (by kernel_rfl))
  f35 := Try.func89.trans (congrArg some (by kernel_rfl))
  f39 := Try.func90.trans (congrArg some (by kernel_rfl))
  t0 := Try.underlying0
  a0 := Try.isAgg0
  z0 := Try.sizeOf0
  v0 := Try.zeroValue0
  t3 := Try.underlying3
  a3 := Try.isAgg3
  z3 := Try.sizeOf3
  v3 := Try.zeroValue3
  t4 := Try.underlying4
  a4 := Try.isAgg4
  z4 := Try.sizeOf4
  v4 := Try.zeroValue4
  t22 := Try.underlying42
  a22 := Try.isAgg42
  z22 := Try.sizeOf42
  v22 := Try.zeroValue42
  i3 := info3 }
/-- Cells, some of which are written over. -/
def over (cs : Array Value) : Nat → List Value → Array Value
  | _, [] => cs
  | o, v :: r => over (cs.setIfInBounds o v) (o + 1) r
theorem over_size : ∀ (vs : List Value) (cs : Array Value) (o : Nat), (over cs o vs).size = cs.size
  | [], _, _ => rfl
  | v :: r, cs, o => by rw [over, over_size r, Array.size_setIfInBounds]
theorem over_get : ∀ (vs : List Value) (cs : Array Value) (o k : Nat), (over cs o vs)[k]? = if o ≤ k ∧ k < o + vs.length ∧ k < cs.size then vs[k - o]? else cs[k]?
  | [], cs, o, k => by
    rw [over, if_neg (by simp; omega)]
  | v :: r, cs, o, k => by
    rw [over, over_get r, Array.size_setIfInBounds, Array.getElem?_setIfInBounds, List.length_cons]
    by_cases h1 : o + 1 ≤ k ∧ k < o + 1 + r.length ∧ k < cs.size
    · rw [if_pos h1, if_pos (by omega), show k - o = (k - (o + 1)) + 1 by omega, List.getElem?_cons_succ]
    · rw [if_neg h1]
      by_cases h2 : o = k
      · subst h2
        by_cases h3 : o < cs.size
        · rw [if_pos rfl, if_pos h3, if_pos (by omega), Nat.sub_self]; rfl
        · rw [if_pos rfl, if_neg h3, if_neg (by omega), Array.getElem?_eq_none (by omega)]
      · rw [if_neg h2, if_neg (by omega)]
theorem heap_setCells {b : Nat} {T : TypeId} {fr : Nat × Nat} : ∀ (vs : List Value) (o : Nat) (w : World) (cs : Array Value), w.heap[b]? = some (.cells cs T fr) → (w.setCells b o vs).heap[b]? = some (.cells (over cs o vs) T fr)
  | [], _, _, _, h => h
  | v :: r, o, w, cs, h => heap_setCells r (o + 1) _ _ (set_in h o v)
theorem setCell_grown (w : World) (b o : Nat) (v : Value) : w.grownBy (w.setCell ⟨b, o, none⟩ v) (some b) :=
  ⟨by simp [World.setCell], by simp [World.setCell], by simp [World.setCell], by simp [World.setCell], fun k _ hne => set_ne o v (fun e => hne (by rw [e]))⟩
theorem setCells_grown (b : Nat) : ∀ (vs : List Value) (o : Nat) (w : World), w.grownBy (w.setCells b o vs) (some b)
  | [], _, w => grown_refl w _
  | v :: r, o, w => grown_trans (setCell_grown w b o v) (setCells_grown b r (o + 1) _)
/-- A row, by its cells. -/
theorem own_of_cells {w : World} {base g cap : Nat} {cur : Array Value} {xs : List Int} (hb : base ≤ g) (hg : w.heap[g]? = some (.cells cur 3 (0, 0))) (hn : xs.length ≤ cap) (hm : cap ≤ maxLen) (hs : cur.size = cap) (hc : ∀ k (h : k < xs.length), cur[k]? = some (.int .i64 xs[k])) : w.ownsRow base 3 1 (.slice (some ⟨g, 0, none⟩) xs.length cap) xs.length (encs (Value.int .i64) xs) := by
  refine ⟨by simp [encs], .inr ⟨g, cap, cur, rfl, hb, hg, hn, hm, by omega, ?_⟩⟩
  apply List.ext_getElem?
  intro k
  rw [Nat.mul_one, List.getElem?_take]
  by_cases h : k < xs.length
  · rw [if_pos h, Array.getElem?_toList, hc k h, encs, List.getElem?_map, List.getElem?_eq_getElem h]; rfl
  · rw [if_neg h, encs, List.getElem?_eq_none (by rw [List.length_map]; omega)]
def insL (l : List Int) (i : Nat) (n : Int) : List Int := l.take i ++ n :: l.drop i
theorem insL_len {l : List Int} {i : Nat} (n : Int) (hi : i ≤ l.length) : (insL l i n).length = l.length + 1 := by
  unfold insL
  rw [List.length_append, List.length_cons, List.length_take, List.length_drop]
  omega
theorem insL_get {l : List Int} {i : Nat} {n : Int} (hi : i ≤ l.length) {k : Nat} (h : k < (insL l i n).length) : (insL l i n)[k]? = if k < i then l[k]? else if k = i then some n else l[k - 1]? := by
  unfold insL
  by_cases h1 : k < i
  · rw [if_pos h1, List.getElem?_append_left (by rw [List.length_take]; omega), List.getElem?_take, if_pos h1]
  · rw [if_neg h1, List.getElem?_append_right (by rw [List.length_take]; omega), List.length_take, Nat.min_eq_left hi]
    by_cases h2 : k = i
    · rw [if_pos h2, h2, Nat.sub_self]; rfl
    · rw [if_neg h2, show k - i = (k - i - 1) + 1 by omega, List.getElem?_cons_succ, List.getElem?_drop]
      congr 1
      omega
theorem insert_calls (v : Value) (l : List Int) (i : Nat) (n : Int) (gx base : Nat) (w : World) (hi : i ≤ l.length) (hl : l.length ≤ 1000000) (ho : w.ownsRow base 3 1 v l.length (encs (Value.int .i64) l)) (hx : w.heap[gx]? = some (.cells #[.int .i64 n] 3 (0, 0))) (hne : v.ownBlock ≠ some gx) (hbase : base ≤ w.heap.size) :
    Calls Try.prog 83 #[v, .int .i64 i, .slice (some ⟨gx, 0, none⟩) 1 1] w fun e w' => ∃ v1, e = .returned v1 ∧ w'.ownsRow base 3 1 v1 (insL l i n).length (encs (Value.int .i64) (insL l i n)) ∧ w.grownBy w' v.ownBlock ∧ (v1.ownBlock = v.ownBlock ∨ v1.ownBlock = some w.heap.size) := by
  have hvs : ∀ j u, ([Value.int .i64 n] : List Value)[j]? = some u → w.cell? ⟨gx, 0 + j, none⟩ = some u := fun j u h => by
    rw [Nat.zero_add, cell_in hx]
    cases j with
    | zero => exact h
    | succ j => cases h
  have h1v : ∀ u ∈ ([Value.int .i64 n] : List Value), u.oneCell' = true := fun u hu => by
    obtain rfl := List.mem_singleton.1 hu
    rfl
  have h1c : ∀ u ∈ encs (Value.int .i64) l, u.oneCell' = true := fun u hu => by
    obtain ⟨x, _, rfl⟩ := List.mem_map.1 hu
    rfl
  have hcl : (encs (Value.int .i64) l).length = l.length := by simp [encs]
  obtain ⟨-, ⟨rfl, h0⟩ | ⟨g, cap, cur, rfl, hb, hg, hnc, hcm, hsz, htk⟩⟩ := ho
  · obtain rfl := List.eq_nil_of_length_eq_zero h0
    obtain rfl : i = 0 := by simpa using hi
    refine (Any2.slices_Insert_int_end_grow insLay none 0 0 gx 0 1 1 [] [.int .i64 n] w (by decide) (Nat.le_refl _) (by decide) (by decide) rfl rfl (fun _ => rfl) (fun _ h => nomatch h) hvs h1v).mono ?_
    rintro e w' ⟨rfl, rfl⟩
    have hge := grownCap_ge w (0 + 1) 0 (insRen.t 3)
    have hlm := grownCap_le_maxLen w (0 + 1) 0 (insRen.t 3) (by decide)
    refine ⟨_, rfl, own_of_cells (xs := insL [] 0 n) hbase (blk_new w.drew _) hge hlm ?_ ?_, ?_, .inr rfl⟩
    · rw [Array.size_append, size_zeroCells]
      show 1 + (grownCap w (0 + 1) 0 (insRen.t 3) - (0 + 1)) * 1 = _
      omega
    · intro k hk
      obtain rfl : k = 0 := by simpa [insL] using hk
      rw [Array.getElem?_append, if_pos (by simp)]
      rfl
    · exact (grown_of_below (below_alloc (below_drew1 (Below.refl _ _)) _) none)
  · have hgs := blk_lt hg
    have hng : gx ≠ g := fun e => hne (by rw [e]; rfl)
    have hcur : ∀ k (h : k < l.length), cur[k]? = some (.int .i64 l[k]) := fun k h => by
      have h1 : (cur.toList.take (l.length * 1))[k]? = (encs (Value.int .i64) l)[k]? := by rw [htk]
      rw [Nat.mul_one, List.getElem?_take, if_pos h, Array.getElem?_toList, encs, List.getElem?_map, List.getElem?_eq_getElem h] at h1
      exact h1
    have hcs : ∀ j u, (encs (Value.int .i64) l)[j]? = some u → w.cell? ⟨g, 0 + j, none⟩ = some u := fun j u h => by
      have hj : j < l.length := by
        have := (List.getElem?_eq_some_iff.1 h).1
        rwa [hcl] at this
      rw [encs, List.getElem?_map, List.getElem?_eq_getElem hj] at h
      rw [Nat.zero_add, cell_in hg, hcur j hj]
      exact h
    have hsz' : cur.size = cap := by omega
    have hnl := insL_len n hi
    have h63 : cap ≤ 9223372036854775807 := hcm
    by_cases hroom : l.length + 1 ≤ cap
    · by_cases hend : i = l.length
      · subst hend
        refine (Any2.slices_Insert_int_end_room insLay g 0 l.length cap gx 0 1 1 [.int .i64 n] w (by decide) hroom h63 rfl (fun j hj => ?_) (fun j hj => ?_) hvs h1v).mono ?_
        · rw [cell_in hg, Array.getElem?_eq_getElem (by omega)]; rfl
        · exact free_in hg _
        rintro e w' ⟨rfl, rfl⟩
        have hh := heap_setCells [.int .i64 n] (0 + l.length) w cur hg
        rw [show l.length + 1 = (insL l l.length n).length from hnl.symm]
        refine ⟨_, rfl, own_of_cells hb hh (by omega) hcm (by rw [over_size]; exact hsz') (fun k hk => ?_), setCells_grown g _ _ w, .inl rfl⟩
        have e := insL_get (n := n) (Nat.le_refl l.length) hk
        rw [List.getElem?_eq_getElem hk] at e
        rw [over_get]
        by_cases h1 : k < l.length
        · rw [if_pos h1, List.getElem?_eq_getElem h1] at e
          rw [if_neg (by omega), hcur k h1, Option.some.inj e]
        · have hk2 : k = l.length := by omega
          rw [if_neg h1, if_pos hk2] at e
          rw [if_pos ⟨by omega, by simp; omega, by omega⟩, show k - (0 + l.length) = 0 by omega, Option.some.inj e]
          rfl
      · refine (Any2.slices_Insert_int_shift insLay g 0 l.length cap i gx 0 1 1 (encs (Value.int .i64) l) [.int .i64 n] w (by omega) (by decide) hroom h63 hng hcl rfl hcs (fun j hj => ?_) (fun j hj => ?_) hvs h1c h1v 3 3 1 cur.size (by simp [World.shape?, hx]) (by simp [World.shape?, hg]) (by omega) (free_in hx 0) (free_in hx 1)).mono ?_
        · rw [Nat.zero_add, cell_in hg, Array.getElem?_eq_getElem (by omega)]; rfl
        · exact free_in hg _
        rintro e w' ⟨rfl, rfl⟩
        have hg' : w.drew.heap[g]? = some (.cells cur 3 (0, 0)) := hg
        have hh := heap_setCells [.int .i64 n] (0 + i) _ _ (heap_setCells ((encs (Value.int .i64) l).drop i) (0 + (i + 1)) _ _ hg')
        rw [show l.length + 1 = (insL l i n).length from hnl.symm]
        refine ⟨_, rfl, own_of_cells hb hh (by omega) hcm (by rw [over_size, over_size]; exact hsz') (fun k hk => ?_), ?_, .inl rfl⟩
        · have e := insL_get (n := n) hi hk
          rw [List.getElem?_eq_getElem hk] at e
          rw [over_get, over_get, over_size]
          have hdl : ((encs (Value.int .i64) l).drop i).length = l.length - i := by rw [List.length_drop, hcl]
          by_cases h1 : k < i
          · rw [if_pos h1, List.getElem?_eq_getElem (by omega)] at e
            rw [if_neg (by omega), if_neg (by omega), hcur k (by omega), Option.some.inj e]
          · by_cases h2 : k = i
            · rw [if_neg h1, if_pos h2] at e
              rw [if_pos ⟨by omega, by simp; omega, by omega⟩, show k - (0 + i) = 0 by omega, Option.some.inj e]
              rfl
            · rw [if_neg h1, if_neg h2, List.getElem?_eq_getElem (by omega)] at e
              rw [if_neg (by simp; omega), if_pos ⟨by omega, by rw [hdl]; omega, by omega⟩, List.getElem?_drop, encs, List.getElem?_map, show i + (k - (0 + (i + 1))) = k - 1 by omega, List.getElem?_eq_getElem (by omega), Option.some.inj e]
              rfl
        · exact grown_trans (grown_trans (grown_of_below (below_drew1 (Below.refl _ _)) _) (setCells_grown g _ _ _)) (setCells_grown g _ _ _)
    · by_cases hend : i = l.length
      · subst hend
        refine (Any2.slices_Insert_int_end_grow insLay (some ⟨g, 0, none⟩) l.length cap gx 0 1 1 (encs (Value.int .i64) l) [.int .i64 n] w (by decide) hnc (by omega) (by omega) hcl rfl (fun h => nomatch h) (fun a ha j u hj => ?_) hvs h1v).mono ?_
        · obtain rfl := Option.some.inj ha
          rw [Addr.add_lit]
          exact hcs j u hj
        rintro e w' ⟨rfl, rfl⟩
        have hge := grownCap_ge w (l.length + 1) cap (insRen.t 3)
        have hlm := grownCap_le_maxLen w (l.length + 1) cap (insRen.t 3) (by unfold maxLen; omega)
        obtain ⟨C, hC⟩ : ∃ C, grownCap w (l.length + 1) cap (insRen.t 3) = C := ⟨_, rfl⟩
        rw [hC] at hge hlm ⊢
        refine ⟨_, rfl, ?_, grown_of_below (below_alloc (below_drew1 (Below.refl _ _)) _) _, .inr rfl⟩
        rw [show l.length + 1 = (insL l l.length n).length from hnl.symm]
        refine own_of_cells hbase (blk_new w.drew _) (by omega) hlm ?_ (fun k hk => ?_)
        · rw [Array.size_append, size_zeroCells, List.size_toArray, List.length_append, hcl]
          have e1 : (Value.int .i64 0).cells.size = 1 := rfl
          simp only [List.length_singleton, e1]
          omega
        · have e := insL_get (n := n) (Nat.le_refl l.length) hk
          rw [List.getElem?_eq_getElem hk] at e
          rw [Array.getElem?_append, if_pos (by rw [List.size_toArray, List.length_append, hcl]; simp; omega), List.getElem?_toArray]
          by_cases h1 : k < l.length
          · rw [if_pos h1, List.getElem?_eq_getElem h1] at e
            rw [List.getElem?_append_left (by rw [hcl]; exact h1), encs, List.getElem?_map, List.getElem?_eq_getElem h1, Option.some.inj e]
            rfl
          · have hk2 : k = l.length := by omega
            rw [if_neg h1, if_pos hk2] at e
            rw [List.getElem?_append_right (by rw [hcl]; omega), hcl, show k - l.length = 0 by omega, Option.some.inj e]
            rfl
      · refine (Any2.slices_Insert_int_grow insLay g 0 l.length cap i gx 0 1 1 (encs (Value.int .i64) l) [.int .i64 n] w (by omega) (by decide) hnc (by omega) (by omega) hcl rfl hcs hvs h1c h1v).mono ?_
        rintro e w' ⟨rfl, rfl⟩
        have hge := grownCap_ge w (l.length + 1) cap (insRen.t 3)
        have hlm := grownCap_le_maxLen w (l.length + 1) cap (insRen.t 3) (by unfold maxLen; omega)
        obtain ⟨C, hC⟩ : ∃ C, grownCap w (l.length + 1) cap (insRen.t 3) = C := ⟨_, rfl⟩
        rw [hC] at hge hlm ⊢
        obtain ⟨A, hA⟩ : ∃ A, ((encs (Value.int .i64) l).take i).toArray ++ Builtin.zeroCells (Value.int .i64 0).cells (l.length + 1 - i) ++ Builtin.zeroCells (Value.int .i64 0).cells (C - (l.length + 1)) = A := ⟨_, rfl⟩
        have hAs : A.size = C := by
          have e1 : (Value.int .i64 0).cells.size = 1 := rfl
          rw [← hA, Array.size_append, Array.size_append, size_zeroCells, size_zeroCells, List.size_toArray, List.length_take, hcl, e1]
          omega
        have hAg : ∀ k, k < i → A[k]? = (encs (Value.int .i64) l)[k]? := fun k hk => by
          rw [← hA, Array.getElem?_append, if_pos (by rw [Array.size_append, List.size_toArray, List.length_take, hcl]; omega), Array.getElem?_append, if_pos (by rw [List.size_toArray, List.length_take, hcl]; omega), List.getElem?_toArray, List.getElem?_take, if_pos hk]
        have hw1 : (w.alloc (.cells A 3)).drew.heap[w.heap.size]? = some (.cells A 3 (0, 0)) := blk_new w _
        have hw2 := heap_setCells [.int .i64 n] i _ _ hw1
        have hw2' : ((w.alloc (.cells A 3)).drew.setCells w.heap.size i [.int .i64 n]).drew.heap[w.heap.size]? = some (.cells (over A i [.int .i64 n]) 3 (0, 0)) := hw2
        have hh := heap_setCells ((encs (Value.int .i64) l).drop i) (i + 1) _ _ hw2'
        have hgr : w.grownBy ((((w.alloc (.cells A 3)).drew.setCells w.heap.size i [.int .i64 n]).drew).setCells w.heap.size (i + 1) ((encs (Value.int .i64) l).drop i)) none := by
          have h1 : Below w.heap.size w (w.alloc (.cells A 3)).drew := below_drew1 (below_alloc (Below.refl _ _) _)
          have h2 := setCells_grown w.heap.size [.int .i64 n] i (w.alloc (.cells A 3)).drew
          have h3 := setCells_grown w.heap.size ((encs (Value.int .i64) l).drop i) (i + 1) ((w.alloc (.cells A 3)).drew.setCells w.heap.size i [.int .i64 n]).drew
          have s1 := h1.size
          have s2 := h2.size
          have s3 : ((w.alloc (.cells A 3)).drew.setCells w.heap.size i [.int .i64 n]).heap.size ≤ _ := h3.size
          refine ⟨h3.os.trans (h2.os.trans h1.os), h3.tape.trans (h2.tape.trans h1.tape), h3.output.trans (h2.output.trans h1.output), by omega, fun k hk _ => ?_⟩
          have e : some k ≠ some w.heap.size := fun e => by cases e; omega
          have x3 := h3.block k (by show k < ((w.alloc (.cells A 3)).drew.setCells w.heap.size i [.int .i64 n]).heap.size; omega) e
          have x2 := h2.block k (by omega) e
          exact x3.trans (x2.trans (h1.block k hk))
        have hgr2 : w.grownBy ((((w.alloc (.cells A 3)).drew.setCells w.heap.size i [.int .i64 n]).drew).setCells w.heap.size (i + 1) ((encs (Value.int .i64) l).drop i)) (some g) := ⟨hgr.os, hgr.tape, hgr.output, hgr.size, fun k hk _ => hgr.block k hk (fun e => nomatch e)⟩
        have hgoal : World.ownsRow ((((w.alloc (.cells A 3)).drew.setCells w.heap.size i [.int .i64 n]).drew).setCells w.heap.size (i + 1) ((encs (Value.int .i64) l).drop i)) base 3 1 (.slice (some ⟨w.heap.size, 0, none⟩) (insL l i n).length C) (insL l i n).length (encs (Value.int .i64) (insL l i n)) := by
          refine own_of_cells hbase hh (by omega) hlm (by rw [over_size, over_size]; exact hAs) (fun k hk => ?_)
          have e := insL_get (n := n) hi hk
          rw [List.getElem?_eq_getElem hk] at e
          have hdl : ((encs (Value.int .i64) l).drop i).length = l.length - i := by rw [List.length_drop, hcl]
          rw [over_get, over_get, over_size]
          by_cases h1 : k < i
          · rw [if_pos h1, List.getElem?_eq_getElem (by omega)] at e
            rw [if_neg (by omega), if_neg (by omega), hAg k h1, encs, List.getElem?_map, List.getElem?_eq_getElem (by omega), Option.some.inj e]
            rfl
          · by_cases h2 : k = i
            · rw [if_neg h1, if_pos h2] at e
              rw [if_neg (by omega), if_pos ⟨by omega, by simp; omega, by omega⟩, show k - i = 0 by omega, Option.some.inj e]
              rfl
            · rw [if_neg h1, if_neg h2, List.getElem?_eq_getElem (by omega)] at e
              rw [if_pos ⟨by omega, by rw [hdl]; omega, by omega⟩, List.getElem?_drop, encs, List.getElem?_map, show i + (k - (i + 1)) = k - 1 by omega, List.getElem?_eq_getElem (by omega), Option.some.inj e]
              rfl
        rw [hnl] at hgoal
        rw [hnl, ← hA] at *
        exact ⟨_, rfl, hgoal, hgr2, .inr rfl⟩
end Go.Proofs.Ytekbaconbemgpaa.PWe
