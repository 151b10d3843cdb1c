/- The library's sort at a row of parts of one's own: what it leaves, in plain words. Helper text. -/
import Derived.Test.YtpafcbbnjkmhaaaPLax0
import Derived.Test.YtpafcbbnjkmhaaaShelf
import Derived.Shelf.SlSortCmp.NoneTotal
import Derived.Sort.OwnSorted
namespace Go.Proofs.Ytpafcbbnjkmhaaa.PLa
open Go.RowKit Go.Shelf Go.Lib Go.Sort Go.Proofs.YtpafcbbnjkmhaaaW.PrintWords Go.Proofs.YtpafcbbnjkmhaaaW.PrintLast Go.Proofs.YtpafcbbnjkmhaaaW.PrintMore
set_option linter.unusedVariables false
set_option linter.unusedSimpArgs false

/-- A part that begins in the memory. -/
abbrev RP := {p : S41 // 0 ≤ p.f0 ∧ p.f0 < 64}
instance : Inhabited RP := ⟨⟨⟨0, 0⟩, by decide⟩⟩
def encRP (x : RP) : List Value := [.int .i64 x.1.f0, .int .i64 x.1.f1]
def cfRP (x y : RP) : Int := x.1.f0 - y.1.f0
theorem ltRP (x y : RP) : ltOf cfRP x y = decide (x.1.f0 < y.1.f0) := by
  unfold ltOf cfRP
  by_cases h : x.1.f0 < y.1.f0
  · rw [decide_eq_true h, decide_eq_true (by omega)]
  · rw [decide_eq_false h, decide_eq_false (by omega)]
theorem swoRP : SWO (ltOf cfRP) where
  irrefl x := by rw [ltRP]; simp
  trans x y z h1 h2 := by rw [ltRP] at *; simp at *; omega
  ntrans x y z h1 h2 := by rw [ltRP] at *; simp at *; omega
def subs (l : List S41) : List RP := l.filterMap fun p => if h : 0 ≤ p.f0 ∧ p.f0 < 64 then some ⟨p, h⟩ else none
theorem subs_map : ∀ l : List S41, (∀ p ∈ l, 0 ≤ p.f0 ∧ p.f0 < 64) → (subs l).map (·.1) = l
  | [], _ => rfl
  | p :: r, h => by
    have hp := h p List.mem_cons_self
    rw [subs, List.filterMap_cons_some (b := ⟨p, hp⟩) (by rw [dif_pos hp]), List.map_cons]
    congr 1
    exact subs_map r fun q hq => h q (List.mem_cons_of_mem _ hq)
/-- What the library's sort makes of parts. -/
def srtA (d : Array RP) : Array RP := pdq (ltOf cfRP) d 0 d.size (Lib.bitLen d.size) true true
def srt (l : List S41) : List S41 := (srtA (subs l).toArray).toList.map (·.1)
theorem srtA_is (d : Array RP) : (srtA d).size = d.size ∧ (srtA d).toList.Perm d.toList ∧ (srtA d).toList.Pairwise fun a b => a.1.f0 ≤ b.1.f0 := by
  obtain ⟨⟨h1, _, h3⟩, h4⟩ := pdq_sorts (ltOf cfRP) swoRP d 0 d.size (Lib.bitLen d.size) true true (Nat.zero_le _) (Nat.le_refl _) (Or.inl rfl)
  change (srtA d).size = d.size at h1
  change ((srtA d).extract 0 d.size).toList.Perm _ at h3
  change SortedIn _ 0 d.size (srtA d) at h4
  generalize srtA d = e at *
  refine ⟨h1, ?_, ?_⟩
  · rw [← h1, Array.extract_size] at h3
    rwa [h1, Array.extract_size] at h3
  · rw [List.pairwise_iff_getElem]
    intro i j hi hj hij
    have hi' : i < e.size := by simpa using hi
    have hj' : j < e.size := by simpa using hj
    have := h4 i j (Nat.zero_le _) hij (by omega)
    rw [ltRP, getElem!_pos e i hi', getElem!_pos e j hj'] at this
    have := of_decide_eq_false this
    simp only [Array.getElem_toList]
    omega
theorem srt_is {l : List S41} (h : ∀ p ∈ l, 0 ≤ p.f0 ∧ p.f0 < 64) : (srt l).Perm l ∧ (srt l).Pairwise fun a b => a.f0 ≤ b.f0 := by
  obtain ⟨_, h2, h3⟩ := srtA_is (subs l).toArray
  refine ⟨?_, List.pairwise_map.2 h3⟩
  have := h2.map (·.1)
  rwa [show (subs l).toArray.toList = subs l from rfl, subs_map l h] at this

theorem take_put (cur : Array Value) (ts : List Value) (h : ts.length ≤ cur.size) : (putCells id 0 ts.toArray cur).toList.take ts.length = ts := by
  apply List.ext_getElem?
  intro j
  by_cases hj : j < ts.length
  · rw [List.getElem?_take_of_lt hj, Array.getElem?_toList]
    simp [putCells, hj, show j < cur.size by omega]
  · rw [List.getElem?_take_eq_none (by omega), List.getElem?_eq_none (by omega)]
theorem heap_put {w : World} {g n : Nat} {os : Array Obj} {cur : Array Value} {e : TypeId} {fr : Nat × Nat} (d : Array Value) (hb : w.heap[g]? = some (.cells cur e fr)) :
    (grow (putRow id (Sort.ahead w n) g 0 d) os).heap[g]? = some (.cells (putCells id 0 d cur) e fr) := by
  have hg : g < w.heap.size := (Array.getElem?_eq_some_iff.1 hb).1
  rw [heap_grow_old _ _ (by simpa using hg)]
  simp [putRow, mapBlock, Sort.ahead, Array.getElem?_modify, hb, onCells]
theorem grownBy_put {w : World} {g n : Nat} {os : Array Obj} (d : Array Value) : w.grownBy (grow (putRow id (Sort.ahead w n) g 0 d) os) (some g) := by
  refine ⟨rfl, rfl, rfl, by simp, fun k hk hne => ?_⟩
  rw [heap_grow_old _ _ (by simpa using hk)]
  have : g ≠ k := fun e => hne (by rw [e])
  simp [putRow, mapBlock, Sort.ahead, Array.getElem?_modify, this]
theorem getElem_flat (d : Array RP) (j i : Nat) (hj : j < d.size) (hi : i < 2) : (flatK encRP 2 d)[2 * j + i]! = (encRP d[j]!)[i]! := by
  rw [get_flatK _ _ _ _ (by omega), show (2 * j + i) / 2 = j by omega, show (2 * j + i) % 2 = i by omega]
theorem flat_part (d : Array RP) (j : Nat) (hj : j < d.size) : ((flatK encRP 2 d).toList.drop (j * 2)).take 2 = encRP d[j]! := by
  have hs : (flatK encRP 2 d).size = d.size * 2 := size_flatK _ _ _
  have e0 := getElem_flat d j 0 hj (by omega)
  have e1 := getElem_flat d j 1 hj (by omega)
  generalize flatK encRP 2 d = F at *
  rw [getElem!_pos F _ (by omega)] at e0 e1
  apply List.ext_getElem?
  intro i
  match i with
  | 0 => simp only [List.getElem?_take, List.getElem?_drop, Array.getElem?_toList]; rw [if_pos (by omega), Array.getElem?_eq_getElem (by omega)]; simp only [show j * 2 + 0 = 2 * j + 0 by omega]; rw [e0]; rfl
  | 1 => simp only [List.getElem?_take, List.getElem?_drop, Array.getElem?_toList]; rw [if_pos (by omega), Array.getElem?_eq_getElem (by omega)]; simp only [show j * 2 + 1 = 2 * j + 1 by omega]; rw [e1]; rfl
  | i + 2 => simp [encRP]; omega
/-- Rows of parts that are held: the cells. -/
theorem reps_flat {w : World} {base : Nat} {ok : Nat → Prop} (d : Array RP) : Reps (k41.M w base ok) k41.sz (d.toList.map (·.1)) (flatK encRP 2 d).toList := by
  refine ⟨by simp; rfl, fun j p hj => ?_⟩
  have hj' : j < d.size := by
    have := (List.getElem?_eq_some_iff.1 hj).1
    simpa using this
  have e : p = (d[j]!).1 := by
    rw [getElem!_pos d j hj']
    simpa [hj'] using hj.symm
  subst e
  rw [show k41.sz = 2 from rfl, flat_part d j hj']
  exact k41_mkM w base ok _
theorem holds_reps {w : World} {g : Nat} {cur : Array Value} {e : TypeId} {base : Nat} {ok : Nat → Prop} {d : Array RP} {inner : List Value} (hb : w.heap[g]? = some (.cells cur e (0, 0))) (ht : cur.toList.take (d.size * 2) = inner) (hr : Reps (k41.M w base ok) k41.sz (d.toList.map (·.1)) inner) : HoldsK encRP 2 w g 0 d := by
  have hi : inner = (flatK encRP 2 d).toList := by
    apply List.ext_getElem?
    intro t
    by_cases hlt : t < d.size * 2
    · have hj : t / 2 < d.size := by omega
      have h1 := hr.2 (t / 2) (d[t / 2]!).1 (by rw [getElem!_pos d _ hj]; simp [hj])
      have h2 := k41_openM h1
      rw [show k41.sz = 2 from rfl] at h2
      have h3 := flat_part d (t / 2) hj
      rw [show encRP d[t / 2]! = [.int .i64 (d[t / 2]!).1.f0, .int .i64 (d[t / 2]!).1.f1] from rfl, ← h2] at h3
      have h4 := congrArg (fun l : List Value => l[t % 2]?) h3
      simp only [List.getElem?_take, List.getElem?_drop, if_pos (show t % 2 < 2 by omega), show t / 2 * 2 + t % 2 = t by omega] at h4
      exact h4.symm
    · rw [List.getElem?_eq_none (by rw [hr.1]; simp [show k41.sz = 2 from rfl]; omega), List.getElem?_eq_none (by simp; omega)]
  intro j hj
  rw [size_flatK] at hj
  refine ⟨?_, by simp [World.frozen?, hb]⟩
  have h1 : (cur.toList.take (d.size * 2))[j]? = (flatK encRP 2 d).toList[j]? := by rw [ht, hi]
  rw [List.getElem?_take_of_lt hj] at h1
  simp only [World.cell?, hb, Nat.zero_add]
  simp only [Option.isSome_none, Bool.false_eq_true, if_false]
  rw [← Array.getElem?_toList, h1]
  have : j < (flatK encRP 2 d).size := by rw [size_flatK]; exact hj
  rw [getElem!_pos (flatK encRP 2 d) j this]
  simp [this]

/-- The closure that right hands to the sort: a.At - b.At. -/
theorem closure30 (x y : RP) (W : World) : Calls Try.prog 30 #[.agg (encRP x).toArray, .agg (encRP y).toArray] W fun e w' => e = .returned (.int .i64 (cfRP x y)) ∧ ∃ q os', w' = grow (W.drewN q) os' := by
  have hw : IntKind.i64.wrap (x.1.f0 - y.1.f0) = cfRP x y := by
    have := x.2
    have := y.2
    unfold cfRP
    simp [IntKind.wrap, IntKind.bits, IntKind.signed]
    omega
  show Calls Try.prog 30 #[.agg #[.int .i64 x.1.f0, .int .i64 x.1.f1], .agg #[.int .i64 y.1.f0, .int .i64 y.1.f1]] W _
  generalize x.1.f0 = a at *
  generalize x.1.f1 = b at *
  generalize y.1.f0 = c at *
  generalize y.1.f1 = d at *
  generalize cfRP x y = r at *
  go_enter Try.func30, Try.ntmps30
  go_wp2
  go_ret
  exact ⟨rfl, 0, _, by rw [alloc_eq_grow, alloc_eq_grow, grow_grow]; rfl⟩
theorem enters30 : ∀ args w, (callFunc 30 args).run Try.prog w = .ok (.enter 30 args) w := enters_of Try.func30 (by kernel_rfl) rfl
/-- THE SORT OF A ROW OF ONE'S OWN. -/
theorem sort_row {w : World} {base : Nat} {ok : Nat → Prop} {v : Value} {xs : List S41} (h : Kd.R k41 41 w base ok v xs) (hx : ∀ p ∈ xs, 0 ≤ p.f0 ∧ p.f0 < 64) (hl : xs.length < 4611686018427387904) :
    Calls Try.prog 29 #[v, .func (.func 30) #[] #[]] w fun e w' => e = .returned (.tuple #[]) ∧ Kd.R k41 41 w' base ok v (srt xs) ∧ w.grownBy w' v.ownBlock := by
  have hm : (subs xs).map (·.1) = xs := subs_map xs hx
  have hlen : (subs xs).length = xs.length := by
    have := congrArg List.length hm
    rwa [List.length_map] at this
  have hlen2 : (srt xs).length = xs.length := by
    rw [srt, List.length_map, Array.length_toList, (srtA_is _).1]
    simpa using hlen
  obtain ⟨h0, inner, ho, hr⟩ := h
  rcases ho.2 with ⟨rfl, hn⟩ | ⟨g, cap, cur, rfl, hb, hh, hnc, hcm, hcs, ht⟩
  · have e := List.eq_nil_of_length_eq_zero hn
    subst e
    refine (AnyF.slices_SortFunc_none (P := Try.prog) Try.laysSort none 0 (.func (.func 30) #[] #[]) w).mono ?_
    rintro e w' ⟨rfl, rfl⟩
    have e2 : srt [] = [] := List.eq_nil_of_length_eq_zero hlen2
    rw [e2]
    exact ⟨rfl, Kd.R_nil _ _ _ _ _, ⟨rfl, rfl, rfl, Nat.le_refl _, fun k _ _ => rfl⟩⟩
  · have hd : (subs xs).toArray.size = xs.length := by simpa using hlen
    have hholds : HoldsK encRP 2 w g 0 (subs xs).toArray := holds_reps (inner := inner) (base := base) (ok := fun k => ok k ∧ some k ≠ (Value.slice (some ⟨g, 0, none⟩) xs.length cap).ownBlock) (e := 41) hh (by rw [hd]; exact ht) (by rw [show (subs xs).toArray.toList = subs xs from rfl, hm]; exact hr)
    have hg : g < w.heap.size := (Array.getElem?_eq_some_iff.1 hh).1
    have hcon := AnyQ.slices_SortFunc_eq (P := Try.prog) Try.laysSort 2 Try.isAgg41 Try.sizeOf41 encRP (fun _ => rfl) (fun x v hv => by
      simp [encRP] at hv
      rcases hv with rfl | rfl <;> rfl) cfRP swoRP 30 #[] g 0 cap (subs xs).toArray w enters30 (fun _ _ _ _ x y => closure30 x y _) hholds hg (by rw [hd]; exact hl)
    rw [hd] at hcon
    refine hcon.mono ?_
    rintro e w' ⟨rfl, n, os, rfl⟩
    refine ⟨rfl, ⟨h0, (flatK encRP 2 (srtA (subs xs).toArray)).toList, ?_, reps_flat _⟩, ?_⟩
    · have hs : (srtA (subs xs).toArray).size = xs.length := (srtA_is _).1.trans hd
      have hfl : (flatK encRP 2 (srtA (subs xs).toArray)).toList.length = xs.length * 2 := by simp [hs]
      have e : pdq (ltOf cfRP) (subs xs).toArray 0 xs.length (Lib.bitLen xs.length) true true = srtA (subs xs).toArray := by
        rw [srtA, hd]
      rw [e, hlen2]
      refine ⟨hfl, .inr ⟨g, cap, _, rfl, hb, heap_put _ hh, hnc, hcm, by simp [putCells]; exact hcs, ?_⟩⟩
      have := take_put cur (flatK encRP 2 (srtA (subs xs).toArray)).toList (by rw [hfl, hcs]; exact Nat.mul_le_mul_right _ hnc)
      rwa [hfl] at this
    · exact grownBy_put _
end Go.Proofs.Ytpafcbbnjkmhaaa.PLa
