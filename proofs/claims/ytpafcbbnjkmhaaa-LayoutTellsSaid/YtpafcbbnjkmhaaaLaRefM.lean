/- busbarref42.Meets: its walk. Helper text. -/
import Derived.Test.YtpafcbbnjkmhaaaLaMap
import Derived.Test.YtpafcbbnjkmhaaaLaAny
namespace Go.Proofs.Ytpafcbbnjkmhaaa.PLa
open Go.RowKit Go.Proofs.Ytpafcbbnjkmhaaa.Kx Go.Proofs.YtpafcbbnjkmhaaaW.PrintWords Go.Proofs.YtpafcbbnjkmhaaaW.PrintLast Go.Proofs.YtpafcbbnjkmhaaaW.PrintMore
set_option linter.unusedVariables false
set_option linter.unusedSimpArgs false

theorem mapF_one (a : S40) (x : Nat) : mapF [a] x = hasN a a.f1 x := by simp [mapF]
theorem one_C {p : S40} {W : World} {g : Nat} (h : W.heap[g]? = some (.cells #[.int .i64 p.f0, .int .i64 p.f1] 40 (0, 0))) : Kd.C k40 W (some ⟨g, 0, none⟩) [p].length [p] := by
  refine ⟨rfl, by simp, fun _ => ⟨⟨g, 0, none⟩, rfl, fun j q hj => ?_⟩⟩
  match j, hj with
  | 0, hj =>
    obtain rfl := Option.some.inj hj
    refine ⟨_, rfl, k40_mk _ p, fun i u hu => ?_⟩
    rw [Nat.zero_mul, Nat.zero_add]
    match i, hu with
    | 0, hu => obtain rfl := Option.some.inj hu; rw [show Addr.add ⟨g, 0, none⟩ 0 = ⟨g, 0, none⟩ from rfl]; exact cell_in h 0
    | 1, hu => obtain rfl := Option.some.inj hu; rw [show Addr.add ⟨g, 0, none⟩ 1 = ⟨g, 1, none⟩ from rfl]; exact cell_in h 1
/-- A block's cells. -/
abbrev Blk (W : World) (g : Nat) (cs : Array Value) (t : TypeId) : Prop := W.heap[g]? = some (.cells cs t (0, 0))
/-- What holds while the region runs: f1, f4: the lists are built; f2, f5: Map has been called; f6, f7: the variables are there. -/
structure MI (w : World) (a b : S40) (f0 f1 f2 f3 f4 f5 f6 f7 : Bool) (s5 s6 s8 s9 s10 s11 s12 s13 : Value) (W : World) : Prop where
  ba : Blk W w.heap.size #[.int .i64 a.f0, .int .i64 a.f1] 40
  bb : Blk W (w.heap.size + 1) #[.int .i64 b.f0, .int .i64 b.f1] 40
  low : Below w.heap.size w W
  e0 : f0 = true → s8 = .agg #[.int .i64 a.f0, .int .i64 a.f1]
  e1 : f1 = true → ∃ g, s9 = .slice (some ⟨g, 0, none⟩) 1 1 ∧ Blk W g #[.int .i64 a.f0, .int .i64 a.f1] 40
  e2 : f2 = true → s10 = .agg (arrB (mapF [a]))
  e3 : f3 = true → s11 = .agg #[.int .i64 b.f0, .int .i64 b.f1]
  e4 : f4 = true → ∃ g, s12 = .slice (some ⟨g, 0, none⟩) 1 1 ∧ Blk W g #[.int .i64 b.f0, .int .i64 b.f1] 40
  e5 : f5 = true → s13 = .agg (arrB (mapF [b]))
  e6 : f6 = true → ∃ g, s5 = .pointer (some ⟨g, 0, none⟩) ∧ Blk W g (arrB fun _ => false) 34 ∧ w.heap.size ≤ g
  e7 : f7 = true → ∃ g, s6 = .pointer (some ⟨g, 0, none⟩) ∧ Blk W g (arrB fun _ => false) 34 ∧ w.heap.size ≤ g
  ne : f6 = true → f7 = true → s5 ≠ s6
  k4 : f4 = true → f3 = true
  k5 : f5 = true → f4 = true
section
variable {w W W1 : World} {a b : S40} {f0 f1 f2 f3 f4 f5 f6 f7 : Bool} {s5 s6 s8 s9 s10 s11 s12 s13 : Value}
theorem blk_on {g : Nat} {cs : Array Value} {t : TypeId} (h : Blk W g cs t) (hb : Below W.heap.size W W1) : Blk W1 g cs t := (hb.block g (Array.getElem?_eq_some_iff.1 h).1).trans h
theorem MI.on (h : MI w a b f0 f1 f2 f3 f4 f5 f6 f7 s5 s6 s8 s9 s10 s11 s12 s13 W) (hb : Below W.heap.size W W1) : MI w a b f0 f1 f2 f3 f4 f5 f6 f7 s5 s6 s8 s9 s10 s11 s12 s13 W1 where
  ba := blk_on h.ba hb
  bb := blk_on h.bb hb
  low := below_step h.low hb
  e0 := h.e0
  e1 := fun f => let ⟨g, e, k⟩ := h.e1 f; ⟨g, e, blk_on k hb⟩
  e2 := h.e2
  e3 := h.e3
  e4 := fun f => let ⟨g, e, k⟩ := h.e4 f; ⟨g, e, blk_on k hb⟩
  e5 := h.e5
  e6 := fun f => let ⟨g, e, k, n⟩ := h.e6 f; ⟨g, e, blk_on k hb, n⟩
  e7 := fun f => let ⟨g, e, k, n⟩ := h.e7 f; ⟨g, e, blk_on k hb, n⟩
  ne := h.ne
  k4 := h.k4
  k5 := h.k5
end
theorem want_ {P : Program} {ops : Array Oper} {o : Oper} {x : Act} {W : World} {K : Act → World → Prop} {Q : Exit → Act → World → Prop} {K0 : Prop} (hw : Region.wanted o (yielded ops x.tmps) = true) (h : Oper.wp P o x W K Q) : if Region.wanted o (yielded ops x.tmps) = true then Oper.wp P o x W K Q else K0 := by
  rw [if_pos hw]
  exact h
def actM (w : World) (a b : S40) (s5 s6 s8 s9 s10 s11 s12 s13 : Value) : Act := { tmps := #[.agg #[.int .i64 a.f0, .int .i64 a.f1], .agg #[.int .i64 b.f0, .int .i64 b.f1], .pointer (some ⟨w.heap.size, 0, none⟩), .pointer (some ⟨w.heap.size + 1, 0, none⟩), .bool false, s5, s6, undef, s8, s9, s10, s11, s12, s13, undef, undef, undef, undef, undef, undef, undef, undef, undef, undef, undef, undef], defers := [] }
/-- What holds behind the region. -/
def MEnd (w : World) (a b : S40) (s5 s6 : Value) (W : World) : Prop := ∃ g h, s5 = .pointer (some ⟨g, 0, none⟩) ∧ s6 = .pointer (some ⟨h, 0, none⟩) ∧ Blk W g (arrB (mapF [a])) 34 ∧ Blk W h (arrB (mapF [b])) 34 ∧ Below w.heap.size w W ∧ w.heap.size ≤ g
def MR (w : World) (a b : S40) (l : List Bool) (x : Act) (W : World) : Prop := ∃ f0 f1 f2 f3 f4 f5 f6 f7 f8 f9 s5 s6 s8 s9 s10 s11 s12 s13, l = [f0, f1, f2, f3, f4, f5, f6, f7, f8, f9] ∧ x = actM w a b s5 s6 s8 s9 s10 s11 s12 s13 ∧
  ((f8 = false ∧ f9 = false ∧ MI w a b f0 f1 f2 f3 f4 f5 f6 f7 s5 s6 s8 s9 s10 s11 s12 s13 W) ∨ (f8 = true ∧ f9 = false ∧ [f0, f1, f2, f3, f4, f5, f6, f7] = [true, true, true, true, true, true, true, true] ∧ s13 = .agg (arrB (mapF [b])) ∧ ∃ g h, s5 = .pointer (some ⟨g, 0, none⟩) ∧ s6 = .pointer (some ⟨h, 0, none⟩) ∧ g ≠ h ∧ Blk W g (arrB (mapF [a])) 34 ∧ Blk W h (arrB fun _ => false) 34 ∧ Below w.heap.size w W ∧ w.heap.size ≤ g ∧ w.heap.size ≤ h) ∨ (f8 = true ∧ f9 = true ∧ [f0, f1, f2, f3, f4, f5, f6, f7] = [true, true, true, true, true, true, true, true] ∧ MEnd w a b s5 s6 W))
def T16 : Bool × List (List Nat × List Nat) := (true, [([], []), ([0], [0]), ([1], [1]), ([], []), ([3], [3]), ([4, 2], [4]), ([], []), ([], []), ([6, 2, 5, 0, 1, 2, 6, 7], [2, 6]), ([7, 5, 8, 0, 1, 2, 3, 4, 5, 6, 7, 8], [5, 7])])
theorem tab16 : rtab .any (opsOf Try.f16 1) = T16 := by kernel_rfl
theorem MR_end {w : World} {a b : S40} {l : List Bool} {x : Act} {W : World} (h : MR w a b l x W) (hr : readyT T16.2 l = []) : ∃ s5 s6 s8 s9 s10 s11 s12 s13, x = actM w a b s5 s6 s8 s9 s10 s11 s12 s13 ∧ MEnd w a b s5 s6 W := by
  obtain ⟨f0, f1, f2, f3, f4, f5, f6, f7, f8, f9, s5, s6, s8, s9, s10, s11, s12, s13, rfl, rfl, h⟩ := h
  refine ⟨s5, s6, s8, s9, s10, s11, s12, s13, rfl, ?_⟩
  rcases h with ⟨rfl, rfl, h⟩ | ⟨rfl, rfl, _⟩ | ⟨rfl, rfl, h⟩
  · exfalso
    revert hr
    cases f0 <;> cases f1 <;> cases f2 <;> cases f3 <;> cases f4 <;> cases f5 <;> cases f6 <;> cases f7 <;> decide
  · exfalso
    revert hr
    cases f0 <;> cases f1 <;> cases f2 <;> cases f3 <;> cases f4 <;> cases f5 <;> cases f6 <;> cases f7 <;> decide
  · exact h.2
set_option maxHeartbeats 4000000 in
theorem MR_0 {w : World} {a b : S40} {Q : Exit → Act → World → Prop} {W : World} {f0 f1 f2 f3 f4 f5 f6 f7 f8 f9 : Bool} {s5 s6 s8 s9 s10 s11 s12 s13 : Value} {o : Oper} (h : (f8 = false ∧ f9 = false ∧ MI w a b f0 f1 f2 f3 f4 f5 f6 f7 s5 s6 s8 s9 s10 s11 s12 s13 W) ∨ (f8 = true ∧ f9 = false ∧ [f0, f1, f2, f3, f4, f5, f6, f7] = [true, true, true, true, true, true, true, true] ∧ s13 = .agg (arrB (mapF [b])) ∧ ∃ g h, s5 = .pointer (some ⟨g, 0, none⟩) ∧ s6 = .pointer (some ⟨h, 0, none⟩) ∧ g ≠ h ∧ Blk W g (arrB (mapF [a])) 34 ∧ Blk W h (arrB fun _ => false) 34 ∧ Below w.heap.size w W ∧ w.heap.size ≤ g ∧ w.heap.size ≤ h) ∨ (f8 = true ∧ f9 = true ∧ [f0, f1, f2, f3, f4, f5, f6, f7] = [true, true, true, true, true, true, true, true] ∧ MEnd w a b s5 s6 W)) (hra : readyAt T16.2 [f0, f1, f2, f3, f4, f5, f6, f7, f8, f9] 0 = true) (ho : (opsOf Try.f16 1)[0]? = some o) (K : Act → World → Prop) (hK : ∀ a' w', MR w a b ([f0, f1, f2, f3, f4, f5, f6, f7, f8, f9].set 0 true) a' w' → K a' w') :
    if Region.wanted o (yielded (opsOf Try.f16 1) (actM w a b s5 s6 s8 s9 s10 s11 s12 s13).tmps) = true then Oper.wp Try.prog o (actM w a b s5 s6 s8 s9 s10 s11 s12 s13) W K Q else K ((actM w a b s5 s6 s8 s9 s10 s11 s12 s13).put o.dst undef) W := by
  have hop : ((opsOf Try.f16 1)[0]?).map (fun o => (o.dst, o.op, o.guard)) = some (some 8, Op.load 40 (.tmp 2), none) := by kernel_rfl
  rw [ho] at hop
  clear ho
  obtain ⟨od, oo, ot, opos, oaft, og⟩ := o
  simp only [Option.map_some, Option.some.injEq, Prod.mk.injEq] at hop
  obtain ⟨rfl, rfl, rfl⟩ := hop
  rcases h with ⟨rfl, rfl, h⟩ | ⟨rfl, rfl, hall, _⟩ | ⟨rfl, rfl, hall, _⟩
  rotate_left
  · exfalso
    simp only [List.cons.injEq, and_true] at hall
    obtain ⟨rfl, rfl, rfl, rfl, rfl, rfl, rfl, rfl⟩ := hall
    exact absurd hra (by decide)
  · exfalso
    simp only [List.cons.injEq, and_true] at hall
    obtain ⟨rfl, rfl, rfl, rfl, rfl, rfl, rfl, rfl⟩ := hall
    exact absurd hra (by decide)
  have c0 := cell_in h.ba 0
  have c1 := cell_in h.ba 1
  refine value_ (w1 := W) (v := .agg #[.int .i64 a.f0, .int .i64 a.f1]) (by rfl) rfl ?_ ?_
  · clear h hK hra
    unfold actM
    go_simp
  · exact hK _ _ ⟨true, f1, f2, f3, f4, f5, f6, f7, false, false, _, _, _, _, _, _, _, _, rfl, rfl, .inl ⟨rfl, rfl, { h with e0 := fun _ => rfl }⟩⟩
set_option maxHeartbeats 4000000 in
theorem MR_1 {w : World} {a b : S40} {Q : Exit → Act → World → Prop} {W : World} {f0 f1 f2 f3 f4 f5 f6 f7 f8 f9 : Bool} {s5 s6 s8 s9 s10 s11 s12 s13 : Value} {o : Oper} (h : (f8 = false ∧ f9 = false ∧ MI w a b f0 f1 f2 f3 f4 f5 f6 f7 s5 s6 s8 s9 s10 s11 s12 s13 W) ∨ (f8 = true ∧ f9 = false ∧ [f0, f1, f2, f3, f4, f5, f6, f7] = [true, true, true, true, true, true, true, true] ∧ s13 = .agg (arrB (mapF [b])) ∧ ∃ g h, s5 = .pointer (some ⟨g, 0, none⟩) ∧ s6 = .pointer (some ⟨h, 0, none⟩) ∧ g ≠ h ∧ Blk W g (arrB (mapF [a])) 34 ∧ Blk W h (arrB fun _ => false) 34 ∧ Below w.heap.size w W ∧ w.heap.size ≤ g ∧ w.heap.size ≤ h) ∨ (f8 = true ∧ f9 = true ∧ [f0, f1, f2, f3, f4, f5, f6, f7] = [true, true, true, true, true, true, true, true] ∧ MEnd w a b s5 s6 W)) (hra : readyAt T16.2 [f0, f1, f2, f3, f4, f5, f6, f7, f8, f9] 1 = true) (ho : (opsOf Try.f16 1)[1]? = some o) (K : Act → World → Prop) (hK : ∀ a' w', MR w a b ([f0, f1, f2, f3, f4, f5, f6, f7, f8, f9].set 1 true) a' w' → K a' w') :
    if Region.wanted o (yielded (opsOf Try.f16 1) (actM w a b s5 s6 s8 s9 s10 s11 s12 s13).tmps) = true then Oper.wp Try.prog o (actM w a b s5 s6 s8 s9 s10 s11 s12 s13) W K Q else K ((actM w a b s5 s6 s8 s9 s10 s11 s12 s13).put o.dst undef) W := by
  have hop : ((opsOf Try.f16 1)[1]?).map (fun o => (o.dst, o.op, o.guard)) = some (some 9, Op.buildSlice 27 1 #[(0, .tmp 8)], none) := by kernel_rfl
  rw [ho] at hop
  clear ho
  obtain ⟨od, oo, ot, opos, oaft, og⟩ := o
  simp only [Option.map_some, Option.some.injEq, Prod.mk.injEq] at hop
  obtain ⟨rfl, rfl, rfl⟩ := hop
  rcases h with ⟨rfl, rfl, h⟩ | ⟨rfl, rfl, hall, _⟩ | ⟨rfl, rfl, hall, _⟩
  rotate_left
  · exfalso
    simp only [List.cons.injEq, and_true] at hall
    obtain ⟨rfl, rfl, rfl, rfl, rfl, rfl, rfl, rfl⟩ := hall
    exact absurd hra (by decide)
  · exfalso
    simp only [List.cons.injEq, and_true] at hall
    obtain ⟨rfl, rfl, rfl, rfl, rfl, rfl, rfl, rfl⟩ := hall
    exact absurd hra (by decide)
  have h0 : f0 = true := by
    cases f0 with
    | true => rfl
    | false => simp [readyAt, T16] at hra
  have hs := h.e0 h0
  subst hs
  refine value_ (w1 := W.alloc (.cells #[.int .i64 a.f0, .int .i64 a.f1] 40)) (v := .slice (some ⟨W.heap.size, 0, none⟩) 1 1) (by rfl) rfl ?_ ?_
  · clear h hK hra
    unfold actM
    go_simp
  · exact hK _ _ ⟨f0, true, f2, f3, f4, f5, f6, f7, false, false, _, _, _, _, _, _, _, _, rfl, rfl, .inl ⟨rfl, rfl, { h.on (below_alloc (Below.refl _ _) _) with e1 := fun _ => ⟨_, rfl, heap_alloc_new _ _⟩ }⟩⟩
set_option maxHeartbeats 4000000 in
theorem MR_2 {w : World} {a b : S40} {Q : Exit → Act → World → Prop} {W : World} {f0 f1 f2 f3 f4 f5 f6 f7 f8 f9 : Bool} {s5 s6 s8 s9 s10 s11 s12 s13 : Value} {o : Oper} (h : (f8 = false ∧ f9 = false ∧ MI w a b f0 f1 f2 f3 f4 f5 f6 f7 s5 s6 s8 s9 s10 s11 s12 s13 W) ∨ (f8 = true ∧ f9 = false ∧ [f0, f1, f2, f3, f4, f5, f6, f7] = [true, true, true, true, true, true, true, true] ∧ s13 = .agg (arrB (mapF [b])) ∧ ∃ g h, s5 = .pointer (some ⟨g, 0, none⟩) ∧ s6 = .pointer (some ⟨h, 0, none⟩) ∧ g ≠ h ∧ Blk W g (arrB (mapF [a])) 34 ∧ Blk W h (arrB fun _ => false) 34 ∧ Below w.heap.size w W ∧ w.heap.size ≤ g ∧ w.heap.size ≤ h) ∨ (f8 = true ∧ f9 = true ∧ [f0, f1, f2, f3, f4, f5, f6, f7] = [true, true, true, true, true, true, true, true] ∧ MEnd w a b s5 s6 W)) (hra : readyAt T16.2 [f0, f1, f2, f3, f4, f5, f6, f7, f8, f9] 2 = true) (ho : (opsOf Try.f16 1)[2]? = some o) (K : Act → World → Prop) (hK : ∀ a' w', MR w a b ([f0, f1, f2, f3, f4, f5, f6, f7, f8, f9].set 2 true) a' w' → K a' w') :
    if Region.wanted o (yielded (opsOf Try.f16 1) (actM w a b s5 s6 s8 s9 s10 s11 s12 s13).tmps) = true then Oper.wp Try.prog o (actM w a b s5 s6 s8 s9 s10 s11 s12 s13) W K Q else K ((actM w a b s5 s6 s8 s9 s10 s11 s12 s13).put o.dst undef) W := by
  have hop : ((opsOf Try.f16 1)[2]?).map (fun o => (o.dst, o.op, o.guard)) = some (some 10, Op.call { callee := .value (.func 11), args := #[.tmp 9], argTypes := #[27] }, none) := by kernel_rfl
  rw [ho] at hop
  clear ho
  obtain ⟨od, oo, ot, opos, oaft, og⟩ := o
  simp only [Option.map_some, Option.some.injEq, Prod.mk.injEq] at hop
  obtain ⟨rfl, rfl, rfl⟩ := hop
  rcases h with ⟨rfl, rfl, h⟩ | ⟨rfl, rfl, hall, _⟩ | ⟨rfl, rfl, hall, _⟩
  rotate_left
  · exfalso
    simp only [List.cons.injEq, and_true] at hall
    obtain ⟨rfl, rfl, rfl, rfl, rfl, rfl, rfl, rfl⟩ := hall
    exact absurd hra (by decide)
  · exfalso
    simp only [List.cons.injEq, and_true] at hall
    obtain ⟨rfl, rfl, rfl, rfl, rfl, rfl, rfl, rfl⟩ := hall
    exact absurd hra (by decide)
  have h1 : f1 = true := by
    cases f1 with
    | true => rfl
    | false => simp [readyAt, T16] at hra
  obtain ⟨g, hs, hblk⟩ := h.e1 h1
  subst hs
  refine goes_ Try.func11 (by kernel_rfl) rfl #[.slice (some ⟨g, 0, none⟩) [a].length 1] (by rfl) rfl rfl (by simp only [List.map_toArray, List.map_cons, List.map_nil]; rfl) ?_
  refine (map_any [a] (some ⟨g, 0, none⟩) 1 W (one_C hblk) (by simp)).mono ?_
  rintro e w' ⟨rfl, hb⟩
  exact ⟨_, rfl, hK _ _ ⟨f0, f1, true, f3, f4, f5, f6, f7, false, false, _, _, _, _, _, _, _, _, rfl, rfl, .inl ⟨rfl, rfl, { h.on hb with e2 := fun _ => rfl }⟩⟩⟩
set_option maxHeartbeats 4000000 in
theorem MR_3 {w : World} {a b : S40} {Q : Exit → Act → World → Prop} {W : World} {f0 f1 f2 f3 f4 f5 f6 f7 f8 f9 : Bool} {s5 s6 s8 s9 s10 s11 s12 s13 : Value} {o : Oper} (h : (f8 = false ∧ f9 = false ∧ MI w a b f0 f1 f2 f3 f4 f5 f6 f7 s5 s6 s8 s9 s10 s11 s12 s13 W) ∨ (f8 = true ∧ f9 = false ∧ [f0, f1, f2, f3, f4, f5, f6, f7] = [true, true, true, true, true, true, true, true] ∧ s13 = .agg (arrB (mapF [b])) ∧ ∃ g h, s5 = .pointer (some ⟨g, 0, none⟩) ∧ s6 = .pointer (some ⟨h, 0, none⟩) ∧ g ≠ h ∧ Blk W g (arrB (mapF [a])) 34 ∧ Blk W h (arrB fun _ => false) 34 ∧ Below w.heap.size w W ∧ w.heap.size ≤ g ∧ w.heap.size ≤ h) ∨ (f8 = true ∧ f9 = true ∧ [f0, f1, f2, f3, f4, f5, f6, f7] = [true, true, true, true, true, true, true, true] ∧ MEnd w a b s5 s6 W)) (hra : readyAt T16.2 [f0, f1, f2, f3, f4, f5, f6, f7, f8, f9] 3 = true) (ho : (opsOf Try.f16 1)[3]? = some o) (K : Act → World → Prop) (hK : ∀ a' w', MR w a b ([f0, f1, f2, f3, f4, f5, f6, f7, f8, f9].set 3 true) a' w' → K a' w') :
    if Region.wanted o (yielded (opsOf Try.f16 1) (actM w a b s5 s6 s8 s9 s10 s11 s12 s13).tmps) = true then Oper.wp Try.prog o (actM w a b s5 s6 s8 s9 s10 s11 s12 s13) W K Q else K ((actM w a b s5 s6 s8 s9 s10 s11 s12 s13).put o.dst undef) W := by
  have hop : ((opsOf Try.f16 1)[3]?).map (fun o => (o.dst, o.op, o.guard)) = some (some 11, Op.load 40 (.tmp 3), none) := by kernel_rfl
  rw [ho] at hop
  clear ho
  obtain ⟨od, oo, ot, opos, oaft, og⟩ := o
  simp only [Option.map_some, Option.some.injEq, Prod.mk.injEq] at hop
  obtain ⟨rfl, rfl, rfl⟩ := hop
  rcases h with ⟨rfl, rfl, h⟩ | ⟨rfl, rfl, hall, _⟩ | ⟨rfl, rfl, hall, _⟩
  rotate_left
  · exfalso
    simp only [List.cons.injEq, and_true] at hall
    obtain ⟨rfl, rfl, rfl, rfl, rfl, rfl, rfl, rfl⟩ := hall
    exact absurd hra (by decide)
  · exfalso
    simp only [List.cons.injEq, and_true] at hall
    obtain ⟨rfl, rfl, rfl, rfl, rfl, rfl, rfl, rfl⟩ := hall
    exact absurd hra (by decide)
  have c0 := cell_in h.bb 0
  have c1 := cell_in h.bb 1
  refine value_ (w1 := W) (v := .agg #[.int .i64 b.f0, .int .i64 b.f1]) (by rfl) rfl ?_ ?_
  · clear h hK hra
    unfold actM
    go_simp
  · exact hK _ _ ⟨f0, f1, f2, true, f4, f5, f6, f7, false, false, _, _, _, _, _, _, _, _, rfl, rfl, .inl ⟨rfl, rfl, { h with e3 := fun _ => rfl, k4 := fun _ => rfl }⟩⟩
set_option maxHeartbeats 4000000 in
theorem MR_4 {w : World} {a b : S40} {Q : Exit → Act → World → Prop} {W : World} {f0 f1 f2 f3 f4 f5 f6 f7 f8 f9 : Bool} {s5 s6 s8 s9 s10 s11 s12 s13 : Value} {o : Oper} (h : (f8 = false ∧ f9 = false ∧ MI w a b f0 f1 f2 f3 f4 f5 f6 f7 s5 s6 s8 s9 s10 s11 s12 s13 W) ∨ (f8 = true ∧ f9 = false ∧ [f0, f1, f2, f3, f4, f5, f6, f7] = [true, true, true, true, true, true, true, true] ∧ s13 = .agg (arrB (mapF [b])) ∧ ∃ g h, s5 = .pointer (some ⟨g, 0, none⟩) ∧ s6 = .pointer (some ⟨h, 0, none⟩) ∧ g ≠ h ∧ Blk W g (arrB (mapF [a])) 34 ∧ Blk W h (arrB fun _ => false) 34 ∧ Below w.heap.size w W ∧ w.heap.size ≤ g ∧ w.heap.size ≤ h) ∨ (f8 = true ∧ f9 = true ∧ [f0, f1, f2, f3, f4, f5, f6, f7] = [true, true, true, true, true, true, true, true] ∧ MEnd w a b s5 s6 W)) (hra : readyAt T16.2 [f0, f1, f2, f3, f4, f5, f6, f7, f8, f9] 4 = true) (ho : (opsOf Try.f16 1)[4]? = some o) (K : Act → World → Prop) (hK : ∀ a' w', MR w a b ([f0, f1, f2, f3, f4, f5, f6, f7, f8, f9].set 4 true) a' w' → K a' w') :
    if Region.wanted o (yielded (opsOf Try.f16 1) (actM w a b s5 s6 s8 s9 s10 s11 s12 s13).tmps) = true then Oper.wp Try.prog o (actM w a b s5 s6 s8 s9 s10 s11 s12 s13) W K Q else K ((actM w a b s5 s6 s8 s9 s10 s11 s12 s13).put o.dst undef) W := by
  have hop : ((opsOf Try.f16 1)[4]?).map (fun o => (o.dst, o.op, o.guard)) = some (some 12, Op.buildSlice 27 1 #[(0, .tmp 11)], none) := by kernel_rfl
  rw [ho] at hop
  clear ho
  obtain ⟨od, oo, ot, opos, oaft, og⟩ := o
  simp only [Option.map_some, Option.some.injEq, Prod.mk.injEq] at hop
  obtain ⟨rfl, rfl, rfl⟩ := hop
  rcases h with ⟨rfl, rfl, h⟩ | ⟨rfl, rfl, hall, _⟩ | ⟨rfl, rfl, hall, _⟩
  rotate_left
  · exfalso
    simp only [List.cons.injEq, and_true] at hall
    obtain ⟨rfl, rfl, rfl, rfl, rfl, rfl, rfl, rfl⟩ := hall
    exact absurd hra (by decide)
  · exfalso
    simp only [List.cons.injEq, and_true] at hall
    obtain ⟨rfl, rfl, rfl, rfl, rfl, rfl, rfl, rfl⟩ := hall
    exact absurd hra (by decide)
  have h3 : f3 = true := by
    cases f3 with
    | true => rfl
    | false => simp [readyAt, T16] at hra
  have hs := h.e3 h3
  subst hs
  refine value_ (w1 := W.alloc (.cells #[.int .i64 b.f0, .int .i64 b.f1] 40)) (v := .slice (some ⟨W.heap.size, 0, none⟩) 1 1) (by rfl) rfl ?_ ?_
  · clear h hK hra
    unfold actM
    go_simp
  · exact hK _ _ ⟨f0, f1, f2, f3, true, f5, f6, f7, false, false, _, _, _, _, _, _, _, _, rfl, rfl, .inl ⟨rfl, rfl, { h.on (below_alloc (Below.refl _ _) _) with e4 := fun _ => ⟨_, rfl, heap_alloc_new _ _⟩, k4 := fun _ => h3, k5 := fun _ => rfl }⟩⟩
set_option maxHeartbeats 4000000 in
theorem MR_5 {w : World} {a b : S40} {Q : Exit → Act → World → Prop} {W : World} {f0 f1 f2 f3 f4 f5 f6 f7 f8 f9 : Bool} {s5 s6 s8 s9 s10 s11 s12 s13 : Value} {o : Oper} (h : (f8 = false ∧ f9 = false ∧ MI w a b f0 f1 f2 f3 f4 f5 f6 f7 s5 s6 s8 s9 s10 s11 s12 s13 W) ∨ (f8 = true ∧ f9 = false ∧ [f0, f1, f2, f3, f4, f5, f6, f7] = [true, true, true, true, true, true, true, true] ∧ s13 = .agg (arrB (mapF [b])) ∧ ∃ g h, s5 = .pointer (some ⟨g, 0, none⟩) ∧ s6 = .pointer (some ⟨h, 0, none⟩) ∧ g ≠ h ∧ Blk W g (arrB (mapF [a])) 34 ∧ Blk W h (arrB fun _ => false) 34 ∧ Below w.heap.size w W ∧ w.heap.size ≤ g ∧ w.heap.size ≤ h) ∨ (f8 = true ∧ f9 = true ∧ [f0, f1, f2, f3, f4, f5, f6, f7] = [true, true, true, true, true, true, true, true] ∧ MEnd w a b s5 s6 W)) (hra : readyAt T16.2 [f0, f1, f2, f3, f4, f5, f6, f7, f8, f9] 5 = true) (ho : (opsOf Try.f16 1)[5]? = some o) (K : Act → World → Prop) (hK : ∀ a' w', MR w a b ([f0, f1, f2, f3, f4, f5, f6, f7, f8, f9].set 5 true) a' w' → K a' w') :
    if Region.wanted o (yielded (opsOf Try.f16 1) (actM w a b s5 s6 s8 s9 s10 s11 s12 s13).tmps) = true then Oper.wp Try.prog o (actM w a b s5 s6 s8 s9 s10 s11 s12 s13) W K Q else K ((actM w a b s5 s6 s8 s9 s10 s11 s12 s13).put o.dst undef) W := by
  have hop : ((opsOf Try.f16 1)[5]?).map (fun o => (o.dst, o.op, o.guard)) = some (some 13, Op.call { callee := .value (.func 11), args := #[.tmp 12], argTypes := #[27] }, none) := by kernel_rfl
  rw [ho] at hop
  clear ho
  obtain ⟨od, oo, ot, opos, oaft, og⟩ := o
  simp only [Option.map_some, Option.some.injEq, Prod.mk.injEq] at hop
  obtain ⟨rfl, rfl, rfl⟩ := hop
  rcases h with ⟨rfl, rfl, h⟩ | ⟨rfl, rfl, hall, _⟩ | ⟨rfl, rfl, hall, _⟩
  rotate_left
  · exfalso
    simp only [List.cons.injEq, and_true] at hall
    obtain ⟨rfl, rfl, rfl, rfl, rfl, rfl, rfl, rfl⟩ := hall
    exact absurd hra (by decide)
  · exfalso
    simp only [List.cons.injEq, and_true] at hall
    obtain ⟨rfl, rfl, rfl, rfl, rfl, rfl, rfl, rfl⟩ := hall
    exact absurd hra (by decide)
  have h4 : f4 = true := by
    cases f4 with
    | true => rfl
    | false => simp [readyAt, T16] at hra
  obtain ⟨g, hs, hblk⟩ := h.e4 h4
  subst hs
  refine goes_ Try.func11 (by kernel_rfl) rfl #[.slice (some ⟨g, 0, none⟩) [b].length 1] (by rfl) rfl rfl (by simp only [List.map_toArray, List.map_cons, List.map_nil]; rfl) ?_
  refine (map_any [b] (some ⟨g, 0, none⟩) 1 W (one_C hblk) (by simp)).mono ?_
  rintro e w' ⟨rfl, hb⟩
  exact ⟨_, rfl, hK _ _ ⟨f0, f1, f2, f3, f4, true, f6, f7, false, false, _, _, _, _, _, _, _, _, rfl, rfl, .inl ⟨rfl, rfl, { h.on hb with e5 := fun _ => rfl, k5 := fun _ => h4 }⟩⟩⟩
set_option maxHeartbeats 4000000 in
theorem MR_6 {w : World} {a b : S40} {Q : Exit → Act → World → Prop} {W : World} {f0 f1 f2 f3 f4 f5 f6 f7 f8 f9 : Bool} {s5 s6 s8 s9 s10 s11 s12 s13 : Value} {o : Oper} (h : (f8 = false ∧ f9 = false ∧ MI w a b f0 f1 f2 f3 f4 f5 f6 f7 s5 s6 s8 s9 s10 s11 s12 s13 W) ∨ (f8 = true ∧ f9 = false ∧ [f0, f1, f2, f3, f4, f5, f6, f7] = [true, true, true, true, true, true, true, true] ∧ s13 = .agg (arrB (mapF [b])) ∧ ∃ g h, s5 = .pointer (some ⟨g, 0, none⟩) ∧ s6 = .pointer (some ⟨h, 0, none⟩) ∧ g ≠ h ∧ Blk W g (arrB (mapF [a])) 34 ∧ Blk W h (arrB fun _ => false) 34 ∧ Below w.heap.size w W ∧ w.heap.size ≤ g ∧ w.heap.size ≤ h) ∨ (f8 = true ∧ f9 = true ∧ [f0, f1, f2, f3, f4, f5, f6, f7] = [true, true, true, true, true, true, true, true] ∧ MEnd w a b s5 s6 W)) (hra : readyAt T16.2 [f0, f1, f2, f3, f4, f5, f6, f7, f8, f9] 6 = true) (ho : (opsOf Try.f16 1)[6]? = some o) (K : Act → World → Prop) (hK : ∀ a' w', MR w a b ([f0, f1, f2, f3, f4, f5, f6, f7, f8, f9].set 6 true) a' w' → K a' w') :
    if Region.wanted o (yielded (opsOf Try.f16 1) (actM w a b s5 s6 s8 s9 s10 s11 s12 s13).tmps) = true then Oper.wp Try.prog o (actM w a b s5 s6 s8 s9 s10 s11 s12 s13) W K Q else K ((actM w a b s5 s6 s8 s9 s10 s11 s12 s13).put o.dst undef) W := by
  have hop : ((opsOf Try.f16 1)[6]?).map (fun o => (o.dst, o.op, o.guard)) = some (some 5, Op.alloc 34, none) := by kernel_rfl
  rw [ho] at hop
  clear ho
  obtain ⟨od, oo, ot, opos, oaft, og⟩ := o
  simp only [Option.map_some, Option.some.injEq, Prod.mk.injEq] at hop
  obtain ⟨rfl, rfl, rfl⟩ := hop
  rcases h with ⟨rfl, rfl, h⟩ | ⟨rfl, rfl, hall, _⟩ | ⟨rfl, rfl, hall, _⟩
  rotate_left
  · exfalso
    simp only [List.cons.injEq, and_true] at hall
    obtain ⟨rfl, rfl, rfl, rfl, rfl, rfl, rfl, rfl⟩ := hall
    exact absurd hra (by decide)
  · exfalso
    simp only [List.cons.injEq, and_true] at hall
    obtain ⟨rfl, rfl, rfl, rfl, rfl, rfl, rfl, rfl⟩ := hall
    exact absurd hra (by decide)
  have hz := z34
  refine value_ (w1 := W.alloc (.cells (arrB fun _ => false) 34)) (v := .pointer (some ⟨W.heap.size, 0, none⟩)) (by rfl) rfl ?_ ?_
  · clear h hK hra
    unfold actM
    go_simp
  · exact hK _ _ ⟨f0, f1, f2, f3, f4, f5, true, f7, false, false, _, _, _, _, _, _, _, _, rfl, rfl, .inl ⟨rfl, rfl, { h.on (below_alloc (Below.refl _ _) _) with e6 := fun _ => ⟨_, rfl, heap_alloc_new _ _, below_size h.low⟩, ne := fun _ f7 he => (by obtain ⟨g, e, k, _⟩ := h.e7 f7; rw [e] at he; have := (Array.getElem?_eq_some_iff.1 k).1; simp at he; try omega) }⟩⟩
set_option maxHeartbeats 4000000 in
theorem MR_7 {w : World} {a b : S40} {Q : Exit → Act → World → Prop} {W : World} {f0 f1 f2 f3 f4 f5 f6 f7 f8 f9 : Bool} {s5 s6 s8 s9 s10 s11 s12 s13 : Value} {o : Oper} (h : (f8 = false ∧ f9 = false ∧ MI w a b f0 f1 f2 f3 f4 f5 f6 f7 s5 s6 s8 s9 s10 s11 s12 s13 W) ∨ (f8 = true ∧ f9 = false ∧ [f0, f1, f2, f3, f4, f5, f6, f7] = [true, true, true, true, true, true, true, true] ∧ s13 = .agg (arrB (mapF [b])) ∧ ∃ g h, s5 = .pointer (some ⟨g, 0, none⟩) ∧ s6 = .pointer (some ⟨h, 0, none⟩) ∧ g ≠ h ∧ Blk W g (arrB (mapF [a])) 34 ∧ Blk W h (arrB fun _ => false) 34 ∧ Below w.heap.size w W ∧ w.heap.size ≤ g ∧ w.heap.size ≤ h) ∨ (f8 = true ∧ f9 = true ∧ [f0, f1, f2, f3, f4, f5, f6, f7] = [true, true, true, true, true, true, true, true] ∧ MEnd w a b s5 s6 W)) (hra : readyAt T16.2 [f0, f1, f2, f3, f4, f5, f6, f7, f8, f9] 7 = true) (ho : (opsOf Try.f16 1)[7]? = some o) (K : Act → World → Prop) (hK : ∀ a' w', MR w a b ([f0, f1, f2, f3, f4, f5, f6, f7, f8, f9].set 7 true) a' w' → K a' w') :
    if Region.wanted o (yielded (opsOf Try.f16 1) (actM w a b s5 s6 s8 s9 s10 s11 s12 s13).tmps) = true then Oper.wp Try.prog o (actM w a b s5 s6 s8 s9 s10 s11 s12 s13) W K Q else K ((actM w a b s5 s6 s8 s9 s10 s11 s12 s13).put o.dst undef) W := by
  have hop : ((opsOf Try.f16 1)[7]?).map (fun o => (o.dst, o.op, o.guard)) = some (some 6, Op.alloc 34, none) := by kernel_rfl
  rw [ho] at hop
  clear ho
  obtain ⟨od, oo, ot, opos, oaft, og⟩ := o
  simp only [Option.map_some, Option.some.injEq, Prod.mk.injEq] at hop
  obtain ⟨rfl, rfl, rfl⟩ := hop
  rcases h with ⟨rfl, rfl, h⟩ | ⟨rfl, rfl, hall, _⟩ | ⟨rfl, rfl, hall, _⟩
  rotate_left
  · exfalso
    simp only [List.cons.injEq, and_true] at hall
    obtain ⟨rfl, rfl, rfl, rfl, rfl, rfl, rfl, rfl⟩ := hall
    exact absurd hra (by decide)
  · exfalso
    simp only [List.cons.injEq, and_true] at hall
    obtain ⟨rfl, rfl, rfl, rfl, rfl, rfl, rfl, rfl⟩ := hall
    exact absurd hra (by decide)
  have hz := z34
  refine value_ (w1 := W.alloc (.cells (arrB fun _ => false) 34)) (v := .pointer (some ⟨W.heap.size, 0, none⟩)) (by rfl) rfl ?_ ?_
  · clear h hK hra
    unfold actM
    go_simp
  · exact hK _ _ ⟨f0, f1, f2, f3, f4, f5, f6, true, false, false, _, _, _, _, _, _, _, _, rfl, rfl, .inl ⟨rfl, rfl, { h.on (below_alloc (Below.refl _ _) _) with e7 := fun _ => ⟨_, rfl, heap_alloc_new _ _, below_size h.low⟩, ne := fun f6 _ he => (by obtain ⟨g, e, k, _⟩ := h.e6 f6; rw [e] at he; have := (Array.getElem?_eq_some_iff.1 k).1; simp at he; try omega) }⟩⟩
set_option maxHeartbeats 4000000 in
theorem MR_8 {w : World} {a b : S40} {Q : Exit → Act → World → Prop} {W : World} {f0 f1 f2 f3 f4 f5 f6 f7 f8 f9 : Bool} {s5 s6 s8 s9 s10 s11 s12 s13 : Value} {o : Oper} (h : (f8 = false ∧ f9 = false ∧ MI w a b f0 f1 f2 f3 f4 f5 f6 f7 s5 s6 s8 s9 s10 s11 s12 s13 W) ∨ (f8 = true ∧ f9 = false ∧ [f0, f1, f2, f3, f4, f5, f6, f7] = [true, true, true, true, true, true, true, true] ∧ s13 = .agg (arrB (mapF [b])) ∧ ∃ g h, s5 = .pointer (some ⟨g, 0, none⟩) ∧ s6 = .pointer (some ⟨h, 0, none⟩) ∧ g ≠ h ∧ Blk W g (arrB (mapF [a])) 34 ∧ Blk W h (arrB fun _ => false) 34 ∧ Below w.heap.size w W ∧ w.heap.size ≤ g ∧ w.heap.size ≤ h) ∨ (f8 = true ∧ f9 = true ∧ [f0, f1, f2, f3, f4, f5, f6, f7] = [true, true, true, true, true, true, true, true] ∧ MEnd w a b s5 s6 W)) (hra : readyAt T16.2 [f0, f1, f2, f3, f4, f5, f6, f7, f8, f9] 8 = true) (ho : (opsOf Try.f16 1)[8]? = some o) (K : Act → World → Prop) (hK : ∀ a' w', MR w a b ([f0, f1, f2, f3, f4, f5, f6, f7, f8, f9].set 8 true) a' w' → K a' w') :
    if Region.wanted o (yielded (opsOf Try.f16 1) (actM w a b s5 s6 s8 s9 s10 s11 s12 s13).tmps) = true then Oper.wp Try.prog o (actM w a b s5 s6 s8 s9 s10 s11 s12 s13) W K Q else K ((actM w a b s5 s6 s8 s9 s10 s11 s12 s13).put o.dst undef) W := by
  have hop : ((opsOf Try.f16 1)[8]?).map (fun o => (o.dst, o.op, o.guard)) = some (none, Op.store 34 (.tmp 5) (.tmp 10), none) := by kernel_rfl
  rw [ho] at hop
  clear ho
  obtain ⟨od, oo, ot, opos, oaft, og⟩ := o
  simp only [Option.map_some, Option.some.injEq, Prod.mk.injEq] at hop
  obtain ⟨rfl, rfl, rfl⟩ := hop
  rcases h with ⟨rfl, rfl, h⟩ | ⟨rfl, rfl, hall, _⟩ | ⟨rfl, rfl, hall, _⟩
  rotate_left
  · exfalso
    simp only [List.cons.injEq, and_true] at hall
    obtain ⟨rfl, rfl, rfl, rfl, rfl, rfl, rfl, rfl⟩ := hall
    exact absurd hra (by decide)
  · exfalso
    simp only [List.cons.injEq, and_true] at hall
    obtain ⟨rfl, rfl, rfl, rfl, rfl, rfl, rfl, rfl⟩ := hall
    exact absurd hra (by decide)
  have h0 : f0 = true := by
    cases f0 with
    | true => rfl
    | false => simp [readyAt, T16] at hra
  have h1 : f1 = true := by
    cases f1 with
    | true => rfl
    | false => simp [readyAt, T16] at hra
  have h2 : f2 = true := by
    cases f2 with
    | true => rfl
    | false => simp [readyAt, T16] at hra
  have h5 : f5 = true := by
    cases f5 with
    | true => rfl
    | false => simp [readyAt, T16] at hra
  have h6 : f6 = true := by
    cases f6 with
    | true => rfl
    | false => simp [readyAt, T16] at hra
  have h7 : f7 = true := by
    cases f7 with
    | true => rfl
    | false => simp [readyAt, T16] at hra
  have h4 := h.k5 h5
  have h3 := h.k4 h4
  obtain ⟨g, e5, b5, n5⟩ := h.e6 h6
  obtain ⟨g', e6, b6, n6⟩ := h.e7 h7
  have hne : g ≠ g' := fun e => h.ne h6 h7 (by rw [e5, e6, e])
  have e10 := h.e2 h2
  have e13 := h.e5 h5
  have hlow := h.low
  have hw : ∀ y, Region.wanted { dst := none, op := Op.store 34 (.tmp 5) (.tmp 10), type := ot, pos := opos, after := oaft, guard := none } y = true := fun y => rfl
  rw [if_pos (hw _)]
  clear hw
  refine wp_store_row 34 (.tmp 5) (.tmp 10) rfl g (arrB (mapF [a])) e5 e10 34 (arrB fun _ => false) b5 (by rw [arrB_size]; kernel_rfl) (by rw [arrB_size, arrB_size]) (arrB_one _) ?_
  exact hK _ _ ⟨f0, f1, f2, f3, f4, f5, f6, f7, true, false, s5, s6, s8, s9, s10, s11, s12, s13, rfl, rfl, .inr (.inl ⟨rfl, rfl, by rw [h0, h1, h2, h3, h4, h5, h6, h7], e13, g, g', e5, e6, hne, setRow_heap _ _ _ _ _ _ b5, (setRow_other W g g' _ (Ne.symm hne)).trans b6, below_setRow hlow n5, n5, n6⟩)⟩
set_option maxHeartbeats 4000000 in
theorem MR_9 {w : World} {a b : S40} {Q : Exit → Act → World → Prop} {W : World} {f0 f1 f2 f3 f4 f5 f6 f7 f8 f9 : Bool} {s5 s6 s8 s9 s10 s11 s12 s13 : Value} {o : Oper} (h : (f8 = false ∧ f9 = false ∧ MI w a b f0 f1 f2 f3 f4 f5 f6 f7 s5 s6 s8 s9 s10 s11 s12 s13 W) ∨ (f8 = true ∧ f9 = false ∧ [f0, f1, f2, f3, f4, f5, f6, f7] = [true, true, true, true, true, true, true, true] ∧ s13 = .agg (arrB (mapF [b])) ∧ ∃ g h, s5 = .pointer (some ⟨g, 0, none⟩) ∧ s6 = .pointer (some ⟨h, 0, none⟩) ∧ g ≠ h ∧ Blk W g (arrB (mapF [a])) 34 ∧ Blk W h (arrB fun _ => false) 34 ∧ Below w.heap.size w W ∧ w.heap.size ≤ g ∧ w.heap.size ≤ h) ∨ (f8 = true ∧ f9 = true ∧ [f0, f1, f2, f3, f4, f5, f6, f7] = [true, true, true, true, true, true, true, true] ∧ MEnd w a b s5 s6 W)) (hra : readyAt T16.2 [f0, f1, f2, f3, f4, f5, f6, f7, f8, f9] 9 = true) (ho : (opsOf Try.f16 1)[9]? = some o) (K : Act → World → Prop) (hK : ∀ a' w', MR w a b ([f0, f1, f2, f3, f4, f5, f6, f7, f8, f9].set 9 true) a' w' → K a' w') :
    if Region.wanted o (yielded (opsOf Try.f16 1) (actM w a b s5 s6 s8 s9 s10 s11 s12 s13).tmps) = true then Oper.wp Try.prog o (actM w a b s5 s6 s8 s9 s10 s11 s12 s13) W K Q else K ((actM w a b s5 s6 s8 s9 s10 s11 s12 s13).put o.dst undef) W := by
  have hop : ((opsOf Try.f16 1)[9]?).map (fun o => (o.dst, o.op, o.guard)) = some (none, Op.store 34 (.tmp 6) (.tmp 13), none) := by kernel_rfl
  rw [ho] at hop
  clear ho
  obtain ⟨od, oo, ot, opos, oaft, og⟩ := o
  simp only [Option.map_some, Option.some.injEq, Prod.mk.injEq] at hop
  obtain ⟨rfl, rfl, rfl⟩ := hop
  rcases h with ⟨rfl, rfl, h⟩ | ⟨rfl, rfl, hall, h13, g, g', e5, e6, hne, b5, b6, hlow, n5, n6⟩ | ⟨rfl, rfl, hall, _⟩
  · exfalso
    simp [readyAt, T16] at hra
  rotate_left
  · exfalso
    simp only [List.cons.injEq, and_true] at hall
    obtain ⟨rfl, rfl, rfl, rfl, rfl, rfl, rfl, rfl⟩ := hall
    exact absurd hra (by decide)
  have hw : ∀ y, Region.wanted { dst := none, op := Op.store 34 (.tmp 6) (.tmp 13), type := ot, pos := opos, after := oaft, guard := none } y = true := fun y => rfl
  rw [if_pos (hw _)]
  clear hw
  refine wp_store_row 34 (.tmp 6) (.tmp 13) rfl g' (arrB (mapF [b])) e6 h13 34 (arrB fun _ => false) b6 (by rw [arrB_size]; kernel_rfl) (by rw [arrB_size, arrB_size]) (arrB_one _) ?_
  exact hK _ _ ⟨f0, f1, f2, f3, f4, f5, f6, f7, true, true, s5, s6, s8, s9, s10, s11, s12, s13, rfl, rfl, .inr (.inr ⟨rfl, rfl, hall, g, g', e5, e6, (setRow_other W g' g _ hne).trans b5, setRow_heap _ _ _ _ _ _ b6, below_setRow hlow n6, n5⟩)⟩
theorem MR_step {w : World} {a b : S40} {Q : Exit → Act → World → Prop} (l : List Bool) (x : Act) (W : World) (i : Nat) (o : Oper) (h : MR w a b l x W) (hi : i ∈ readyT T16.2 l) (ho : (opsOf Try.f16 1)[i]? = some o) (K : Act → World → Prop) (hK : ∀ a' w', MR w a b (l.set i true) a' w' → K a' w') :
    if Region.wanted o (yielded (opsOf Try.f16 1) x.tmps) = true then Oper.wp Try.prog o x W K Q else K (x.put o.dst undef) W := by
  obtain ⟨f0, f1, f2, f3, f4, f5, f6, f7, f8, f9, s5, s6, s8, s9, s10, s11, s12, s13, rfl, rfl, h⟩ := h
  rw [readyT, List.mem_filter, List.mem_range] at hi
  obtain ⟨hlt, hra⟩ := hi
  have hlt : i < 10 := hlt
  have h10 : i = 0 ∨ i = 1 ∨ i = 2 ∨ i = 3 ∨ i = 4 ∨ i = 5 ∨ i = 6 ∨ i = 7 ∨ i = 8 ∨ i = 9 := by omega
  rcases h10 with rfl | rfl | rfl | rfl | rfl | rfl | rfl | rfl | rfl | rfl
  · exact MR_0 h hra ho K hK
  · exact MR_1 h hra ho K hK
  · exact MR_2 h hra ho K hK
  · exact MR_3 h hra ho K hK
  · exact MR_4 h hra ho K hK
  · exact MR_5 h hra ho K hK
  · exact MR_6 h hra ho K hK
  · exact MR_7 h hra ho K hK
  · exact MR_8 h hra ho K hK
  · exact MR_9 h hra ho K hK
end Go.Proofs.Ytpafcbbnjkmhaaa.PLa
