/- What comes in, opened: a schedule; events, no word of them longer than is ever read. Helper text. -/
import Derived.Test.YtekbaconbemgpaaAuSom
import Derived.Test.YtekbaconbemgpaaK3
import Derived.Test.YtekbaconbemgpaaK4
import Derived.Test.YtekbaconbemgpaaK5
import Derived.SizedLaws
import Derived.Deep.Grids
namespace Go.Proofs.Ytekbaconbemgpaa.PWe
open Go.RowKit Go.Proofs.Ytekbaconbemgpaa.Kx Go.Proofs.YtekbaconbemgpaaW.PrintWords Go.Proofs.YtekbaconbemgpaaW.PrintLast Go.Proofs.YtekbaconbemgpaaW.PrintMore
set_option linter.unusedVariables false
set_option linter.unusedSimpArgs false

/-- What is trod, and of bounded weight, opens. -/
def OpnW {X : Type} (t : TypeId) (R : World → List Value → X → Prop) : Prop :=
  ∀ {H : Type} (enc : TypeId × Value → H) (w : World) (held : Bool) (fuel : Nat) (cs : List Value) (d : DataW H × List MemPlace),
    DataW.trod enc Try.prog w 0 (fun _ => true) held fuel t cs = some d → (∀ n ∈ d.1.weights Try.prog t, n ≤ reachBytes) → ∃ x : X, R w cs x
theorem wAll_mem {H : Type} {P : Program} {e : TypeId} : ∀ {l : List (DataW H)} {d : DataW H}, d ∈ l → ∀ n ∈ d.weights P e, n ∈ DataW.weightsAll P e l
  | x :: r, d, h, n, hn => by
    rw [DataW.weightsAll]
    rcases List.mem_cons.1 h with rfl | h
    · exact List.mem_append_left _ hn
    · exact List.mem_append_right _ (wAll_mem h n hn)
theorem opnW_slice {X : Type} [Inhabited X] {t e : TypeId} {n : Nat} {R : World → List Value → X → Prop} (ht : Try.prog.underlying t = some (.slice e)) (hn : Try.prog.cellsOf e = n) (hR : OpnW e R) : OpnW t (RSlice n R) := fun enc w held fuel cs d h hw => by
  rcases Go.Deep.open_slice ht h with ⟨rfl, _⟩ | ⟨a, len, cap, m, q, D, Pl, rfl, _, hl, hm, hmm, hd, hx⟩
  · exact ⟨[], none, 0, rfl, Nat.le_refl _, by simp [maxLen], fun i h => absurd h (by simp)⟩
  · simp only [if_true] at hmm
    subst hmm
    rw [hn] at hx
    have hwi : ∀ i, i < len → ∀ n ∈ (D i).weights Try.prog e, n ≤ reachBytes := fun i hi n hn' => hw n (by
      rw [hd]
      simp only [DataW.weights, ht]
      exact List.mem_cons_of_mem _ (List.mem_append_left _ (wAll_mem (List.mem_map.2 ⟨i, List.mem_range.2 hi, rfl⟩) n hn')))
    obtain ⟨F, hF⟩ := Go.Deep.choose_lt (α := X) (n := len) (p := fun i x => ∃ cs', w.cells? 0 (a.add (i * n)) n = some cs' ∧ R w cs' x) (fun i hi => by
      obtain ⟨cs', h1, h2⟩ := hx i (by omega)
      obtain ⟨x, hx'⟩ := hR enc w held q cs' _ h2 (hwi i hi)
      exact ⟨x, cs', h1, hx'⟩)
    refine ⟨(List.range len).map F, some a, m, by simp, by simpa using hl, hm, fun i hi => ?_⟩
    have hi' : i < len := by simpa using hi
    obtain ⟨cs', h1, h2⟩ := hF i hi'
    obtain ⟨_, h3, h4⟩ := World.cells?_some h1
    refine ⟨a, cs', rfl, h3, fun j hj => ?_, by simpa using h2⟩
    rw [← h4 j hj, Go.Deep.add_add]
/-- Bytes, no more than are ever read. -/
def RByt (w : World) (cs : List Value) (xs : List Int) : Prop := RSlice 1 (RInt .u8) w cs xs ∧ xs.length ≤ reachBytes
theorem opnW_bytes : OpnW 23 RByt := fun enc w held fuel cs d h hw => by
  obtain ⟨xs, hx⟩ := opn_slice (n := 1) (R := RInt .u8) Try.underlying23 (by kernel_rfl) (opn_int Try.underlying5) enc w held fuel cs d h
  refine ⟨xs, hx, ?_⟩
  obtain ⟨A, c, hcs, _⟩ := hx
  rcases Go.Deep.open_slice Try.underlying23 h with ⟨rfl, _⟩ | ⟨a, len, cap, m, q, D, Pl, rfl, _, hl, hm, hmm, hd, _⟩
  · injection hcs with hcs
    injection hcs with _ hcs
    rw [← hcs]
    exact Nat.zero_le _
  · injection hcs with hcs
    injection hcs with _ hcs
    have h1 := hw _ (by
      rw [hd]
      simp only [DataW.weights, Try.underlying23]
      exact List.mem_cons_self)
    have h2 : Try.prog.bytesOf 5 = 1 := by kernel_rfl
    rw [h2, List.length_map, List.length_range] at h1
    omega
theorem opnW_field {t : TypeId} {fs : Array Field} (ht : Try.prog.underlying t = some (.struct fs)) {H : Type} {enc : TypeId × Value → H} {w : World} {held : Bool} {fuel : Nat} {cs : List Value} {d : DataW H × List MemPlace}
    (h : DataW.trod enc Try.prog w 0 (fun _ => true) held fuel t cs = some d) (hw : ∀ n ∈ d.1.weights Try.prog t, n ≤ reachBytes) (i : Nat) (T : TypeId) (off k : Nat) (hi : (fs[i]?.map fun f => (f.type, f.offset)) = some (T, off)) (hk : Try.prog.cellsOf T = k) :
    ∃ n y, DataW.trod enc Try.prog w 0 (fun _ => true) held n T ((cs.drop off).take k) = some y ∧ ∀ m ∈ y.1.weights Try.prog T, m ≤ reachBytes := by
  obtain ⟨f, hf, he⟩ := Option.map_eq_some_iff.1 hi
  obtain ⟨xs, n, _, rfl, hl, hx, hfx⟩ := DataW.trod_struct ht h
  simp only [Prod.mk.injEq] at he
  obtain ⟨rfl, rfl⟩ := he
  have h1 := hfx i f hf
  have hlt : i < xs.length := by rw [hx]; exact (Array.getElem?_eq_some_iff.1 hf).1
  rw [List.getElem?_eq_getElem hlt, hk] at h1
  refine ⟨n, _, h1, fun m hm => hw m ?_⟩
  simp only [DataW.weights, ht]
  refine DataW.weights_mem_each (j := i) (t := f.type) (d := xs[i].1) ?_ ?_ m hm
  · rw [List.getElem?_map, Array.getElem?_toList, hf]; rfl
  · rw [List.getElem?_map, List.getElem?_eq_getElem hlt]; rfl
/-- An event, as it came in. -/
def REvn (w : World) (cs : List Value) (x : S95) : Prop := k95.K w x cs ∧ x.f7.length ≤ reachBytes
theorem opnW_event : OpnW 95 REvn := fun enc w held fuel cs d h hw => by
  have hn : Try.prog.cellsOf 3 = 1 := by kernel_rfl
  have hs : Try.prog.cellsOf 23 = 1 := by kernel_rfl
  have h8 : cs.length = 8 := by rw [(opn_struct Try.underlying95 h).1]; kernel_rfl
  obtain ⟨x0, x1, x2, x3, x4, x5, x6, x7, rfl⟩ : ∃ a b c d e f g i, cs = [a, b, c, d, e, f, g, i] := by
    match cs, h8 with
    | [a, b, c, d, e, f, g, i], _ => exact ⟨a, b, c, d, e, f, g, i, rfl⟩
  obtain ⟨m0, y0, h0⟩ := opn_field Try.underlying95 h 0 3 0 1 (by kernel_rfl) hn
  obtain ⟨m1, y1, h1⟩ := opn_field Try.underlying95 h 1 3 1 1 (by kernel_rfl) hn
  obtain ⟨m2, y2, h2⟩ := opn_field Try.underlying95 h 2 3 2 1 (by kernel_rfl) hn
  obtain ⟨m3, y3, h3⟩ := opn_field Try.underlying95 h 3 3 3 1 (by kernel_rfl) hn
  obtain ⟨m4, y4, h4⟩ := opn_field Try.underlying95 h 4 3 4 1 (by kernel_rfl) hn
  obtain ⟨m5, y5, h5⟩ := opn_field Try.underlying95 h 5 3 5 1 (by kernel_rfl) hn
  obtain ⟨m6, y6, h6⟩ := opn_field Try.underlying95 h 6 3 6 1 (by kernel_rfl) hn
  obtain ⟨m7, y7, h7, hw7⟩ := opnW_field Try.underlying95 h hw 7 23 7 1 (by kernel_rfl) hs
  obtain ⟨a0, e0, _⟩ := opn_int Try.underlying3 _ _ _ _ _ _ h0
  obtain ⟨a1, e1, _⟩ := opn_int Try.underlying3 _ _ _ _ _ _ h1
  obtain ⟨a2, e2, _⟩ := opn_int Try.underlying3 _ _ _ _ _ _ h2
  obtain ⟨a3, e3, _⟩ := opn_int Try.underlying3 _ _ _ _ _ _ h3
  obtain ⟨a4, e4, _⟩ := opn_int Try.underlying3 _ _ _ _ _ _ h4
  obtain ⟨a5, e5, _⟩ := opn_int Try.underlying3 _ _ _ _ _ _ h5
  obtain ⟨a6, e6, _⟩ := opn_int Try.underlying3 _ _ _ _ _ _ h6
  obtain ⟨l7, ⟨A7, c7, e7, hl7, hm7, hr7⟩, hb7⟩ := opnW_bytes _ _ _ _ _ _ h7 hw7
  simp at e0 e1 e2 e3 e4 e5 e6 e7
  refine ⟨⟨a0, a1, a2, a3, a4, a5, a6, l7⟩, ?_, hb7⟩
  rw [e0, e1, e2, e3, e4, e5, e6, e7]
  exact k95_mk w ⟨a0, a1, a2, a3, a4, a5, a6, l7⟩ hl7 (rsl_reads (d := Kd.int .u8) hr7 (fun cs x hx => hx.1) (Nat.le_trans hl7 hm7))
instance : Inhabited S95 := ⟨z95⟩
instance : Inhabited S76 := ⟨z76⟩
/-- Events, as they came in. -/
def REvs (w : World) (cs : List Value) (xs : List S95) : Prop := ∃ A c, cs = [.slice A xs.length c] ∧ xs.length ≤ c ∧ Kd.C k95 w A xs.length xs ∧ ∀ x ∈ xs, x.f7.length ≤ reachBytes
theorem opnW_events : OpnW 63 REvs := fun enc w held fuel cs d h hw => by
  obtain ⟨xs, A, c, e, hl, hm, hr⟩ := opnW_slice (n := 8) Try.underlying63 (by kernel_rfl) opnW_event enc w held fuel cs d h hw
  refine ⟨xs, A, c, e, hl, rsl_reads (d := k95) hr (fun cs x hx => hx.1) (Nat.le_trans hl hm), fun x hx => ?_⟩
  obtain ⟨i, hi, rfl⟩ := List.getElem_of_mem hx
  obtain ⟨_, _, _, _, _, h⟩ := hr i hi
  exact h.2
/-- A window of a schedule, as it came in. -/
theorem opn_pwin : Opn 76 (fun w cs x => k76.K w x cs) := by
  intro H enc w held fuel cs d h
  have hn : Try.prog.cellsOf 3 = 1 := by kernel_rfl
  have hs : Try.prog.cellsOf 42 = 1 := by kernel_rfl
  have h6 : cs.length = 6 := by rw [(opn_struct Try.underlying76 h).1]; kernel_rfl
  obtain ⟨x0, x1, x2, x3, x4, x5, rfl⟩ := list6 cs h6
  obtain ⟨m0, y0, h0⟩ := opn_field Try.underlying76 h 0 3 0 1 (by kernel_rfl) hn
  obtain ⟨m1, y1, h1⟩ := opn_field Try.underlying76 h 1 3 1 1 (by kernel_rfl) hn
  obtain ⟨m2, y2, h2⟩ := opn_field Try.underlying76 h 2 3 2 1 (by kernel_rfl) hn
  obtain ⟨m3, y3, h3⟩ := opn_field Try.underlying76 h 3 3 3 1 (by kernel_rfl) hn
  obtain ⟨m4, y4, h4⟩ := opn_field Try.underlying76 h 4 42 4 1 (by kernel_rfl) hs
  obtain ⟨m5, y5, h5⟩ := opn_field Try.underlying76 h 5 42 5 1 (by kernel_rfl) hs
  obtain ⟨a0, e0, _⟩ := opn_int Try.underlying3 _ _ _ _ _ _ h0
  obtain ⟨a1, e1, _⟩ := opn_int Try.underlying3 _ _ _ _ _ _ h1
  obtain ⟨a2, e2, _⟩ := opn_int Try.underlying3 _ _ _ _ _ _ h2
  obtain ⟨a3, e3, _⟩ := opn_int Try.underlying3 _ _ _ _ _ _ h3
  obtain ⟨l4, A4, c4, e4, hl4, hm4, hr4⟩ := opn_slice (n := 1) (R := RInt .i64) Try.underlying42 (by kernel_rfl) (opn_int Try.underlying3) _ _ _ _ _ _ h4
  obtain ⟨l5, A5, c5, e5, hl5, hm5, hr5⟩ := opn_slice (n := 1) (R := RInt .i64) Try.underlying42 (by kernel_rfl) (opn_int Try.underlying3) _ _ _ _ _ _ h5
  simp at e0 e1 e2 e3 e4 e5
  refine ⟨⟨a0, a1, a2, a3, l4, l5⟩, ?_⟩
  rw [e0, e1, e2, e3, e4, e5]
  exact k76_mk w ⟨a0, a1, a2, a3, l4, l5⟩ hl4 (rsl_reads (d := Kd.int .i64) hr4 (fun cs x hx => hx.1) (Nat.le_trans hl4 hm4)) hl5 (rsl_reads (d := Kd.int .i64) hr5 (fun cs x hx => hx.1) (Nat.le_trans hl5 hm5))
/-- A schedule, as it came in. -/
structure Sch where
  md : Int
  A0 : Option Addr
  c0 : Nat
  l0 : List S76
  A1 : Option Addr
  c1 : Nat
  l1 : List S76
def Sch.arr (x : Sch) : Array Value := #[.int .i64 x.md, .slice x.A0 x.l0.length x.c0, .slice x.A1 x.l1.length x.c1]
def RSch (w : World) (cs : List Value) (x : Sch) : Prop := cs = x.arr.toList ∧ Kd.C k76 w x.A0 x.l0.length x.l0 ∧ Kd.C k76 w x.A1 x.l1.length x.l1 ∧ x.l0.length ≤ x.c0 ∧ x.l1.length ≤ x.c1
theorem opn_sch : Opn 62 RSch := by
  intro H enc w held fuel cs d h
  have hn : Try.prog.cellsOf 3 = 1 := by kernel_rfl
  have hs : Try.prog.cellsOf 26 = 1 := by kernel_rfl
  have ha : Try.prog.cellsOf 60 = 2 := by kernel_rfl
  have h3 : cs.length = 3 := by rw [(opn_struct Try.underlying62 h).1]; kernel_rfl
  obtain ⟨x0, x1, x2, rfl⟩ : ∃ a b c, cs = [a, b, c] := by
    match cs, h3 with
    | [a, b, c], _ => exact ⟨a, b, c, rfl⟩
  obtain ⟨m0, y0, h0⟩ := opn_field Try.underlying62 h 0 3 0 1 (by kernel_rfl) hn
  obtain ⟨mF, yF, hF⟩ := opn_field Try.underlying62 h 1 60 1 2 (by kernel_rfl) ha
  obtain ⟨m1, y1, h1⟩ := opn_item Try.underlying60 hF 1 hs 0 (by decide)
  obtain ⟨m2, y2, h2⟩ := opn_item Try.underlying60 hF 1 hs 1 (by decide)
  obtain ⟨a0, e0, _⟩ := opn_int Try.underlying3 _ _ _ _ _ _ h0
  obtain ⟨l1, A1, c1, e1, hl1, hm1, hr1⟩ := opn_slice (n := 6) Try.underlying26 (by kernel_rfl) opn_pwin _ _ _ _ _ _ h1
  obtain ⟨l2, A2, c2, e2, hl2, hm2, hr2⟩ := opn_slice (n := 6) Try.underlying26 (by kernel_rfl) opn_pwin _ _ _ _ _ _ h2
  simp at e0 e1 e2
  exact ⟨⟨a0, A1, c1, l1, A2, c2, l2⟩, by rw [e0, e1, e2]; rfl, rsl_reads (d := k76) hr1 (fun cs x hx => hx) (Nat.le_trans hl1 hm1), rsl_reads (d := k76) hr2 (fun cs x hx => hx) (Nat.le_trans hl2 hm2), hl1, hl2⟩
end Go.Proofs.Ytekbaconbemgpaa.PWe
