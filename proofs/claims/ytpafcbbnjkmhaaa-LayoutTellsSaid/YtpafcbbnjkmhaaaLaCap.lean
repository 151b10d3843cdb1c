/- Cuts with a capacity, and what is appended behind one. Helper text. -/
import Derived.Test.YtpafcbbnjkmhaaaPLax0
namespace Go.Proofs.Ytpafcbbnjkmhaaa.PLa
open Go.RowKit Go.Proofs.YtpafcbbnjkmhaaaW.PrintWords Go.Proofs.YtpafcbbnjkmhaaaW.PrintLast Go.Proofs.YtpafcbbnjkmhaaaW.PrintMore
set_option linter.unusedVariables false
set_option linter.unusedSimpArgs false

section
variable {P : Program}
theorem cut_cap (t e : TypeId) (kh km : IntKind) {i : TypeInfo} (ht : P.underlying t = some (.slice e)) (hi : P.info? e = some i) (A : Option Addr) (n c : Nat) (hc : n ≤ c) :
    ∀ W : World, (Instr.slice t (.slice A n c) none (some (.int kh n)) (some (.int km n))).run P W = .ok (.slice A n n) W := by
  intro W
  have hel : P.elem t = e := by simp [Program.elem, ht]
  have hu : P.underlying t = some (.slice (P.elem t)) := by rw [hel]; exact ht
  have ha : (A.map fun x => x.add 0) = A := by cases A <;> simp [Addr.add]
  rw [run_slice_hm W t A n c hu kh km n n (by omega) (by omega) (by omega), hel]
  simp [sizeOf, typeInfo, hi, sliced, Result.andThen, ha]
theorem cut_capl (t e : TypeId) (kl kh km : IntKind) {i : TypeInfo} (ht : P.underlying t = some (.slice e)) (hi : P.info? e = some i) (size : Nat) (hsz : i.size = size) (A : Option Addr) (n c lo : Nat) (hlo : lo ≤ n) (hc : n ≤ c) :
    ∀ W : World, (Instr.slice t (.slice A n c) (some (.int kl lo)) (some (.int kh n)) (some (.int km n))).run P W = .ok (.slice (if n = lo then A else A.map (·.add (lo * size))) (n - lo) (n - lo)) W := by
  intro W
  have hel : P.elem t = e := by simp [Program.elem, ht]
  have hu : P.underlying t = some (.slice (P.elem t)) := by rw [hel]; exact ht
  rw [run_slice_lhm W t A n c hu kl kh km lo n n (by omega) (by omega) (by omega) (by omega), hel]
  simp [sizeOf, typeInfo, hi, hsz, sliced, Result.andThen]
end
/-- A row whose capacity is its length, in blocks from N on. -/
def Fw (N : Nat) (w : World) (v : Value) (xs : List S41) : Prop := ∃ A, v = .slice A xs.length xs.length ∧ (A = none → xs.length = 0) ∧ Kd.F k41 w (fun k_ => N ≤ k_) A xs.length xs
theorem Fw_V {N base : Nat} {w : World} {v : Value} {xs : List S41} (h : Fw N w v xs) : Kd.V k41 41 w base (fun k_ => (N ≤ k_)) v xs := by
  obtain ⟨A, rfl, _, hF⟩ := h
  exact Kd.V_mk (Nat.le_refl _) hF
theorem own_none {w : World} {base c : Nat} {ok : Nat → Prop} {A : Option Addr} {xs : List S41} (h : Kd.R k41 41 w base ok (.slice A xs.length c) xs) (ha : A = none) : xs.length = 0 := by
  obtain ⟨_, inner, ho, _⟩ := h
  rcases ho.2 with ⟨_, h0⟩ | ⟨g, cap, cur, e, _⟩
  · exact h0
  · subst ha
    cases e
theorem Fw_of_R {w : World} {base c N : Nat} {ok : Nat → Prop} {A : Option Addr} {xs : List S41} (h : Kd.R k41 41 w base ok (.slice A xs.length c) xs) (hok : ∀ k, ok k → N ≤ k) : Fw N w (.slice A xs.length xs.length) xs :=
  ⟨A, rfl, own_none h, Kd.F_mono (Kd.R_F h) hok⟩
theorem Fw_drop {w : World} {base c N lo : Nat} {ok : Nat → Prop} {A : Option Addr} {xs : List S41} (h : Kd.R k41 41 w base ok (.slice A xs.length c) xs) (hok : ∀ k, ok k → N ≤ k) (hlo : lo ≤ xs.length) : Fw N w (.slice (if xs.length = lo then A else A.map (·.add (lo * 2))) (xs.length - lo) (xs.length - lo)) (xs.drop lo) := by
  refine ⟨if xs.length = lo then A else A.map (·.add (lo * 2)), by rw [List.length_drop], fun hn => ?_, Kd.F_cut (Kd.F_mono (Kd.R_F h) hok) hlo (Nat.le_refl _)⟩
  rw [List.length_drop]
  split at hn
  · omega
  · have := own_none h (by cases A with | none => rfl | some a => cases hn)
    omega
theorem reps_M {w w1 : World} {base : Nat} {ok : Nat → Prop} {xs : List S41} {cs : List Value} (h : Reps (k41.K w) k41.sz xs cs) : Reps (k41.M w1 base ok) k41.sz xs cs := h.imp_ fun p c hp => by
  rw [k41_open hp]
  exact k41_mkM w1 base ok p
section
variable {P : Program} {ops : Array Oper} {rest : List Oper} {o : Oper} {a : Act} {Q : Exit → Act → World → Prop}
/-- append(v, x), v full: a new row. -/
theorem append_Fw {W : World} (w0 : World) (N : Nat) (hgd : o.guard = none) (s x : Operand) (z : Value)
    (ho : o.op = .call { callee := .builtin .append, args := #[s, x], argTypes := #[23, 23] })
    (ht : P.underlying 23 = some (.slice 41)) (hinfo : (P.info? 41).map (fun i => (i.zero, i.size, i.bytes)) = some (some z, 2, 16)) (hz : z.cells.size = 2)
    (v : Value) (xs : List S41) (p : S41) (hs : a.eval s = v) (hx : a.eval x = .slice (some ⟨W.heap.size, 0, none⟩) 1 1)
    (HO : Fw N W v xs) (HB : Below w0.heap.size w0 W) (hbase : w0.heap.size ≤ W.heap.size) (hl : (xs.length + 1) * 16 ≤ 140737488355328)
    (h : ∀ v1 w1, Kd.R k41 41 w1 w0.heap.size (fun k_ => (w0.heap.size ≤ k_)) v1 (xs ++ [p]) → Below w0.heap.size w0 w1 → wpList P ops Q rest (a.put o.dst v1) w1) :
    wpList P ops Q (o :: rest) a (W.alloc (.cells #[.int .i64 p.f0, .int .i64 p.f1] 41)) := by
  obtain ⟨A, rfl, hA, hF⟩ := HO
  have hC : ReadsRow (k41.K (W.alloc (.cells #[.int .i64 p.f0, .int .i64 p.f1] 41))) k41.sz (W.alloc (.cells #[.int .i64 p.f0, .int .i64 p.f1] 41)) A xs.length xs := Kd.F_now (Kd.F_alloc hF (.cells #[.int .i64 p.f0, .int .i64 p.f1] 41))
  obtain ⟨i0, hi0, hz0, hsz, hby⟩ := info_parts hinfo
  have hin : ∃ inner, Reps (k41.K (W.alloc (.cells #[.int .i64 p.f0, .int .i64 p.f1] 41))) k41.sz xs inner ∧ ∀ b, A = some b → ∀ j u, inner[j]? = some u → (W.alloc (.cells #[.int .i64 p.f0, .int .i64 p.f1] 41)).cell? (b.add j) = some u := by
    cases A with
    | none =>
      have := List.eq_nil_of_length_eq_zero (hA rfl)
      subst this
      exact ⟨[], Reps.none _ _, fun b e => by cases e⟩
    | some ad =>
      obtain ⟨inner, h1, h2⟩ := hC.inner_
      exact ⟨inner, h1, fun b e => by cases e; exact h2⟩
  obtain ⟨inner, hr, hcells⟩ := hin
  have hlen : inner.length = xs.length * 2 := hr.1
  refine wpList_append_grows (W.alloc (.cells #[.int .i64 p.f0, .int .i64 p.f1] 41)) hgd s x 23 ho 41 i0 z 2 16 ht hi0 hz0 hsz hby hz (by omega) A xs.length xs.length inner hs (fun e => ⟨hA e, hA e⟩) hlen hcells
    ⟨W.heap.size, 0, none⟩ 1 1 [.int .i64 p.f0, .int .i64 p.f1] hx rfl ?_ ?_ (by omega) (by simp only [maxLen]; omega) hl ?_
  · intro j u hj
    match j with
    | 0 => simp at hj; subst hj; rw [show Addr.add ⟨W.heap.size, 0, none⟩ 0 = ⟨W.heap.size, 0, none⟩ from rfl]; simp only [World.cell?, heap_alloc_new]; rfl
    | 1 => simp at hj; subst hj; rw [show Addr.add ⟨W.heap.size, 0, none⟩ 1 = ⟨W.heap.size, 1, none⟩ from rfl]; simp only [World.cell?, heap_alloc_new]; rfl
    | j + 2 => simp at hj
  · intro u hu
    simp at hu
    rcases hu with rfl | rfl <;> rfl
  · intro v' w' hown hg
    refine h v' w' ?_ ?_
    · refine ⟨fun k hk => ?_, inner ++ [.int .i64 p.f0, .int .i64 p.f1], ?_, ?_⟩
      · have := own_base hown k hk
        simp at this
        omega
      · rw [List.length_append, List.length_singleton]
        refine own_weaken hown ?_
        simp
        omega
      · exact (reps_M hr).snoc (k41_mkM w' w0.heap.size _ p) rfl
    · exact (below_alloc HB _).grown hg (by simp; omega) (fun j hj => by cases hj)
end
end Go.Proofs.Ytpafcbbnjkmhaaa.PLa
