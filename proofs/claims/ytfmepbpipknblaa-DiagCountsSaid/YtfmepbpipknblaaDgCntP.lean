/- DiagCounts: plain laws. Helper text. -/
import Derived.Test.YtfmepbpipknblaaDgOne
namespace Go.Proofs.Ytfmepbpipknblaa.Dg
open Go.RowKit Go.Proofs.Ytfmepbpipknblaa.Kx
set_option linter.unusedVariables false
set_option linter.unusedSimpArgs false

theorem eq_same (a b c d : Int) (w : World) : Sem.run Try.prog (Op.equalIn 9999 56 (.agg #[.int .i64 a, .int .i64 b, .int .i64 c, .int .i64 d]) (.agg #[.int .i64 a, .int .i64 b, .int .i64 c, .int .i64 d])) w = .ok true w := by
  have u3 := Try.underlying3
  have a3 := Try.isAgg3
  have z3 := Try.sizeOf3
  rw [show (9999 : Nat) = 9998 + 1 from rfl, Op.equalIn]
  simp only [Sem.run_bind, run_underlying Try.underlying56, Result.andThen_ok]
  simp only [Std.Legacy.Range.forIn_eq_forIn_range', Std.Legacy.Range.size, Nat.sub_zero, Nat.add_sub_cancel, Nat.div_one, List.range'_succ, List.range'_zero, List.forIn_cons, List.forIn_nil]
  go_simp
/-- What is counted so far of one message. -/
def xv (q p : Nat → Int) (kn : Bool) (j k : Nat) : Int := q k + (if kn = true ∧ k < j then p k else 0)
def arr5 (B : Int) (q p : Nat → Int) (kn : Bool) (j : Nat) : Array Value := #[.int .i64 B, .int .i64 (xv q p kn j 0), .int .i64 (xv q p kn j 1), .int .i64 (xv q p kn j 2), .int .i64 (xv q p kn j 3)]
theorem arr5_at (B : Int) (q p : Nat → Int) (kn : Bool) (j k : Nat) (hk : k < 4) : (arr5 B q p kn j)[1 + k]? = some (.int .i64 (xv q p kn j k)) := by
  obtain rfl | rfl | rfl | rfl : k = 0 ∨ k = 1 ∨ k = 2 ∨ k = 3 := by omega
  all_goals rfl
theorem xv_at (q p : Nat → Int) (kn : Bool) (j : Nat) : xv q p kn j j = q j := by
  unfold xv
  rw [if_neg (by simp)]
  omega
theorem arr5_set (B : Int) (q p : Nat → Int) (j : Nat) (hj : j < 4) : (arr5 B q p true j).setIfInBounds (1 + j) (.int .i64 (q j + p j)) = arr5 B q p true (j + 1) := by
  obtain rfl | rfl | rfl | rfl : j = 0 ∨ j = 1 ∨ j = 2 ∨ j = 3 := by omega
  all_goals simp [arr5, xv]
theorem arr5_skip (B : Int) (q p : Nat → Int) (j : Nat) : arr5 B q p false j = arr5 B q p false (j + 1) := by simp [arr5, xv]
theorem arr5_zero (B : Int) (q p : Nat → Int) (kn : Bool) : arr5 B q p kn 0 = #[.int .i64 B, .int .i64 (q 0), .int .i64 (q 1), .int .i64 (q 2), .int .i64 (q 3)] := by simp [arr5, xv]

def Msg.o (m : Msg) : Nat → Int
  | 0 => m.o0
  | 1 => m.o1
  | 2 => m.o2
  | _ => m.o3
def fq (l : List Msg) (n : Nat) : Nat → Int
  | 0 => fo Msg.o0 l n
  | 1 => fo Msg.o1 l n
  | 2 => fo Msg.o2 l n
  | _ => fo Msg.o3 l n
theorem arr5_end (l : List Msg) (n : Nat) (B : Int) : arr5 B (fq l n) (l.getD n default).o (l.getD n default).known 4 = #[.int .i64 B, .int .i64 (fo Msg.o0 l (n + 1)), .int .i64 (fo Msg.o1 l (n + 1)), .int .i64 (fo Msg.o2 l (n + 1)), .int .i64 (fo Msg.o3 l (n + 1))] := by
  unfold arr5 xv
  simp [fq, Msg.o, fo]

theorem fb_range2 (l : List Msg) (i : Nat) (h : ∀ j, j < i → (l.getD j default).fit) : 0 ≤ fb l i ∧ fb l i ≤ 800 * i := by
  induction i with
  | zero => exact ⟨by simp [fb], by simp [fb]⟩
  | succ i ih =>
    have := ih (fun j hj => h j (by omega))
    have hf := (h i (by omega)).1
    rw [fb]
    split <;> omega
theorem fo_range2 (f : Msg → Int) (hf : ∀ m : Msg, m.fit → -1099511627776 ≤ f m ∧ f m ≤ 1099511627776) (l : List Msg) (i : Nat) (h : ∀ j, j < i → (l.getD j default).fit) : -(1099511627776 * (i : Int)) ≤ fo f l i ∧ fo f l i ≤ 1099511627776 * i := by
  induction i with
  | zero => exact ⟨by simp [fo], by simp [fo]⟩
  | succ i ih =>
    have := ih (fun j hj => h j (by omega))
    have hf := hf _ (h i (by omega))
    rw [fo]
    split <;> omega
theorem fq_range (l : List Msg) (i : Nat) (h : ∀ j, j < i → (l.getD j default).fit) (k : Nat) : -(1099511627776 * (i : Int)) ≤ fq l i k ∧ fq l i k ≤ 1099511627776 * i := by
  unfold fq
  split
  · exact fo_range2 Msg.o0 (fun m h => h.2.1) l i h
  · exact fo_range2 Msg.o1 (fun m h => h.2.2.1) l i h
  · exact fo_range2 Msg.o2 (fun m h => h.2.2.2.1) l i h
  · exact fo_range2 Msg.o3 (fun m h => h.2.2.2.2) l i h
theorem fit_of (m : Msg) (hn : m.n ≤ 100) (h : ∀ k, k < 4 → -1099511627776 ≤ m.o k ∧ m.o k ≤ 1099511627776) : m.fit := ⟨hn, h 0 (by omega), h 1 (by omega), h 2 (by omega), h 3 (by omega)⟩
/-- Two parts, and the whole. -/
theorem fb_take (l : List Msg) (c i : Nat) (hi : i ≤ c) : fb (l.take c) i = fb l i := by
  induction i with
  | zero => rfl
  | succ i ih =>
    have : (l.take c).getD i default = l.getD i default := by
      rw [List.getD_eq_getElem?_getD, List.getD_eq_getElem?_getD, List.getElem?_take, if_pos (by omega)]
    rw [fb, fb, ih (by omega), this]
theorem fb_drop (l : List Msg) (c i : Nat) : fb l c + fb (l.drop c) i = fb l (c + i) := by
  induction i with
  | zero => simp [fb]
  | succ i ih =>
    have : (l.drop c).getD i default = l.getD (c + i) default := by
      rw [List.getD_eq_getElem?_getD, List.getD_eq_getElem?_getD, List.getElem?_drop]
    rw [fb, this, ← Int.add_assoc, ih]
    rfl
theorem fo_take (f : Msg → Int) (l : List Msg) (c i : Nat) (hi : i ≤ c) : fo f (l.take c) i = fo f l i := by
  induction i with
  | zero => rfl
  | succ i ih =>
    have : (l.take c).getD i default = l.getD i default := by
      rw [List.getD_eq_getElem?_getD, List.getD_eq_getElem?_getD, List.getElem?_take, if_pos (by omega)]
    rw [fo, fo, ih (by omega), this]
theorem fo_drop (f : Msg → Int) (l : List Msg) (c i : Nat) : fo f l c + fo f (l.drop c) i = fo f l (c + i) := by
  induction i with
  | zero => simp [fo]
  | succ i ih =>
    have : (l.drop c).getD i default = l.getD (c + i) default := by
      rw [List.getD_eq_getElem?_getD, List.getD_eq_getElem?_getD, List.getElem?_drop]
    rw [fo, this, ← Int.add_assoc, ih]
    rfl
theorem fb_both (l : List Msg) (c : Nat) (hc : c ≤ l.length) : fb (l.take c) c + fb (l.drop c) (l.length - c) = fb l l.length := by
  rw [fb_take l c c (Nat.le_refl _), fb_drop, show c + (l.length - c) = l.length by omega]
theorem fo_both (f : Msg → Int) (l : List Msg) (c : Nat) (hc : c ≤ l.length) : fo f (l.take c) c + fo f (l.drop c) (l.length - c) = fo f l l.length := by
  rw [fo_take f l c c (Nat.le_refl _), fo_drop, show c + (l.length - c) = l.length by omega]
theorem lives_msg : Lives RMsg := by
  intro w w1 cs x h hb
  exact h
theorem rmsg_below {w w1 : World} {A : Option Addr} {xs : List Msg} (h : RSl 10 RMsg w A xs) (hb : Below w.heap.size w w1) : RSl 10 RMsg w1 A xs := RSl.below (R := RMsg) lives_msg h hb
theorem RSl.take {X : Type} {n : Nat} {R : World → List Value → X → Prop} {w : World} {A : Option Addr} {xs : List X} (h : RSl n R w A xs) (c : Nat) : RSl n R w A (xs.take c) := fun i hi => by
  have hi' : i < xs.length := by simp at hi; omega
  obtain ⟨ad, cs, h1, h2, h3, h4⟩ := h i hi'
  exact ⟨ad, cs, h1, h2, h3, by simpa using h4⟩
theorem RSl.drop {X : Type} {n : Nat} {R : World → List Value → X → Prop} {w : World} {ad : Addr} {xs : List X} (h : RSl n R w (some ad) xs) (c : Nat) : RSl n R w (some (ad.add (c * n))) (xs.drop c) := fun i hi => by
  have hi' : c + i < xs.length := by simp at hi; omega
  obtain ⟨ad', cs, h1, h2, h3, h4⟩ := h (c + i) hi'
  cases h1
  refine ⟨_, cs, rfl, h2, fun j hj => ?_, by simpa using h4⟩
  rw [Go.Deep.add_add, ← h3 j hj, Nat.add_mul, Nat.add_assoc]
theorem fb_bnd (l : List Msg) (hl : l.length ≤ 60) (h : ∀ m ∈ l, m.fit) : Bnd (fb l l.length) := by
  have := fb_range l h l.length (Nat.le_refl _)
  exact ⟨by omega, by omega⟩
theorem fo_bnd (f : Msg → Int) (hf : ∀ m : Msg, m.fit → -1099511627776 ≤ f m ∧ f m ≤ 1099511627776) (l : List Msg) (hl : l.length ≤ 60) (h : ∀ m ∈ l, m.fit) : Bnd (fo f l l.length) := by
  have := fo_range f hf l h l.length (Nat.le_refl _)
  exact ⟨by omega, by omega⟩
/-- What the three calls of Of and the one of Sum give: some numbers that fit together. -/
theorem of_cut (l : List Msg) (A A2 : Option Addr) (c c2 cc : Nat) (hl : l.length ≤ 60) (hf : ∀ m ∈ l, m.fit) (hcc : cc ≤ l.length) (w : World) (hA : RSl 10 RMsg w A (l.take cc)) (hA2 : RSl 10 RMsg w A2 (l.drop cc)) :
    ∃ P P0 P1 P2 P3 D D0 D1 D2 D3 : Int,
      (∀ w', Below w.heap.size w w' → Calls Try.prog 42 #[.slice A cc c] w' fun e w2 => e = .returned (.agg #[.int .i64 P, .int .i64 P0, .int .i64 P1, .int .i64 P2, .int .i64 P3]) ∧ Below w'.heap.size w' w2) ∧
      (∀ w', Below w.heap.size w w' → Calls Try.prog 42 #[.slice A2 (l.length - cc) c2] w' fun e w2 => e = .returned (.agg #[.int .i64 D, .int .i64 D0, .int .i64 D1, .int .i64 D2, .int .i64 D3]) ∧ Below w'.heap.size w' w2) ∧
      (∀ w', Calls Try.prog 43 #[.agg #[.int .i64 P, .int .i64 P0, .int .i64 P1, .int .i64 P2, .int .i64 P3], .agg #[.int .i64 D, .int .i64 D0, .int .i64 D1, .int .i64 D2, .int .i64 D3]] w' fun e w2 =>
        e = .returned (.agg #[.int .i64 (fb l l.length), .int .i64 (fo Msg.o0 l l.length), .int .i64 (fo Msg.o1 l l.length), .int .i64 (fo Msg.o2 l l.length), .int .i64 (fo Msg.o3 l l.length)]) ∧ Below w'.heap.size w' w2) := by
  have ht : (l.take cc).length = cc := by simp; omega
  have hd : (l.drop cc).length = l.length - cc := by simp
  have ft : ∀ m ∈ l.take cc, m.fit := fun m hm => hf m (List.mem_of_mem_take hm)
  have fd : ∀ m ∈ l.drop cc, m.fit := fun m hm => hf m (List.mem_of_mem_drop hm)
  have f0 : ∀ m : Msg, m.fit → -1099511627776 ≤ m.o0 ∧ m.o0 ≤ 1099511627776 := fun m h => h.2.1
  have f1 : ∀ m : Msg, m.fit → -1099511627776 ≤ m.o1 ∧ m.o1 ≤ 1099511627776 := fun m h => h.2.2.1
  have f2 : ∀ m : Msg, m.fit → -1099511627776 ≤ m.o2 ∧ m.o2 ≤ 1099511627776 := fun m h => h.2.2.2.1
  have f3 : ∀ m : Msg, m.fit → -1099511627776 ≤ m.o3 ∧ m.o3 ≤ 1099511627776 := fun m h => h.2.2.2.2
  have lt : (l.take cc).length ≤ 60 := by omega
  have ld : (l.drop cc).length ≤ 60 := by omega
  refine ⟨fb (l.take cc) (l.take cc).length, fo Msg.o0 (l.take cc) (l.take cc).length, fo Msg.o1 (l.take cc) (l.take cc).length, fo Msg.o2 (l.take cc) (l.take cc).length, fo Msg.o3 (l.take cc) (l.take cc).length,
    fb (l.drop cc) (l.drop cc).length, fo Msg.o0 (l.drop cc) (l.drop cc).length, fo Msg.o1 (l.drop cc) (l.drop cc).length, fo Msg.o2 (l.drop cc) (l.drop cc).length, fo Msg.o3 (l.drop cc) (l.drop cc).length, fun w' hb => ?_, fun w' hb => ?_, fun w' => ?_⟩
  · have := of_any (l.take cc) A c lt ft w' (rmsg_below hA hb)
    rwa [ht] at this ⊢
  · have := of_any (l.drop cc) A2 c2 ld fd w' (rmsg_below hA2 hb)
    rwa [hd] at this ⊢
  · have := sum_any _ _ _ _ _ _ _ _ _ _ (fb_bnd _ lt ft) (fb_bnd _ ld fd) (fo_bnd Msg.o0 f0 _ lt ft) (fo_bnd Msg.o1 f1 _ lt ft) (fo_bnd Msg.o2 f2 _ lt ft) (fo_bnd Msg.o3 f3 _ lt ft) (fo_bnd Msg.o0 f0 _ ld fd) (fo_bnd Msg.o1 f1 _ ld fd) (fo_bnd Msg.o2 f2 _ ld fd) (fo_bnd Msg.o3 f3 _ ld fd) w'
    rw [ht, hd, fb_both l cc hcc, fo_both _ l cc hcc, fo_both _ l cc hcc, fo_both _ l cc hcc, fo_both _ l cc hcc] at this
    rwa [ht, hd]
end Go.Proofs.Ytfmepbpipknblaa.Dg
