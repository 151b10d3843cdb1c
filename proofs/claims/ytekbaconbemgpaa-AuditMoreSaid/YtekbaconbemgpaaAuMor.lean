/- Of more good modules there are no fewer flaws of each kind: plain. Helper text. -/
import Derived.Test.YtekbaconbemgpaaAuOne
namespace Go.Proofs.Ytekbaconbemgpaa.PWe
open Go.RowKit Go.Proofs.Ytekbaconbemgpaa.Kx Go.Proofs.YtekbaconbemgpaaW.PrintWords Go.Proofs.YtekbaconbemgpaaW.PrintLast Go.Proofs.YtekbaconbemgpaaW.PrintMore
set_option linter.unusedVariables false
set_option linter.unusedSimpArgs false

/-- What the messages are told apart by. -/
def keyOf (e : S95) : Int × List UInt8 := (e.f6, (Go.strOfNums e.f7).toList)
theorem unl_iff (a e : S95) : unlP a e = true ↔ keyOf e ≠ keyOf a := by
  unfold unlP same_ keyOf
  rw [Ne, Prod.mk.injEq]
  by_cases h1 : e.f6 = a.f6
  · by_cases h2 : (Go.strOfNums e.f7).toList = (Go.strOfNums a.f7).toList
    · simp [h1, h2]
    · simp [h1, h2]
  · simp [h1]
section
variable {G H : List Int} (hs : ∀ m ∈ G, m ∈ H)
include hs
theorem has_mono {m : Int} (h : has_ G m = true) : has_ H m = true := has_iff.2 (hs m (has_iff.1 h))
theorem ev_mono {L : List S95} {x : S101} {k : Int} {e : S95} (h : e ∈ evsP L G x k) : e ∈ evsP L H x k := by
  unfold evsP at *
  rw [List.mem_filter] at *
  refine ⟨h.1, ?_⟩
  have h2 := h.2
  unfold evP at *
  simp only [Bool.and_eq_true] at *
  exact ⟨h2.1, h2.2.1, h2.2.2.1, h2.2.2.2.1, h2.2.2.2.2.1, has_mono hs h2.2.2.2.2.2⟩
theorem agreed_mono {x : S101} (h : (!agreedP x G) = true) : (!agreedP x H) = true := by
  unfold agreedP at *
  have h1 : ∀ l : List Int, G.any (has_ l) = true → H.any (has_ l) = true := fun l h => by
    rw [List.any_eq_true] at *
    obtain ⟨m, hm, hh⟩ := h
    exact ⟨m, hs m hm, hh⟩
  simp only [Bool.not_or, Bool.not_not, Bool.and_eq_true] at *
  exact ⟨h1 _ h.1, h1 _ h.2⟩
end
theorem unlike_iff (L : List S95) (G : List Int) (x : S101) : unlikeP L G x = true ↔ ∃ a ∈ evsP L G x 2, ∃ b ∈ evsP L G x 2, keyOf a ≠ keyOf b := by
  unfold unlikeP
  cases evsP L G x 2 with
  | nil => simp
  | cons a r =>
    show List.any (a :: r) (unlP a) = true ↔ _
    rw [List.any_eq_true]
    constructor
    · rintro ⟨e, he, h⟩
      exact ⟨e, he, a, List.mem_cons_self, (unl_iff _ _).1 h⟩
    · rintro ⟨c, hc, d, hd, h⟩
      by_cases h1 : keyOf c = keyOf a
      · exact ⟨d, hd, (unl_iff _ _).2 fun e => h (h1.trans e.symm)⟩
      · exact ⟨c, hc, (unl_iff _ _).2 h1⟩
section
variable {G H : List Int} (hs : ∀ m ∈ G, m ∈ H)
include hs
theorem unlike_mono {L : List S95} {x : S101} (h : unlikeP L G x = true) : unlikeP L H x = true := by
  rw [unlike_iff] at *
  obtain ⟨a, ha, b, hb, h⟩ := h
  exact ⟨a, ev_mono hs ha, b, ev_mono hs hb, h⟩
theorem wrong_mono {l0 l1 : List S76} {L : List S95} {x : S101} (h : wrongP l0 l1 L G x = true) : wrongP l0 l1 L H x = true := by
  unfold wrongP at *
  rw [Bool.and_eq_true, List.any_eq_true] at *
  obtain ⟨h1, e, he, h⟩ := h
  refine ⟨h1, e, ev_mono hs he, ?_⟩
  unfold wroP at *
  rw [Bool.and_eq_true, Bool.and_eq_true, List.any_eq_true] at *
  obtain ⟨h2, h3, o, ho, h⟩ := h
  exact ⟨h2, h3, o, ev_mono hs ho, h⟩
theorem some_mono {l B : List Int} (h : someP G l B = true) : someP H l B = true := by
  unfold someP at *
  rw [List.any_eq_true] at *
  obtain ⟨m, hm, h⟩ := h
  rw [Bool.and_eq_true] at h
  exact ⟨m, hm, by rw [Bool.and_eq_true]; exact ⟨has_mono hs h.1, h.2⟩⟩
theorem stray_mono {l0 l1 : List S76} {x : S101} (h : strayP l0 l1 G x = true) : strayP l0 l1 H x = true := by
  unfold strayP at *
  simp only [Bool.or_eq_true] at *
  rcases h with h | h | h
  · exact .inl (some_mono hs h)
  · exact .inr (.inl (some_mono hs h))
  · exact .inr (.inr (some_mono hs h))
theorem twice_mono {x : S101} (h : twiceP G x = true) : twiceP H x = true := by
  unfold twiceP at *
  have h1 := of_decide_eq_true h
  refine decide_eq_true ?_
  have h2 : ∀ l : List Int, (l.filter (has_ G)).length ≤ (l.filter (has_ H)).length := fun l => by
    rw [← List.countP_eq_length_filter, ← List.countP_eq_length_filter]
    exact List.countP_mono_left fun m _ h => has_mono hs h
  have := h2 x.f3
  omega
end
def leB : List Bool → List Bool → Prop
  | [], [] => True
  | b :: r, c :: q => (b = true → c = true) ∧ leB r q
  | _, _ => False
theorem flags_mono {G H : List Int} (hs : ∀ m ∈ G, m ∈ H) (l0 l1 : List S76) (L : List S95) (x : S101) : leB (flagsP l0 l1 L G x) (flagsP l0 l1 L H x) :=
  ⟨agreed_mono hs, unlike_mono hs, wrong_mono hs, stray_mono hs, twice_mono hs, trivial⟩
/-- How many flaws of a kind. -/
def cntF (fl : List S68) (k : Int) : Nat := fl.countP fun f => f.f0 == k
theorem fl_mono (at_ k : Int) : ∀ (b c : List Bool) (i : Nat), leB b c → cntF (flL at_ i b) k ≤ cntF (flL at_ i c) k
  | [], [], _, _ => Nat.le_refl _
  | [], _ :: _, _, h => h.elim
  | _ :: _, [], _, h => h.elim
  | b :: r, c :: q, i, h => by
    have ih := fl_mono at_ k r q (i + 1) h.2
    unfold cntF at *
    rw [flL, flL]
    cases b with
    | false =>
      rw [if_neg (by decide)]
      split
      · exact Nat.le_trans ih (by rw [List.countP_cons]; omega)
      · exact ih
    | true =>
      rw [if_pos rfl, if_pos (h.1 rfl), List.countP_cons, List.countP_cons]
      omega
theorem chk_mono {G H : List Int} (hs : ∀ m ∈ G, m ∈ H) (l0 l1 : List S76) (L : List S95) (k : Int) : ∀ (Ws : List S101) (n : Nat), cntF (chkL l0 l1 L G n Ws) k ≤ cntF (chkL l0 l1 L H n Ws) k
  | [], _ => Nat.le_refl _
  | x :: r, n => by
    have h1 := chk_mono hs l0 l1 L k r (n + 1)
    have h2 := fl_mono (n : Int) k _ _ 0 (flags_mono hs l0 l1 L x)
    unfold cntF at *
    rw [chkL, chkL, List.countP_append, List.countP_append]
    omega
theorem has_nil (m : Int) : has_ [] m = false := rfl
theorem evs_nil (L : List S95) (x : S101) (k : Int) : evsP L [] x k = [] := by
  unfold evsP
  rw [List.filter_eq_nil_iff]
  intro e _ h
  unfold evP at h
  simp [has_nil] at h
theorem flags_nil (l0 l1 : List S76) (L : List S95) (x : S101) : flagsP l0 l1 L [] x = [false, false, false, false, false] := by
  unfold flagsP
  have h1 : (!agreedP x []) = false := rfl
  have h2 : unlikeP L [] x = false := by unfold unlikeP; rw [evs_nil]
  have h3 : wrongP l0 l1 L [] x = false := by unfold wrongP; rw [evs_nil, evs_nil]; simp
  have hs : ∀ l B : List Int, someP [] l B = false := fun l B => by unfold someP; simp [has_nil]
  have h4 : strayP l0 l1 [] x = false := by unfold strayP; rw [hs, hs, hs]; rfl
  have h5 : twiceP [] x = false := by
    unfold twiceP
    have : x.f3.filter (has_ []) = [] := by rw [List.filter_eq_nil_iff]; intro m _ h; cases h
    rw [this]; rfl
  rw [h1, h2, h3, h4, h5]
theorem chk_nil (l0 l1 : List S76) (L : List S95) : ∀ (Ws : List S101) (n : Nat), chkL l0 l1 L [] n Ws = []
  | [], _ => rfl
  | x :: r, n => by rw [chkL, flags_nil, chk_nil l0 l1 L r (n + 1)]; rfl
theorem fl_kinds (at_ : Int) : ∀ (b : List Bool) (i : Nat) (f : S68), f ∈ flL at_ i b → (i : Int) + 1 ≤ f.f0 ∧ f.f0 ≤ (i : Int) + (b.length : Int)
  | [], _, f, h => by cases h
  | b :: r, i, f, h => by
    have ih := fl_kinds at_ r (i + 1) f
    rw [flL] at h
    rw [List.length_cons]
    split at h
    · rcases List.mem_cons.1 h with h | h
      · subst h
        dsimp only
        omega
      · have := ih h
        omega
    · have := ih h
      omega
theorem chk_kinds (l0 l1 : List S76) (L : List S95) (G : List Int) : ∀ (Ws : List S101) (n : Nat) (f : S68), f ∈ chkL l0 l1 L G n Ws → 1 ≤ f.f0 ∧ f.f0 ≤ 5
  | [], _, f, h => by cases h
  | x :: r, n, f, h => by
    rw [chkL] at h
    rcases List.mem_append.1 h with h | h
    · have := fl_kinds _ _ _ _ h
      have e : (flagsP l0 l1 L G x).length = 5 := rfl
      rw [e] at this
      omega
    · exact chk_kinds l0 l1 L G r (n + 1) f h
theorem chk_length (l0 l1 : List S76) (L : List S95) (G : List Int) : ∀ (Ws : List S101) (n : Nat), (chkL l0 l1 L G n Ws).length ≤ 5 * Ws.length
  | [], _ => Nat.le_refl _
  | x :: r, n => by
    have h1 := chk_length l0 l1 L G r (n + 1)
    have h2 := flL_len (n : Int) (flagsP l0 l1 L G x) 0
    have e : (flagsP l0 l1 L G x).length = 5 := rfl
    rw [chkL, List.length_append, List.length_cons]
    omega
theorem step_length (out : List S101) (e : S95) : (stepP out e).length ≤ out.length + 1 := by
  unfold stepP
  repeat' split
  all_goals (try simp only [List.length_set, List.length_append, List.length_singleton])
  all_goals omega
theorem wins_length (l : List S95) : (winsL l).length ≤ l.length := by
  have : ∀ (l : List S95) (o : List S101), (l.foldl stepP o).length ≤ o.length + l.length := by
    intro l
    induction l with
    | nil => intro o; exact Nat.le_refl _
    | cons e r ih =>
      intro o
      have h1 := ih (stepP o e)
      have h2 := step_length o e
      rw [List.foldl_cons, List.length_cons]
      omega
  have h := this l []
  simpa [winsL] using h
/-- The counts, as they lie. -/
def cntCells (N : Nat → Nat) : Array Value := ((List.range 6).map fun k => Value.int .i64 (N k : Int)).toArray
theorem cnt_at (N : Nat → Nat) {k : Nat} (hk : k < 6) : (cntCells N)[k]? = some (.int .i64 (N k : Int)) := by
  unfold cntCells
  simp [hk]
theorem cnt_set (N M : Nat → Nat) {k : Nat} (hk : k < 6) (he : M k = N k + 1) (ho : ∀ j, j ≠ k → M j = N j) : (cntCells N).setIfInBounds k (.int .i64 ((N k : Int) + 1)) = cntCells M := by
  unfold cntCells
  apply Array.ext'
  rw [List.setIfInBounds_toArray]
  apply List.ext_getElem?
  intro j
  rw [List.getElem?_set]
  by_cases hj : k = j
  · subst hj
    rw [if_pos rfl]
    simp [hk, he]
  · rw [if_neg hj]
    by_cases h6 : j < 6
    · simp [h6, ho j (fun e => hj e.symm)]
    · simp [h6]
/-- The counts of so many flaws. -/
def cntN (fl : List S68) (k : Nat) : Nat := cntF fl (k : Int)
theorem cnt_take (fl : List S68) {i : Nat} (hi : i < fl.length) {f : S68} (hf : fl[i] = f) {q : Nat} (hq : f.f0 = (q : Int)) : cntN (fl.take (i + 1)) q = cntN (fl.take i) q + 1 ∧ ∀ j, j ≠ q → cntN (fl.take (i + 1)) j = cntN (fl.take i) j := by
  unfold cntN cntF
  rw [List.take_succ_eq_append_getElem hi, hf]
  refine ⟨?_, fun j hj => ?_⟩
  · rw [List.countP_append, List.countP_singleton, if_pos (by rw [hq]; exact beq_self_eq_true _)]
  · rw [List.countP_append, List.countP_singleton, if_neg (by rw [hq]; intro h; have := eq_of_beq h; omega)]
    rfl
end Go.Proofs.Ytekbaconbemgpaa.PWe
