/- A region that draws its order, by what holds of every set of operations that are done. Helper text. -/
import Derived.Test.YtpafcbbnjkmhaaaWTab
import Derived.Test.YtpafcbbnjkmhaaaPLax0
namespace Go.Proofs.Ytpafcbbnjkmhaaa.PLa
open Go.RowKit Go.Proofs.YtpafcbbnjkmhaaaW.PrintWords Go.Proofs.YtpafcbbnjkmhaaaW.PrintLast Go.Proofs.YtpafcbbnjkmhaaaW.PrintMore
set_option linter.unusedVariables false
set_option linter.unusedSimpArgs false

theorem count_set {l : List Bool} {i : Nat} (hi : l[i]? = some false) : (l.set i true).count false + 1 = l.count false := by
  induction l generalizing i with
  | nil => simp at hi
  | cons b l ih =>
    cases i with
    | zero =>
      simp at hi
      subst hi
      simp
    | succ i =>
      have := ih (i := i) (by simpa using hi)
      simp only [List.set_cons_succ, List.count_cons]
      omega
/-- R holds at the start and behind every operation; it is enough at the end. -/
theorem wpAny_inv {P : Program} {md : Region.Mode} {ops : Array Oper} {Q : Exit → Act → World → Prop} {R : List Bool → Act → World → Prop} {T : Bool × List (List Nat × List Nat)} (hT : rtab md ops = T)
    (hstep : ∀ l a w i o, R l a w → i ∈ readyT T.2 l → ops[i]? = some o → ∀ K : Act → World → Prop, (∀ a' w', R (l.set i true) a' w' → K a' w') → if Region.wanted o (yielded ops a.tmps) = true then Oper.wp P o a w K Q else K (a.put o.dst undef) w)
    (hend : ∀ l a w, R l a w → readyT T.2 l = [] → Q .normal a w) : ∀ (fuel : Nat) (l : List Bool) (a : Act) (w : World), R l a w → l.count false ≤ fuel → l.length = ops.size → wpAny P md ops Q fuel l.toArray a w
  | 0, l, a, w, hR, hc, _ => by
    have hr : readyT T.2 l = [] := by
      rw [← hT, ← (show l.toArray.toList = l from rfl), ← ready_eq]
      refine List.eq_nil_iff_forall_not_mem.2 fun i hi => ?_
      obtain ⟨h1, o, ho, _⟩ := mem_ready.1 hi
      have : false ∈ l := by
        have hlt : i < l.length := by
          rcases Nat.lt_or_ge i l.length with h | h
          · exact h
          · simp [Array.getElem?_eq_none, h] at h1
        have : l[i] = false := by simpa [hlt] using h1
        rw [← this]
        exact List.getElem_mem hlt
      have := List.count_pos_iff.2 this
      omega
    refine ⟨?_, hend l a w hR hr⟩
    rw [ready_eq, hT]
    exact hr
  | fuel + 1, l, a, w, hR, hc, hl => by
    refine ⟨fun hr => hend l a w hR (by rwa [ready_eq, hT] at hr), fun i hi => ?_⟩
    have hi' : i ∈ readyT T.2 l := by rwa [ready_eq, hT] at hi
    obtain ⟨h1, o, ho, _⟩ := mem_ready.1 hi
    have hlt : i < l.length := by
      rw [hl]
      exact (Array.getElem?_eq_some_iff.1 ho).1
    have h2 : l[i]? = some false := by simpa [hlt] using h1
    refine wpOp_step ho fun K hK => ?_
    refine hstep l a w i o hR hi' ho K fun a' w' hR' => hK a' w' ?_
    have e : l.toArray.setIfInBounds i true = (l.set i true).toArray := by simp
    rw [e]
    have := count_set h2
    exact wpAny_inv hT hstep hend fuel (l.set i true) a' w' hR' (by omega) (by rw [List.length_set]; exact hl)
end Go.Proofs.Ytpafcbbnjkmhaaa.PLa
