/- A row of 64 bools as a list, in a block. Helper text. -/
import Derived.Test.YtpafcbbnjkmhaaaLaArr
import Derived.Test.YtpafcbbnjkmhaaaPLax0
namespace Go.Proofs.Ytpafcbbnjkmhaaa.PLa
open Go.RowKit Go.Proofs.YtpafcbbnjkmhaaaW.PrintWords Go.Proofs.YtpafcbbnjkmhaaaW.PrintLast Go.Proofs.YtpafcbbnjkmhaaaW.PrintMore
set_option linter.unusedVariables false
set_option linter.unusedSimpArgs false

def arrL (l : List Bool) : Array Value := (l.map Value.bool).toArray
/-- The list of an array's bools. -/
def lst (m : Nat → Bool) : List Bool := (List.range 64).map m
theorem lst_len (m : Nat → Bool) : (lst m).length = 64 := by simp [lst]
theorem arrL_lst (m : Nat → Bool) : arrL (lst m) = arrB m := by
  apply Array.ext_getElem?
  intro i
  by_cases h : i < 64
  · rw [arrB_get h]
    simp [arrL, lst, h]
  · rw [Array.getElem?_eq_none (by simp [arrL, lst]; omega), Array.getElem?_eq_none (by rw [arrB_size]; omega)]
theorem arrL_lst_of {l : List Bool} (hl : l.length = 64) : arrB (fun i => l.getD i false) = arrL l := by
  rw [← arrL_lst]
  congr 1
  apply List.ext_getElem
  · rw [lst_len, hl]
  · intro i h1 h2
    simp [lst, h2]
theorem arrL_size (l : List Bool) : (arrL l).size = l.length := by simp [arrL]
theorem arrL_C {l : List Bool} {W : World} {g : Nat} {t : TypeId} {fr : Nat × Nat} (hl : l.length = 64) (h : W.heap[g]? = some (.cells (arrL l) t fr)) : Kd.C Kd.bool W (some ⟨g, 0, none⟩) l.length l := by
  refine ⟨rfl, by omega, fun _ => ⟨⟨g, 0, none⟩, rfl, fun j p hj => ⟨[.bool p], rfl, rfl, fun i u hu => ?_⟩⟩⟩
  match i, hu with
  | 0, hu =>
    obtain rfl := Option.some.inj hu
    rw [show Kd.bool.sz = 1 from rfl, Nat.mul_one, Nat.add_zero, Addr.add_lit, Nat.zero_add]
    simp only [World.cell?, h]
    rw [if_neg (by simp)]
    simp [arrL, hj]
  | i + 1, hu => cases hu
/-- A block with 64 bools is a row of one's own. -/
theorem arrL_R {l : List Bool} {W : World} {g base : Nat} {ok : Nat → Prop} (hl : l.length = 64) (h : W.heap[g]? = some (.cells (arrL l) 34 (0, 0))) (hb : base ≤ g) (hok : ok g) : Kd.R Kd.bool 34 W base ok (.slice (some ⟨g, 0, none⟩) l.length 64) l := by
  refine ⟨fun k hk => ?_, (l.map Value.bool), ⟨by rw [List.length_map]; exact (Nat.mul_one _).symm, .inr ⟨g, 64, arrL l, rfl, hb, h, by omega, by decide, by rw [arrL_size, hl]; rfl, ?_⟩⟩, ⟨by rw [List.length_map]; exact (Nat.mul_one _).symm, fun j p hj => ?_⟩⟩
  · have : g = k := by simpa [Value.ownBlock] using hk
    rw [← this]
    exact hok
  · rw [show Kd.bool.sz = 1 from rfl, Nat.mul_one]
    show (l.map Value.bool).take l.length = _
    exact List.take_of_length_le (by simp)
  · show ((l.map Value.bool).drop (j * Kd.bool.sz)).take Kd.bool.sz = [.bool p]
    obtain ⟨hlt, rfl⟩ := List.getElem?_eq_some_iff.1 hj
    rw [show Kd.bool.sz = 1 from rfl, Nat.mul_one, List.drop_eq_getElem_cons (by simpa using hlt)]
    simp
theorem arrL_of_R {l : List Bool} {W : World} {g base : Nat} {ok : Nat → Prop} (hl : l.length = 64) (h : Kd.R Kd.bool 34 W base ok (.slice (some ⟨g, 0, none⟩) l.length 64) l) : W.heap[g]? = some (.cells (arrL l) 34 (0, 0)) := by
  obtain ⟨_, inner, ⟨hi, ho⟩, hr⟩ := h
  rcases ho with ⟨e, _⟩ | ⟨g', cap, cur, e, _, hh, _, _, hs, ht⟩
  · cases e
  · injection e with e1 _ e3
    injection e1 with e1
    injection e1 with e1
    subst e1
    subst e3
    rw [hh]
    have hs' : cur.size = 64 := hs
    have e2 : inner = l.map Value.bool := by
      apply List.ext_getElem?
      intro j
      by_cases hj : j < l.length
      · have h1 := hr.2 j l[j] (by simp [hj])
        have h1 : (inner.drop (j * Kd.bool.sz)).take Kd.bool.sz = [.bool l[j]] := h1
        rw [show Kd.bool.sz = 1 from rfl, Nat.mul_one] at h1
        have h2 := congrArg (fun l : List Value => l[0]?) h1
        simp only [List.getElem?_take, List.getElem?_drop] at h2
        simpa [hj] using h2
      · have : inner.length = l.length * 1 := hr.1
        rw [List.getElem?_eq_none (by omega), List.getElem?_eq_none (by simp; omega)]
    have e4 : cur = arrL l := by
      apply Array.toList_inj.1
      have ht' : cur.toList.take (l.length * 1) = inner := ht
      rw [Nat.mul_one, List.take_of_length_le (by simp [hs', hl])] at ht'
      rw [ht', e2]
      rfl
    rw [e4]
end Go.Proofs.Ytpafcbbnjkmhaaa.PLa
