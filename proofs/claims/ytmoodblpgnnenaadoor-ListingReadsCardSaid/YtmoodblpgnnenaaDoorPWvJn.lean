/- strings.Join, in the form of the printed texts. Helper text. -/
import Derived.Test.YtmoodblpgnnenaaDoorPWex0
import Derived.Test.YtmoodblpgnnenaaDoorCbWrd
namespace Go.Proofs.YtmoodblpgnnenaaDoor.PLs
open Go.RowKit Go.Proofs.YtmoodblpgnnenaaDoor.Kx Go.Proofs.YtmoodblpgnnenaaDoorW.PrintWords Go.Proofs.YtmoodblpgnnenaaDoorW.PrintLast Go.Proofs.YtmoodblpgnnenaaDoorW.PrintMore
set_option linter.unusedVariables false
def joinL (xs : List ByteArray) (sep : ByteArray) : List UInt8 := Lib.join (xs.map (·.data.toList)) sep.data.toList
def strings_Join.f (xs : List ByteArray) (sep : ByteArray) : Option ByteArray := if (joinL xs sep).length ≤ 140737488355328 ∧ xs.length ≤ 140737488355328 then some ⟨(joinL xs sep).toArray⟩ else none
theorem str_cell {w : World} {ad : Addr} {n : Nat} {xs : List ByteArray} (h : Kd.C Kd.string w (some ad) n xs) {j : Nat} {x : ByteArray} (hx : xs[j]? = some x) : w.cell? (ad.add j) = some (.string x) := by
  have hj : j < xs.length := (List.getElem?_eq_some_iff.1 hx).1
  have hn := h.1
  obtain ⟨ad', c, e, _, hK, hc⟩ := Kd.C_get h ByteArray.empty (j : Int) (by omega) (by omega)
  obtain rfl := Option.some.inj e
  rw [Int.toNat_natCast] at hK hc
  have h2 : c = [.string x] := by
    have h3 : xs.getD j ByteArray.empty = x := by rw [List.getD_eq_getElem?_getD, hx]; rfl
    rw [h3] at hK
    exact hK
  have h0 := hc 0 (.string x) (by rw [h2]; rfl)
  rw [show j * Kd.string.sz + 0 = j from by show j * 1 + 0 = j; omega] at h0
  exact h0
theorem addr_plain {w : World} {ad : Addr} {x : Value} (h : w.cell? ad = some x) : ∃ b o, ad = ⟨b, o, none⟩ := by
  obtain ⟨b, o, s⟩ := ad
  cases s with
  | none => exact ⟨b, o, rfl⟩
  | some s => simp only [World.cell?] at h; split at h <;> simp at h
theorem strings_Join.calls (A : Option Addr) (c : Nat) (xs : List ByteArray) (sep : ByteArray) (r : ByteArray) (w : World) (hr0 : Kd.C Kd.string w A xs.length xs) (hc0 : xs.length ≤ c) (h : strings_Join.f xs sep = some r) :
    Calls Tryd.prog 40 #[.slice A xs.length c, .string sep] w fun e w' => e = .returned (.string r) ∧ Below w.heap.size w w' := by
  unfold strings_Join.f at h
  by_cases hl : (joinL xs sep).length ≤ 140737488355328 ∧ xs.length ≤ 140737488355328
  · rw [if_pos hl] at h
    obtain rfl := Option.some.inj h
    rcases Nat.eq_zero_or_pos xs.length with h0 | h0
    · obtain rfl : xs = [] := List.eq_nil_of_length_eq_zero h0
      refine (Tryd.strings_Join_none A c sep w).mono ?_
      rintro e w' ⟨rfl, rfl⟩
      exact ⟨rfl, Below.refl _ _⟩
    · obtain ⟨ad, hA, _⟩ := hr0.2.2 h0
      subst hA
      have hx0 : xs[0]? = some xs[0] := List.getElem?_eq_getElem h0
      have c0 := str_cell hr0 hx0
      rw [show ad.add 0 = ad by unfold Addr.add; simp] at c0
      obtain ⟨b, o, rfl⟩ := addr_plain c0
      exact Tryd.strings_Join b o c xs sep w (fun j x hx => by rw [← Addr.add_lit]; exact str_cell hr0 hx) (World.block_lt_of_cell? w _ c0) hl.2 hc0 hl.1
  · rw [if_neg hl] at h
    cases h
end Go.Proofs.YtmoodblpgnnenaaDoor.PLs
