/- strings.Split at one byte: pieces. Helper text. -/
import Derived.Test.YtmoodblpgnnenaaDoorLsTk
import Derived.Test.YtmoodblpgnnenaaDoorShelf
namespace Go.Proofs.YtmoodblpgnnenaaDoor.PLs
open Go.RowKit Go.Proofs.YtmoodblpgnnenaaDoor.Kx Go.Proofs.YtmoodblpgnnenaaDoor.PWe Go.Proofs.YtmoodblpgnnenaaDoorW.PrintWords Go.Proofs.YtmoodblpgnnenaaDoorW.PrintLast Go.Proofs.YtmoodblpgnnenaaDoorW.PrintMore
set_option linter.unusedVariables false
set_option linter.unusedSimpArgs false
theorem index_hd (c : UInt8) (r : List UInt8) : Lib.index (c :: r) [c] = 0 := by rw [Lib.index]; simp [List.isPrefixOf]
theorem index_tl {b c : UInt8} (h : b ≠ c) (r : List UInt8) : Lib.index (b :: r) [c] = if Lib.index r [c] == -1 then -1 else Lib.index r [c] + 1 := by
  have hp : ([c] : List UInt8).isPrefixOf (b :: r) = false := by simp [List.isPrefixOf, Ne.symm h]
  rw [Lib.index, hp]; simp
theorem index_count (c : UInt8) : ∀ l : List UInt8, Lib.index l [c] = -1 → l.count c = 0
  | [], _ => rfl
  | b :: r, h => by
    by_cases hb : b = c
    · rw [hb, index_hd] at h; cases h
    · rw [index_tl hb] at h
      rw [List.count_cons_of_ne hb]
      apply index_count c r
      by_cases h2 : Lib.index r [c] = -1
      · exact h2
      · rw [if_neg (by simpa using h2)] at h
        have := Lib.index_ge r [c]
        omega
theorem splitK_spl (c : UInt8) : ∀ (l : List UInt8) (k : Nat), l.count c = k → Lib.splitK [c] 0 k l = spl c l
  | [], k, h => by
    obtain rfl : 0 = k := h
    rfl
  | b :: r, k, h => by
    by_cases hb : b = c
    · subst hb
      rw [List.count_cons_self] at h
      obtain ⟨k, rfl⟩ : ∃ j, k = j + 1 := ⟨k - 1, by omega⟩
      rw [Lib.splitK, index_hd, if_neg (by decide), spl, if_pos rfl]
      have e : List.drop ((0 : Int).toNat + [b].length) (b :: r) = r := rfl
      rw [e, splitK_spl b r k (by omega)]
      rfl
    · rw [List.count_cons_of_ne hb] at h
      have ih := splitK_spl c r k h
      rw [spl, if_neg hb, ← ih]
      cases k with
      | zero => rfl
      | succ k =>
        have hn : Lib.index r [c] ≠ -1 := fun e => by have := index_count c r e; omega
        have hg := Lib.index_ge r [c]
        obtain ⟨i, hi⟩ : ∃ i : Nat, Lib.index r [c] = (i : Int) := ⟨(Lib.index r [c]).toNat, by omega⟩
        have hi2 : Lib.index (b :: r) [c] = ((i + 1 : Nat) : Int) := by rw [index_tl hb, if_neg (by simpa using hn), hi]; rfl
        have b1 : ((i : Int) == -1) = false := beq_eq_false_iff_ne.2 (by omega)
        have b2 : (((i + 1 : Nat) : Int) == -1) = false := beq_eq_false_iff_ne.2 (by omega)
        rw [Lib.splitK, Lib.splitK, hi, hi2, b1, b2]
        rfl
theorem pieces_spl (s : ByteArray) (c : UInt8) : (Lib.splitB ⟨#[c]⟩ 0 (Lib.countB s ⟨#[c]⟩) s) = (spl c s.data.toList).map strB := by
  have h := Lib.splitB_data ⟨#[c]⟩ 0 (Lib.countB s ⟨#[c]⟩) s
  have e1 : (⟨#[c]⟩ : ByteArray).data.toList = [c] := rfl
  have e2 : Lib.countB s ⟨#[c]⟩ = s.data.toList.count c := by
    rw [← Lib.count_one]
  rw [e1, splitK_spl c _ _ e2.symm] at h
  have h2 := congrArg (List.map strB) h
  rw [List.map_map] at h2
  rw [← h2]
  conv => lhs; rw [← List.map_id (Lib.splitB ⟨#[c]⟩ 0 (Lib.countB s ⟨#[c]⟩) s)]
  apply List.map_congr_left
  intro x _
  exact (strB_of x).symm
theorem split_new (s : ByteArray) (c : UInt8) (m : Int) (w : World) (hs : s.size < 4294967281) (hm : w.cell? ⟨0, 0, none⟩ = some (.int .i64 m)) :
    Calls Tryd.prog 31 #[.string s, .string ⟨#[c]⟩] w fun e w' => ∃ g, e = .returned (.slice (some ⟨g, 0, none⟩) (spl c s.data.toList).length (spl c s.data.toList).length) ∧ w.heap.size ≤ g ∧ w'.heap[g]? = some (.cells ((spl c s.data.toList).map fun p => Value.string (strB p)).toArray 9 (0, 0)) ∧ Below w.heap.size w w' := by
  refine (Tryd.strings_Split s ⟨#[c]⟩ m w hs hm (Nat.le_refl 1)).mono ?_
  rintro e w' ⟨rfl, rfl⟩
  have hp := pieces_spl s c
  have hl : Lib.countB s ⟨#[c]⟩ + 1 = (spl c s.data.toList).length := by rw [spl_len, ← Lib.count_one]
  rw [hl, hp, List.map_map]
  exact ⟨_, rfl, Nat.le_refl _, blk_new w _, below_alloc (Below.refl _ _) _⟩
theorem pcR_block {W : World} {g : Nat} {fz : Nat × Nat} {l : List (List UInt8)} (h : W.heap[g]? = some (.cells (l.map fun p => Value.string (strB p)).toArray 9 fz)) : PcR W (some ⟨g, 0, none⟩) l :=
  .inr ⟨g, 0, _, fz, rfl, h, fun j p hj => by
    rw [Nat.zero_add, List.getElem?_toArray, List.getElem?_map, hj]; rfl⟩
end Go.Proofs.YtmoodblpgnnenaaDoor.PLs
