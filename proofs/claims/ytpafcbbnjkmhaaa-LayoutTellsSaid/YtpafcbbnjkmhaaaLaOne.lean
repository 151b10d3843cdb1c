/- Places of parts: apart, placed, and the two that are placed. Helper text. -/
import Derived.Test.YtpafcbbnjkmhaaaLaUp
namespace Go.Proofs.Ytpafcbbnjkmhaaa.PLa
open Go.RowKit Go.Proofs.YtpafcbbnjkmhaaaW.PrintWords Go.Proofs.YtpafcbbnjkmhaaaW.PrintLast Go.Proofs.YtpafcbbnjkmhaaaW.PrintMore
set_option linter.unusedVariables false
set_option linter.unusedSimpArgs false

theorem over_l1 {l : List Pt} {i : Nat} (hi : i < l.length) (hl : l.length ≤ 100000) : ∀ (d m j : Nat), j + d = l.length → (∀ q ∈ l.drop j, ¬ meets l[i] q) →
    layout_Over.l1 (m + d + 1) l [] (i : Int) (j : Int) l (l.length : Int) (i : Int) l[i].f0 l[i].f1 = layout_Over.l0 m l [] l (l.length : Int) ((i + 1 : Nat) : Int)
  | 0, m, j, h, _ => by
    simp only [Nat.add_zero, layout_Over.l1]
    rw [if_neg (by omega), up (by omega)]
  | d + 1, m, j, h, hq => by
    have hj : j < l.length := by omega
    rw [show m + (d + 1) + 1 = (m + d + 1) + 1 by omega]
    simp only [layout_Over.l1]
    rw [if_pos (by omega), if_pos (by omega), rd_nat hj, meets_no (hq _ (by rw [drop_cons hj]; exact List.mem_cons_self)), Option.bind_some, if_neg (by decide), up (by omega)]
    have := over_l1 hi hl d m (j + 1) (by omega) (fun q hm => hq q (by rw [drop_cons hj]; exact List.mem_cons_of_mem _ hm))
    exact this
theorem over_l0 {l : List Pt} (hp : l.Pairwise fun a b => ¬ meets a b) (hl : l.length ≤ 100000) : ∀ (d k i : Nat), i + d = l.length → (d + 1) * (l.length + 2) ≤ k → layout_Over.l0 k l [] l (l.length : Int) (i : Int) = some []
  | 0, k, i, h, hk => by
    obtain ⟨k, rfl⟩ : ∃ m, k = m + 1 := ⟨k - 1, by omega⟩
    simp only [layout_Over.l0]
    rw [if_neg (by omega)]
  | d + 1, k, i, h, hk => by
    have e : (d + 1 + 1) * (l.length + 2) = (d + 1) * (l.length + 2) + (l.length + 2) := Nat.succ_mul _ _
    have ih := over_l0 hp hl d (k - 2 - d) (i + 1) (by omega) (by omega)
    have hi : i < l.length := by omega
    obtain ⟨m, rfl⟩ : ∃ m, k = (m + d + 1) + 1 := ⟨k - 2 - d, by omega⟩
    rw [show m + d + 1 + 1 - 2 - d = m by omega] at ih
    rw [layout_Over.l0]
    rw [if_pos (by omega), if_pos (by omega), if_pos (by omega), rd_nat hi, up (by omega), over_l1 hi hl d m (i + 1) (by omega) (fun q hq => ?_)]
    · exact ih
    · have h2 := List.Pairwise.sublist (List.drop_sublist i l) hp
      rw [drop_cons hi] at h2
      exact (List.pairwise_cons.1 h2).1 q hq
theorem apart_f {k : Nat} {l : List Pt} (hr : ∀ p ∈ l, rt p) (hp : l.Pairwise fun a b => ¬ meets a b) (hk : (l.length + 1) * (l.length + 2) ≤ k) (hl : l.length ≤ 50000) : layout_Apart.f k l = some true := by
  have hk2 : l.length < k := by
    have : (l.length + 1) * (l.length + 2) = l.length * (l.length + 2) + (l.length + 2) := Nat.succ_mul _ _
    omega
  have e : (rgt l).length = l.length := by
    rw [(rgt_is l).1.length_eq, List.filter_eq_self.2 fun p h => decide_eq_true (hr p h)]
  unfold layout_Apart.f
  rw [right_is hk2 (by omega), Option.bind_some, if_pos (by rw [e])]
  unfold layout_Over.f
  have := over_l0 hp (by omega) l.length k 0 (by omega) hk
  rw [show (0 : Int) = ((0 : Nat) : Int) from rfl, this, Option.bind_some]
  rfl
theorem rdi_nat {l : List Int} {i : Nat} (h : i < l.length) : rd l (i : Int) = l[i] := by
  unfold rd
  rw [Int.toNat_natCast, List.getD_eq_getElem?_getD, List.getElem?_eq_getElem h]
  rfl
theorem place_l0 {a : Int} (ha0 : 1 ≤ a) (ha1 : a ≤ 64) {taken : List Pt} {sizes : List Int} (hs : ∀ s ∈ sizes, 1 ≤ s ∧ s ≤ 8) (hl : sizes.length ≤ 1000) : ∀ (d k i : Nat) (x : List Pt), i + d = sizes.length → x.length + d ≤ 1000 → d + 3000 ≤ k →
    (∀ out, pl a x (sizes.drop i) = some out → taken.length ≤ out.length → layout_Place.l0 k a taken x sizes (sizes.length : Int) (i : Int) = some (out.drop taken.length, (-1), 0)) ∧
    (pl a x (sizes.drop i) = none → ∃ j : Int, 0 ≤ j ∧ layout_Place.l0 k a taken x sizes (sizes.length : Int) (i : Int) = some ([], j, 15))
  | 0, k, i, x, h, hx, hk => by
    obtain ⟨k, rfl⟩ : ∃ m, k = m + 1 := ⟨k - 1, by omega⟩
    rw [List.drop_eq_nil_of_le (by omega), pl]
    refine ⟨fun out ho ht => ?_, fun ho => by cases ho⟩
    obtain rfl := Option.some.inj ho
    simp only [layout_Place.l0]
    rw [if_neg (by omega), if_pos (by omega), Int.toNat_natCast]
  | d + 1, k, i, x, h, hx, hk => by
    obtain ⟨k, rfl⟩ : ∃ m, k = m + 1 := ⟨k - 1, by omega⟩
    have hi : i < sizes.length := by omega
    have hsi := hs _ (List.getElem_mem hi)
    have e : layout_Place.l0 (k + 1) a taken x sizes (sizes.length : Int) (i : Int) = if spot sizes[i] a (free x) < 0 then some (([] : List Pt), (i : Int), 15) else layout_Place.l0 k a taken (x ++ [⟨spot sizes[i] a (free x), sizes[i]⟩]) sizes (sizes.length : Int) ((i + 1 : Nat) : Int) := by
      rw [layout_Place.l0]
      rw [if_pos (by omega), if_pos (by omega), if_pos (by omega), rdi_nat hi, spot_f (by omega) (by omega) ha0 ha1 (by omega) (by omega), Option.bind_some, up (by omega), if_pos (show x.length < 8796093022208 by omega)]
    rw [e, List.drop_eq_getElem_cons hi, pl]
    by_cases c : spot sizes[i] a (free x) < 0
    · rw [if_pos c, if_pos c]
      exact ⟨fun out ho => (by cases ho), fun _ => ⟨(i : Int), by omega, rfl⟩⟩
    · rw [if_neg c, if_neg c]
      exact place_l0 ha0 ha1 hs hl d k (i + 1) _ (by omega) (by rw [List.length_append, List.length_singleton]; omega) (by omega)
theorem place_ok {a : Int} (ha0 : 1 ≤ a) (ha1 : a ≤ 64) {taken l : List Pt} {sizes : List Int} {k : Nat} (hb : badAt sizes < 0) (hl : sizes.length ≤ 80) (ht : taken.length ≤ 40) (hk : 10000 ≤ k) (h : pl a taken sizes = some (taken ++ l)) : layout_Place.f k sizes a taken = some (l, (-1), 0) := by
  obtain ⟨k, rfl⟩ : ∃ m, k = m + 1 := ⟨k - 1, by omega⟩
  unfold layout_Place.f
  rw [if_neg (by omega), decide_eq_false (by omega)]
  simp only [layout_Place.j0]
  rw [if_neg (by decide)]
  unfold slices_IndexFunc_int_int.f layout_Part_24.f
  rw [Option.bind_some, if_neg (by omega), if_pos (by omega), Option.bind_some, show (0 : Int) = ((0 : Nat) : Int) from rfl]
  rw [(place_l0 ha0 ha1 (badAt_neg hb) (by omega) sizes.length k 0 taken (by omega) (by omega) (by omega)).1 (taken ++ l) h (by rw [List.length_append]; omega), List.drop_left]
  rfl
theorem place_cases {a : Int} {taken : List Pt} {sizes : List Int} {k : Nat} (hl : sizes.length ≤ 80) (ht : taken.length ≤ 40) (hk : 10000 ≤ k) :
    layout_Place.f k sizes a taken = some ([], (-1), 2) ∨ (∃ j e : Int, 0 ≤ j ∧ e ≠ 0 ∧ e ≠ 2 ∧ layout_Place.f k sizes a taken = some ([], j, e)) ∨
      (∃ l, layout_Place.f k sizes a taken = some (l, (-1), 0) ∧ l.map (·.f1) = sizes ∧ (∀ p ∈ l, rt p ∧ p.f0 % a = 0) ∧ l.Pairwise (fun a b => ¬ meets a b) ∧ (∀ p ∈ l, ∀ q ∈ taken, ¬ meets p q) ∧ 1 ≤ a) := by
  by_cases h0 : a < 1
  · obtain ⟨k, rfl⟩ : ∃ m, k = m + 1 := ⟨k - 1, by omega⟩
    left
    unfold layout_Place.f
    rw [if_pos h0]
    simp only [layout_Place.j0]
    rw [if_pos trivial]
  · by_cases h1 : a > 64
    · obtain ⟨k, rfl⟩ : ∃ m, k = m + 1 := ⟨k - 1, by omega⟩
      left
      unfold layout_Place.f
      rw [if_neg h0, decide_eq_true h1]
      simp only [layout_Place.j0]
      rw [if_pos trivial]
    · right
      by_cases hb : badAt sizes < 0
      · cases hp : pl a taken sizes with
        | some out =>
          right
          obtain ⟨l, rfl, e1, e2, e3, e4⟩ := pl_is (by omega) sizes taken out (fun s h => by have := badAt_neg hb s h; omega) hp
          exact ⟨l, place_ok (by omega) (by omega) hb hl ht hk hp, e1, e2, e3, e4, by omega⟩
        | none =>
          left
          obtain ⟨k, rfl⟩ : ∃ m, k = m + 1 := ⟨k - 1, by omega⟩
          obtain ⟨j, hj, e⟩ := (place_l0 (a := a) (by omega) (by omega) (taken := taken) (badAt_neg hb) (by omega) sizes.length k 0 taken (by omega) (by omega) (by omega)).2 hp
          refine ⟨j, 15, hj, by decide, by decide, ?_⟩
          unfold layout_Place.f
          rw [if_neg h0, decide_eq_false h1]
          simp only [layout_Place.j0]
          rw [if_neg (by decide)]
          unfold slices_IndexFunc_int_int.f layout_Part_24.f
          rw [Option.bind_some, if_neg (by omega), if_pos (by omega), Option.bind_some]
          exact e
      · left
        obtain ⟨k, rfl⟩ : ∃ m, k = m + 1 := ⟨k - 1, by omega⟩
        refine ⟨badAt sizes, 3, by omega, by decide, by decide, ?_⟩
        unfold layout_Place.f
        rw [if_neg h0, decide_eq_false h1]
        simp only [layout_Place.j0]
        rw [if_neg (by decide)]
        unfold slices_IndexFunc_int_int.f
        rw [Option.bind_some, if_pos (by omega)]
def two : List Pt := [⟨0, 3⟩, ⟨4, 2⟩]
theorem two_pl : pl 4 [] [3, 2] = some ([] ++ two) := by kernel_rfl
theorem two_rt : ∀ p ∈ two, rt p := by decide
theorem one_f {k : Nat} (hk : 10000 ≤ k) : busbarlaw42_one.f k = some true := by
  have ha : layout_Apart.f k two = some true := apart_f two_rt (by
    unfold two
    refine List.pairwise_cons.2 ⟨fun q hq => ?_, List.pairwise_singleton _ _⟩
    rw [List.mem_singleton.1 hq]
    rintro ⟨_, _, _, h⟩
    simp at h) (by unfold two; simp; omega) (by unfold two; simp)
  have hu : layout_Used.f k two = some 5 := by
    rw [used_f (by unfold two; simp; omega) (by unfold two; simp)]
    kernel_rfl
  have hf : layout_Free.f k two = some (free two) := free_f (by unfold two; simp; omega) (by unfold two; simp)
  have hf2 : (free two).length = 2 := by kernel_rfl
  unfold busbarlaw42_one.f
  rw [place_ok (by decide) (by decide) (by decide) (by decide) (by decide) hk two_pl, Option.bind_some]
  dsimp only
  rw [if_pos (by rfl), if_pos (by rfl), if_pos (by rfl), if_pos (by decide), if_pos (by decide), ha, Option.bind_some, if_pos (by rfl), hu, Option.bind_some, if_pos (by rfl), hf, Option.bind_some, hf2]
  rfl
end Go.Proofs.Ytpafcbbnjkmhaaa.PLa
