/- LayoutPlaces, as printed, answers true at every input. Helper text. -/
import Derived.Test.YtpafcbbnjkmhaaaLaPlc
import Derived.Test.YtpafcbbnjkmhaaaPLax10
import Derived.Test.YtpafcbbnjkmhaaaLaOne
import Derived.Test.YtpafcbbnjkmhaaaLaRead
namespace Go.Proofs.Ytpafcbbnjkmhaaa.PLa
open Go.RowKit Go.Proofs.Ytpafcbbnjkmhaaa.Kx Go.Proofs.YtpafcbbnjkmhaaaW.PrintWords Go.Proofs.YtpafcbbnjkmhaaaW.PrintLast Go.Proofs.YtpafcbbnjkmhaaaW.PrintMore
set_option linter.unusedVariables false
set_option linter.unusedSimpArgs false

theorem own_l0 : ∀ (d k i : Nat) (x : List S40) (l : List Pt), i + d = l.length → d < k → x.length + d ≤ 100000 → l.length ≤ 100000 → busbarlaw42_Own.l0 k l x (i : Int) = some (x ++ (l.drop i).map cv)
  | 0, k, i, x, l, h, hk, _, _ => by
    obtain ⟨k, rfl⟩ : ∃ m, k = m + 1 := ⟨k - 1, by omega⟩
    rw [busbarlaw42_Own.l0]
    rw [if_neg (by omega), List.drop_eq_nil_of_le (by omega), List.map_nil, List.append_nil]
  | d + 1, k, i, x, l, h, hk, h3, hl => by
    obtain ⟨k, rfl⟩ : ∃ m, k = m + 1 := ⟨k - 1, by omega⟩
    have hi : i < l.length := by omega
    rw [busbarlaw42_Own.l0]
    rw [if_pos (by omega), if_pos (by omega), if_pos (by omega), rd_nat hi, up (by omega), own_l0 d k (i + 1) _ l (by omega) (by omega) (by rw [List.length_append, List.length_singleton]; omega) hl, drop_cons hi, List.map_cons, List.append_assoc]
    rfl
theorem own_f {k : Nat} {l : List Pt} (hk : l.length < k) (hl : l.length ≤ 50000) : busbarlaw42_Own.f k l = some (l.map cv) := by
  unfold busbarlaw42_Own.f
  rw [show (0 : Int) = ((0 : Nat) : Int) from rfl, own_l0 l.length k 0 [] l (by omega) hk (by simp; omega) (by omega)]
  rfl
theorem same_l0 {l : List Pt} (hl : l.length ≤ 100000) : ∀ (d k i : Nat), i + d = l.length → d < k → busbarlaw42_same.l0 k l (l.map cv) (i : Int) = some true
  | 0, k, i, h, hk => by
    obtain ⟨k, rfl⟩ : ∃ m, k = m + 1 := ⟨k - 1, by omega⟩
    rw [busbarlaw42_same.l0]
    rw [if_neg (by omega)]
  | d + 1, k, i, h, hk => by
    obtain ⟨k, rfl⟩ : ∃ m, k = m + 1 := ⟨k - 1, by omega⟩
    have hi : i < l.length := by omega
    have e : rd_T40 (l.map cv) (i : Int) = cv l[i] := by
      rw [rd40_nat (by rw [List.length_map]; exact hi)]
      simp
    rw [busbarlaw42_same.l0]
    rw [if_pos (by omega), if_pos (by omega), if_pos (by rw [List.length_map]; omega), rd_nat hi, e, if_neg (by simp [cv]), up (by omega)]
    exact same_l0 hl d k (i + 1) (by omega) (by omega)
theorem same_f {k : Nat} {l : List Pt} (hk : l.length < k) (hl : l.length ≤ 50000) : busbarlaw42_same.f k l (l.map cv) = some true := by
  unfold busbarlaw42_same.f
  rw [if_pos (by rw [List.length_map])]
  exact same_l0 (by omega) l.length k 0 (by omega) hk
theorem both {a : Int} (ha0 : 1 ≤ a) (ha1 : a ≤ 64) {taken : List Pt} {sizes : List Int} (hs : ∀ s ∈ sizes, 1 ≤ s ∧ s ≤ 8) (hl : sizes.length ≤ 80) (ht : taken.length ≤ 80) : ∀ (d k i : Nat) (l : List Pt), i + d = sizes.length → l.length = i → d + 3000 ≤ k →
    ∃ r : List Pt × Int × Int, layout_Place.l0 k a taken (taken ++ l) sizes (sizes.length : Int) (i : Int) = some r ∧ rpl a (taken.map cv) (l.map cv) (i : Int) (sizes.drop i) = (r.1.map cv, r.2.1, r.2.2) ∧ r.1.length ≤ 80
  | 0, k, i, l, h, hi, hk => by
    obtain ⟨k, rfl⟩ : ∃ m, k = m + 1 := ⟨k - 1, by omega⟩
    rw [List.drop_eq_nil_of_le (by omega), rpl]
    refine ⟨(l, -1, 0), ?_, rfl, by show l.length ≤ 80; omega⟩
    rw [layout_Place.l0]
    rw [if_neg (by omega), if_pos (by rw [List.length_append]; omega), Int.toNat_natCast, List.drop_left]
  | d + 1, k, i, l, h, hi', hk => by
    obtain ⟨k, rfl⟩ : ∃ m, k = m + 1 := ⟨k - 1, by omega⟩
    have hi : i < sizes.length := by omega
    have hsi := hs _ (List.getElem_mem hi)
    have hal : (taken ++ l).length ≤ 160 := by rw [List.length_append]; omega
    have e2 : fnd0 (taken.map cv ++ l.map cv) sizes[i] a = spot sizes[i] a (free (taken ++ l)) := by
      rw [← List.map_append]
      exact fnd_spot (by omega) (by omega) ha0
    rw [List.drop_eq_getElem_cons hi, rpl, e2]
    rw [layout_Place.l0]
    rw [if_pos (by omega), if_pos (by omega), if_pos (by omega), rdi_nat hi, spot_f (by omega) (by omega) ha0 ha1 (by omega) (by omega), Option.bind_some, up (by omega), if_pos (show (taken ++ l).length < 8796093022208 by omega)]
    by_cases c : spot sizes[i] a (free (taken ++ l)) < 0
    · rw [if_pos c, if_pos c]
      exact ⟨([], (i : Int), 15), rfl, rfl, by simp⟩
    · rw [if_neg c, if_neg c, List.append_assoc]
      have := both ha0 ha1 hs hl ht d k (i + 1) (l ++ [⟨spot sizes[i] a (free (taken ++ l)), sizes[i]⟩]) (by omega) (by rw [List.length_append, List.length_singleton, hi']) (by omega)
      rw [List.map_append] at this
      exact this
theorem place_same {a : Int} {taken : List Pt} {sizes : List Int} {k : Nat} (hl : sizes.length ≤ 80) (ht : taken.length ≤ 80) (hk : 10000 ≤ k) :
    ∃ r : List Pt × Int × Int, layout_Place.f k sizes a taken = some r ∧ refP sizes a (taken.map cv) = (r.1.map cv, r.2.1, r.2.2) ∧ r.1.length ≤ 80 := by
  obtain ⟨k, rfl⟩ : ∃ m, k = m + 1 := ⟨k - 1, by omega⟩
  unfold layout_Place.f refP
  by_cases h0 : a < 1
  · rw [if_pos h0, if_pos (.inl h0)]
    rw [layout_Place.j0]
    rw [if_pos rfl]
    exact ⟨_, rfl, rfl, by simp⟩
  · rw [if_neg h0]
    by_cases h1 : a > 64
    · rw [decide_eq_true h1, if_pos (.inr h1)]
      rw [layout_Place.j0]
      rw [if_pos rfl]
      exact ⟨_, rfl, rfl, by simp⟩
    · rw [decide_eq_false h1, if_neg (by omega)]
      rw [layout_Place.j0]
      rw [if_neg (by decide)]
      unfold slices_IndexFunc_int_int.f layout_Part_24.f
      rw [Option.bind_some]
      by_cases hb : badAt sizes ≥ 0
      · rw [if_pos hb, if_pos hb]
        exact ⟨_, rfl, rfl, by simp⟩
      · rw [if_neg hb, if_neg hb, if_pos (by omega), Option.bind_some]
        have := both (a := a) (by omega) (by omega) (badAt_neg (by omega)) hl ht sizes.length k 0 [] (by omega) rfl (by omega)
        rw [List.append_nil] at this
        exact this
/-- LayoutPlaces answers true. -/
theorem places_true (l0 : List Int) (a1 : Int) (l2 : List Pt) : busbarlaw42_LayoutPlaces.f 30000 l0 a1 l2 = some true := by
  obtain ⟨k, hk⟩ : ∃ k, 30000 = k + 1 := ⟨29999, rfl⟩
  rw [hk]
  have j0t : ∀ x1 x2, busbarlaw42_LayoutPlaces.j0 (k + 1) l0 x1 x2 true = some true := fun x1 x2 => by
    rw [busbarlaw42_LayoutPlaces.j0]
    rw [if_pos rfl]
  unfold busbarlaw42_LayoutPlaces.f
  by_cases c1 : (l0.length : Int) > 80
  · rw [if_pos c1]
    exact j0t _ _
  · rw [if_neg c1]
    by_cases c2 : (l2.length : Int) > 80
    · rw [decide_eq_true c2]
      exact j0t _ _
    · rw [decide_eq_false c2]
      rw [busbarlaw42_LayoutPlaces.j0]
      rw [if_neg (by decide)]
      obtain ⟨r, e1, e2, e3⟩ := place_same (a := a1) (taken := l2) (sizes := l0) (k := k) (by omega) (by omega) (by omega)
      have e4 : busbarref42_Place.f l0 a1 (l2.map cv) = some (refP l0 a1 (l2.map cv)) := by
        unfold busbarref42_Place.f
        rw [if_pos ⟨by omega, by rw [List.length_map]; omega⟩]
      rw [e1, Option.bind_some, own_f (by omega) (by omega), Option.bind_some, e4, Option.bind_some, e2]
      dsimp only
      rw [if_pos rfl, if_pos rfl, same_f (by omega) (by omega), Option.bind_some, if_pos rfl, one_f (by omega)]
      rfl
theorem places_row (A0 : Option Addr) (c0 : Nat) (l0 : List Int) (a1 : Int) (l2 : List S41) (A2 : Option Addr) (c2 : Nat) (w : World) (rd0 : RdI w .i64 A0 l0) (_ : wfs .i64 l0) (lc0 : l0.length ≤ c0) (lm0 : c0 ≤ maxLen) (_ : (Lit.int .i64 a1).wf = true)
    (rd2 : RSl 2 RPart w A2 l2) (lc2 : l2.length ≤ c2) (lm2 : c2 ≤ maxLen) (_ : A2 = none → c2 = 0) :
    Calls Try.prog 3 #[.slice A0 l0.length c0, .int .i64 a1, .slice A2 l2.length c2] w fun e w' => e = .returned (.bool true) ∧ Below w.heap.size w w' :=
  busbarlaw42_LayoutPlaces.calls 30000 A0 c0 l0 a1 A2 c2 l2 true w (rdi_C rd0 (Nat.le_trans lc0 lm0)) lc0 (rsl_reads (d := k41) rd2 (fun cs x hx => by rw [show cs = _ from hx]; exact k41_mk w x) (Nat.le_trans lc2 lm2)) lc2 (places_true l0 a1 l2)
end Go.Proofs.Ytpafcbbnjkmhaaa.PLa
