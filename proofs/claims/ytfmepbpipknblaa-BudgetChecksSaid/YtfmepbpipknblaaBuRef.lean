/- The reference's functions on slips, in plain words: each loop by induction. Helper text. -/
import Derived.Test.YtfmepbpipknblaaBuStep
import Derived.Test.YtfmepbpipknblaaPBux5
import Derived.Test.YtfmepbpipknblaaPBux6
namespace Go.Proofs.Ytfmepbpipknblaa.PBu
open Go.RowKit Go.Proofs.YtfmepbpipknblaaW.PrintWords Go.Proofs.YtfmepbpipknblaaW.PrintLast Go.Proofs.YtfmepbpipknblaaW.PrintMore
set_option linter.unusedVariables false
set_option linter.unusedSimpArgs false

theorem wrap_up (i n : Nat) (h : i < n) (hn : n ≤ 1000) : wrap64 ((i : Int) + 1) = ((i + 1 : Nat) : Int) := by unfold wrap64; omega
def cv (s : S40) : S37 := ⟨s.f0, s.f1, s.f2, s.f3⟩
def own (l : List S40) : List S37 := l.map cv
theorem own_len (l : List S40) : (own l).length = l.length := by simp [own]
theorem rd40 (l : List S40) (i : Nat) (h : i < l.length) : rd_T40 l (i : Int) = l[i] := by simp [rd_T40, List.getD_eq_getElem?_getD, List.getElem?_eq_getElem h]
theorem rd37 (l : List S37) (i : Nat) (h : i < l.length) : rd_T37 l (i : Int) = l[i] := by simp [rd_T37, List.getD_eq_getElem?_getD, List.getElem?_eq_getElem h]
theorem own_drop (l : List S40) (i : Nat) (h : i < l.length) : own (l.drop i) = cv l[i] :: own (l.drop (i + 1)) := by rw [List.drop_eq_getElem_cons h]; rfl
theorem own_loop (l : List S40) (hn : l.length ≤ 1000) : ∀ (d i k : Nat) (acc : List S37), i + d = l.length → d < k → acc.length ≤ i → busbarlaw21_Own.l0 k l acc (i : Int) = some (acc ++ own (l.drop i)) := by
  intro d
  induction d with
  | zero =>
    intro i k acc hi hk ha
    obtain ⟨k, rfl⟩ : ∃ m, k = m + 1 := ⟨k - 1, by omega⟩
    simp only [busbarlaw21_Own.l0]
    rw [if_neg (by omega), List.drop_eq_nil_of_le (by omega)]
    simp [own]
  | succ d ih =>
    intro i k acc hi hk ha
    obtain ⟨k, rfl⟩ : ∃ m, k = m + 1 := ⟨k - 1, by omega⟩
    simp only [busbarlaw21_Own.l0]
    rw [if_pos (by omega), if_pos (by omega), if_pos (by omega), wrap_up i l.length (by omega) hn, ih (i + 1) k _ (by omega) (by omega) (by simp; omega)]
    rw [own_drop l i (by omega), rd40 l i (by omega), List.append_assoc]
    rfl
theorem own_is (l : List S40) (hn : l.length ≤ 1000) (k : Nat) (hk : 1001 ≤ k) : busbarlaw21_Own.f k l = some (own l) := by
  unfold busbarlaw21_Own.f
  have := own_loop l hn l.length 0 k [] (by omega) (by omega) (by simp)
  simpa using this
/-- Is one of some slips too near? -/
def nr (s x : S37) : Bool := x.f0 == s.f0 && (x.f1 == s.f1) && nearP s.f2 x.f2
theorem nearP_iff (t u : Int) : nearP t u = (decide (wrap64 (u - t) < 4400) && decide (wrap64 (t - u) < 4400)) := by
  unfold nearP
  rw [Bool.eq_iff_iff]
  simp only [decide_eq_true_eq, Bool.and_eq_true]
  split <;> omega
theorem near_loop (l : List S37) (s : S37) (hn : l.length ≤ 1000) : ∀ (d i k : Nat), i + d = l.length → 2 * d < k → busbarref21_Near.l0 k l (i : Int) s.f0 s.f1 s.f2 s.f3 = some ((l.drop i).any (nr s)) := by
  intro d
  induction d with
  | zero =>
    intro i k hi hk
    obtain ⟨k, rfl⟩ : ∃ m, k = m + 1 := ⟨k - 1, by omega⟩
    simp only [busbarref21_Near.l0]
    rw [if_neg (by omega), List.drop_eq_nil_of_le (by omega)]
    rfl
  | succ d ih =>
    intro i k hi hk
    obtain ⟨k, rfl⟩ : ∃ m, k = m + 2 := ⟨k - 2, by omega⟩
    have hr := ih (i + 1) k (by omega) (by omega)
    have hi' : i < l.length := by omega
    simp only [busbarref21_Near.l0]
    rw [if_pos (by omega), if_pos (by omega), rd37 l i hi', List.drop_eq_getElem_cons hi', List.any_cons]
    have j1 : ∀ b : Bool, busbarref21_Near.j1 (k + 1) l (i : Int) b s.f0 s.f1 s.f2 s.f3 = some (b || (l.drop (i + 1)).any (nr s)) := fun b => by
      simp only [busbarref21_Near.j1]
      cases b
      · rw [if_neg (by decide), wrap_up i l.length (by omega) hn, hr]
        rfl
      · rw [if_pos rfl]
        rfl
    have hnr : nr s l[i] = ((l[i]).f0 == s.f0 && ((l[i]).f1 == s.f1) && (decide (wrap64 ((l[i]).f2 - s.f2) < 4400) && decide (wrap64 (s.f2 - (l[i]).f2) < 4400))) := by unfold nr; rw [nearP_iff]
    rw [hnr]
    split
    · rename_i e0
      split
      · rename_i e1
        split
        · rename_i e2
          rw [j1]
          simp [e0, e1, e2]
        · rename_i e2
          rw [j1]
          simp [e0, e1, e2]
      · rename_i e1
        rw [j1]
        simp [e0, e1]
    · rename_i e0
      rw [j1]
      simp [e0]
theorem near_is (l : List S37) (s : S37) (hn : l.length ≤ 1000) (k : Nat) (hk : 2001 ≤ k) : busbarref21_Near.f k l s.f0 s.f1 s.f2 s.f3 = some (l.any (nr s)) := by
  unfold busbarref21_Near.f
  have := near_loop l s hn l.length 0 k (by omega) (by omega)
  simpa using this
theorem near_own (acc : List S40) (s : S40) : (own acc).any (nr (cv s)) = nearB acc s := by
  unfold nearB grp own
  induction acc with
  | nil => rfl
  | cons a r ih =>
    rw [List.map_cons, List.any_cons, ih, List.filter_cons]
    unfold nr cv
    by_cases h : (a.f0 == s.f0 && a.f1 == s.f1) = true
    · simp [h]
    · simp [h]
theorem rmay_is (s : S37) (m : Int) : busbarref21_May.f s.f0 s.f1 s.f2 s.f3 m = some (mayB ⟨s.f0, s.f1, s.f2, s.f3⟩ m) := may_is ⟨s.f0, s.f1, s.f2, s.f3⟩ m
theorem check_loop (l : List S40) (m : Int) (hn : l.length ≤ 1000) : ∀ (d i k : Nat), i + d = l.length → d + 2001 < k → busbarref21_Check.l0 k (own l) m (i : Int) = some (chk m (l.take i) (l.drop i)) := by
  intro d
  induction d with
  | zero =>
    intro i k hi hk
    obtain ⟨k, rfl⟩ : ∃ q, k = q + 1 := ⟨k - 1, by omega⟩
    simp only [busbarref21_Check.l0]
    rw [if_neg (by rw [own_len]; omega), List.drop_eq_nil_of_le (by omega)]
    rfl
  | succ d ih =>
    intro i k hi hk
    obtain ⟨k, rfl⟩ : ∃ q, k = q + 1 := ⟨k - 1, by omega⟩
    have hi' : i < l.length := by omega
    have hs : rd_T37 (own l) (i : Int) = cv l[i] := by rw [rd37 _ i (by rw [own_len]; exact hi')]; simp [own]
    have ht : (own l).take ((i : Int)).toNat = own (l.take i) := by simp [own]
    simp only [busbarref21_Check.l0]
    rw [if_pos (by rw [own_len]; omega), if_pos (by omega), hs, rmay_is, Option.bind_some, List.drop_eq_getElem_cons hi', chk]
    have hm : mayB ⟨(cv l[i]).f0, (cv l[i]).f1, (cv l[i]).f2, (cv l[i]).f3⟩ m = mayB l[i] m := rfl
    rw [hm]
    split
    · rw [if_pos (by rw [own_len]; omega), ht, near_is (own (l.take i)) (cv l[i]) (by rw [own_len, List.length_take]; omega) k (by omega), Option.bind_some, near_own]
      split
      · rfl
      · rw [wrap_up i l.length (by omega) hn, ih (i + 1) k (by omega) (by omega), List.take_succ_eq_append_getElem hi']
    · rfl
theorem check_is (l : List S40) (m : Int) (hn : l.length ≤ 1000) (k : Nat) (hk : 3003 ≤ k) : busbarref21_Check.f k (own l) m = some (chk m [] l) := by
  unfold busbarref21_Check.f
  have := check_loop l m hn l.length 0 k (by omega) (by omega)
  simpa using this
theorem fit_loop (l : List S40) (m : Int) (hn : l.length ≤ 1000) : ∀ (d i k : Nat) (acc : List S40), i + d = l.length → d + 2001 < k → acc.length ≤ i → busbarref21_Fit.l0 k (own l) m (own acc) (i : Int) = some (own (fits m acc (l.drop i))) := by
  intro d
  induction d with
  | zero =>
    intro i k acc hi hk ha
    obtain ⟨k, rfl⟩ : ∃ q, k = q + 1 := ⟨k - 1, by omega⟩
    simp only [busbarref21_Fit.l0]
    rw [if_neg (by rw [own_len]; omega), List.drop_eq_nil_of_le (by omega)]
    rfl
  | succ d ih =>
    intro i k acc hi hk ha
    obtain ⟨k, rfl⟩ : ∃ q, k = q + 1 := ⟨k - 1, by omega⟩
    have hi' : i < l.length := by omega
    have hs : rd_T37 (own l) (i : Int) = cv l[i] := by rw [rd37 _ i (by rw [own_len]; exact hi')]; simp [own]
    have hm : mayB ⟨(cv l[i]).f0, (cv l[i]).f1, (cv l[i]).f2, (cv l[i]).f3⟩ m = mayB l[i] m := rfl
    have hsn : own acc ++ [(⟨(cv l[i]).f0, (cv l[i]).f1, (cv l[i]).f2, (cv l[i]).f3⟩ : S37)] = own (acc ++ [l[i]]) := by simp [own, cv]
    simp only [busbarref21_Fit.l0]
    rw [if_pos (by rw [own_len]; omega), if_pos (by omega), hs, rmay_is, Option.bind_some, List.drop_eq_getElem_cons hi', fits, hm, near_is (own acc) (cv l[i]) (by rw [own_len]; omega) k (by omega), Option.bind_some, near_own, wrap_up i l.length (by omega) hn, hsn]
    by_cases h1 : mayB l[i] m = true
    · rw [if_pos h1]
      by_cases h2 : nearB acc l[i] = true
      · rw [if_pos h2, if_neg (by simp [h2]), ih (i + 1) k acc (by omega) (by omega) (by omega)]
      · rw [if_neg h2, if_pos (by rw [own_len]; omega), if_pos ⟨h1, by simpa using h2⟩, ih (i + 1) k _ (by omega) (by omega) (by simp; omega)]
    · rw [if_neg h1, if_neg (by simp [h1]), ih (i + 1) k acc (by omega) (by omega) (by omega)]
theorem fit_is (l : List S40) (m : Int) (hn : l.length ≤ 1000) (k : Nat) (hk : 3003 ≤ k) : busbarref21_Fit.f k (own l) m = some (own (fits m [] l)) := by
  unfold busbarref21_Fit.f
  have := fit_loop l m hn l.length 0 k [] (by omega) (by omega) (by simp)
  simpa [own] using this
theorem fits_len (m : Int) : ∀ (r acc : List S40), (fits m acc r).length ≤ acc.length + r.length
  | [], acc => by simp [fits]
  | s :: r, acc => by
    rw [fits]
    split
    · have := fits_len m r (acc ++ [s])
      simp at this ⊢
      omega
    · have := fits_len m r acc
      simp
      omega
end Go.Proofs.Ytfmepbpipknblaa.PBu
