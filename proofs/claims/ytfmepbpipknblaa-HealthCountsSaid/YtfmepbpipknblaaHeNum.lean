/- Health: digits, names, numbers, as contracts. Helper text. -/
import Derived.Test.YtfmepbpipknblaaDgLine
import Derived.BigRegion
namespace Go.Proofs.Ytfmepbpipknblaa.He
open Go.RowKit Go.Proofs.Ytfmepbpipknblaa.Kx Go.Proofs.Ytfmepbpipknblaa.Dc
set_option linter.unusedVariables false
set_option linter.unusedSimpArgs false

set_option maxRecDepth 100000 in
theorem digits_small (n : Nat) (hn : n < 10) (w : World) : Calls Try.prog 80 #[.int .i64 n] w fun e w' => e = .returned (.string ⟨(dec n).toArray⟩) ∧ Below w.heap.size w w' := by
  have hv : strOfNums [48 + (n : Int)] = ⟨(dec n).toArray⟩ := by
    rw [dec_small n hn]
    unfold strOfNums
    rw [show [48 + (n : Int)] = [((48 + n : Nat) : Int)] from by simp]
    rfl
  have HV := hid hv
  clear hv
  have h1 : (n : Int) < 10 := by omega
  have kc := one_byte w (48 + (n : Int))
  go_enter Try.func80, Try.ntmps80
  go_wp2_with fail
  go_ret
  exact ⟨by rw [← HV.out]; rfl, (Below.refl _ _).alloc (Nat.le_refl _) _⟩
theorem digits_big (n m k : Nat) (hn : ¬ n < 10) (h9 : (n : Int) ≤ 9223372036854775807) (hm : n / 10 = m) (hk : n % 10 = k) (w : World)
    (h1 : ∀ w, Calls Try.prog 80 #[.int .i64 m] w fun e w' => e = .returned (.string ⟨(dec m).toArray⟩) ∧ Below w.heap.size w w')
    (h2 : ∀ w, Calls Try.prog 80 #[.int .i64 k] w fun e w' => e = .returned (.string ⟨(dec k).toArray⟩) ∧ Below w.heap.size w w') :
    Calls Try.prog 80 #[.int .i64 n] w fun e w' => e = .returned (.string ⟨(dec n).toArray⟩) ∧ Below w.heap.size w w' := by
  have H1 := hid h1
  have H2 := hid h2
  have hd : (n : Int) / 10 = (m : Int) := by omega
  have hr : (n : Int) % 10 = (k : Int) := by omega
  have hlt : ¬ (n : Int) < 10 := by omega
  have hl : (dec m).length + (dec k).length ≤ 9223372036854775807 := by
    have a := dec_len20 m (by omega)
    have b := dec_len20 k (by omega)
    omega
  have hv : (⟨(dec m).toArray⟩ ++ ⟨(dec k).toArray⟩ : ByteArray) = ⟨(dec n).toArray⟩ := by
    rw [str_app, dec_step n hn, hm, dec_small k (by omega), hk]
  have HV := hid hv
  clear h1 h2 hv
  go_enter Try.func80, Try.ntmps80
  go_wp2_with fail
  refine (H1.out _).mono ?_
  rintro e w1 ⟨rfl, hb⟩
  have HB1 := hid hb
  clear hb
  go_wp2_with fail
  refine (H2.out _).mono ?_
  rintro e w2 ⟨rfl, hb⟩
  have HB2 := hid (below_trans' HB1.out hb HB1.out.size)
  clear hb HB1
  go_wp2_with fail
  go_ret
  exact ⟨by rw [← HV.out]; rfl, HB2.out⟩
theorem digits_any (n : Nat) : (n : Int) ≤ 9223372036854775807 → ∀ w, Calls Try.prog 80 #[.int .i64 n] w fun e w' => e = .returned (.string ⟨(dec n).toArray⟩) ∧ Below w.heap.size w w' := by
  induction n using Nat.strongRecOn with
  | _ n ih =>
    intro h9 w
    by_cases hn : n < 10
    · exact digits_small n hn w
    · exact digits_big n (n / 10) (n % 10) hn h9 rfl rfl w (ih (n / 10) (by omega) (by omega)) (ih (n % 10) (by omega) (by omega))

theorem digits_max (x : Int) (hx : x ≤ 9223372036854775807) (w : World) : Calls Try.prog 80 #[.int .i64 (max x 0)] w fun e w' => e = .returned (.string ⟨(Dg.dz x).toArray⟩) ∧ Below w.heap.size w w' := by
  have := digits_any (max x 0).toNat (by omega) w
  rwa [show (((max x 0).toNat : Nat) : Int) = max x 0 by omega] at this
/-- The kinds' names. -/
def nm : Nat → List UInt8
  | 0 => [115, 101, 110, 116]
  | 1 => [116, 111, 111, 107]
  | 2 => [109, 105, 115, 115, 101, 100]
  | 3 => [115, 121, 110, 99, 101, 100]
  | 4 => [108, 111, 115, 116]
  | 5 => [100, 105, 101, 100]
  | _ => [116, 117, 114, 110, 101, 100]
def names : Array Value := #[.string ⟨#[115, 101, 110, 116]⟩, .string ⟨#[116, 111, 111, 107]⟩, .string ⟨#[109, 105, 115, 115, 101, 100]⟩, .string ⟨#[115, 121, 110, 99, 101, 100]⟩, .string ⟨#[108, 111, 115, 116]⟩, .string ⟨#[100, 105, 101, 100]⟩, .string ⟨#[116, 117, 114, 110, 101, 100]⟩]
theorem names_at (n : Nat) (hn : n < 7) : (#[.string ⟨#[115, 101, 110, 116]⟩, .string ⟨#[116, 111, 111, 107]⟩, .string ⟨#[109, 105, 115, 115, 101, 100]⟩, .string ⟨#[115, 121, 110, 99, 101, 100]⟩, .string ⟨#[108, 111, 115, 116]⟩, .string ⟨#[100, 105, 101, 100]⟩, .string ⟨#[116, 117, 114, 110, 101, 100]⟩] : Array Value)[n]? = some (.string ⟨(nm n).toArray⟩) := by
  obtain rfl | rfl | rfl | rfl | rfl | rfl | rfl : n = 0 ∨ n = 1 ∨ n = 2 ∨ n = 3 ∨ n = 4 ∨ n = 5 ∨ n = 6 := by omega
  all_goals rfl
theorem nm_len (n : Nat) : (nm n).length ≤ 6 := by unfold nm; split <;> simp
set_option maxHeartbeats 1000000 in
theorem name_any (n : Nat) (hn : n < 7) (w : World) : Calls Try.prog 79 #[.int .i64 ((n : Int) + 1)] w fun e w' => e = .returned (.string ⟨(nm n).toArray⟩) ∧ Below w.heap.size w w' := by
  have h1 : ¬ (n : Int) + 1 < 1 := by omega
  have h2 : ¬ (7 : Int) < (n : Int) + 1 := by omega
  have h3 : (n : Int) + 1 - 1 = (n : Int) := by omega
  have h4 : (0 : Int) ≤ (n : Int) := by omega
  have h5 : (n : Int) < 7 := by omega
  have hN := names_at n hn
  go_enter Try.func79, Try.ntmps79
  go_wp2_with fail
  go_ret
  refine ⟨?_, (Below.refl _ _).alloc (Nat.le_refl _) _⟩
  clear hN h1 h2 h3 h4 h5
  obtain rfl | rfl | rfl | rfl | rfl | rfl | rfl : n = 0 ∨ n = 1 ∨ n = 2 ∨ n = 3 ∨ n = 4 ∨ n = 5 ∨ n = 6 := by omega
  all_goals rfl
def ptrs (g : Nat) : Array Value := #[.pointer (some ⟨g, 0, none⟩), .pointer (some ⟨g, 1, none⟩), .pointer (some ⟨g, 2, none⟩), .pointer (some ⟨g, 3, none⟩), .pointer (some ⟨g, 4, none⟩), .pointer (some ⟨g, 5, none⟩), .pointer (some ⟨g, 6, none⟩)]
set_option maxRecDepth 100000 in
set_option maxHeartbeats 4000000 in
theorem numbers_any (g : Nat) (w : World) : Calls Try.prog 77 #[.pointer (some ⟨g, 0, none⟩)] w fun e w' => e = .returned (.slice (some ⟨w.heap.size, 0, none⟩) 7 7) ∧ w' = (w.alloc (.cells (ptrs g) 141)).drew := by
  go_enter Try.func77, Try.ntmps77
  go_wp2_with fail
  go_region
  all_goals go_wp2_with fail
  all_goals go_ret
  all_goals exact ⟨rfl, rfl⟩
end Go.Proofs.Ytfmepbpipknblaa.He
