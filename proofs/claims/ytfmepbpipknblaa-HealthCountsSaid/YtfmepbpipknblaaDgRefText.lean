/- The reference's Digits. Helper text. -/
import Derived.Test.YtfmepbpipknblaaDgText
namespace Go.Proofs.Ytfmepbpipknblaa.Dc
open Go.RowKit Go.Proofs.Ytfmepbpipknblaa.Kx
set_option linter.unusedVariables false
set_option linter.unusedSimpArgs false

def tens : ByteArray := ⟨#[48, 49, 50, 51, 52, 53, 54, 55, 56, 57]⟩
theorem tens_at (k : Nat) (hk : k < 10) : (⟨#[48, 49, 50, 51, 52, 53, 54, 55, 56, 57]⟩ : ByteArray).extract k (k + 1) = ⟨(dec k).toArray⟩ := by
  rw [dec_small k hk]
  obtain rfl | rfl | rfl | rfl | rfl | rfl | rfl | rfl | rfl | rfl : k = 0 ∨ k = 1 ∨ k = 2 ∨ k = 3 ∨ k = 4 ∨ k = 5 ∨ k = 6 ∨ k = 7 ∨ k = 8 ∨ k = 9 := by omega
  all_goals rfl

set_option maxRecDepth 100000 in
theorem rdigits_small (n : Nat) (hn : n < 10) (w : World) : Calls Try.prog 120 #[.int .u64 n] w fun e w' => e = .returned (.string ⟨(dec n).toArray⟩) ∧ w = w' := by
  have h1 : (n : Int) < 10 := by omega
  have h2 : (n : Int) % 10 = (n : Int) := by omega
  have HT := hid (tens_at n hn)
  go_enter Try.func120, Try.ntmps120
  go_wp2_with fail
  go_ret
  exact ⟨by rw [← HT.out]; rfl, rfl⟩
set_option maxRecDepth 100000 in
theorem rdigits_big (n m k : Nat) (hn : ¬ n < 10) (h9 : (n : Int) ≤ 18446744073709551615) (hm : n / 10 = m) (hk : n % 10 = k) (w : World)
    (h1 : ∀ w, Calls Try.prog 120 #[.int .u64 m] w fun e w' => e = .returned (.string ⟨(dec m).toArray⟩) ∧ w = w') :
    Calls Try.prog 120 #[.int .u64 n] w fun e w' => e = .returned (.string ⟨(dec n).toArray⟩) ∧ w = w' := by
  have H1 := hid h1
  have hd : (n : Int) / 10 = (m : Int) := by omega
  have hr : (n : Int) % 10 = (k : Int) := by omega
  have hk10 : (k : Int) < 10 := by omega
  have hlt : ¬ (n : Int) < 10 := by omega
  have hl : (dec m).length + (dec k).length ≤ 9223372036854775807 := by
    have a := dec_len20 m (by omega)
    have b := dec_len20 k (by omega)
    omega
  have hv : (⟨(dec m).toArray⟩ ++ ⟨(dec k).toArray⟩ : ByteArray) = ⟨(dec n).toArray⟩ := by
    rw [str_app, dec_step n hn, hm, dec_small k (by omega), hk]
  have HV := hid hv
  have ht := tens_at k (by omega)
  clear h1 hv hm hk hn
  go_enter Try.func120, Try.ntmps120
  go_wp2_with fail
  refine (H1.out _).mono ?_
  rintro e w1 ⟨rfl, rfl⟩
  go_wp2_with fail
  go_ret
  exact ⟨by rw [← HV.out]; rfl, rfl⟩
theorem rdigits_any (n : Nat) : (n : Int) ≤ 18446744073709551615 → ∀ w, Calls Try.prog 120 #[.int .u64 n] w fun e w' => e = .returned (.string ⟨(dec n).toArray⟩) ∧ w = w' := by
  induction n using Nat.strongRecOn with
  | _ n ih =>
    intro h9 w
    by_cases hn : n < 10
    · exact rdigits_small n hn w
    · exact rdigits_big n (n / 10) (n % 10) hn h9 rfl rfl w (ih (n / 10) (by omega) (by omega))
theorem rDigits_any (n : Nat) (h9 : (n : Int) ≤ 9223372036854775807) (w : World) : Calls Try.prog 82 #[.int .i64 n] w fun e w' => e = .returned (.string ⟨(dec n).toArray⟩) ∧ w = w' := by
  have H := hid (rdigits_any n (by omega))
  have h0 : ¬ (n : Int) < 0 := by omega
  go_enter Try.func82, Try.ntmps82
  go_wp2_with fail
  refine (H.out _).mono ?_
  rintro e w1 ⟨rfl, rfl⟩
  go_wp2_with fail
  go_ret
  exact ⟨rfl, rfl⟩
end Go.Proofs.Ytfmepbpipknblaa.Dc
