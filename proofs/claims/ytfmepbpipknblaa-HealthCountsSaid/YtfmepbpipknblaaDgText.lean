/- Numbers as decimal texts: the program's digits, the reference's Digits. Helper text. -/
import Derived.Test.YtfmepbpipknblaaK2
namespace Go.Proofs.Ytfmepbpipknblaa.Dc
open Go.RowKit Go.Proofs.Ytfmepbpipknblaa.Kx
set_option linter.unusedVariables false
set_option linter.unusedSimpArgs false

/-- A number's digits. -/
def dec (n : Nat) : List UInt8 := if h : n < 10 then [UInt8.ofNat (48 + n)] else dec (n / 10) ++ [UInt8.ofNat (48 + n % 10)]
termination_by n
decreasing_by omega
theorem dec_small (n : Nat) (h : n < 10) : dec n = [UInt8.ofNat (48 + n)] := by rw [dec, dif_pos h]
theorem dec_step (n : Nat) (h : ¬ n < 10) : dec n = dec (n / 10) ++ [UInt8.ofNat (48 + n % 10)] := by rw [dec, dif_neg h]

theorem dec_len (k : Nat) : ∀ n, n < 10 ^ (k + 1) → (dec n).length ≤ k + 1 := by
  induction k with
  | zero => intro n hn; rw [dec_small n (by simpa using hn)]; simp
  | succ k ih =>
    intro n hn
    by_cases h : n < 10
    · rw [dec_small n h]; simp
    · rw [dec_step n h, List.length_append]
      have := ih (n / 10) (by rw [Nat.pow_succ] at hn; omega)
      simp
      omega
theorem dec_len20 (n : Nat) (h : (n : Int) ≤ 9223372036854775807) : (dec n).length ≤ 20 := dec_len 19 n (by have : (10 : Nat) ^ (19 + 1) = 100000000000000000000 := by decide
                                                                                                            omega)
theorem str_app (a b : List UInt8) : (⟨a.toArray⟩ ++ ⟨b.toArray⟩ : ByteArray) = ⟨(a ++ b).toArray⟩ := by
  rw [ByteArray.mk_append_mk]
theorem one_byte (w : World) (x : Int) : (convert 22 9 (.slice (some ⟨w.heap.size, 0, none⟩) 1 1)).run Try.prog (w.alloc (.cells #[.int .u8 x] 5)) = .ok (.string (strOfNums [x])) (w.alloc (.cells #[.int .u8 x] 5)) :=
  run_convert_bytes_arg _ 22 5 Try.underlying22 Try.underlying5 w.heap.size 0 1 1 [x] rfl (fun i hi => by
    obtain rfl : i = 0 := by omega
    exact cell_in (heap_alloc_new _ _) 0) _ Try.underlying9

set_option maxRecDepth 100000 in
theorem digits_small (n : Nat) (hn : n < 10) (w : World) : Calls Try.prog 84 #[.int .i64 n] w fun e w' => e = .returned (.string ⟨(dec n).toArray⟩) ∧ Below w.heap.size w w' := by
  have hv : strOfNums [48 + (n : Int)] = ⟨(dec n).toArray⟩ := by
    rw [dec_small n hn]
    unfold strOfNums
    rw [show [48 + (n : Int)] = [((48 + n : Nat) : Int)] from by simp]
    rfl
  have HV := hid hv
  clear hv
  have h1 : (n : Int) < 10 := by omega
  have kc := one_byte w (48 + (n : Int))
  go_enter Try.func84, Try.ntmps84
  go_wp2_with fail
  go_ret
  exact ⟨by rw [← HV.out]; rfl, (Below.refl _ _).alloc (Nat.le_refl _) _⟩
theorem digits_big (n m k : Nat) (hn : ¬ n < 10) (h9 : (n : Int) ≤ 9223372036854775807) (hm : n / 10 = m) (hk : n % 10 = k) (w : World)
    (h1 : ∀ w, Calls Try.prog 84 #[.int .i64 m] w fun e w' => e = .returned (.string ⟨(dec m).toArray⟩) ∧ Below w.heap.size w w')
    (h2 : ∀ w, Calls Try.prog 84 #[.int .i64 k] w fun e w' => e = .returned (.string ⟨(dec k).toArray⟩) ∧ Below w.heap.size w w') :
    Calls Try.prog 84 #[.int .i64 n] w fun e w' => e = .returned (.string ⟨(dec n).toArray⟩) ∧ Below w.heap.size w w' := by
  have H1 := hid h1
  have H2 := hid h2
  have hd : (n : Int) / 10 = (m : Int) := by omega
  have hr : (n : Int) % 10 = (k : Int) := by omega
  have hlt : ¬ (n : Int) < 10 := by omega
  have hl : (dec m).length + (dec k).length ≤ 9223372036854775807 := by
    have a := dec_len20 m (by omega)
    have b := dec_len20 k (by omega)
    omega
  have hv : (⟨(dec m).toArray⟩ ++ ⟨(dec k).toArray⟩ : ByteArray) = ⟨(dec n).toArray⟩ := by
    rw [str_app, dec_step n hn, hm, dec_small k (by omega), hk]
  have HV := hid hv
  clear h1 h2 hv
  go_enter Try.func84, Try.ntmps84
  go_wp2_with fail
  refine (H1.out _).mono ?_
  rintro e w1 ⟨rfl, hb⟩
  have HB1 := hid hb
  clear hb
  go_wp2_with fail
  refine (H2.out _).mono ?_
  rintro e w2 ⟨rfl, hb⟩
  have HB2 := hid (below_trans' HB1.out hb HB1.out.size)
  clear hb HB1
  go_wp2_with fail
  go_ret
  exact ⟨by rw [← HV.out]; rfl, HB2.out⟩
theorem digits_any (n : Nat) : (n : Int) ≤ 9223372036854775807 → ∀ w, Calls Try.prog 84 #[.int .i64 n] w fun e w' => e = .returned (.string ⟨(dec n).toArray⟩) ∧ Below w.heap.size w w' := by
  induction n using Nat.strongRecOn with
  | _ n ih =>
    intro h9 w
    by_cases hn : n < 10
    · exact digits_small n hn w
    · exact digits_big n (n / 10) (n % 10) hn h9 rfl rfl w (ih (n / 10) (by omega) (by omega)) (ih (n % 10) (by omega) (by omega))
end Go.Proofs.Ytfmepbpipknblaa.Dc
