/- The known run of the statements of layer 6, and what a Runs that nobody made does. Helper text. -/
import Derived.Test.YtfmepbpipknblaaRnRose
namespace Go.Proofs.Ytfmepbpipknblaa.Rn
open Go.RowKit Go.Proofs.Ytfmepbpipknblaa.Kx
set_option linter.unusedVariables false
set_option linter.unusedSimpArgs false

/-! ### Nobody's -/
section
variable (p : Option Addr) (w : World) (hp : ∀ W : World, (∀ a v, w.cell? a = some v → W.cell? a = some v) → Calls Try.prog 106 #[.pointer p] W fun e w' => e = .returned (.bool true) ∧ W = w')
end
theorem see_nobody (p : Option Addr) (l : Int) (w : World) (hp : Calls Try.prog 106 #[.pointer p] w fun e w' => e = .returned (.bool true) ∧ w = w') :
    Calls Try.prog 58 #[.pointer p, .int .u8 l] w fun e w' => e = .returned (.tuple #[]) ∧ w = w' := by
  have HP := hid hp
  clear hp
  go_enter Try.func58, Try.ntmps58
  go_wp2_with (go_at_call 106; refine (HP.out).mono ?_; rintro e w' ⟨rfl, rfl⟩)
  refine bodyPost_ret (results_none rfl _ _ _) rfl ?_
  exact ⟨rfl, rfl⟩
theorem run_nobody (p : Option Addr) (w : World) (hp : Calls Try.prog 106 #[.pointer p] w fun e w' => e = .returned (.bool true) ∧ w = w') :
    Calls Try.prog 60 #[.pointer p] w fun e w' => e = .returned (.int .i64 0) ∧ w = w' := by
  have HP := hid hp
  clear hp
  go_enter Try.func60, Try.ntmps60
  go_wp2_with (go_at_call 106; refine (HP.out).mono ?_; rintro e w' ⟨rfl, rfl⟩)
  go_ret
  exact ⟨rfl, rfl⟩
theorem since_nobody (p : Option Addr) (w : World) (hp : Calls Try.prog 106 #[.pointer p] w fun e w' => e = .returned (.bool true) ∧ w = w') :
    Calls Try.prog 59 #[.pointer p] w fun e w' => e = .returned (.int .i64 0) ∧ w = w' := by
  have HP := hid hp
  clear hp
  go_enter Try.func59, Try.ntmps59
  go_wp2_with (go_at_call 106; refine (HP.out).mono ?_; rintro e w' ⟨rfl, rfl⟩)
  go_ret
  exact ⟨rfl, rfl⟩
theorem of_nobody (p : Option Addr) (n : Int) (w : World) (hp : Calls Try.prog 106 #[.pointer p] w fun e w' => e = .returned (.bool true) ∧ w = w') :
    Calls Try.prog 66 #[.pointer p, .int .i64 n] w fun e w' => e = .returned (.int .i64 0) ∧ w = w' := by
  have HP := hid hp
  clear hp
  go_enter Try.func66, Try.ntmps66
  go_wp2_with (go_at_call 106; refine (HP.out).mono ?_; rintro e w' ⟨rfl, rfl⟩)
  go_ret
  exact ⟨rfl, rfl⟩
theorem when_nobody (p : Option Addr) (low : Bool) (F c : Nat) (w : World) (hp : Calls Try.prog 106 #[.pointer p] w fun e w' => e = .returned (.bool true) ∧ w = w') :
    Calls Try.prog 109 #[.pointer p, .bool low, .func (.func F) #[] #[.pointer (some ⟨c, 0, none⟩)]] w fun e w' => e = .returned (.int .i64 0) ∧ w = w' := by
  have HP := hid hp
  clear hp
  go_enter Try.func109, Try.ntmps109
  go_wp2_with (go_at_call 106; refine (HP.out).mono ?_; rintro e w' ⟨rfl, rfl⟩)
  go_ret
  exact ⟨rfl, rfl⟩
theorem rose_nobody (p : Option Addr) (w : World) (hp : ∀ W : World, (∀ a v, w.cell? a = some v → W.cell? a = some v) → Calls Try.prog 106 #[.pointer p] W fun e w' => e = .returned (.bool true) ∧ W = w') :
    Calls Try.prog 61 #[.pointer p] w fun e w' => e = .returned (.bool false) ∧ Below w.heap.size w w' := by
  have HP := hid hp
  clear hp
  go_enter Try.func61, Try.ntmps61
  go_wp2_with fail
  refine (when_nobody p false _ w.heap.size _ (HP.out _ ?_)).mono ?_
  · intro a v h
    exact cell_below' ((Below.refl _ _).alloc (Nat.le_refl _) _) h
  rintro e w1 ⟨rfl, rfl⟩
  go_wp2_with fail
  go_ret
  exact ⟨rfl, (Below.refl _ _).alloc (Nat.le_refl _) _⟩
theorem fell_nobody (p : Option Addr) (w : World) (hp : ∀ W : World, (∀ a v, w.cell? a = some v → W.cell? a = some v) → Calls Try.prog 106 #[.pointer p] W fun e w' => e = .returned (.bool true) ∧ W = w') :
    Calls Try.prog 62 #[.pointer p] w fun e w' => e = .returned (.int .i64 0) ∧ Below w.heap.size w w' := by
  have HP := hid hp
  clear hp
  go_enter Try.func62, Try.ntmps62
  go_wp2_with fail
  refine (when_nobody p true _ w.heap.size _ (HP.out _ ?_)).mono ?_
  · intro a v h
    exact cell_below' ((Below.refl _ _).alloc (Nat.le_refl _) _) h
  rintro e w1 ⟨rfl, rfl⟩
  go_wp2_with fail
  go_ret
  exact ⟨rfl, (Below.refl _ _).alloc (Nat.le_refl _) _⟩

/-! ### The known run -/
instance (s : St) : Decidable s.ok := by unfold St.ok; infer_instance
def s0 : St := ⟨0, 0, 0, 0, 0, 0⟩
def s1 : St := s0.see 7
def s2 : St := s1.see 7
def s3 : St := s2.see 7
def s4 : St := s3.see 15
def s5 : St := s4.see 3
theorem one_pure : s0.ok ∧ s1.ok ∧ s2.ok ∧ s3.ok ∧ s4.ok ∧ s3.third = 3 ∧ s4.third = 4 ∧ s5.third = 0 ∧ s5.fell = 4 ∧ s5.since = 4 := by
  decide +kernel

theorem one_any (w : World) : Calls Try.prog 63 #[] w fun e w' => e = .returned (.bool true) ∧ Below w.heap.size w w' := by
  obtain ⟨k0, k1, k2, k3, k4, t3, t4, t5, f5, c5⟩ := one_pure
  have K0 := hid k0
  have K1 := hid k1
  have K2 := hid k2
  have K3 := hid k3
  have K4 := hid k4
  have T3 := hid t3
  have T4 := hid t4
  have T5 := hid t5
  have F5 := hid f5
  have C5 := hid c5
  clear k0 k1 k2 k3 k4 t3 t4 t5 f5 c5
  go_enter Try.func63, Try.ntmps63
  go_wp2_with fail
  refine (new_any _).mono ?_
  rintro e w1 ⟨rfl, hw⟩
  have HA : Hid (At w1 w.heap.size s0) := by rw [hw]; exact heap_alloc_new _ _
  have HG : Hid (Below w.heap.size w w1) := by rw [hw]; exact (Below.refl _ _).alloc (Nat.le_refl _) _
  clear hw
  go_wp2_with fail
  go_loopw [2] (fun k wr => ∃ n : Nat, n ≤ 3 ∧ k = .int .i64 n ∧ At wr w.heap.size (if n = 0 then s0 else if n = 1 then s1 else if n = 2 then s2 else s3) ∧ Below w.heap.size w wr) (fun k _ => 3 - (intOf k).toNat)
  case atStart => exact ⟨0, by omega, rfl, HA.out, HG.out⟩
  case round =>
    obtain ⟨n, hn, rfl, ha, hb⟩ := hrel
    have HB := hid hb
    have hsz := lt_of_block ha
    obtain rfl | rfl | rfl | rfl : n = 0 ∨ n = 1 ∨ n = 2 ∨ n = 3 := by omega
    · have HA := hid ha
      clear ha hb
      go_wp2_with fail
      refine (see_any w.heap.size s0 7 (by omega) K0.out _ HA.out).mono ?_
      rintro e w2 ⟨rfl, hg, ha⟩
      have HG := hid hg
      have HA := hid ha
      clear ha hg
      go_wp2_with fail
      exact ⟨⟨1, by omega, rfl, HA.out, HB.out.trans (grown_below HG.out (Nat.le_refl _) (by omega))⟩, by simp [intOf]⟩
    · have HA := hid ha
      clear ha hb
      go_wp2_with fail
      refine (see_any w.heap.size s1 7 (by omega) K1.out _ HA.out).mono ?_
      rintro e w2 ⟨rfl, hg, ha⟩
      have HG := hid hg
      have HA := hid ha
      clear ha hg
      go_wp2_with fail
      exact ⟨⟨2, by omega, rfl, HA.out, HB.out.trans (grown_below HG.out (Nat.le_refl _) (by omega))⟩, by simp [intOf]⟩
    · have HA := hid ha
      clear ha hb
      go_wp2_with fail
      refine (see_any w.heap.size s2 7 (by omega) K2.out _ HA.out).mono ?_
      rintro e w2 ⟨rfl, hg, ha⟩
      have HG := hid hg
      have HA := hid ha
      clear ha hg
      go_wp2_with fail
      exact ⟨⟨3, by omega, rfl, HA.out, HB.out.trans (grown_below HG.out (Nat.le_refl _) (by omega))⟩, by simp [intOf]⟩
    · have HA : Hid (At wr w.heap.size s3) := ha
      clear ha hb
      go_wp2_with fail
      refine (run_any _ s3 _ HA.out).mono ?_
      rw [T3.out]
      rintro e w2 ⟨rfl, hb2⟩
      have HA2 := hid (below_block hb2 HA.out (lt_of_block HA.out))
      have HB2 := hid (HB.out.trans (hb2.mono (by omega)))
      clear hb2 HA HB
      go_wp2_with fail
      refine (see_any w.heap.size s3 15 (by omega) K3.out _ HA2.out).mono ?_
      rintro e w3 ⟨rfl, hg, ha⟩
      have HA3 := hid ha
      have HB3 := hid (HB2.out.trans (grown_below hg (Nat.le_refl _) (by have := lt_of_block HA2.out; omega)))
      clear ha hg HA2 HB2
      go_wp2_with fail
      refine (run_any _ s4 _ HA3.out).mono ?_
      rw [T4.out]
      rintro e w4 ⟨rfl, hb4⟩
      have HA4 := hid (below_block hb4 HA3.out (lt_of_block HA3.out))
      have HB4 := hid (HB3.out.trans (hb4.mono (by have := lt_of_block HA3.out; omega)))
      clear hb4 HA3 HB3
      go_wp2_with fail
      refine (see_any w.heap.size s4 3 (by omega) K4.out _ HA4.out).mono ?_
      rintro e w5 ⟨rfl, hg, ha⟩
      have HA5 : Hid (At w5 w.heap.size s5) := ha
      have HB5 := hid (HB4.out.trans (grown_below hg (Nat.le_refl _) (by have := lt_of_block HA4.out; omega)))
      clear ha hg HA4 HB4
      go_wp2_with fail
      refine (run_any _ s5 _ HA5.out).mono ?_
      rw [T5.out]
      rintro e w6 ⟨rfl, hb6⟩
      have HA6 := hid (below_block hb6 HA5.out (lt_of_block HA5.out))
      have HB6 := hid (HB5.out.trans (hb6.mono (by have := lt_of_block HA5.out; omega)))
      clear hb6 HA5 HB5
      go_wp2_with fail
      refine (fell_any _ s5 _ HA6.out).mono ?_
      rw [F5.out]
      rintro e w7 ⟨rfl, hb7⟩
      have HA7 := hid (below_block hb7 HA6.out (lt_of_block HA6.out))
      have HB7 := hid (HB6.out.trans (hb7.mono (by have := lt_of_block HA6.out; omega)))
      clear hb7 HA6 HB6
      go_wp2_with fail
      refine (since_any _ s5 _ HA7.out).mono ?_
      rw [C5.out]
      rintro e w8 ⟨rfl, hg, ha⟩
      have HA8 := hid ha
      have HB8 := hid (HB7.out.trans (grown_below hg (Nat.le_refl _) (by have := lt_of_block HA7.out; omega)))
      clear ha hg HA7 HB7
      go_wp2_with fail
      refine (since_any _ { s5 with since := 0 } _ HA8.out).mono ?_
      rintro e w9 ⟨rfl, hg, ha⟩
      have HB9 := hid (HB8.out.trans (grown_below hg (Nat.le_refl _) (by have := lt_of_block HA8.out; omega)))
      clear ha hg HA8 HB8
      go_wp2_with fail
      go_ret
      exact ⟨rfl, HB9.out⟩
end Go.Proofs.Ytfmepbpipknblaa.Rn
