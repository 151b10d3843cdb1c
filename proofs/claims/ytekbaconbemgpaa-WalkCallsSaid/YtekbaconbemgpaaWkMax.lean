/- slices.Max of whole numbers: its walk. Helper text. -/
import Derived.Test.YtekbaconbemgpaaPWex0
import Derived.Test.YtekbaconbemgpaaKx
namespace Go.Proofs.Ytekbaconbemgpaa.PWe
open Go.RowKit Go.Proofs.Ytekbaconbemgpaa.Kx Go.Proofs.YtekbaconbemgpaaW.PrintWords Go.Proofs.YtekbaconbemgpaaW.PrintLast Go.Proofs.YtekbaconbemgpaaW.PrintMore
set_option linter.unusedVariables false
set_option linter.unusedSimpArgs false
/-- The greatest of the first k + 1. -/
def mxl (l : List Int) : Nat → Int
  | 0 => rd l 0
  | k + 1 => if mxl l k < rd l ((k + 1 : Nat) : Int) then rd l ((k + 1 : Nat) : Int) else mxl l k
def slices_Max_int_int.f (l : List Int) : Option Int := if l.length = 0 then none else some (mxl l (l.length - 1))
set_option maxHeartbeats 1000000 in
theorem slices_Max_int_int.calls (A0 : Option Addr) (c0 : Nat) (l0 : List Int) (r : Int) (w : World) (hr0 : Kd.C (Kd.int .i64) w A0 l0.length l0) (hc0 : l0.length ≤ c0) (h : slices_Max_int_int.f l0 = some r) :
    Calls Try.prog 25 #[.slice A0 l0.length c0] w fun e w' => e = .returned (.int .i64 r) ∧ Below w.heap.size w w' := by
  unfold slices_Max_int_int.f at h
  by_cases hl : l0.length = 0
  · rw [if_pos hl] at h; cases h
  rw [if_neg hl] at h
  obtain rfl := Option.some.inj h
  obtain ⟨n, hn⟩ : ∃ n, l0.length = n + 1 := ⟨l0.length - 1, by omega⟩
  have HA := Aside0.mk hr0
  have HN := Aside0.mk hn
  obtain ⟨ad, hA, hz0⟩ := Kd.at_int hr0 0 (by omega) (by omega)
  subst hA
  replace hz0 : w.cell? ad = some (.int .i64 (mxl l0 0)) := hz0
  have d0 : decide (l0.length < 1) = false := decide_eq_false (by omega)
  have d1 : decide ((l0.length : Int) < 1) = false := decide_eq_false (by omega)
  have p0 : 0 < l0.length := by omega
  have HL := Aside0.mk hr0.2.1
  clear hr0 hl hn h
  go_enter Try.func25, Try.ntmps25
  go_wp2_with fail
  clear d0 d1 hz0
  go_loop [3, 4] (fun m i => ∃ k : Nat, k ≤ n ∧ i = .int .i64 ((k + 1 : Nat) : Int) ∧ m = .int .i64 (mxl l0 k)) (fun _ i => ((n : Int) + 1 - intOf i).toNat)
  case atStart => exact ⟨0, by omega, rfl, rfl⟩
  case round =>
    obtain ⟨k, hk, rfl, rfl⟩ := hrel
    by_cases hlt : k < n
    · have c1 : decide ((k : Int) + 1 < (l0.length : Int)) = true := decide_eq_true (by have := HN.out; omega)
      have c2 : decide (k + 1 < l0.length) = true := decide_eq_true (by have := HN.out; omega)
      obtain ⟨ad2, hA2, hz⟩ := Kd.at_int HA.out ((k + 1 : Nat) : Int) (by omega) (by have := HN.out; omega)
      injection hA2 with hA2
      subst hA2
      rw [Int.toNat_natCast] at hz
      replace hz : w.cell? ⟨ad.block, ad.off + (k + 1), none⟩ = some (.int .i64 (rd l0 ((k + 1 : Nat) : Int))) := hz
      have HS : Aside0 (mxl l0 (k + 1) = if mxl l0 k < rd l0 ((k + 1 : Nat) : Int) then rd l0 ((k + 1 : Nat) : Int) else mxl l0 k) := ⟨rfl⟩
      have hb := HL.out
      have q : k + 1 < l0.length := by have := HN.out; omega
      obtain ⟨a, ha⟩ : ∃ a, mxl l0 k = a := ⟨_, rfl⟩
      obtain ⟨b, hb2⟩ : ∃ b, rd l0 ((k + 1 : Nat) : Int) = b := ⟨_, rfl⟩
      rw [ha, hb2] at HS
      rw [hb2] at hz
      rw [ha]
      clear ha hb2
      go_wp2_with fail
      exact ⟨⟨k + 1, by omega, by simp, by rw [HS.out]⟩, by simp [intOf]; omega⟩
    · obtain rfl : k = n := by omega
      have c1 : decide ((k : Int) + 1 < (l0.length : Int)) = false := decide_eq_false (by have := HN.out; omega)
      have c2 : decide (k + 1 < l0.length) = false := decide_eq_false (by have := HN.out; omega)
      have HE : Aside0 (l0.length - 1 = k) := ⟨by have := HN.out; omega⟩
      clear hlt
      go_wp2
      go_ret
      exact ⟨by rw [HE.out]; rfl, Below.refl _ _⟩
end Go.Proofs.Ytekbaconbemgpaa.PWe
