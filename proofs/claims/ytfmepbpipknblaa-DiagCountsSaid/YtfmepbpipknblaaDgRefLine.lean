/- The reference's Text of layer 40. Helper text. -/
import Derived.Test.YtfmepbpipknblaaDgLine
import Derived.Deep.RegionHeld3
namespace Go.Proofs.Ytfmepbpipknblaa.Dg
open Go.RowKit Go.Proofs.Ytfmepbpipknblaa.Kx Go.Proofs.Ytfmepbpipknblaa.Dc
set_option linter.unusedVariables false
set_option linter.unusedSimpArgs false

theorem nmc (n : Nat) (hn : n < 4) : (#[.string ⟨#[97, 120]⟩, .string ⟨#[98, 120]⟩, .string ⟨#[97, 121]⟩, .string ⟨#[98, 121]⟩] : Array Value)[n]? = some (.string ⟨(nm n).toArray⟩) := by
  obtain rfl | rfl | rfl | rfl : n = 0 ∨ n = 1 ∨ n = 2 ∨ n = 3 := by omega
  all_goals rfl
theorem txx_step (b : Int) (o : Nat → Int) (n : Nat) (x : Int) (T D : List UInt8) (hT : txx b o n = T) (hx : o n = x) (hD : dz x = D) :
    (⟨(txx b o (n + 1)).toArray⟩ : ByteArray) = ⟨T.toArray⟩ ++ ⟨#[32]⟩ ++ ⟨(nm n).toArray⟩ ++ ⟨#[32]⟩ ++ ⟨D.toArray⟩ := by
  rw [show (⟨#[32]⟩ : ByteArray) = ⟨[32].toArray⟩ from rfl, str_app, str_app, str_app, str_app, txx, hT, hx, hD]
set_option maxHeartbeats 1000000 in
theorem rtext_any (b : Int) (o : Nat → Int) (hb : b ≤ 9223372036854775807) (ho : ∀ k, o k ≤ 9223372036854775807) (w : World) : Calls Try.prog 40 #[.int .i64 b, .agg #[.int .i64 (o 0), .int .i64 (o 1), .int .i64 (o 2), .int .i64 (o 3)]] w fun e w' =>
    e = .returned (.string ⟨(txx b o 4).toArray⟩) ∧ Below w.heap.size w w' := by
  have HO := hid ho
  have hl0 := dz_len b hb
  clear ho
  have hl1 : (5 : Nat) + (dz b).length ≤ 9223372036854775807 := by omega
  go_enter Try.func40, Try.ntmps40
  go_wp2_with fail
  refine (rDigits_max b hb _).mono ?_
  rintro e w1 ⟨rfl, rfl⟩
  go_wp2_with fail
  go_loopw [5, 6] (fun l i wr => ∃ n : Nat, n ≤ 4 ∧ i = .int .i64 n ∧ l = .string ⟨(txx b o n).toArray⟩ ∧ Below (w.heap.size + 1) (w.alloc (.cells (Arr o) 56)) wr) (fun _ i _ => 4 - (intOf i).toNat)
  case atStart =>
    refine ⟨0, by omega, rfl, ?_, Below.refl _ _⟩
    rw [show (⟨#[98, 105, 116, 115, 32]⟩ : ByteArray) = ⟨[98, 105, 116, 115, 32].toArray⟩ from rfl, str_app]
    rfl
  case round =>
    obtain ⟨n, hn, rfl, rfl, hB⟩ := hrel
    have HB := hid hB
    have hsz : w.heap.size + 1 ≤ wr.heap.size := by have := hB.size; simpa using this
    clear hB
    by_cases hlt : (n : Int) < 4
    · have hx := arr_cell (w := wr) (g := w.heap.size) (o := o) (T := 56) (fr := (0, 0)) ((HB.out.block w.heap.size (by omega)).trans (heap_alloc_new _ _)) n (by omega)
      have hox := HO.out n
      obtain ⟨x, he⟩ : ∃ x, o n = x := ⟨_, rfl⟩
      rw [he] at hx hox
      have HE := hid he
      clear he
      have hx2 := fun o1 => Kx.cell_below' ((Below.refl _ wr).alloc (Nat.le_refl _) o1) hx
      have HD := hid (fun w => rDigits_max x hox w)
      have l1 := txx_len b o hb HO.out n
      have l2 := dz_len x hox
      have l3 := nm_len n
      obtain ⟨T, hT⟩ : ∃ T, txx b o n = T := ⟨_, rfl⟩
      rw [hT] at l1 ⊢
      have HT := hid hT
      clear hT
      obtain ⟨D, hD⟩ : ∃ T, dz x = T := ⟨_, rfl⟩
      rw [hD] at l2 HD
      have HDz := hid hD
      clear hD
      have hb1 : ¬ 9223372036854775807 < T.length + 1 := by omega
      have hb2 : ¬ 9223372036854775807 < T.length + 1 + (nm n).length := by omega
      have hb3 : ¬ 9223372036854775807 < T.length + 1 + (nm n).length + 1 := by omega
      have hb4 : ¬ 9223372036854775807 < T.length + 1 + (nm n).length + 1 + D.length := by omega
      have hN := nmc n (by omega)
      have hn0 : (0 : Int) ≤ (n : Int) := by omega
      clear l1 l3
      go_wp2_with fail
      go_region_with (go_at_call 82; refine (HD.out _).mono ?_; rintro e w2 ⟨rfl, rfl⟩)
      all_goals
        go_wp2_with fail
        refine ⟨⟨n + 1, by omega, by go_num, ?_, ?_⟩, by simp [intOf]; omega⟩
        · rw [txx_step b o n x T D HT.out HE.out HDz.out]
        · exact below_drewN' (HB.out.alloc hsz _) 1
    · obtain rfl : n = 4 := by omega
      obtain ⟨T, hT⟩ : ∃ T, txx b o 4 = T := ⟨_, rfl⟩
      rw [hT]
      have HT := hid hT
      clear hT
      go_wp2_with fail
      go_ret
      refine ⟨by rw [HT.out]; rfl, ?_⟩
      exact ((Below.refl _ _).alloc (Nat.le_refl _) _).trans (HB.out.mono (by omega))
end Go.Proofs.Ytfmepbpipknblaa.Dg
