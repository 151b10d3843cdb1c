/- Health: the reference's Text. Helper text. -/
import Derived.Test.YtfmepbpipknblaaHeSum
namespace Go.Proofs.Ytfmepbpipknblaa.He
open Go.RowKit Go.Proofs.Ytfmepbpipknblaa.Kx Go.Proofs.Ytfmepbpipknblaa.Dc
set_option linter.unusedVariables false
set_option linter.unusedSimpArgs false

/-- What stands ahead of the n-th word. -/
def sp (n : Nat) (t : List UInt8) : List UInt8 := if n = 0 then t else t ++ [32]
def hx (h : Nat → Int) : Nat → List UInt8
  | 0 => []
  | n + 1 => sp n (hx h n) ++ nm n ++ [32] ++ Dg.dz (h n)
theorem hx_len (h : Nat → Int) (hh : ∀ k, h k ≤ 9223372036854775807) (n : Nat) : (hx h n).length ≤ 30 * n := by
  induction n with
  | zero => simp [hx]
  | succ n ih =>
    have h1 := Dg.dz_len (h n) (hh n)
    have h2 := nm_len n
    have h3 : (sp n (hx h n)).length ≤ (hx h n).length + 1 := by unfold sp; split <;> simp
    rw [hx]
    simp only [List.length_append, List.length_cons, List.length_nil]
    omega
theorem hx_step (h : Nat → Int) (n : Nat) (x : Int) (T D : List UInt8) (hT : sp n (hx h n) = T) (hh : h n = x) (hD : Dg.dz x = D) :
    (⟨(hx h (n + 1)).toArray⟩ : ByteArray) = ⟨T.toArray⟩ ++ ⟨(nm n).toArray⟩ ++ ⟨#[32]⟩ ++ ⟨D.toArray⟩ := by
  rw [show (⟨#[32]⟩ : ByteArray) = ⟨[32].toArray⟩ from rfl, str_app, str_app, str_app, hx, hT, hh, hD]
set_option maxHeartbeats 1000000 in
theorem rtext_any (h : Nat → Int) (hh : ∀ k, h k ≤ 9223372036854775807) (w : World) : Calls Try.prog 31 #[.agg (H7 h)] w fun e w' =>
    e = .returned (.string ⟨(hx h 7).toArray⟩) ∧ Below w.heap.size w w' := by
  have HH := hid hh
  clear hh
  have hA : H7 h = #[.int .i64 (h 0), .int .i64 (h 1), .int .i64 (h 2), .int .i64 (h 3), .int .i64 (h 4), .int .i64 (h 5), .int .i64 (h 6)] := rfl
  rw [hA]
  have HArr := hid hA
  clear hA
  go_enter Try.func31, Try.ntmps31
  go_wp2_with fail
  go_loopw [4, 5] (fun l i wr => ∃ n : Nat, n ≤ 7 ∧ i = .int .i64 n ∧ l = .string ⟨(hx h n).toArray⟩ ∧ wr.heap[w.heap.size]? = some (.cells (H7 h) 46 (0, 0)) ∧ wr.heap[w.heap.size + 1]? = some (.cells names 144 (0, 0)) ∧ Below w.heap.size w wr) (fun _ i _ => 7 - (intOf i).toNat)
  case atStart =>
    refine ⟨0, by omega, rfl, rfl, ?_, ?_, ((Below.refl _ _).alloc (Nat.le_refl _) _).alloc (by simp) _⟩
    · exact (Below.heap_alloc _ _ _ (by simp)).trans (heap_alloc_new _ _)
    · exact pe _ _ _ (by simp)
  case round =>
    obtain ⟨n, hn, rfl, rfl, h0, h1, hB⟩ := hrel
    have H0 := hid h0
    have H1 := hid h1
    have HB := hid hB
    clear h0 h1 hB
    by_cases hlt : (n : Int) < 7
    · have hn0 : (0 : Int) ≤ (n : Int) := by omega
      have f1 : wr.cell? ⟨w.heap.size, n, none⟩ = some (.int .i64 (h n)) := (cell_in H0.out n).trans (H7_at _ n (by omega))
      have f2 : wr.cell? ⟨w.heap.size + 1, n, none⟩ = some (.string ⟨(nm n).toArray⟩) := (cell_in H1.out n).trans (names_at n (by omega))
      have hox := HH.out n
      obtain ⟨x, hxx⟩ : ∃ x, h n = x := ⟨_, rfl⟩
      rw [hxx] at f1 hox
      have HX := hid hxx
      have HD := hid (fun w => (Dg.rDigits_max x hox w).mono fun e w' h => (⟨h.1, h.2.symm⟩ : e = _ ∧ w' = w))
      have l0 := hx_len h HH.out n
      have l2 := Dg.dz_len x hox
      have l3 := nm_len n
      obtain ⟨D, hD⟩ : ∃ T, Dg.dz x = T := ⟨_, rfl⟩
      rw [hD] at l2 HD
      have HDz := hid hD
      obtain ⟨M, hM⟩ : ∃ T, nm n = T := ⟨_, rfl⟩
      rw [hM] at f2 l3
      have HM := hid hM
      obtain ⟨U, hU⟩ : ∃ T, hx h n = T := ⟨_, rfl⟩
      rw [hU] at l0 ⊢
      have HU := hid hU
      clear hxx hD hM hU
      by_cases hz : (n : Int) = 0
      · have HT : Hid (sp n (hx h n) = U) := by show sp n (hx h n) = U; unfold sp; rw [if_pos (by omega), HU.out]
        have hb1 : ¬ 9223372036854775807 < U.length + M.length := by omega
        have hb2 : ¬ 9223372036854775807 < U.length + M.length + 1 := by omega
        have hb3 : ¬ 9223372036854775807 < U.length + M.length + 1 + D.length := by omega
        obtain rfl : n = 0 := by omega
        clear hz l0 l2 l3
        go_wp2_with fail
        go_quiet ((go_at_call 82; exact Calls.quiet_of_same (HD.out _)))
        go_wp2_with fail
        refine ⟨⟨0 + 1, by omega, by go_num, ?_, H0.out, H1.out, Dg.below_drewN' HB.out _⟩, by simp [intOf]⟩
        rw [hx_step h 0 x U D HT.out HX.out HDz.out, HM.out]
      · have HT : Hid (sp n (hx h n) = U ++ [32]) := by show sp n (hx h n) = U ++ [32]; unfold sp; rw [if_neg (by omega), HU.out]
        have hb0 : ¬ 9223372036854775807 < U.length + 1 := by omega
        have hb1 : ¬ 9223372036854775807 < U.length + 1 + M.length := by omega
        have hb2 : ¬ 9223372036854775807 < U.length + 1 + M.length + 1 := by omega
        have hb3 : ¬ 9223372036854775807 < U.length + 1 + M.length + 1 + D.length := by omega
        have hz1 : 0 < n := by omega
        have hz2 : (0 : Int) < (n : Int) := by omega
        clear hz l0 l2 l3
        go_wp2_with fail
        go_quiet ((go_at_call 82; exact Calls.quiet_of_same (HD.out _)))
        go_wp2_with fail
        refine ⟨⟨n + 1, by omega, by go_num, ?_, H0.out, H1.out, Dg.below_drewN' HB.out _⟩, by simp [intOf]; omega⟩
        rw [hx_step h n x (U ++ [32]) D HT.out HX.out HDz.out, HM.out, ← str_app]
    · obtain rfl : n = 7 := by omega
      obtain ⟨U, hU⟩ : ∃ T, hx h 7 = T := ⟨_, rfl⟩
      rw [hU]
      have HU := hid hU
      clear hU
      go_wp2_with fail
      go_ret
      exact ⟨by rw [HU.out]; rfl, HB.out⟩
end Go.Proofs.Ytfmepbpipknblaa.He
