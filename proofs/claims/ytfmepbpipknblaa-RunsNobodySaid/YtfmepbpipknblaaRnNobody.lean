/- The walk of RunsNobody. Helper text. -/
import Derived.Test.YtfmepbpipknblaaRnOne
namespace Go.Proofs.Ytfmepbpipknblaa.Rn
open Go.RowKit Go.Proofs.Ytfmepbpipknblaa.Kx
set_option linter.unusedVariables false
set_option linter.unusedSimpArgs false

/-- What is known of the pointer: it is nil, or leads to a Runs that no call made. -/
def Nob (p : Option Addr) (w : World) : Prop := p = none ∨ ∃ g, p = some ⟨g, 0, none⟩ ∧ w.cell? ⟨g, 0, none⟩ = some (.bool false)
theorem Nob.below {p : Option Addr} {w w1 : World} (h : Nob p w) (hb : Below w.heap.size w w1) : Nob p w1 := by
  rcases h with h | ⟨g, h, hc⟩
  · exact .inl h
  · exact .inr ⟨g, h, cell_below' hb hc⟩
theorem Nob.none {p : Option Addr} {w : World} (h : Nob p w) (W : World) (hW : ∀ a v, w.cell? a = some v → W.cell? a = some v) : Calls Try.prog 106 #[.pointer p] W fun e w' => e = .returned (.bool true) ∧ W = w' := by
  rcases h with rfl | ⟨g, rfl, hc⟩
  · exact none_nil W
  · exact none_plain g W (hW _ _ hc)

theorem nobody_walk (a0 a1 : Int) (w : World) (w0 : (Lit.int .u8 a0).wf = true) (w1 : (Lit.int .i64 a1).wf = true) :
    Calls Try.prog 15 #[.int .u8 a0, .int .i64 a1] w fun e w' => e = .returned (.bool true) ∧ Below w.heap.size w w' := by
  clear w0 w1
  go_enter Try.func15, Try.ntmps15
  go_wp2_with fail
  go_loopw [5] (fun k wr => ∃ n : Nat, n ≤ 2 ∧ k = .int .i64 n ∧ Below w.heap.size w wr) (fun k _ => 2 - (intOf k).toNat)
  case atStart => exact ⟨0, by omega, rfl, Below.refl _ _⟩
  case round =>
    obtain ⟨n, hn, rfl, hb⟩ := hrel
    have HB := hid hb
    clear hb
    obtain rfl | rfl | rfl : n = 0 ∨ n = 1 ∨ n = 2 := by omega
    · go_wp2_with fail
      have NB : Hid (Nob (some ⟨wr.heap.size, 0, none⟩) (wr.alloc (.cells #[.bool false, .int .i64 0, .int .i64 0, .int .i64 0, .int .i64 0, .int .i64 0, .int .i64 0] 122))) := .inr ⟨_, rfl, cell_in (heap_alloc_new _ _) 0⟩
      refine (see_nobody _ _ _ (NB.out.none _ (fun _ _ h => h))).mono ?_
      rintro e w1 ⟨rfl, rfl⟩
      go_wp2_with fail
      refine (see_nobody _ _ _ (NB.out.none _ (fun _ _ h => h))).mono ?_
      rintro e w1 ⟨rfl, rfl⟩
      go_wp2_with fail
      refine (run_nobody _ _ (NB.out.none _ (fun _ _ h => h))).mono ?_
      rintro e w1 ⟨rfl, rfl⟩
      go_wp2_with fail
      refine (fell_nobody _ _ (NB.out.none)).mono ?_
      rintro e w1 ⟨rfl, hb⟩
      have NB1 := hid (NB.out.below hb)
      have HB1 := hid (below_trans' (HB.out.alloc HB.out.size _) hb (by have := HB.out.size; simp; omega))
      clear hb NB HB
      go_wp2_with fail
      refine (of_nobody _ _ _ (NB1.out.none _ (fun _ _ h => h))).mono ?_
      rintro e w2 ⟨rfl, rfl⟩
      go_wp2_with fail
      refine (since_nobody _ _ (NB1.out.none _ (fun _ _ h => h))).mono ?_
      rintro e w2 ⟨rfl, rfl⟩
      go_wp2_with fail
      refine (rose_nobody _ _ (NB1.out.none)).mono ?_
      rintro e w2 ⟨rfl, hb⟩
      have HB2 := hid (below_trans' HB1.out hb HB1.out.size)
      clear hb NB1 HB1
      go_wp2_with fail
      exact ⟨⟨1, by omega, rfl, HB2.out⟩, by simp [intOf]⟩
    · go_wp2_with fail
      have NB : Hid (Nob none (wr.alloc (.cells #[.bool false, .int .i64 0, .int .i64 0, .int .i64 0, .int .i64 0, .int .i64 0, .int .i64 0] 122))) := .inl rfl
      refine (see_nobody _ _ _ (NB.out.none _ (fun _ _ h => h))).mono ?_
      rintro e w1 ⟨rfl, rfl⟩
      go_wp2_with fail
      refine (see_nobody _ _ _ (NB.out.none _ (fun _ _ h => h))).mono ?_
      rintro e w1 ⟨rfl, rfl⟩
      go_wp2_with fail
      refine (run_nobody _ _ (NB.out.none _ (fun _ _ h => h))).mono ?_
      rintro e w1 ⟨rfl, rfl⟩
      go_wp2_with fail
      refine (fell_nobody _ _ (NB.out.none)).mono ?_
      rintro e w1 ⟨rfl, hb⟩
      have NB1 := hid (NB.out.below hb)
      have HB1 := hid (below_trans' (HB.out.alloc HB.out.size _) hb (by have := HB.out.size; simp; omega))
      clear hb NB HB
      go_wp2_with fail
      refine (of_nobody _ _ _ (NB1.out.none _ (fun _ _ h => h))).mono ?_
      rintro e w2 ⟨rfl, rfl⟩
      go_wp2_with fail
      refine (since_nobody _ _ (NB1.out.none _ (fun _ _ h => h))).mono ?_
      rintro e w2 ⟨rfl, rfl⟩
      go_wp2_with fail
      refine (rose_nobody _ _ (NB1.out.none)).mono ?_
      rintro e w2 ⟨rfl, hb⟩
      have HB2 := hid (below_trans' HB1.out hb HB1.out.size)
      clear hb NB1 HB1
      go_wp2_with fail
      exact ⟨⟨2, by omega, rfl, HB2.out⟩, by simp [intOf]⟩
    · go_wp2_with fail
      refine (one_any _).mono ?_
      rintro e w1 ⟨rfl, hb⟩
      have HB1 := hid hb
      clear hb
      go_wp2_with fail
      go_ret
      exact ⟨rfl, below_trans' HB.out HB1.out HB.out.size⟩
end Go.Proofs.Ytfmepbpipknblaa.Rn
