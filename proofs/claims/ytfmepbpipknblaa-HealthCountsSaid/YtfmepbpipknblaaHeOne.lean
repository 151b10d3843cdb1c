/- one of busbarlaw33. Helper text. -/
import Derived.Test.YtfmepbpipknblaaHeText
import Derived.Test.YtfmepbpipknblaaHeCount
namespace Go.Proofs.Ytfmepbpipknblaa.He
open Go.RowKit Go.Proofs.Ytfmepbpipknblaa.Kx Go.Proofs.Ytfmepbpipknblaa.Dc
set_option linter.unusedVariables false
set_option linter.unusedSimpArgs false

def h1 : Nat → Int
  | 1 => 1
  | 2 => 1
  | _ => 0
def three : Array Value := #[.int .i64 0, .int .i64 1, .int .i64 2, .int .i64 0, .int .i64 0, .int .i64 0, .int .i64 0, .slice none 0 0,
  .int .i64 0, .int .i64 1, .int .i64 3, .int .i64 0, .int .i64 0, .int .i64 0, .int .i64 0, .slice none 0 0,
  .int .i64 0, .int .i64 2, .int .i64 2, .int .i64 0, .int .i64 0, .int .i64 0, .int .i64 0, .slice none 0 0]
def l3 : List Ev := [⟨0, 1, 2, 0, 0, 0, 0, none, 0, 0⟩, ⟨0, 1, 3, 0, 0, 0, 0, none, 0, 0⟩, ⟨0, 2, 2, 0, 0, 0, 0, none, 0, 0⟩]
theorem hc3 : H7 (hc l3 [1, 1] 3) = H7 h1 := H7_congr fun k hk => by
  obtain rfl | rfl | rfl | rfl | rfl | rfl | rfl := seven k hk
  all_goals decide
theorem eight (P : Nat → Prop) (h0 : P 0) (h1 : P 1) (h2 : P 2) (h3 : P 3) (h4 : P 4) (h5 : P 5) (h6 : P 6) (h7 : P 7) (j : Nat) (hj : j < 8) : P j := by
  obtain rfl | rfl | rfl | rfl | rfl | rfl | rfl | rfl : j = 0 ∨ j = 1 ∨ j = 2 ∨ j = 3 ∨ j = 4 ∨ j = 5 ∨ j = 6 ∨ j = 7 := by omega
  all_goals assumption
theorem of_one (w : World) (g m : Nat) (hg : w.heap[g]? = some (.cells three 48 (0, 0))) (hm : w.heap[m]? = some (.cells #[.int .i64 1, .int .i64 1] 3 (0, 0))) :
    Calls Try.prog 26 #[.slice (some ⟨g, 0, none⟩) 3 3, .slice (some ⟨m, 0, none⟩) 2 2] w fun e w' => e = .returned (.agg (H7 h1)) ∧ Below w.heap.size w w' := by
  have hadd : ∀ (b k : Nat), (⟨b, 0, none⟩ : Addr).add k = ⟨b, k, none⟩ := fun b k => by unfold Addr.add; split <;> simp_all
  have hx : ∀ k, w.cell? ((⟨g, 0, none⟩ : Addr).add k) = three[k]? := fun k => by rw [hadd]; exact cell_in hg k
  have := hof_any l3 (some ⟨g, 0, none⟩) 3 [1, 1] (some ⟨m, 0, none⟩) 2 (by decide) (by decide) w (fun i hi => by
    obtain rfl | rfl | rfl : i = 0 ∨ i = 1 ∨ i = 2 := by simp [l3] at hi; omega
    · exact ⟨_, _, rfl, rfl, fun j hj => eight (fun j => w.cell? ((⟨g, 0, none⟩ : Addr).add (0 * 8 + j)) = (Ev.cells ⟨0, 1, 2, 0, 0, 0, 0, none, 0, 0⟩)[j]?) (hx _) (hx _) (hx _) (hx _) (hx _) (hx _) (hx _) (hx _) j hj, rfl⟩
    · exact ⟨_, _, rfl, rfl, fun j hj => eight (fun j => w.cell? ((⟨g, 0, none⟩ : Addr).add (1 * 8 + j)) = (Ev.cells ⟨0, 1, 3, 0, 0, 0, 0, none, 0, 0⟩)[j]?) (hx _) (hx _) (hx _) (hx _) (hx _) (hx _) (hx _) (hx _) j hj, rfl⟩
    · exact ⟨_, _, rfl, rfl, fun j hj => eight (fun j => w.cell? ((⟨g, 0, none⟩ : Addr).add (2 * 8 + j)) = (Ev.cells ⟨0, 2, 2, 0, 0, 0, 0, none, 0, 0⟩)[j]?) (hx _) (hx _) (hx _) (hx _) (hx _) (hx _) (hx _) (hx _) j hj, rfl⟩)
    (fun i hi => by
      obtain rfl | rfl : i = 0 ∨ i = 1 := by simp at hi; omega
      · exact ⟨_, rfl, by rw [hadd]; exact cell_in hm 0⟩
      · exact ⟨_, rfl, by rw [hadd]; exact cell_in hm 1⟩)
  rw [show l3.length = 3 from rfl, hc3] at this
  exact this
theorem one_text : (⟨(hx h1 7).toArray⟩ : ByteArray) = ⟨#[115, 101, 110, 116, 32, 48, 32, 116, 111, 111, 107, 32, 49, 32, 109, 105, 115, 115, 101, 100, 32, 49, 32, 115, 121, 110, 99, 101, 100, 32, 48, 32, 108, 111, 115, 116, 32, 48, 32, 100, 105, 101, 100, 32, 48, 32, 116, 117, 114, 110, 101, 100, 32, 48]⟩ := by
  have d1 : Dg.dz 1 = [49] := by show dec 1 = _; rw [dec_small 1 (by decide)]; rfl
  have d0 : Dg.dz 0 = [48] := by show dec 0 = _; rw [dec_small 0 (by decide)]; rfl
  simp only [hx, nm, sp, h1, d1, d0]
  rfl
theorem h1_le (k : Nat) : h1 k ≤ 9223372036854775807 := by unfold h1; split <;> omega
theorem cells7 {w : World} {g : Nat} {T : TypeId} {fr : Nat × Nat} (h : w.heap[g]? = some (.cells (H7 h1) T fr)) :
    w.cell? ⟨g, 0, none⟩ = some (.int .i64 0) ∧ w.cell? ⟨g, 1, none⟩ = some (.int .i64 1) ∧ w.cell? ⟨g, 2, none⟩ = some (.int .i64 1) ∧ w.cell? ⟨g, 3, none⟩ = some (.int .i64 0) ∧ w.cell? ⟨g, 4, none⟩ = some (.int .i64 0) ∧ w.cell? ⟨g, 5, none⟩ = some (.int .i64 0) ∧ w.cell? ⟨g, 6, none⟩ = some (.int .i64 0) :=
  ⟨cell_in h 0, cell_in h 1, cell_in h 2, cell_in h 3, cell_in h 4, cell_in h 5, cell_in h 6⟩
set_option maxRecDepth 100000 in
set_option maxHeartbeats 1000000 in
theorem one_any (w : World) : Calls Try.prog 32 #[] w fun e w' => e = .returned (.bool true) ∧ Below w.heap.size w w' := by
  have HT := hid one_text
  go_enter Try.func32, Try.ntmps32
  go_wp2_with fail
  refine (of_one _ w.heap.size (w.heap.size + 1) ?_ ?_).mono ?_
  · exact pl (pe _ _ _ rfl)
  · exact pe _ _ _ (by simp)
  rintro e w1 ⟨rfl, hb⟩
  have HB := hid ((((Below.refl w.heap.size w).alloc (Nat.le_refl _) _).alloc (by simp) _).trans (hb.mono (by simp; omega)))
  have HBw : w.heap.size ≤ w1.heap.size := by have := hb.size; simp at this; omega
  have hH : H7 h1 = #[.int .i64 0, .int .i64 1, .int .i64 1, .int .i64 0, .int .i64 0, .int .i64 0, .int .i64 0] := rfl
  rw [hH]
  clear hb hH
  go_wp2_with fail
  refine (fit_any h1 (by decide) (by decide) (by decide) (by decide) _).mono ?_
  rintro e w2 ⟨rfl, hb⟩
  have HX2 := hid ((hb.block w1.heap.size (by simp)).trans (heap_alloc_new w1 (.cells (H7 h1) 45)))
  have hs2 : w1.heap.size < w2.heap.size := lt_of_block HX2.out
  have HB2 := hid (below_trans' (HB.out.alloc HBw _) hb (by simp; omega))
  rw [show fitOf h1 = 500 by decide]
  clear hb
  obtain ⟨c0, c1, c2, c3, c4, c5, c6⟩ := cells7 HX2.out
  go_wp2_with fail
  clear c0 c1 c2 c3 c4 c5 c6
  refine (fit_any (fun _ => 0) (by decide) (by decide) (by decide) (by decide) _).mono ?_
  rintro e w3 ⟨rfl, hb⟩
  have HX3 := hid ((hb.block w1.heap.size (by omega)).trans HX2.out)
  have hs3 : w1.heap.size < w3.heap.size := lt_of_block HX3.out
  have HB3 := hid (below_trans' HB2.out hb (by omega))
  rw [show fitOf (fun _ => 0) = 1000 by decide]
  clear hb
  obtain ⟨c0, c1, c2, c3, c4, c5, c6⟩ := cells7 HX3.out
  go_wp2_with fail
  clear c0 c1 c2 c3 c4 c5 c6
  refine (text_any h1 h1_le _).mono ?_
  rintro e w4 ⟨rfl, hb⟩
  rw [one_text]
  have HB4 := hid (below_trans' HB3.out hb (by omega))
  clear hb
  go_wp2_with fail
  go_ret
  exact ⟨rfl, HB4.out⟩
end Go.Proofs.Ytfmepbpipknblaa.He
