/- one of busbarlaw40. Helper text. -/
import Derived.Test.YtfmepbpipknblaaDgOf
import Derived.Test.YtfmepbpipknblaaDgLine
namespace Go.Proofs.Ytfmepbpipknblaa.Dg
open Go.RowKit Go.Proofs.Ytfmepbpipknblaa.Kx Go.Proofs.Ytfmepbpipknblaa.Dc
set_option linter.unusedVariables false
set_option linter.unusedSimpArgs false

def o8 : Nat → Int
  | 0 => 8
  | _ => 0
theorem nine (P : Nat → Prop) (h0 : P 0) (h1 : P 1) (h2 : P 2) (h3 : P 3) (h4 : P 4) (h5 : P 5) (h6 : P 6) (h7 : P 7) (h8 : P 8) (h9 : P 9) (j : Nat) (hj : j < 10) : P j := by
  obtain rfl | rfl | rfl | rfl | rfl | rfl | rfl | rfl | rfl | rfl : j = 0 ∨ j = 1 ∨ j = 2 ∨ j = 3 ∨ j = 4 ∨ j = 5 ∨ j = 6 ∨ j = 7 ∨ j = 8 ∨ j = 9 := by omega
  all_goals assumption
theorem third_new' (w : World) (x y z : Obj) : (((w.alloc x).alloc y).alloc z).heap[w.heap.size + 1 + 1]? = some z := third_new w x y z 0
def two (A B : Option Addr) : Array Value := #[.int .i64 0, .int .i64 0, .int .i64 0, .slice A 1 1, .bool true, .bool false, .int .i64 8, .int .i64 0, .int .i64 0, .int .i64 0,
      .int .i64 0, .int .i64 0, .int .i64 0, .slice B 1 1, .bool false, .bool false, .int .i64 0, .int .i64 5, .int .i64 0, .int .i64 0]
theorem of_one (w : World) (g : Nat) (A B : Option Addr) (hg : w.heap[g]? = some (.cells (two A B) 65 (0, 0))) :
    Calls Try.prog 42 #[.slice (some ⟨g, 0, none⟩) 2 2] w fun e w' => e = .returned (.agg #[.int .i64 8, .int .i64 8, .int .i64 0, .int .i64 0, .int .i64 0]) ∧ Below w.heap.size w w' := by
  have hx : ∀ k, w.cell? ((⟨g, 0, none⟩ : Addr).add k) = (two A B)[k]? := fun k => by
    have hadd : (⟨g, 0, none⟩ : Addr).add k = ⟨g, k, none⟩ := by unfold Addr.add; split <;> simp_all
    rw [hadd]
    exact cell_in hg k
  exact of_any [⟨0, 0, 0, A, 1, 1, true, false, 8, 0, 0, 0⟩, ⟨0, 0, 0, B, 1, 1, false, false, 0, 5, 0, 0⟩] (some ⟨g, 0, none⟩) 2 (by simp) (by simp [Msg.fit]) w (fun i hi => by
    obtain rfl | rfl : i = 0 ∨ i = 1 := by simp at hi; omega
    · exact ⟨_, _, rfl, rfl, fun j hj => nine (fun j => w.cell? ((⟨g, 0, none⟩ : Addr).add (0 * 10 + j)) = (Msg.cells ⟨0, 0, 0, A, 1, 1, true, false, 8, 0, 0, 0⟩)[j]?) (hx _) (hx _) (hx _) (hx _) (hx _) (hx _) (hx _) (hx _) (hx _) (hx _) j hj, rfl⟩
    · exact ⟨_, _, rfl, rfl, fun j hj => nine (fun j => w.cell? ((⟨g, 0, none⟩ : Addr).add (1 * 10 + j)) = (Msg.cells ⟨0, 0, 0, B, 1, 1, false, false, 0, 5, 0, 0⟩)[j]?) (hx _) (hx _) (hx _) (hx _) (hx _) (hx _) (hx _) (hx _) (hx _) (hx _) j hj, rfl⟩)
theorem one_text : (⟨(txx 8 o8 4).toArray⟩ : ByteArray) = ⟨#[98, 105, 116, 115, 32, 56, 32, 97, 120, 32, 56, 32, 98, 120, 32, 48, 32, 97, 121, 32, 48, 32, 98, 121, 32, 48]⟩ := by
  have d8 : dz 8 = [56] := by show dec 8 = _; rw [dec_small 8 (by decide)]; rfl
  have d0 : dz 0 = [48] := by show dec 0 = _; rw [dec_small 0 (by decide)]; rfl
  simp only [txx, nm, o8, d8, d0]
  rfl
theorem cells5 {w : World} {g : Nat} {a b c d e : Value} {T : TypeId} {fr : Nat × Nat} (h : w.heap[g]? = some (.cells #[a, b, c, d, e] T fr)) :
    w.cell? ⟨g, 0, none⟩ = some a ∧ w.cell? ⟨g, 1, none⟩ = some b ∧ w.cell? ⟨g, 2, none⟩ = some c ∧ w.cell? ⟨g, 3, none⟩ = some d ∧ w.cell? ⟨g, 4, none⟩ = some e :=
  ⟨cell_in h 0, cell_in h 1, cell_in h 2, cell_in h 3, cell_in h 4⟩
theorem v_susp : susp o8 = 0 := by decide
theorem v_worst : wst o8 4 = 0 := by decide
theorem v_share : shr 8 o8 0 = 1000 := by decide
theorem o8_le (k : Nat) : o8 k ≤ 9223372036854775807 := by unfold o8; split <;> omega
theorem eq_lit (w : World) : Sem.run Try.prog (Op.equalIn 9999 56 (.agg #[.int .i64 8, .int .i64 0, .int .i64 0, .int .i64 0]) (.agg #[.int .i64 8, .int .i64 0, .int .i64 0, .int .i64 0])) w = .ok true w := by kernel_rfl
set_option maxRecDepth 100000 in
set_option maxHeartbeats 1000000 in
theorem one_any (w : World) : Calls Try.prog 41 #[] w fun e w' => e = .returned (.bool true) ∧ Below w.heap.size w w' := by
  have HT := hid one_text
  have heq := eq_lit
  go_enter Try.func41, Try.ntmps41
  go_wp2_with fail
  refine (of_one _ (w.heap.size + 1 + 1) (some ⟨w.heap.size, 0, none⟩) (some ⟨w.heap.size + 1, 0, none⟩) (third_new' w _ _ _)).mono ?_
  rintro e w1 ⟨rfl, hb⟩
  have HB := hid ((((Below.refl w.heap.size w).alloc (Nat.le_refl _) _).alloc (by simp) _).alloc (by simp; omega) _ |>.trans (hb.mono (by simp; omega)))
  have HBw : w.heap.size ≤ w1.heap.size := by have := hb.size; simp at this; omega
  clear hb
  go_wp2_with fail
  have HB1 := hid (HB.out.alloc HBw _ : Below w.heap.size w (w1.alloc (.cells #[.int .i64 8, .int .i64 8, .int .i64 0, .int .i64 0, .int .i64 0] 58)))
  refine (suspect_any 8 o8 _).mono ?_
  rintro e w2 ⟨rfl, hb⟩
  have HX2 := hid ((hb.block w1.heap.size (by simp)).trans (heap_alloc_new w1 (.cells #[.int .i64 8, .int .i64 8, .int .i64 0, .int .i64 0, .int .i64 0] 58)))
  have hs2 : w1.heap.size < w2.heap.size := lt_of_block HX2.out
  have HB2 := hid (below_trans' HB1.out hb (by simp; omega))
  rw [v_susp]
  clear hb
  obtain ⟨c0, c1, c2, c3, c4⟩ := cells5 HX2.out
  go_wp2_with fail
  clear c0 c1 c2 c3 c4
  refine (share_any 8 o8 0 _).mono ?_
  rintro e w3 ⟨rfl, hb⟩
  have HX3 := hid ((hb.block w1.heap.size (by exact hs2)).trans HX2.out)
  have hs3 : w1.heap.size < w3.heap.size := lt_of_block HX3.out
  have HB3 := hid (below_trans' HB2.out hb (by omega))
  rw [v_share]
  clear hb
  obtain ⟨c0, c1, c2, c3, c4⟩ := cells5 HX3.out
  go_wp2_with fail
  clear c0 c1 c2 c3 c4
  refine (worst_any 8 o8 _).mono ?_
  rintro e w4 ⟨rfl, hb⟩
  have HX4 := hid ((hb.block w1.heap.size (by exact hs3)).trans HX3.out)
  have hs4 : w1.heap.size < w4.heap.size := lt_of_block HX4.out
  have HB4 := hid (below_trans' HB3.out hb (by omega))
  rw [v_worst]
  clear hb
  obtain ⟨c0, c1, c2, c3, c4⟩ := cells5 HX4.out
  go_wp2_with fail
  clear c0 c1 c2 c3 c4
  refine (clean_any 8 o8 _).mono ?_
  rintro e w5 ⟨rfl, hb⟩
  have HX5 := hid ((hb.block w1.heap.size (by exact hs4)).trans HX4.out)
  have hs5 : w1.heap.size < w5.heap.size := lt_of_block HX5.out
  have HB5 := hid (below_trans' HB4.out hb (by omega))
  rw [v_worst, show ((0 : Int) == -1) = false from rfl]
  clear hb
  obtain ⟨c0, c1, c2, c3, c4⟩ := cells5 HX5.out
  go_wp2_with fail
  clear c0 c1 c2 c3 c4
  refine (text_any 8 o8 (by decide) o8_le _).mono ?_
  rintro e w6 ⟨rfl, hb⟩
  rw [one_text]
  have HB6 := hid (below_trans' HB5.out hb (by omega))
  clear hb
  go_wp2_with fail
  go_ret
  exact ⟨rfl, HB6.out⟩
end Go.Proofs.Ytfmepbpipknblaa.Dg
