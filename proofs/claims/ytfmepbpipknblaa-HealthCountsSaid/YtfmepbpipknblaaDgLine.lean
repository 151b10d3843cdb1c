/- Text of diag as a contract, and the reference's. Helper text. -/
import Derived.Test.YtfmepbpipknblaaDgShare
import Derived.Test.YtfmepbpipknblaaDgRefText
namespace Go.Proofs.Ytfmepbpipknblaa.Dg
open Go.RowKit Go.Proofs.Ytfmepbpipknblaa.Kx Go.Proofs.Ytfmepbpipknblaa.Dc
set_option linter.unusedVariables false
set_option linter.unusedSimpArgs false

def nm : Nat → List UInt8
  | 0 => [97, 120]
  | 1 => [98, 120]
  | 2 => [97, 121]
  | _ => [98, 121]
def dz (x : Int) : List UInt8 := dec (max x 0).toNat
def lsx (b : Int) (o : Nat → Int) : Nat → List (List UInt8)
  | 0 => [[98, 105, 116, 115], dz b]
  | n + 1 => lsx b o n ++ [nm n, dz (o n)]
def txx (b : Int) (o : Nat → Int) : Nat → List UInt8
  | 0 => [98, 105, 116, 115, 32] ++ dz b
  | n + 1 => txx b o n ++ [32] ++ nm n ++ [32] ++ dz (o n)
theorem dz_len (x : Int) (h : x ≤ 9223372036854775807) : (dz x).length ≤ 20 := dec_len20 _ (by omega)
theorem nm_len (n : Nat) : (nm n).length = 2 := by unfold nm; split <;> rfl
theorem lsx_len (b : Int) (o : Nat → Int) (n : Nat) : (lsx b o n).length = 2 + 2 * n := by
  induction n with
  | zero => rfl
  | succ n ih => rw [lsx, List.length_append, ih]; simp; omega
theorem txx_len (b : Int) (o : Nat → Int) (hb : b ≤ 9223372036854775807) (ho : ∀ k, o k ≤ 9223372036854775807) (n : Nat) : (txx b o n).length ≤ 25 + 24 * n := by
  induction n with
  | zero => have := dz_len b hb; rw [txx, List.length_append]; simp; omega
  | succ n ih =>
    have := dz_len (o n) (ho n)
    have := nm_len n
    rw [txx]
    simp only [List.length_append, List.length_cons, List.length_nil]
    omega
theorem join_snoc (l : List (List UInt8)) (hl : l ≠ []) (x y sep : List UInt8) : Lib.join (l ++ [x, y]) sep = Lib.join l sep ++ sep ++ x ++ sep ++ y := by
  cases l with
  | nil => exact absurd rfl hl
  | cons a l =>
    rw [List.cons_append, Lib.join_cons, Lib.join_cons]
    simp [Lib.joinTail, List.append_assoc]
theorem join_lsx (b : Int) (o : Nat → Int) (n : Nat) : Lib.join (lsx b o n) [32] = txx b o n := by
  induction n with
  | zero =>
    rw [lsx, Lib.join_cons, txx]
    simp [Lib.joinTail]
  | succ n ih =>
    rw [lsx, txx, join_snoc _ (fun e => by have := lsx_len b o n; rw [e] at this; simp at this; omega), ih]

theorem digits_max (x : Int) (hx : x ≤ 9223372036854775807) (w : World) : Calls Try.prog 84 #[.int .i64 (max x 0)] w fun e w' => e = .returned (.string ⟨(dz x).toArray⟩) ∧ Below w.heap.size w w' := by
  have := digits_any (max x 0).toNat (by omega) w
  rwa [show (((max x 0).toNat : Nat) : Int) = max x 0 by omega] at this
theorem rDigits_max (x : Int) (hx : x ≤ 9223372036854775807) (w : World) : Calls Try.prog 82 #[.int .i64 (max x 0)] w fun e w' => e = .returned (.string ⟨(dz x).toArray⟩) ∧ w = w' := by
  have := rDigits_any (max x 0).toNat (by omega) w
  rwa [show (((max x 0).toNat : Nat) : Int) = max x 0 by omega] at this
theorem nmix (n : Nat) (hn : n < 4) (w : World) : (Instr.index 146 (.agg #[.string ⟨#[97, 120]⟩, .string ⟨#[98, 120]⟩, .string ⟨#[97, 121]⟩, .string ⟨#[98, 121]⟩]) (.int .i64 n)).run Try.prog w = .ok (.string ⟨(nm n).toArray⟩) w := by
  obtain rfl | rfl | rfl | rfl : n = 0 ∨ n = 1 ∨ n = 2 ∨ n = 3 := by omega
  all_goals kernel_rfl

set_option maxHeartbeats 1000000 in
theorem text_any (b : Int) (o : Nat → Int) (hb : b ≤ 9223372036854775807) (ho : ∀ k, o k ≤ 9223372036854775807) (w : World) : Calls Try.prog 39 #[.agg #[.int .i64 b, .int .i64 (o 0), .int .i64 (o 1), .int .i64 (o 2), .int .i64 (o 3)]] w fun e w' =>
    e = .returned (.string ⟨(txx b o 4).toArray⟩) ∧ Below w.heap.size w w' := by
  have HO := hid ho
  clear ho
  go_enter Try.func39, Try.ntmps39
  go_wp2_with fail
  refine (digits_max b hb _).mono ?_
  rintro e w1 ⟨rfl, hb1⟩
  have HX := hid ((hb1.block w.heap.size (by simp)).trans (heap_alloc_new w (.cells (Cnt b o) 58)))
  have HB1 : Hid (w.heap.size + 1 ≤ w1.heap.size ∧ Below (w.heap.size + 1) (w.alloc (.cells (Cnt b o) 58)) w1) := ⟨by have := hb1.size; simpa using this, hb1.mono (by simp)⟩
  clear hb1
  go_wp2_with fail
  go_loopw [3, 4, 5, 12] (fun l _ _ i wr => ∃ n : Nat, n ≤ 4 ∧ i = .int .i64 n ∧ OwnS wr (w.heap.size + 1) 9 l (lsx b o n) ∧ Below (w.heap.size + 1) (w.alloc (.cells (Cnt b o) 58)) wr) (fun _ _ _ i _ => 4 - (intOf i).toNat)
  case atStart =>
    refine ⟨0, by omega, rfl, OwnS.fresh w1 (w.heap.size + 1) 9 (lsx b o 0) _ rfl HB1.out.1 (by simp [lsx, maxLen]), ?_⟩
    exact (HB1.out.2).alloc HB1.out.1 _
  case round =>
    obtain ⟨n, hn, rfl, hO, hB⟩ := hrel
    have HOw := hid hO
    have HB := hid hB
    have hsz := hB.size
    have hln := lsx_len b o n
    clear hO hB
    by_cases hlt : (n : Int) < 4
    · have HI := nmix n (by omega)
      have hx := cnt_cell (w := wr) (g := w.heap.size) (b := b) (o := o) (T := 58) (fr := (0, 0)) ((HB.out.block w.heap.size (by omega)).trans (heap_alloc_new _ _)) n (by omega)
      have hox := HO.out n
      obtain ⟨x, he⟩ : ∃ x, o n = x := ⟨_, rfl⟩
      rw [he] at hx hox
      have HE := hid he
      clear he
      go_wp2_with fail
      refine (digits_max x hox _).mono ?_
      rintro e w2 ⟨rfl, hb2⟩
      have HB2 := hid (below_trans' HB.out hb2 (by simpa using hsz))
      have HO2 := hid (HOw.out.below hb2)
      have hsz2 := HB2.out.size
      clear hb2 HOw HB
      obtain ⟨ls, hls⟩ : ∃ ls, lsx b o n = ls := ⟨_, rfl⟩
      rw [hls] at HO2 hln
      have HL := hid hls
      clear hls
      go_wp2_with (at_builtin; refine app_strs (w.heap.size + 1) rfl _ _ 142 9 16 rfl Try.underlying142 (by kernel_rfl) u3 ls [nm n, dz x] _ rfl rfl rfl HO2.out ?_ ?_ ?_ ?_)
      · simpa using hsz2
      · rw [hln]; simp; omega
      · rw [hln]; simp; omega
      intro v1 w3 ho3 hb3 hg3
      have HO3 := hid ho3
      have HB3 := hid (HB2.out.trans hb3)
      clear ho3 hb3 hg3 HO2 HB2 hln
      go_wp2_with fail
      refine ⟨⟨n + 1, by omega, by go_num, ?_, HB3.out⟩, by simp [intOf]; omega⟩
      have := HO3.out
      rwa [← HL.out, ← HE.out] at this
    · obtain rfl : n = 4 := by omega
      obtain ⟨g, c, rfl, hc, hg, hcell⟩ := HOw.out.shape (by omega)
      rw [hln] at hc ⊢
      have hj := Try.strings_Join g 0 c ((lsx b o 4).map fun x => (⟨x.toArray⟩ : ByteArray)) ⟨#[32]⟩ wr hcell hg (by simp [hln]) (by rw [lens_map, hln]; omega) (by
        rw [datas_map]
        show (Lib.join (lsx b o 4) [32]).length ≤ _
        rw [join_lsx]
        have := txx_len b o hb HO.out 4
        omega)
      rw [lens_map, hln, datas_map, show (⟨#[32]⟩ : ByteArray).data.toList = [32] from rfl, join_lsx] at hj
      have HJ := hid hj
      clear hj hcell hc hln HOw
      obtain ⟨T, hT⟩ : ∃ T, txx b o 4 = T := ⟨_, rfl⟩
      rw [hT] at HJ
      have HT := hid hT
      clear hT
      go_wp2_with fail
      refine HJ.out.mono ?_
      rintro e w2 ⟨rfl, hb2⟩
      have HBe := hid (below_trans' HB.out hb2 (by simpa using hsz))
      clear hb2
      go_wp2_with fail
      go_ret
      refine ⟨by rw [HT.out]; rfl, ?_⟩
      exact ((Below.refl _ _).alloc (Nat.le_refl _) _).trans (HBe.out.mono (by omega))
end Go.Proofs.Ytfmepbpipknblaa.Dg
