/- listing.each, List, Places: walks. Helper text. -/
import Derived.Test.YtmoodblpgnnenaaDoorLsBld
import Derived.Test.YtmoodblpgnnenaaDoorLsPar
namespace Go.Proofs.YtmoodblpgnnenaaDoor.PLs
open Go.RowKit Go.Proofs.YtmoodblpgnnenaaDoor.Kx Go.Proofs.YtmoodblpgnnenaaDoor.PWe Go.Proofs.YtmoodblpgnnenaaDoorW.PrintWords Go.Proofs.YtmoodblpgnnenaaDoorW.PrintLast Go.Proofs.YtmoodblpgnnenaaDoorW.PrintMore
set_option linter.unusedVariables false
set_option linter.unusedSimpArgs false
/-- The commands of a code, with their places, and how it ends. -/
def eachL (b : List Int) : Nat → Int → List (Int × List Int) × Int
  | 0, _ => ([], 0)
  | n + 1, at_ => if at_ < (b.length : Int) then (if (readP b at_).2.2 = 0 then ((at_, (readP b at_).1) :: (eachL b n (readP b at_).2.1).1, (eachL b n (readP b at_).2.1).2) else ([], (readP b at_).2.2)) else ([], 0)
/-- A line of a listing. -/
def rowP (x : Int × List Int) : List UInt8 := digP x.1.toNat ++ ([58, 32] ++ (lineP x.2 ++ [10]))
def rowsP (l : List (Int × List Int)) : List UInt8 := l.flatMap rowP
theorem lineP_len (L : List Int) (h : L.length = 7) : (lineP L).length ≤ 105 := by
  unfold lineP
  by_cases hr : rightL L = true
  · rw [if_pos hr]
    obtain ⟨a0, a1, a2, a3, a4, a5, a6, rfl⟩ := list7 L h
    have hr' : rightP a0 a1 a2 a3 a4 a5 a6 = true := hr
    obtain ⟨h0, h1⟩ := right_small rfl hr'
    have e : (((([a0, a1, a2, a3, a4, a5, a6] : List Int).getD 0 0).toNat : Nat) : Int) = a0 := by
      show ((a0.toNat : Nat) : Int) = a0
      omega
    obtain ⟨p1, p2⟩ := pcs_small (L := [a0, a1, a2, a3, a4, a5, a6]) (o := (([a0, a1, a2, a3, a4, a5, a6] : List Int).getD 0 0).toNat) (by rw [e]; exact h1)
    have := glue_len 32 20 _ p1
    omega
  · rw [if_neg hr]; simp
theorem run_rowC {o : Oper} {a : Act} {W : World} {g : Nat} {cs : Array Value} (x : Operand) (ho : o.op = .load 37 x) (hx : a.eval x = .pointer (some ⟨g, 0, none⟩)) (hg : W.heap[g]? = some (.cells cs 37 (0, 0))) (hs : (Tryd.prog.info? 37).map (·.size) = some cs.size) : (execOp a.eval o).run Tryd.prog W = .ok (.value (.agg cs)) W := by
  unfold execOp
  simp only [ho, hx, Instr.loadAt, Instr.sureAddr, Sem.run_bind, Sem.run_pure, Result.andThen_ok, run_loadVar_row W g 37 37 cs (0, 0) _ hg Tryd.underlying37 rfl hs]
theorem lstT1 : rtab .any (opsOf Tryd.f27 1) = (true, [([], []), ([0], [0]), ([1], [1]), ([], []), ([3, 1], [3]), ([2, 4], [2, 4]), ([5], [5]), ([6, 4], [6])]) := by kernel_rfl
theorem strCells_B (l : List UInt8) : Lib.strCells (strB l) = Lib.byteCells l := by
  unfold Lib.strCells
  first | rw [strB_data]; rfl | (simp [strB, Lib.byteCells]; done)
theorem isB_below {T e B b : Nat} {bs : List Value} {w w1 : World} (h : Lib.IsBuilder T e B b bs w) (hb : Below w.heap.size w w1) : Lib.IsBuilder T e B b bs w1 := by
  have go : ∀ p, Lib.BuilderAt T e B b p bs w → Lib.BuilderAt T e B b p bs w1 := by
    rintro p ⟨h1, v, h2, h3, h4⟩
    refine ⟨h1, v, (hb.block _ (Array.getElem?_eq_some_iff.1 h2).1).trans h2, h3.kept (⟨hb.os, hb.tape, hb.output, hb.size, fun k hk _ => hb.block k hk⟩ : w.grownBy w1 none) ?_, h4⟩
    cases v <;> simp [Value.ownBlock]
    rename_i a _ _
    cases a <;> simp [Value.ownBlock]
  exact h.imp (go _) (go _)
set_option maxHeartbeats 4000000 in
set_option maxRecDepth 100000 in
theorem list1_calls (n : Nat) (a0 a1 a2 a3 a4 a5 a6 : Int) {L : List Int} (hL : [a0, a1, a2, a3, a4, a5, a6] = L) (B b : Nat) (acc : List UInt8) (w : World) (hn : n < 1000000000000000000) (hI : Lib.IsBuilder 60 5 B b (Lib.byteCells acc) w) (hB : B ≤ w.heap.size) (hlen : acc.length ≤ 100000000) :
    Calls Tryd.prog 27 #[.int .i64 (n : Int), .agg #[.int .i64 a0, .int .i64 a1, .int .i64 a2, .int .i64 a3, .int .i64 a4, .int .i64 a5, .int .i64 a6], .pointer (some ⟨b, 0, none⟩)] w fun e w' => e = .returned (.tuple #[]) ∧ (Lib.IsBuilder 60 5 B b (Lib.byteCells (acc ++ rowP ((n : Int), L))) w' ∧ Below B w w') ∧ ∀ (k : Nat) (cs : Array Value) (t : TypeId) (fz : Nat × Nat), w.heap[k]? = some (.cells cs t fz) → t ≠ 5 → k ≠ b → w'.heap[k]? = some (.cells cs t fz) := by
  have HL := Aside0.mk hL
  have HLL := lineP_len L (by rw [← hL]; rfl)
  have HD := digP_len n hn
  have HN := Aside0.mk hn
  have HI := Aside0.mk hI
  have hR : rowP ((n : Int), L) = digP n ++ ([58, 32] ++ (lineP L ++ [10])) := by unfold rowP; rw [Int.toNat_natCast]
  obtain ⟨s1, hs1⟩ : ∃ s, strB (digP n) = s := ⟨_, rfl⟩
  obtain ⟨s2, hs2⟩ : ∃ s, s1 ++ (⟨#[58, 32]⟩ : ByteArray) = s := ⟨_, rfl⟩
  obtain ⟨s3, hs3⟩ : ∃ s, strB (lineP L) = s := ⟨_, rfl⟩
  obtain ⟨s4, hs4⟩ : ∃ s, s2 ++ s3 = s := ⟨_, rfl⟩
  obtain ⟨s5, hs5⟩ : ∃ s, s4 ++ (⟨#[10]⟩ : ByteArray) = s := ⟨_, rfl⟩
  have e2 : s2 = strB (digP n ++ [58, 32]) := by rw [← hs2, ← hs1, ← strB_app]; rfl
  have e4 : s4 = strB (digP n ++ [58, 32] ++ lineP L) := by rw [← hs4, e2, ← hs3, strB_app]
  have e5 : s5 = strB (rowP ((n : Int), L)) := by
    rw [← hs5, e4, hR]
    have : (⟨#[10]⟩ : ByteArray) = strB [10] := rfl
    rw [this, strB_app]
    congr 1
    simp
  have z1 : s1.size ≤ 20 := by rw [← hs1, strB_size]; exact HD
  have z2 : s2.size ≤ 22 := by rw [e2, strB_size, List.length_append]; simp; omega
  have z3 : s3.size ≤ 105 := by rw [← hs3, strB_size]; exact HLL
  have z4 : s4.size ≤ 130 := by rw [e4, strB_size, List.length_append, List.length_append]; simp; omega
  have z5 : s5.size ≤ 140 := by rw [e5, hR, strB_size]; simp; omega
  have c1 : ¬ 9223372036854775807 < s1.size + 2 := by omega
  have c2 : ¬ 9223372036854775807 < s2.size + s3.size := by omega
  have c3 : ¬ 9223372036854775807 < s4.size + 1 := by omega
  have HE5 := Aside0.mk e5
  have HZ5 : Aside0 ((Lib.byteCells acc).length + s5.size ≤ 140737488355328) := ⟨by rw [Lib.byteCells_length]; omega⟩
  have D1 := Aside0.mk (fun W => digits_calls n hn W)
  rw [hs1] at D1
  have D2 := Aside0.mk (fun W => line_calls a0 a1 a2 a3 a4 a5 a6 W hL)
  rw [hs3] at D2
  clear hL hI hn HLL HD hR e2 e4 e5 z1 z2 z3 z4 z5 hs1 hs3
  go_enter Tryd.func27, Tryd.ntmps27
  go_wp2_with (first | ((with_reducible refine gate_dst (N := 4) rfl ?_); refine boxBx rfl (N := 4) rfl #[.int .i64 a0, .int .i64 a1, .int .i64 a2, .int .i64 a3, .int .i64 a4, .int .i64 a5, .int .i64 a6] 37 (by first | (go_simp; done) | (go_simp; rfl)) ?_; intro g4 W1 G1 L1 B1))
  have HI1 := Aside0.mk (isB_below HI.out B1.out)
  have HGB : Aside0 (g4 ≠ b) := ⟨fun e => by
    have h1 : b < w.heap.size := by
      rcases HI.out with h | h
      · exact h.lt
      · exact h.lt
    have h2 := L1.out
    omega⟩
  refine startE 8 [] (S := fun W => W.heap[g4]? = some (.cells #[.int .i64 a0, .int .i64 a1, .int .i64 a2, .int .i64 a3, .int .i64 a4, .int .i64 a5, .int .i64 a6] 37 (0, 0))) lstT1 (blk_below G1.out (below_drew1 (Below.refl _ _))) (fun HT => ?_)
  have BD : Aside0 (Below w.heap.size w W1.drew) := ⟨below_drew1 B1.out⟩
  have HID := Aside0.mk (isB_below HI1.out (below_drew1 (Below.refl _ _)))
  have GD := Aside0.mk (blk_below G1.out (below_drew1 (Below.refl W1.heap.size W1)))
  generalize W1.drew = W2 at BD HID GD ⊢
  refine pureE 0 (some 5) (lb 8 0x1) HT ?_
  refine takeE 3 (some 8) (lb 8 0x9) HT GD.out ?_ (hy := Or.inl ⟨by rfl, by intro w' hs; exact run_rowC _ rfl rfl hs (by kernel_rfl)⟩)
  refine callG 1 (some 6) (lb 8 0xb) HT Tryd.func29 (F := fun v W => v = .string s1 ∧ Below W2.heap.size W2 W) ((D1.out W2).mono fun e w' h => ⟨_, h.1, rfl, h.2⟩) (fun v W h => blk_below GD.out h.2) (fun v W3 h3 => ?_)
  obtain ⟨rfl, hb3⟩ := h3
  have B3 := Aside0.mk hb3
  clear hb3
  refine pureE 2 (some 7) (lb 8 0xf) HT ?_
  refine callG 4 (some 9) (lb 8 0x1f) HT Tryd.func13 (F := fun v W => v = .string s3 ∧ Below W3.heap.size W3 W) ((D2.out W3).mono fun e w' h => ⟨_, h.1, rfl, h.2⟩) (fun v W h => blk_below (blk_below GD.out B3.out) h.2) (fun v W4 h4 => ?_)
  obtain ⟨rfl, hb4⟩ := h4
  have B4 := Aside0.mk (below_step (below_step BD.out B3.out) hb4)
  have HI4 := Aside0.mk (isB_below (isB_below HID.out B3.out) hb4)
  have G4 := Aside0.mk (blk_below (blk_below GD.out B3.out) hb4)
  clear hb4
  refine pureE 5 (some 10) (lb 8 0x3f) HT ?_
  refine pureE 6 (some 11) (lb 8 0x7f) HT ?_
  refine callG 7 (some 12) (lb 8 0xff) HT Tryd.func28 (F := fun v W => (Lib.IsBuilder 60 5 B b (Lib.byteCells acc ++ Lib.strCells s5) W ∧ Below B W4 W) ∧ ∀ (k : Nat) (cs : Array Value) (t : TypeId) (fz : Nat × Nat), W4.heap[k]? = some (.cells cs t fz) → t ≠ 5 → k ≠ b → W.heap[k]? = some (.cells cs t fz)) ((writeString_calls B b (Lib.byteCells acc) s5 W4 HI4.out HZ5.out (Nat.le_trans hB (below_size B4.out))).mono fun e w' h => ⟨_, h.1, h.2⟩) (fun v W h => h.2 _ _ _ _ G4.out (by decide) HGB.out) (fun v W5 h5 => ?_)
  have H5 := Aside0.mk h5
  clear h5
  refine doneE HT ?_
  go_wp2_with fail
  go_end0
  refine ⟨rfl, ⟨?_, (B4.out.mono hB).trans H5.out.1.2⟩, fun k cs t fz hk ht hkb => H5.out.2 k cs t fz (blk_below hk B4.out) ht hkb⟩
  have h := H5.out.1.1
  rw [HE5.out, strCells_B] at h
  simpa [Lib.byteCells] using h
end Go.Proofs.YtmoodblpgnnenaaDoor.PLs
