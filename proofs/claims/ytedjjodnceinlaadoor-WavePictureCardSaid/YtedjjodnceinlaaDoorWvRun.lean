/- wave.run: walk. Helper text. -/
import Derived.Test.YtedjjodnceinlaaDoorPWvJn
import Derived.StillTailTactics
namespace Go.Proofs.YtedjjodnceinlaaDoor.PWv
open Go.RowKit Go.Proofs.YtedjjodnceinlaaDoor.Kx Go.Proofs.YtedjjodnceinlaaDoor.PWe Go.Proofs.YtedjjodnceinlaaDoorW.PrintWords Go.Proofs.YtedjjodnceinlaaDoorW.PrintLast Go.Proofs.YtedjjodnceinlaaDoorW.PrintMore
set_option linter.unusedVariables false
set_option linter.unusedSimpArgs false
theorem results_ct1 {P : Program} {fn : Func} {p u1 : Tmp} {ty : TypeId} (h : fn.results = #[.cell p ty, .tmp u1]) (tmps : Array Value) (w : World) (g : Nat) (t : TypeId) (cs : Array Value) (d : TypeDesc) (hp : tmps.getD p undef = .pointer (some ⟨g, 0, none⟩)) (hg : w.heap[g]? = some (.cells cs t (0, 0)))
    (hu : P.underlying ty = some d) (hd : (match d with | .struct _ | .array _ _ => true | _ => false) = true) (hi : (P.info? ty).map (·.size) = some cs.size) :
    (results fn tmps).run P w = .ok (.tuple #[.agg cs, tmps.getD u1 undef]) w := by
  have hl := run_loadVar_row w g t ty cs (0, 0) d hg hu hd hi
  have hp' : tmps[p]?.getD undef = .pointer (some ⟨g, 0, none⟩) := by simpa using hp
  simp [results, h, hp', asAddr, hl]
def hexB : ByteArray := ⟨#[48, 49, 50, 51, 52, 53, 54, 55, 56, 57, 97, 98, 99, 100, 101, 102]⟩
/-- A number's digits, read; a number that is too great ends it. -/
def digP : List UInt8 → Int → Option Int
  | [], T => some T
  | b :: r, T => if (b.toNat : Int) < 48 ∨ 57 < (b.toNat : Int) ∨ 1048576 < T then none else digP r (T * 10 + ((b.toNat : Int) - 48))
def cutX (s : ByteArray) : List UInt8 × List UInt8 × Bool := Lib.cut s.data.toList [120]
/-- A run, read. -/
def runP (s : ByteArray) : (Int × Int) × Bool :=
  match digP (cutX s).1 0 with
  | none => ((0, 0), false)
  | some T => ((mx (Lib.index hexB.data.toList (cutX s).2.1) 0 % 256, T), decide ((cutX s).2.1.length = 1) && (decide (0 ≤ Lib.index hexB.data.toList (cutX s).2.1) && (decide (0 < T) && decide (T ≤ 1048576))))
def runC (L T : Int) : Array Value := #[.int .u8 L, .int .i64 T]
theorem runT12 : rtab .any (opsOf Tryd.f17 12) = (true, [([], []), ([], []), ([1], [1]), ([2], [2]), ([3], [3]), ([4], [4]), ([5, 4], [4, 5]), ([4, 6], [4, 6]), ([7, 4], [7]), ([8], [8]), ([9, 8], [8, 9]), ([10, 8], [8, 10]), ([8, 11], [8, 11]), ([12, 8], [12]), ([13], [13]), ([14, 13], [13, 14]), ([15, 13], [13, 15]), ([13, 16], [13, 16]), ([0, 13, 0], [0]), ([17, 18, 0, 1, 2, 3, 4, 5, 6, 7, 8, 9, 10, 11, 12, 13, 14, 15, 16, 17, 18], [17])]) := by kernel_rfl
def Run7 (g : Nat) (L T : Int) (W : World) : Prop := W.heap[g]? = some (.cells (runC L T) 46 (0, 0))
theorem Run7.mk_ {g : Nat} {L T : Int} {W : World} (h : W.heap[g]? = some (.cells (runC L T) 46 (0, 0))) : Run7 g L T W := h
theorem run7_cell {g : Nat} {L T : Int} {W : World} (h : Run7 g L T W) : W.cell? ⟨g, 1, none⟩ = some (.int .i64 T) := (cell_in h 1).trans rfl
theorem run7_row {o : Oper} {a : Act} {W : World} {g : Nat} {L T : Int} (x : Operand) (ho : o.op = .load 46 x) (hx : a.eval x = .pointer (some ⟨g, 0, none⟩)) (hg : Run7 g L T W) : (execOp a.eval o).run Tryd.prog W = .ok (.value (.agg (runC L T))) W := by
  unfold execOp
  simp only [ho, hx, Instr.loadAt, Instr.sureAddr, Sem.run_bind, Sem.run_pure, Result.andThen_ok, run_loadVar_row W g 46 46 (runC L T) (0, 0) _ hg Tryd.underlying46 rfl (by kernel_rfl)]
section
variable {P : Program} {ops : Array Oper} {Q : Exit → Act → World → Prop} {S : World → Prop} {oi : Oper} {fuel : Nat} {l' : Array Bool} {a : Act} {w : World} {K : Act → World → Prop}
theorem storeRowS (hK : Shut (∀ a' w', S w' → (S w' → wpAnyLast P .any ops Q S [] fuel l' a' w') → K a' w'))
    (g : Nat) (cells : Array Value) {t : TypeId} {old : Array Value} (hg : Aside0 (w.heap[g]? = some (.cells old t (0, 0)))) (hS : ∀ W2 : World, (∀ b, b ≠ g → W2.heap[b]? = w.heap[b]?) → S W2)
    (h : ∀ W2, Aside0 (W2.heap[g]? = some (.cells cells t (0, 0))) → Aside0 (∀ (B : Nat) (w0 : World), B ≤ g → Below B w0 w → Below B w0 W2) → wpAnyLast P .any ops Q S [] fuel l' a W2)
    {ty : TypeId} {x y : Operand} (ho : oi.op = .store ty x y := by rfl) (hx : a.eval x = .pointer (some ⟨g, 0, none⟩) := by rfl) (hy : a.eval y = .agg cells := by rfl) (hi : (P.info? ty).map (·.size) = some cells.size := by kernel_rfl) (hold : old.size = cells.size := by rfl)
    (h1 : cells.all (·.oneCell') = true := by (rw [← Array.all_toList]; rfl)) (hw : Region.wanted oi (yielded ops a.tmps) = true := by rfl) (hd : oi.dst = none := by rfl) : if Region.wanted oi (yielded ops a.tmps) = true then Oper.wp P oi a w K Q else K (a.put none undef) w := by
  rw [if_pos hw]
  refine wp_store_row ty x y ho g cells hx hy t old hg.out hi hold h1 ?_
  rw [hd]
  exact hK.out _ _ (hS _ (fun b hb => setRow_other w g b cells hb)) fun _ => h _ ⟨setRow_heap _ _ _ _ _ _ hg.out⟩ ⟨fun B w0 hB hb => Kx.below_setRow hb hB⟩
end
section
attribute [local go_sem] max2_int min2_int max_two min_two
set_option maxHeartbeats 8000000 in
set_option maxRecDepth 100000 in
theorem run_calls (s : ByteArray) (m : Int) (w : World) (hs : s.size ≤ 4000000000) (hm : w.cell? ⟨0, 0, none⟩ = some (.int .i64 m)) {L T : Int} {ok : Bool} (hr : runP s = ((L, T), ok)) :
    Calls Tryd.prog 17 #[.string s] w fun e w' => e = .returned (.tuple #[.agg (runC L T), .bool ok]) ∧ Below w.heap.size w w' := by
  have HB : Aside0 (Below w.heap.size w w) := ⟨Below.refl _ _⟩
  obtain ⟨⟨n, l, is⟩, hcut⟩ : ∃ c, cutX s = c := ⟨_, rfl⟩
  have hn : n.length ≤ s.size := by
    have h := congrArg (fun c : List UInt8 × List UInt8 × Bool => c.1.length) hcut
    dsimp only at h
    rw [← h]
    unfold cutX Lib.cut
    split
    · rw [List.length_take]; exact Nat.min_le_right _ _
    · exact Nat.le_refl _
  have hl : l.length ≤ s.size := by
    have h := congrArg (fun c : List UInt8 × List UInt8 × Bool => c.2.1.length) hcut
    dsimp only at h
    rw [← h]
    unfold cutX Lib.cut
    split
    · rw [List.length_drop]; exact Nat.sub_le _ _
    · exact Nat.zero_le _
  unfold runP at hr
  rw [hcut] at hr
  dsimp only at hr
  have HRR := Aside0.mk hr
  have HM := Aside0.mk hm
  have HCUT := Aside0.mk hcut
  obtain ⟨nB, hnB⟩ : ∃ b : ByteArray, (⟨n.toArray⟩ : ByteArray) = b := ⟨_, rfl⟩
  obtain ⟨lB, hlB⟩ : ∃ b : ByteArray, (⟨l.toArray⟩ : ByteArray) = b := ⟨_, rfl⟩
  have hnd : nB.data.toList = n := by rw [← hnB]
  have hld : lB.data.toList = l := by rw [← hlB]
  have hnz : nB.size = n.length := by rw [← hnB]; simp [ByteArray.size]
  have hlz : lB.size = l.length := by rw [← hlB]; simp [ByteArray.size]
  have HCT := Aside0.mk (Tryd.strings_Cut s ⟨#[120]⟩ m)
  have HND := Aside0.mk hnd
  have HLD := Aside0.mk hld
  have HNB := Aside0.mk hnB
  have HLB := Aside0.mk hlB
  obtain ⟨at_, hat⟩ : ∃ a, Lib.index hexB.data.toList l = a := ⟨_, rfl⟩
  have HAT := Aside0.mk hat
  rw [hat] at HRR
  have HNZ := Aside0.mk hnz
  have HLZ := Aside0.mk hlz
  have hnB2 : nB.size ≤ s.size := by omega
  clear hr hm hcut hnd hld hnB hlB hat hnz hlz hn hl
  go_enter Tryd.func17, Tryd.ntmps17
  go_wp2_with (first | ((with_reducible refine gate_dst (N := 2) rfl ?_); refine boxN (w := w) rfl (N := 2) rfl (cs := runC 0 0) (t := 46) (by first | (go_simp; done) | (go_simp; rfl)) HB ?_; intro g2 Wa Ha Lg2 HBa Ka))
  have HMa := Aside0.mk ((HBa.out.cell (World.block_lt_of_cell? w _ HM.out)).trans HM.out)
  refine (HCT.out Wa (by omega) HMa.out).mono ?_
  rintro e w1 ⟨rfl, nd, rfl⟩
  rw [show Lib.cut s.data.toList (⟨#[120]⟩ : ByteArray).data.toList = (n, l, is) from HCUT.out]
  rw [HNB.out, HLB.out]
  have HB1 := Aside0.mk (below_drewN HBa.out nd)
  have H2 : Aside0 ((Wa.drewN nd).heap[g2]? = some (.cells (runC 0 0) 46 (0, 0))) := ⟨blk_below Ha.out (below_drewN (Below.refl _ _) nd)⟩
  obtain ⟨w1, hw1⟩ : ∃ W, Wa.drewN nd = W := ⟨_, rfl⟩
  rw [hw1] at HB1 H2 ⊢
  clear hw1 Ha HBa Ka HCT HCUT HNB HLB
  have HBw1 : Aside0 (Below w1.heap.size w1 w1) := ⟨Below.refl _ _⟩
  go_wp2_with (first | ((with_reducible refine gate_dst (N := 7) rfl ?_); refine boxN (w := w1) rfl (N := 7) rfl (cs := runC 0 0) (t := 46) (by first | (go_simp; done) | (go_simp; rfl)) HBw1 ?_; intro g7 Wb Hb Lg7 HBb Kb) | (refine storeCsN (w := w1) rfl 46 (.tmp 7) _ rfl g7 (runC 0 0) rfl rfl 46 _ Hb (by kernel_rfl) rfl (by rw [← Array.all_toList]; rfl) HBb ⟨Lg7.out.1⟩ ?_; intro Wc Hc HBc _))
  have HL7 : Aside0 (w1.heap.size ≤ g7) := ⟨Lg7.out.1⟩
  clear Hb HBb Kb
  obtain ⟨D, hD⟩ : ∃ d, digP n 0 = d := ⟨_, rfl⟩
  have HD := Aside0.mk hD
  rw [hD] at HRR
  clear hD
  go_loopw [8, 19] (fun _ v19 wr => ∃ (i : Nat) (t : Int), i ≤ nB.size ∧ v19 = .int .i64 (i : Int) ∧ (0 ≤ t ∧ t ≤ 20000000) ∧ Aside0 (digP (n.drop i) t = D) ∧ wr.heap[g7]? = some (.cells (runC 0 t) 46 (0, 0)) ∧ Below w1.heap.size w1 wr) (fun _ v19 _ => ((nB.size : Int) - intOf v19).toNat)
  case atStart => exact ⟨0, 0, Nat.zero_le _, rfl, by omega, ⟨by rw [List.drop_zero]; exact HD.out⟩, Hc.out, HBc.out⟩
  case round =>
    obtain ⟨i, t, hi, rfl, ht, HI, hg7, hbr⟩ := hrel
    have HG7 := Aside0.mk hg7
    have HKr := Aside0.mk hbr
    have HBr := Aside0.mk (below_step HB1.out hbr)
    have H2r := Aside0.mk (blk_below H2.out hbr)
    clear hg7 hbr
    have y0 : wr.cell? ⟨g7, 0, none⟩ = some (.int .u8 0) := (cell_in HG7.out 0).trans rfl
    have y1 : wr.cell? ⟨g7, 1, none⟩ = some (.int .i64 t) := (cell_in HG7.out 1).trans rfl
    by_cases hlt : i < nB.size
    · have m1 : decide ((i : Int) < (nB.size : Int)) = true := decide_eq_true (by omega)
      have m2 : decide (i < nB.size) = true := decide_eq_true hlt
      have q1 : (0 ≤ (i : Int)) = True := eq_true (by omega)
      have q2 : ((i : Int) < (nB.size : Int)) = True := eq_true (by omega)
      have q3 : (i < nB.size) = True := eq_true hlt
      have hin : i < n.length := by have := HNZ.out; omega
      obtain ⟨b, hb⟩ : ∃ b : Nat, (nB[i]'hlt).toNat = b := ⟨_, rfl⟩
      have hbn : (n[i]'hin).toNat = b := by
        rw [← hb]
        have h : n[i]'hin = nB[i]'hlt := by
          have h2 := congrArg (fun q : List UInt8 => q[i]?) HND.out
          rw [List.getElem?_eq_getElem hin] at h2
          have h3 : nB.data.toList[i]? = some (nB[i]'hlt) := by rw [Array.getElem?_toList, Array.getElem?_eq_getElem hlt]; rfl
          rw [h3] at h2
          exact (Option.some.inj h2).symm
        rw [h]
      have hdr : n.drop i = n[i]'hin :: n.drop (i + 1) := List.drop_eq_getElem_cons hin
      have HI2 : Aside0 ((if (b : Int) < 48 ∨ 57 < (b : Int) ∨ 1048576 < t then none else digP (n.drop (i + 1)) (t * 10 + ((b : Int) - 48))) = D) := ⟨by rw [← HI.out, hdr, digP, hbn]⟩
      have HLT := Aside0.mk hlt
      clear hbn hdr HI
      have hsp : (D = none ∧ (decide ((b : Int) < 48) = true ∨ (decide ((b : Int) < 48) = false ∧ decide (57 < (b : Int)) = true) ∨ (decide ((b : Int) < 48) = false ∧ decide (57 < (b : Int)) = false ∧ decide (1048576 < t) = true))) ∨ (digP (n.drop (i + 1)) (t * 10 + ((b : Int) - 48)) = D ∧ decide ((b : Int) < 48) = false ∧ decide (57 < (b : Int)) = false ∧ decide (1048576 < t) = false) := by
        simp only [decide_eq_true_eq, decide_eq_false_iff_not]
        have h := HI2.out
        by_cases b1 : (b : Int) < 48
        · rw [if_pos (.inl b1)] at h; exact .inl ⟨h.symm, .inl b1⟩
        by_cases b2 : 57 < (b : Int)
        · rw [if_pos (.inr (.inl b2))] at h; exact .inl ⟨h.symm, .inr (.inl ⟨b1, b2⟩)⟩
        by_cases b3 : 1048576 < t
        · rw [if_pos (.inr (.inr b3))] at h; exact .inl ⟨h.symm, .inr (.inr ⟨b1, b2, b3⟩)⟩
        · rw [if_neg (by omega)] at h; exact .inr ⟨h, b1, b2, b3⟩
      rcases hsp with ⟨rfl, hsp⟩ | ⟨hd, n1, n2, n3⟩
      · have hE := HRR.out
        simp only [Prod.mk.injEq] at hE
        obtain ⟨⟨rfl, rfl⟩, rfl⟩ := hE
        clear HI2 HRR
        rcases hsp with n1 | ⟨n1, n2⟩ | ⟨n1, n2, n3⟩
        all_goals
          go_wp2_with (first | (refine storeCsN (w := w) rfl 46 (.tmp 2) _ rfl g2 (runC 0 0) rfl rfl 46 _ H2r (by kernel_rfl) rfl (by rw [← Array.all_toList]; rfl) HBr ⟨Lg2.out.1⟩ ?_; intro Wz Hz HBz _))
          refine bodyPost_ret (results_ct1 rfl _ _ g2 46 (runC 0 0) _ rfl Hz.out Tryd.underlying46 rfl (by kernel_rfl)) rfl ⟨rfl, HBz.out⟩
      · have HDN := Aside0.mk hd
        have b48 := of_decide_eq_false n1
        have b57 := of_decide_eq_false n2
        have t20 := of_decide_eq_false n3
        have f1 : IntKind.i64.wrap (t * 10) = t * 10 := by rw [i64_w]; unfold wrap64; omega
        have f2 : IntKind.u8.wrap ((b : Int) - 48) = (b : Int) - 48 := by show ((b : Int) - 48) % 256 = _; omega
        have f3 : IntKind.i64.wrap (t * 10 + ((b : Int) - 48)) = t * 10 + ((b : Int) - 48) := by rw [i64_w]; unfold wrap64; omega
        have f4 : IntKind.i64.wrap ((b : Int) - 48) = (b : Int) - 48 := by rw [i64_w]; unfold wrap64; omega
        have HB48 := Aside0.mk (And.intro b48 (And.intro b57 t20))
        clear hd HI2 b48 b57 t20
        go_wp2_with fail
        go_still_tail 10, (by kernel_rfl)
        change wpList _ _ _ _ _ wr.drew
        have HGd := Aside0.mk (blk_below HG7.out (below_drew1 (Below.refl _ _)))
        have HKd := Aside0.mk (below_drew1 HKr.out)
        obtain ⟨Wd, hWd⟩ : ∃ W, wr.drew = W := ⟨_, rfl⟩
        rw [hWd] at HGd HKd ⊢
        clear hWd y0 y1
        have z1 : Wd.cell? ⟨g7, 1, none⟩ = some (.int .i64 t) := (cell_in HGd.out 1).trans rfl
        have fz := free_in HGd.out 1
        go_wp2_with (first | (refine storeCellN rfl rfl 3 _ _ rfl g7 1 (.int .i64 (t * 10 + ((b : Int) - 48))) HGd (by first | (go_simp; done) | (go_simp; rfl)) HKd HL7 ?_; intro W3 HG3 HB3 HO3))
        exact ⟨⟨i + 1, t * 10 + ((b : Int) - 48), by have := HLT.out; omega, by rw [Int.natCast_add]; rfl, by have := HB48.out; omega, HDN, HG3.out, HB3.out⟩, by have := HLT.out; simp [intOf]; omega⟩
    · have m1 : decide ((i : Int) < (nB.size : Int)) = false := decide_eq_false (by omega)
      have m2 : decide (i < nB.size) = false := decide_eq_false hlt
      have hDt : D = some t := by rw [← HI.out, List.drop_eq_nil_of_le (by have := HNZ.out; omega)]; rfl
      subst hDt
      have hE := HRR.out
      simp only [Prod.mk.injEq] at hE
      obtain ⟨⟨e1, rfl⟩, e2⟩ := hE
      obtain ⟨M, hM⟩ : ∃ x, mx at_ 0 = x := ⟨_, rfl⟩
      rw [hM] at e1
      have hM_ : (if at_ < 0 then 0 else at_) = M := hM
      have u8_ : IntKind.u8.wrap M = L := e1
      have HMr := Aside0.mk ((HBr.out.cell (World.block_lt_of_cell? w _ HM.out)).trans HM.out)
      have HIX := Aside0.mk (Tryd.strings_Index hexB lB m wr (by decide) HMr.out)
      have E2 := Aside0.mk e2
      clear hM e1 e2 HRR hlt HI HD
      go_wp2_with fail
      refine HIX.out.mono ?_
      rintro e w5 ⟨rfl, hw5⟩
      obtain rfl := hw5.symm
      rw [HLD.out, HAT.out]
      have fz := free_in HG7.out 0
      go_wp2_with (first | (refine storeCellN rfl rfl 36 _ _ rfl g7 0 (.int .u8 L) HG7 (by first | (go_simp; done) | (go_simp; rfl)) HKr HL7 ?_; intro W3 HG3 HB3 HO3))
      have HG3' : Aside0 (W3.heap[g7]? = some (.cells (runC L t) 46 (0, 0))) := HG3
      have H23 := Aside0.mk (show W3.heap[g2]? = some (.cells (runC 0 0) 46 (0, 0)) from (HO3.out g2 (fun e => by have h1 := blk_lt H2.out; have h2 := HL7.out; omega)).trans H2r.out)
      have HBW := Aside0.mk (below_step HB1.out HB3.out)
      clear y0 y1 fz hM_ u8_ HG3 HO3 HIX
      obtain ⟨b1, hb1⟩ : ∃ b, ((lB.size : Int) == 1) = b := ⟨_, rfl⟩
      have hb1' : (lB.size == 1) = b1 := by rw [← hb1, Bool.eq_iff_iff, beq_iff_eq, beq_iff_eq]; omega
      obtain ⟨b2, hb2⟩ : ∃ b, decide (0 ≤ at_) = b := ⟨_, rfl⟩
      obtain ⟨b3, hb3⟩ : ∃ b, decide (0 < t) = b := ⟨_, rfl⟩
      obtain ⟨b4, hb4⟩ : ∃ b, decide (t ≤ 1048576) = b := ⟨_, rfl⟩
      have hok : (b1 && (b2 && (b3 && b4))) = ok := by
        rw [← E2.out, hb2, hb3, hb4, ← hb1']
        congr 1
        rw [HLZ.out]
        by_cases h : l.length = 1 <;> simp [h]
      clear E2
      have HBW2 := Aside0.mk (below_drew1 HBW.out)
      have H24 := Aside0.mk (blk_below H23.out (below_drew1 (Below.refl W3.heap.size W3)))
      have HGn := Aside0.mk (blk_below HG3'.out (below_drew1 (Below.refl W3.heap.size W3)))
      have hne : g7 ≠ g2 := fun e => by have h1 := blk_lt H2.out; have h2 := HL7.out; omega
      have hb5 : (b1 = false ∧ false = ok) ∨ (b1 = true ∧ b2 = false ∧ false = ok) ∨ (b1 = true ∧ b2 = true ∧ b3 = false ∧ false = ok) ∨ (b1 = true ∧ b2 = true ∧ b3 = true ∧ b4 = ok) := by
        rw [← hok]
        cases b1 <;> cases b2 <;> cases b3 <;> cases b4 <;> simp
      clear hok
      rcases hb5 with ⟨rfl, rfl⟩ | ⟨rfl, rfl, rfl⟩ | ⟨rfl, rfl, rfl, rfl⟩ | ⟨rfl, rfl, rfl, rfl⟩
      all_goals
        refine startE 20 [] runT12 (Run7.mk_ HGn.out) (fun HT => ?_)
        refine takeE 0 (some 55) (lb 20 0x1) HT (Run7.mk_ HGn.out) ?_ (hy := Or.inl ⟨by rfl, by intro w' hs; exact run7_row _ rfl rfl hs⟩)
        refine pureE 1 (some 56) (lb 20 0x3) HT ?_ (hy := by first | exact Or.inl ⟨by rfl, by intro w'; go_simp; with_reducible rfl⟩ | exact Or.inl ⟨by rfl, by intro w'; go_simp⟩ | exact Or.inr ⟨by rfl, rfl⟩)
        refine pureE 2 (some 57) (lb 20 0x7) HT ?_ (hy := by first | exact Or.inl ⟨by rfl, by intro w'; go_simp; with_reducible rfl⟩ | exact Or.inl ⟨by rfl, by intro w'; go_simp⟩ | exact Or.inr ⟨by rfl, rfl⟩)
        refine pureE 3 (some 58) (lb 20 0xf) HT ?_ (hy := by first | exact Or.inl ⟨by rfl, by intro w'; go_simp; with_reducible rfl⟩ | exact Or.inl ⟨by rfl, by intro w'; go_simp⟩ | exact Or.inr ⟨by rfl, rfl⟩)
        refine pureE 4 (some 59) (lb 20 0x1f) HT ?_ (hy := by first | exact Or.inl ⟨by rfl, by intro w'; go_simp; with_reducible rfl⟩ | exact Or.inl ⟨by rfl, by intro w'; go_simp⟩ | exact Or.inr ⟨by rfl, rfl⟩)
        refine pureE 5 (some 60) (lb 20 0x3f) HT ?_ (hy := by first | exact Or.inl ⟨by rfl, by intro w'; go_simp; with_reducible rfl⟩ | exact Or.inl ⟨by rfl, by intro w'; go_simp⟩ | exact Or.inr ⟨by rfl, rfl⟩)
        refine pureE 6 (some 61) (lb 20 0x7f) HT ?_ (hy := by first | exact Or.inl ⟨by rfl, by intro w'; go_simp; with_reducible rfl⟩ | exact Or.inl ⟨by rfl, by intro w'; go_simp⟩ | exact Or.inr ⟨by rfl, rfl⟩)
        refine pureE 7 (some 62) (lb 20 0xff) HT ?_ (hy := by first | exact Or.inl ⟨by rfl, by intro w'; go_simp; with_reducible rfl⟩ | exact Or.inl ⟨by rfl, by intro w'; go_simp⟩ | exact Or.inr ⟨by rfl, rfl⟩)
        refine pureE 8 (some 63) (lb 20 0x1ff) HT ?_ (hy := by first | exact Or.inl ⟨by rfl, by intro w'; go_simp; with_reducible rfl⟩ | exact Or.inl ⟨by rfl, by intro w'; go_simp⟩ | exact Or.inr ⟨by rfl, rfl⟩)
        refine pureE 9 (some 64) (lb 20 0x3ff) HT ?_ (hy := by first | exact Or.inl ⟨by rfl, by intro w'; go_simp; with_reducible rfl⟩ | exact Or.inl ⟨by rfl, by intro w'; go_simp⟩ | exact Or.inr ⟨by rfl, rfl⟩)
        refine takeE 10 (some 65) (lb 20 0x7ff) HT (Run7.mk_ HGn.out) ?_ (hy := by first | exact Or.inl ⟨by rfl, by intro w' hs; have z1 := run7_cell hs; go_simp; with_reducible rfl⟩ | exact Or.inr ⟨by rfl, rfl⟩)
        refine pureE 11 (some 66) (lb 20 0xfff) HT ?_ (hy := by first | exact Or.inl ⟨by rfl, by intro w'; go_simp; with_reducible rfl⟩ | exact Or.inl ⟨by rfl, by intro w'; go_simp⟩ | exact Or.inr ⟨by rfl, rfl⟩)
        refine pureE 12 (some 67) (lb 20 0x1fff) HT ?_ (hy := by first | exact Or.inl ⟨by rfl, by intro w'; go_simp; with_reducible rfl⟩ | exact Or.inl ⟨by rfl, by intro w'; go_simp⟩ | exact Or.inr ⟨by rfl, rfl⟩)
        refine pureE 13 (some 68) (lb 20 0x3fff) HT ?_ (hy := by first | exact Or.inl ⟨by rfl, by intro w'; go_simp; with_reducible rfl⟩ | exact Or.inl ⟨by rfl, by intro w'; go_simp⟩ | exact Or.inr ⟨by rfl, rfl⟩)
        refine pureE 14 (some 69) (lb 20 0x7fff) HT ?_ (hy := by first | exact Or.inl ⟨by rfl, by intro w'; go_simp; with_reducible rfl⟩ | exact Or.inl ⟨by rfl, by intro w'; go_simp⟩ | exact Or.inr ⟨by rfl, rfl⟩)
        refine takeE 15 (some 70) (lb 20 0xffff) HT (Run7.mk_ HGn.out) ?_ (hy := by first | exact Or.inl ⟨by rfl, by intro w' hs; have z1 := run7_cell hs; go_simp; with_reducible rfl⟩ | exact Or.inr ⟨by rfl, rfl⟩)
        refine pureE 16 (some 71) (lb 20 0x1ffff) HT ?_ (hy := by first | exact Or.inl ⟨by rfl, by intro w'; go_simp; with_reducible rfl⟩ | exact Or.inl ⟨by rfl, by intro w'; go_simp⟩ | exact Or.inr ⟨by rfl, rfl⟩)
        refine pureE 17 (some 72) (lb 20 0x3ffff) HT ?_ (hy := by first | exact Or.inl ⟨by rfl, by intro w'; go_simp; with_reducible rfl⟩ | exact Or.inl ⟨by rfl, by intro w'; go_simp⟩ | exact Or.inr ⟨by rfl, rfl⟩)
        refine oneD 18 none (lb 20 0x7ffff) HT (fun K hK => ?_)
        refine storeRowS hK g2 (runC L t) H24 (fun W2 h => (h g7 hne).trans HGn.out) (fun W4 HG4 HO4 => ?_)
        refine pureE 19 (some 3) (lb 20 0xfffff) HT ?_
        refine doneD HT ?_
        clear HT
        go_wp2_with fail
        refine bodyPost_ret (results_ct1 rfl _ _ g2 46 (runC L t) _ rfl HG4.out Tryd.underlying46 rfl (by kernel_rfl)) rfl ⟨rfl, HO4.out _ _ Lg2.out.1 HBW2.out⟩
end
end Go.Proofs.YtedjjodnceinlaaDoor.PWv
