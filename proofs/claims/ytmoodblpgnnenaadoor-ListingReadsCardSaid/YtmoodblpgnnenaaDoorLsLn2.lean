/- listing.Line: walk. Helper text. -/
import Derived.Test.YtmoodblpgnnenaaDoorLsLin
namespace Go.Proofs.YtmoodblpgnnenaaDoor.PLs
open Go.RowKit Go.Proofs.YtmoodblpgnnenaaDoor.Kx Go.Proofs.YtmoodblpgnnenaaDoor.PWe Go.Proofs.YtmoodblpgnnenaaDoorW.PrintWords Go.Proofs.YtmoodblpgnnenaaDoorW.PrintLast Go.Proofs.YtmoodblpgnnenaaDoorW.PrintMore
set_option linter.unusedVariables false
set_option linter.unusedSimpArgs false
theorem verbs_new (w : World) : Calls Tryd.prog 38 #[] w fun e w' => ∃ g, e = .returned (.slice (some ⟨g, 0, none⟩) 9 9) ∧ w.heap.size ≤ g ∧ w'.heap[g]? = some (.cells vbC 9 (0, 0)) ∧ Below w.heap.size w w' :=
  (verbs_calls w).mono fun e w' h => ⟨w.heap.size, h.1, Nat.le_refl _, by rw [h.2]; exact blk_new w _, by rw [h.2]; exact below_alloc (Below.refl _ _) _⟩
theorem infoS : (Tryd.prog.info? 9).map (fun i => (i.zero, i.size, i.bytes)) = some (some (.string ⟨#[]⟩), 1, 16) := by kernel_rfl
/-- A string alone in a new row. -/
theorem row_one {W : World} {B g : Nat} {s : ByteArray} (hg : W.heap[g]? = some (.cells #[.string s] 9 (0, 0))) (hB : B ≤ g) : Kd.R Kd.string 9 W B (fun _ => True) (.slice (some ⟨g, 0, none⟩) 1 1) [s] :=
  Kd.R_of_own (xs := [s]) ⟨rfl, .inr ⟨g, 1, _, rfl, hB, hg, Nat.le_refl _, by unfold maxLen; omega, rfl, rfl⟩⟩ (fun _ _ => trivial)
theorem loadK {P : Program} {ops : Array Oper} {Q : Exit → Act → World → Prop} {S : World → Prop} {oi : Oper} {N : Option Tmp} {v : Value} {fuel : Nat} {l' : Array Bool} {a a' : Act} {w wb : World} {K : Act → World → Prop} (hK : Shut (∀ a' w', S w' → (S w' → wpAnyLast P .any ops Q S [] fuel l' a' w') → K a' w')) (HS : Aside0 (∀ W', Below wb.heap.size wb W' → S W')) (HB : Aside0 (Below wb.heap.size wb w))
    (hrun : (execOp a.eval oi).run P w = .ok (.value v) w) (h : wpAnyLast P .any ops Q S [] fuel l' a' w)
    (hw : Region.wanted oi (yielded ops a.tmps) = true := by rfl) (hN : oi.dst = N := by rfl) (ha : a.put N v = a' := by (simp only [Act.put, List.setIfInBounds_toArray, List.set_cons_zero, List.set_cons_succ, i64_w, i32_w]; rfl)) :
    if Region.wanted oi (yielded ops a.tmps) = true then Oper.wp P oi a w K Q else K (a.put N undef) w :=
  value_ hw hN hrun (hK.out _ _ (HS.out _ HB.out) fun _ => ha ▸ h)
theorem lineT3 : rtab .any (opsOf Tryd.f13 3) = (true, [([], []), ([], []), ([1], [1]), ([0, 2], [0, 2]), ([3], [3]), ([4], [4]), ([5, 0, 0, 1, 2, 3, 4, 5], [5])]) := by kernel_rfl
def LnS (w : World) (g : Nat) (op : Value) (C : Array Value) (w' : World) : Prop := w'.cell? ⟨g, 0, none⟩ = some op ∧ w'.heap[g]? = some (.cells C 37 (0, 0)) ∧ Below w.heap.size w w'
theorem LnS.on {w : World} {g : Nat} {op : Value} {C : Array Value} {w1 w2 : World} (h : LnS w g op C w1) (hb : Below w1.heap.size w1 w2) : LnS w g op C w2 :=
  ⟨(hb.cell (World.block_lt_of_cell? w1 _ h.1)).trans h.1, blk_below h.2.1 hb, below_step h.2.2 hb⟩
theorem glue_len (c : UInt8) (m : Nat) : ∀ l : List (List UInt8), (∀ p ∈ l, p.length ≤ m) → (glue c l).length ≤ (m + 1) * l.length
  | [], _ => Nat.zero_le _
  | [p], h => by have := h p (by simp); show p.length ≤ (m + 1) * 1; omega
  | p :: q :: r, h => by
    have h1 := glue_len c m (q :: r) (fun x hx => h x (List.mem_cons_of_mem _ hx))
    have h2 := h p (by simp)
    show (p ++ c :: glue c (q :: r)).length ≤ _
    rw [List.length_append, List.length_cons, List.length_cons (a := p), Nat.mul_succ]
    omega
theorem vb_len (o : Nat) : (vb o).length ≤ 6 := by
  unfold vb
  rw [List.getD_eq_getElem?_getD]
  cases h : vbs[o]? with
  | none => simp
  | some x =>
    have : ∀ y ∈ vbs, y.length ≤ 6 := by decide
    exact this x (List.mem_of_getElem? h)
theorem pcs_small {L : List Int} {o : Nat} (h : ∀ j ∈ offN (o : Int), 0 ≤ L.getD j 0 ∧ L.getD j 0 ≤ 1023) : (∀ p ∈ pcs L o, p.length ≤ 20) ∧ (pcs L o).length ≤ 5 := by
  constructor
  · intro p hp
    unfold pcs at hp
    rcases List.mem_cons.1 hp with rfl | hp
    · have := vb_len o; omega
    · obtain ⟨j, hj, rfl⟩ := List.mem_map.1 hp
      exact digP_len _ (by have := h j hj; omega)
  · unfold pcs
    have := offN_len (o : Int)
    simp only [List.length_cons, List.length_map]
    omega
def pcsS (L : List Int) (o : Nat) : List ByteArray := (pcs L o).map strB
theorem pcsS_next {L : List Int} {o k : Nat} (h : k < (offN (o : Int)).length) : (pcsS L o).take (k + 1 + 1) = (pcsS L o).take (k + 1) ++ [strB (digP (L.getD ((offN (o : Int)).getD k 0) 0).toNat)] := by
  have h1 : k + 1 < (pcsS L o).length := by unfold pcsS pcs; simp; omega
  rw [List.take_succ_eq_append_getElem h1]
  congr 2
  unfold pcsS pcs
  simp [List.getD_eq_getElem?_getD, List.getElem?_eq_getElem h]
theorem join_pcs {L : List Int} {o : Nat} (h : ∀ j ∈ offN (o : Int), 0 ≤ L.getD j 0 ∧ L.getD j 0 ≤ 1023) {R : List UInt8} (hR : glue 32 (pcs L o) = R) : strings_Join.f (pcsS L o) ⟨#[32]⟩ = some (strB R) := by
  obtain ⟨h1, h2⟩ := pcs_small h
  have hj : joinL (pcsS L o) ⟨#[32]⟩ = R := by
    rw [← hR, ← join_glue]
    unfold joinL pcsS
    rw [List.map_map]
    congr 1
    conv => rhs; rw [← List.map_id (pcs L o)]
    apply List.map_congr_left
    intro x _
    exact strB_data x
  unfold strings_Join.f
  rw [hj]
  have hl := glue_len 32 20 (pcs L o) h1
  rw [hR] at hl
  have h3 : (pcsS L o).length = (pcs L o).length := by unfold pcsS; simp
  rw [if_pos ⟨by omega, by omega⟩]
  rfl
set_option maxHeartbeats 8000000 in
set_option maxRecDepth 100000 in
theorem line_calls (a0 a1 a2 a3 a4 a5 a6 : Int) (w : World) {L : List Int} (hL : [a0, a1, a2, a3, a4, a5, a6] = L) :
    Calls Tryd.prog 13 #[.agg #[.int .i64 a0, .int .i64 a1, .int .i64 a2, .int .i64 a3, .int .i64 a4, .int .i64 a5, .int .i64 a6]] w fun e w' => e = .returned (.string (strB (lineP L))) ∧ Below w.heap.size w w' := by
  have hok := right_all (k := 16) (by omega) a0 a1 a2 a3 a4 a5 a6
  obtain ⟨ok, hokq⟩ : ∃ b, rightP a0 a1 a2 a3 a4 a5 a6 = b := ⟨_, rfl⟩
  rw [hokq] at hok
  have HOK := Aside0.mk hok
  have HRT : Aside0 (rightL L = ok) := ⟨by rw [← hokq, ← hL]; rfl⟩
  have HSM := Aside0.mk (fun h => right_small hL h)
  have HRP := Aside0.mk hokq
  have hLl : L.length = 7 := by rw [← hL]; rfl
  have hg0 : L.getD 0 0 = a0 := by rw [← hL]; rfl
  have hcs : (#[.int .i64 a0, .int .i64 a1, .int .i64 a2, .int .i64 a3, .int .i64 a4, .int .i64 a5, .int .i64 a6] : Array Value) = cc L := by rw [← hL]; rfl
  have HLL := Aside0.mk hLl
  have HG0 := Aside0.mk hg0
  have HCS := Aside0.mk hcs
  obtain ⟨R, hR⟩ : ∃ R, lineP L = R := ⟨_, rfl⟩
  have HR := Aside0.mk hR
  rw [hR]
  have HB : Aside0 (Below w.heap.size w w) := ⟨Below.refl _ _⟩
  clear hok hLl hg0 hL hcs hokq hR
  go_enter Tryd.func13, Tryd.ntmps13
  go_wp2_with (first | ((with_reducible refine gate_dst (N := 1) rfl ?_); refine boxN (w := w) rfl (N := 1) rfl (cs := #[.int .i64 a0, .int .i64 a1, .int .i64 a2, .int .i64 a3, .int .i64 a4, .int .i64 a5, .int .i64 a6]) (t := 37) (by first | (go_simp; done) | (go_simp; rfl)) HB ?_; intro g1 Wa Ha Lg1 HB_Wa K_Wa) | ((with_reducible refine gate_dst (N := 6) rfl ?_); refine wpList_load_row rfl 37 _ rfl g1 rfl 37 _ (0, 0) _ Ha.out Tryd.underlying37 rfl (by kernel_rfl) ?_))
  refine (cmd_Command_Right.calls 16 a0 a1 a2 a3 a4 a5 a6 ok Wa HOK.out).mono ?_
  rintro e w1 ⟨rfl, hb⟩
  have HB1 := Aside0.mk (below_step HB_Wa.out hb)
  have H1 : Aside0 (w1.heap[g1]? = some (.cells (cc L) 37 (0, 0))) := ⟨by have h := blk_below Ha.out hb; rw [HCS.out] at h; exact h⟩
  clear hb Ha HB_Wa K_Wa
  cases ok
  · go_wp2_with fail
    go_ret
    exact ⟨by rw [← HR.out]; unfold lineP; rw [HRT.out]; rfl, HB1.out⟩
  obtain ⟨⟨h0, h8⟩, hsmall⟩ := HSM.out HRP.out
  obtain ⟨o, rfl⟩ : ∃ o : Nat, a0 = (o : Int) := ⟨a0.toNat, by omega⟩
  have ho8 : o ≤ 8 := by omega
  have HR2 : Aside0 (glue 32 (pcs L o) = R) := ⟨by rw [← HR.out]; unfold lineP; rw [HRT.out, HG0.out]; rfl⟩
  have x0 : w1.cell? ⟨g1, 0, none⟩ = some (.int .i64 (o : Int)) := by
    rw [cell_in H1.out 0, cc_get (by have := HLL.out; omega), HG0.out]
  have q1 : (0 ≤ (o : Int)) = True := eq_true (by omega)
  have q2 : ((o : Int) < 9) = True := eq_true (by omega)
  have q3 : (o < 9) = True := eq_true (by omega)
  have HVG := Aside0.mk (vbC_get ho8)
  have HS : Aside0 (∀ W', Below w1.heap.size w1 W' → W'.cell? ⟨g1, 0, none⟩ = some (.int .i64 (o : Int))) := ⟨fun W' hb => (hb.cell (World.block_lt_of_cell? w1 _ x0)).trans x0⟩
  have HSMALL := Aside0.mk hsmall
  clear x0 hsmall h0 h8
  go_wp2_with fail
  refine startD 7 lineT3 HS ⟨Below.refl _ _⟩ (fun W2 HT B2 K2 => ?_)
  refine pureD 1 (some 10) (lb 7 0x2) HT ?_
  refine takeD 2 (some 11) (lb 7 0x6) HT HS B2 ?_ (hy := Or.inl ⟨by rfl, by intro w' hs; go_simp; with_reducible rfl⟩)
  refine oneD 0 (some 9) (lb 7 0x7) HT (fun K hK => ?_)
  refine callV (Φ := fun v W => ∃ g, v = .slice (some ⟨g, 0, none⟩) 9 9 ∧ W.heap[g]? = some (.cells vbC 9 (0, 0))) hK HS B2 Tryd.func38 ((verbs_new W2).mono fun e w' ⟨g, h1, h2, h3, h4⟩ => ⟨_, h1, ⟨g, rfl, h3⟩, below_step B2.out h4⟩) (fun v3 W3 H3 B3 => ?_)
  obtain ⟨gv, rfl, hgv⟩ := H3.out
  have hv := (cell_in hgv o).trans HVG.out
  refine pureD 3 (some 12) (lb 7 0xf) HT ?_
  refine oneD 4 (some 13) (lb 7 0x1f) HT (fun K hK => ?_)
  refine loadK hK HS B3 (v := .string (strB (vb o))) (by go_simp) ?_
  clear hv hgv
  refine oneD 5 (some 14) (lb 7 0x3f) HT (fun K hK => ?_)
  refine litE hK HS B3 #[.string (strB (vb o))] 9 1 (by first | (go_simp; done) | (go_simp; rfl)) (fun g14 W4 G4 L4 B4 K4 => ?_)
  refine pureD 6 (some 3) (lb 7 0x7f) HT ?_
  refine doneD HT ?_
  have HB4 := Aside0.mk (below_step HB1.out B4.out)
  have H4 := Aside0.mk (blk_below H1.out B4.out)
  have HO4 := Aside0.mk (row_one G4.out (B := w.heap.size) (Nat.le_trans (below_size HB1.out) L4.out.1))
  clear HT B2 K2 hK B3 H3 G4 L4 B4 K4 HS H1 HB1
  go_wp2_with fail
  refine (numbers_any (o : Int) g1 _ W4 H4.out (by rw [cc_get (by have := HLL.out; omega), HG0.out])).mono ?_
  rintro e w3 ⟨v, rfl, hp, hb3⟩
  obtain ⟨A, rfl, hq⟩ := ptrs_form hp
  obtain ⟨n, hn⟩ : ∃ n, (offN (o : Int)).length = n := ⟨_, rfl⟩
  have hn4 : (offN (o : Int)).length ≤ 4 := offN_len _
  have HO3 := Aside0.mk (Kd.R_below HO4.out hb3)
  have H3 := Aside0.mk (blk_below H4.out hb3)
  have HB3 := Aside0.mk (below_step HB4.out hb3)
  have HP3 : Aside0 (Ptrs w3 (.slice A n n) g1 (offN (o : Int))) := ⟨by rw [← hn]; exact hp⟩
  have HN := Aside0.mk hn
  rw [hn] at hn4 ⊢
  clear hp hb3 hq HO4 H4 HB4 hn
  have HT1 : Aside0 ((pcsS L o).take (0 + 1) = [strB (vb o)]) := ⟨rfl⟩
  go_wp2_with fail
  go_loopw [3, 5, 17] (fun v3 _ v17 wr => ∃ k : Nat, k ≤ n ∧ v17 = .int .i64 k ∧ Kd.R Kd.string 9 wr w.heap.size (fun _ => True) v3 ((pcsS L o).take (k + 1)) ∧ wr.heap[g1]? = some (.cells (cc L) 37 (0, 0)) ∧ Ptrs wr (.slice A n n) g1 (offN (o : Int)) ∧ Below w.heap.size w wr) (fun _ _ v17 _ => ((n : Int) - intOf v17).toNat)
  case atStart => exact ⟨0, by omega, rfl, by rw [HT1.out]; exact HO3.out, H3.out, HP3.out, HB3.out⟩
  case round =>
    obtain ⟨k, hk, rfl, hR, hG, hP, hB⟩ := hrel
    clear HO3 H3 HP3 HB3
    obtain ⟨A3, c3, e3⟩ := Kd.R_slice hR
    subst e3
    obtain ⟨ys, hys⟩ : ∃ ys, (pcsS L o).take (k + 1) = ys := ⟨_, rfl⟩
    rw [hys] at hR
    have hyl : ys.length ≤ 5 := by
      rw [← hys]
      have := (pcs_small HSMALL.out).2
      simp [pcsS]
      omega
    have HYL := Aside0.mk hyl
    have HYS := Aside0.mk hys
    rw [hys]
    have HRk := Aside0.mk hR
    have HG := Aside0.mk hG
    have HPk := Aside0.mk hP
    have HB := Aside0.mk hB
    rcases (by omega : k < n ∨ k = n) with hkn | rfl
    · have hoff := offN_at (o : Int) (j := k) (by rw [HN.out]; exact hkn)
      have hmem : (offN (o : Int)).getD k 0 ∈ offN (o : Int) := by
        have hk2 : k < (offN (o : Int)).length := by rw [HN.out]; exact hkn
        rw [List.getD_eq_getElem?_getD, List.getElem?_eq_getElem hk2]
        exact List.getElem_mem hk2
      have hsm := HSMALL.out _ hmem
      have hnext := pcsS_next (L := L) (o := o) (k := k) (by rw [HN.out]; exact hkn)
      rw [hys] at hnext
      obtain ⟨A', hA', hq⟩ := ptrs_form hP
      obtain ⟨hh, hA2, hne, hcell⟩ := hq k (by rw [HN.out]; exact hkn)
      have hA1 : A = some ⟨hh, 0, none⟩ := (Value.slice.inj hA').1.trans hA2
      subst hA1
      clear hA' hA2
      obtain ⟨j, hj⟩ : ∃ j, (offN (o : Int)).getD k 0 = j := ⟨_, rfl⟩
      rw [hj] at hcell hoff hsm hnext
      obtain ⟨x, hx⟩ : ∃ x : Nat, L.getD j 0 = (x : Int) := ⟨(L.getD j 0).toNat, by omega⟩
      have x0 : wr.cell? ⟨g1, j, none⟩ = some (.int .i64 (x : Int)) := by
        rw [cell_in HG.out j, cc_get (by have := HLL.out; omega), hx]
      rw [hx] at hnext hsm
      rw [Int.toNat_natCast] at hnext
      have HNX := Aside0.mk hnext
      have HXS : Aside0 (x < 1000000000000000000) := ⟨by omega⟩
      have m1 : decide ((k : Int) < (n : Int)) = true := decide_eq_true (by omega)
      have m2 : decide (k < n) = true := decide_eq_true hkn
      obtain ⟨D, hD⟩ : ∃ D, strB (digP x) = D := ⟨_, rfl⟩
      have HDD := Aside0.mk hD
      clear hR hG hB hP hys hyl hoff hj hx hq hnext hsm hmem hD
      go_wp2_with fail
      refine (digits_calls x HXS.out wr).mono ?_
      rintro e w4 ⟨rfl, hb4⟩
      rw [HDD.out]
      have HR4 := Aside0.mk (Kd.R_below HRk.out hb4)
      have HG4 := Aside0.mk (blk_below HG.out hb4)
      have HP4 := Aside0.mk (ptrs_far HPk.out (fun _ _ h => blk_below h hb4))
      have HB4 := Aside0.mk (below_step HB.out hb4)
      clear hb4 HRk HG HPk HB x0 hcell
      go_wp2_with (first | ((with_reducible refine gate_dst (N := 26) rfl ?_); refine litN (w := w) Kd.string 9 rfl (N := 26) rfl (xs := ([D] : List ByteArray)) (inner := [.string D]) (by first | (go_simp; done) | (go_simp; rfl)) (Reps.one (show Kd.M Kd.string _ _ _ D [.string D] from rfl) (Reps.none _ _)) HB4 (by simp) ?_; intro va Wa Ha HB_Wa K_Wa; obtain ⟨Aa, ca, ea⟩ := Kd.R_slice Ha.out; subst ea; have Ra := Aside0.mk (Kd.R_reads' Ha.out).2.2; have HOa := Aside0.mk (Kd.R_below HR4.out K_Wa.out); have HGa := Aside0.mk (blk_below HG4.out K_Wa.out); have HPa := Aside0.mk (ptrs_far HP4.out (fun _ _ h => blk_below h K_Wa.out))) | ((with_reducible refine gate_builtin (b := .append) (xs := #[.tmp 21, .tmp 26]) rfl ?_); at_builtin; refine Kd.R_append_rows Kd.string (w0 := w) w.heap.size rfl (.tmp 21) (.tmp 26) 69 9 (.string ⟨#[]⟩) 16 rfl Tryd.underlying69 infoS rfl (by decide) (by decide) _ ys [D] Aa _ ca (fun _ => True) (fun _ => False) rfl rfl HOa.out Ra.out (fun _ _ h => h) (fun _ h => h.elim) (fun _ _ => trivial) HB_Wa.out (below_size HB_Wa.out) (by have := HYL.out; simp; omega) ?_; intro v1 W1 h1 hb1 hg1 _; have HR1 := Aside0.mk h1; have HB1 := Aside0.mk hb1; have HG1 := Aside0.mk (blk_grown HGa.out hg1 (Kd.R_ne HOa.out HGa.out (by decide))); have HP1 := Aside0.mk (ptrs_far HPa.out (fun _ _ h => blk_grown h hg1 (Kd.R_ne HOa.out h (by decide)))); clear h1 hb1 hg1))
      exact ⟨⟨k + 1, by omega, by simp [intOf], by rw [HNX.out, HDD.out]; exact HR1.out, HG1.out, HP1.out, HB1.out⟩, by simp [intOf]; omega⟩
    · have m1 : decide ((k : Int) < (k : Int)) = false := decide_eq_false (by omega)
      have m2 : decide (k < k) = false := decide_eq_false (by omega)
      have hall : (pcsS L o).take (k + 1) = pcsS L o := List.take_of_length_le (by unfold pcsS pcs; rw [List.length_map, List.length_cons, List.length_map, HN.out]; omega)
      rw [hall] at hys
      have HJ := Aside0.mk (join_pcs HSMALL.out HR2.out)
      have HYS2 := Aside0.mk hys
      clear hR hG hB hP hys hyl hall HYS
      go_wp2_with fail
      refine (strings_Join.calls A3 c3 ys ⟨#[32]⟩ (strB R) wr (Kd.R_reads' HRk.out).2.2 (Kd.R_reads' HRk.out).2.1 (by rw [← HYS2.out]; exact HJ.out)).mono ?_
      rintro e w4 ⟨rfl, hb4⟩
      have HB4 := Aside0.mk (below_step HB.out hb4)
      clear hb4
      go_wp2_with fail
      go_ret
      exact ⟨rfl, HB4.out⟩
end Go.Proofs.YtmoodblpgnnenaaDoor.PLs
