/- listing.Parse: walk. Helper text. -/
import Derived.Test.YtmoodblpgnnenaaDoorLsSpl
import Derived.Test.YtmoodblpgnnenaaDoorLsLn2
import Derived.Maps.OwnOps
namespace Go.Proofs.YtmoodblpgnnenaaDoor.PLs
open Go.RowKit Go.Proofs.YtmoodblpgnnenaaDoor.Kx Go.Proofs.YtmoodblpgnnenaaDoor.PWe Go.Proofs.YtmoodblpgnnenaaDoorW.PrintWords Go.Proofs.YtmoodblpgnnenaaDoorW.PrintLast Go.Proofs.YtmoodblpgnnenaaDoorW.PrintMore
set_option linter.unusedVariables false
set_option linter.unusedSimpArgs false
section
variable {P : Program} {ops : Array Oper} {rest : List Oper} {o : Oper} {a : Act} {Q : Exit → Act → World → Prop} {W : World}
/-- A box is made. -/
theorem boxBx (hgd : o.guard = none) {N : Tmp} (hd : o.dst = some N) (cs : Array Value) (t : TypeId)
    (hrun : (execOp a.eval o).run P W = .ok (.value (.pointer (some ⟨W.heap.size, 0, none⟩))) (W.alloc (.cells cs t (0, 0))))
    (h : ∀ g w1, Aside0 (w1.heap[g]? = some (.cells cs t (0, 0))) → Aside0 (W.heap.size ≤ g) → Aside0 (Below W.heap.size W w1) → wpList P ops Q rest (a.put o.dst (.pointer (some ⟨g, 0, none⟩))) w1) : wpList P ops Q (o :: rest) a W :=
  boxN (w := W) hgd hd hrun ⟨Below.refl _ _⟩ fun g w1 h1 h2 h3 _ => h g w1 h1 ⟨h2.out.2⟩ h3
/-- A whole block is written: what becomes of the world. -/
theorem storeRowBx (hgd : o.guard = none) (ty : TypeId) (x y : Operand) (ho : o.op = .store ty x y) (g : Nat) (cells : Array Value) (hx : a.eval x = .pointer (some ⟨g, 0, none⟩)) (hy : a.eval y = .agg cells)
    (t : TypeId) (old : Array Value) (hg : Aside0 (W.heap[g]? = some (.cells old t (0, 0)))) (hi : (P.info? ty).map (·.size) = some cells.size) (hold : old.size = cells.size) (h1 : cells.all (·.oneCell') = true)
    (h : ∀ W3, Aside0 (W3.heap[g]? = some (.cells cells t (0, 0))) → Aside0 (∀ (B : Nat) (w0 : World), B ≤ g → Below B w0 W → Below B w0 W3) → Aside0 (∀ b, b ≠ g → W3.heap[b]? = W.heap[b]?) → wpList P ops Q rest (a.put o.dst undef) W3) : wpList P ops Q (o :: rest) a W :=
  wpList_store_row hgd ty x y ho g cells hx hy t old hg.out hi hold h1 (h _ ⟨setRow_heap _ _ _ _ _ _ hg.out⟩ ⟨fun B w0 hB hb => Kx.below_setRow hb hB⟩ ⟨fun b hb => setRow_other W g b cells hb⟩)
end
theorem strK : Maps.Keyed Tryd.prog 9 := Maps.string_keyed Tryd.underlying9
theorem blk_grown' {W W' : World} {k b : Nat} {cs : Array Value} {t : TypeId} {fz : Nat × Nat} (h : W.heap[k]? = some (.cells cs t fz)) (hg : W.grownBy W' (some b)) (hne : k ≠ b) : W'.heap[k]? = some (.cells cs t fz) :=
  (hg.block k (Array.getElem?_eq_some_iff.1 h).1 (fun e => hne (Option.some.inj e))).trans h
theorem wf64 {x : Int} (h0 : -9223372036854775808 ≤ x) (h1 : x ≤ 9223372036854775807) : (Lit.int .i64 x).wf = true := by
  have e1 : IntKind.i64.min = -9223372036854775808 := by kernel_rfl
  have e2 : IntKind.i64.max = 9223372036854775807 := by kernel_rfl
  simp only [Lit.wf, e1, e2, Bool.and_eq_true, decide_eq_true_eq]
  exact ⟨h0, h1⟩
theorem ptrs_kept {W W' : World} {v : Value} {g gl gf : Nat} {l : List Nat} {a b : Array Value} {t1 t2 : TypeId} {f1 f2 : Nat × Nat} (h : Ptrs W v g l) (hk : ∀ k, k < W.heap.size → k ≠ gl → k ≠ gf → W'.heap[k]? = W.heap[k]?) (h1 : W.heap[gl]? = some (.cells a t1 f1)) (h2 : W.heap[gf]? = some (.cells b t2 f2)) (n1 : t1 ≠ 82) (n2 : t2 ≠ 82) : Ptrs W' v g l :=
  ptrs_far h fun hh cs hb => (hk hh (Array.getElem?_eq_some_iff.1 hb).1 (fun e => by rw [e, h1] at hb; cases hb; exact n1 rfl) (fun e => by rw [e, h2] at hb; cases hb; exact n2 rfl)).trans hb
theorem blk_kept3 {W W' : World} {k gl gf : Nat} {cs : Array Value} {t : TypeId} {fz : Nat × Nat} {a b : Array Value} {t1 t2 : TypeId} {f1 f2 : Nat × Nat} (h : W.heap[k]? = some (.cells cs t fz)) (hk : ∀ k, k < W.heap.size → k ≠ gl → k ≠ gf → W'.heap[k]? = W.heap[k]?) (h1 : W.heap[gl]? = some (.cells a t1 f1)) (h2 : W.heap[gf]? = some (.cells b t2 f2)) (n1 : t1 ≠ t) (n2 : t2 ≠ t) : W'.heap[k]? = some (.cells cs t fz) :=
  (hk k (Array.getElem?_eq_some_iff.1 h).1 (fun e => by rw [e, h1] at h; cases h; exact n1 rfl) (fun e => by rw [e, h2] at h; cases h; exact n2 rfl)).trans h
theorem below_step2 {w W W' : World} (h : Below w.heap.size w W) (k : Below w.heap.size W W') : Below w.heap.size w W' := h.trans k
theorem takeP_all {l : List (List UInt8)} {f : Bool} {M : Nat} (h : ∀ p ∈ l, p.length ≤ M) : ∀ p ∈ (takeP l f).1, p.length ≤ M := by
  unfold takeP
  cases l with
  | nil => intro p hp; simp at hp; rw [hp]; simp
  | cons a r =>
    cases r with
    | nil => intro p hp; simp at hp; rw [hp]; simp
    | cons b q => intro p hp; exact h p (List.mem_cons_of_mem _ hp)
theorem takeP_len (l : List (List UInt8)) (f : Bool) {M : Nat} (hM : 1 ≤ M) (h : l.length ≤ M) : (takeP l f).1.length ≤ M := by
  unfold takeP
  cases l with
  | nil => exact hM
  | cons a r =>
    cases r with
    | nil => exact hM
    | cons b q => simp only [List.tail_cons]; simp only [List.length_cons] at h ⊢; omega
theorem results_ct1 {P : Program} {fn : Func} {p u1 : Tmp} {ty : TypeId} (h : fn.results = #[.cell p ty, .tmp u1]) (tmps : Array Value) (w : World) (g : Nat) (t : TypeId) (cs : Array Value) (d : TypeDesc) (hp : tmps.getD p undef = .pointer (some ⟨g, 0, none⟩)) (hg : w.heap[g]? = some (.cells cs t (0, 0)))
    (hu : P.underlying ty = some d) (hd : (match d with | .struct _ | .array _ _ => true | _ => false) = true) (hi : (P.info? ty).map (·.size) = some cs.size) :
    (results fn tmps).run P w = .ok (.tuple #[.agg cs, tmps.getD u1 undef]) w := by
  have hl := run_loadVar_row w g t ty cs (0, 0) d hg hu hd hi
  have hp' : tmps[p]?.getD undef = .pointer (some ⟨g, 0, none⟩) := by simpa using hp
  simp [results, h, hp', asAddr, hl]
theorem ixV_nat (s : List UInt8) : ∃ O : Nat, O ≤ 8 ∧ ixV (vIx 9 s) = (O : Int) := by
  cases h : vIx 9 s with
  | none => exact ⟨0, by omega, rfl⟩
  | some i => exact ⟨i, by have := (vIx_lt h).1; omega, rfl⟩
theorem lit_int_inj {H : Type} {a b : Int} (h : (.lit (.int .i64 a) : DataW H) = .lit (.int .i64 b)) : a = b := by cases h; rfl
theorem spl_len_le (c : UInt8) : ∀ (l : List UInt8), ∀ p ∈ spl c l, p.length ≤ l.length
  | [], p, h => by
    have : p = [] := by simpa [spl] using h
    rw [this]; simp
  | b :: r, p, h => by
    have ih := spl_len_le c r
    have hn := spl_ne c r
    unfold spl at h
    by_cases hb : b = c
    · rw [if_pos hb] at h
      rcases List.mem_cons.1 h with rfl | h
      · simp
      · have := ih p h; simp only [List.length_cons]; omega
    · rw [if_neg hb] at h
      cases hs : spl c r with
      | nil => exact absurd hs hn
      | cons q t =>
        rw [hs] at h ih
        rw [List.headD_cons, List.tail_cons] at h
        rcases List.mem_cons.1 h with rfl | h
        · have := ih q (by simp); simp only [List.length_cons]; omega
        · have := ih p (List.mem_cons_of_mem _ h); simp only [List.length_cons]; omega
theorem blk_other {W W' : World} {k g : Nat} {cs cs' : Array Value} {t t' : TypeId} {fz fz' : Nat × Nat} (h : W.heap[k]? = some (.cells cs t fz)) (hO : ∀ b, b ≠ g → W'.heap[b]? = W.heap[b]?) (hg : W.heap[g]? = some (.cells cs' t' fz')) (ht : t ≠ t') : W'.heap[k]? = some (.cells cs t fz) :=
  (hO k fun e => by
    rw [e, hg] at h
    cases h
    exact ht rfl).trans h
theorem ownsMap_below {H : Type} {P : Program} {k : TypeId} {R : Value → Option (DataW H × List MemPlace)} {b n : Nat} {D : DataW H} {w w' : World} (h : w.ownsMap P k R b n D) (hb : Below w.heap.size w w') : w'.ownsMap P k R b n D := by
  obtain ⟨es, clock, h1, h2⟩ := h
  exact ⟨es, clock, (hb.block _ (Array.getElem?_eq_some_iff.1 h1).1).trans h1, h2⟩
theorem ownsMap_other {H : Type} {P : Program} {k : TypeId} {R : Value → Option (DataW H × List MemPlace)} {b n g : Nat} {D : DataW H} {w w' : World} {cs : Array Value} {t : TypeId} {fz : Nat × Nat} (h : w.ownsMap P k R b n D) (hO : ∀ b, b ≠ g → w'.heap[b]? = w.heap[b]?) (hg : w.heap[g]? = some (.cells cs t fz)) : w'.ownsMap P k R b n D := by
  obtain ⟨es, clock, h1, h2⟩ := h
  exact ⟨es, clock, (hO b (fun e => by rw [e, hg] at h1; cases h1)).trans h1, h2⟩
theorem blk_map {H : Type} {P : Program} {k : TypeId} {R : Value → Option (DataW H × List MemPlace)} {b n : Nat} {D : DataW H} {W W' : World} {j : Nat} {cs : Array Value} {t : TypeId} {fz : Nat × Nat} (h : W.heap[j]? = some (.cells cs t fz)) (hg : W.grownBy W' (some b)) (hm : W.ownsMap P k R b n D) : W'.heap[j]? = some (.cells cs t fz) :=
  blk_grown' h hg (fun e => by
    obtain ⟨es, clock, h1, _⟩ := hm
    rw [e, h1] at h; cases h)
set_option maxHeartbeats 8000000 in
set_option maxRecDepth 100000 in
theorem parse_calls (s : ByteArray) (m : Int) (w : World) (hs : s.size ≤ 100000) (hm : w.cell? ⟨0, 0, none⟩ = some (.int .i64 m)) {C : List Int} {E : Int} (hR : parseP s.data.toList = (C, E)) :
    Calls Tryd.prog 15 #[.string s] w fun e w' => e = .returned (.tuple #[.agg (cc C), .int .i64 E]) ∧ Below w.heap.size w w' := by
  have HM := Aside0.mk hm
  have HS : Aside0 (s.size < 4294967281) := ⟨by omega⟩
  have HRR := Aside0.mk hR
  obtain ⟨ps, hps⟩ : ∃ ps, spl 32 s.data.toList = ps := ⟨_, rfl⟩
  have HSL : Aside0 ((∀ p ∈ ps, p.length ≤ 100000) ∧ ps.length ≤ 100001) := ⟨by
    have hz : s.data.toList.length ≤ 100000 := by rw [← Lib.size_eq]; exact hs
    rw [← hps]
    refine ⟨fun p hp => Nat.le_trans (spl_len_le 32 _ p hp) hz, ?_⟩
    rw [spl_len]
    have := List.count_le_length (a := (32 : UInt8)) (l := s.data.toList)
    omega⟩
  have HPS := Aside0.mk hps
  clear hm hs hR hps
  have hmm := @run_makeMap Tryd.prog
  go_enter Tryd.func15, Tryd.ntmps15
  go_wp2_with (first | ((with_reducible refine gate_dst (N := 2) rfl ?_); refine boxBx rfl (N := 2) rfl (cc zero7) 37 (by first | (go_simp; done) | (go_simp; rfl)) ?_; intro g2 W1 H2 L2 B1))
  have HM1 := Aside0.mk ((B1.out.cell (World.block_lt_of_cell? w _ HM.out)).trans HM.out)
  refine (split_new s 32 m W1 HS.out HM1.out).mono ?_
  rintro e W2 ⟨gs, rfl, hgs, hsb, hb2⟩
  rw [HPS.out] at hsb ⊢
  have HGS := Aside0.mk hsb
  have HB2 := Aside0.mk (below_step B1.out hb2)
  have H22 := Aside0.mk (blk_below H2.out hb2)
  clear hsb hb2 hgs H2 B1
  go_wp2_with (first | ((with_reducible refine gate_dst (N := 4) rfl ?_); refine boxBx rfl (N := 4) rfl #[.slice none 0 0] 69 (by first | (go_simp; done) | (go_simp; rfl)) ?_; intro gl W3 H4 L4 B3; have HB3 := Aside0.mk (below_step HB2.out B3.out); have H23 := Aside0.mk (blk_below H22.out B3.out); have HGS3 := Aside0.mk (blk_below HGS.out B3.out); have hc4 := (cell_in H4.out 0).trans rfl; have hf4 := free_in H4.out 0) | ((with_reducible refine gate_ (.store 69 (.tmp 4) (.tmp 15)) rfl ?_); refine storeBx rfl rfl 69 _ _ rfl gl 0 _ H4 (by first | (go_simp; done) | (go_simp; rfl)) ?_; intro W4 G4 BB4 O4; clear hc4 hf4))
  have H24 := Aside0.mk (blk_other H23.out O4.out H4.out (by decide))
  have HGS4 := Aside0.mk (blk_other HGS3.out O4.out H4.out (by decide))
  have hLB := Nat.le_trans (below_size HB2.out) L4.out
  have HB4 := Aside0.mk (BB4.out w.heap.size w hLB HB3.out)
  have HLB := Aside0.mk hLB
  have hkb : Below W4.heap.size W4 (W4.alloc (.map #[] 0)) := below_alloc (Below.refl _ _) _
  have HGL5 := Aside0.mk (blk_below G4.out hkb)
  have HG25 := Aside0.mk (blk_below H24.out hkb)
  have HGS5 := Aside0.mk (blk_below HGS4.out hkb)
  have HB5 := Aside0.mk (below_step HB4.out hkb)
  have HMP5 := Aside0.mk (World.ownsMap_made W4 Tryd.prog 9 (plainElem Tryd.prog 3 : Value → Option (DataW Unit × List MemPlace)))
  have HMB : Aside0 (w.heap.size ≤ W4.heap.size) := ⟨below_size HB4.out⟩
  obtain ⟨gm, hgm⟩ : ∃ g, W4.heap.size = g := ⟨_, rfl⟩
  obtain ⟨W5, hW5⟩ : ∃ W, W4.alloc (.map #[] 0) = W := ⟨_, rfl⟩
  rw [hW5] at HGL5 HG25 HGS5 HB5 HMP5 ⊢
  rw [hgm] at HMP5 HMB ⊢
  clear hW5 hgm hkb hLB H22 HGS HB2 H4 L4 B3 HB3 H23 HGS3 G4 BB4 O4 H24 HGS4 HB4 hmm
  refine (verbs_new W5).mono ?_
  rintro e W6 ⟨gv, rfl, hgv, hvb, hb6⟩
  have HGV := Aside0.mk hvb
  have HGL6 := Aside0.mk (blk_below HGL5.out hb6)
  have HG26 := Aside0.mk (blk_below HG25.out hb6)
  have HGS6 := Aside0.mk (blk_below HGS5.out hb6)
  have HB6 := Aside0.mk (below_step HB5.out hb6)
  have HMP6 : Aside0 (W6.ownsMap Tryd.prog 9 (plainElem Tryd.prog 3 : Value → Option (DataW Unit × List MemPlace)) gm 0 (mapV 0)) := ⟨ownsMap_below HMP5.out hb6⟩
  clear hgv hvb hb6 HGL5 HG25 HGS5 HB5 HMP5
  go_wp2_with fail
  go_loopw [6, 7, 19] (fun _ _ v19 wr => ∃ i : Nat, i ≤ 9 ∧ v19 = .int .i64 (i : Int) ∧ Aside0 (wr.ownsMap Tryd.prog 9 (plainElem Tryd.prog 3 : Value → Option (DataW Unit × List MemPlace)) gm i (mapV i)) ∧ Aside0 (wr.heap[gv]? = some (.cells vbC 9 (0, 0))) ∧ Aside0 (wr.heap[gl]? = some (.cells #[.slice (some ⟨gs, 0, none⟩) ps.length ps.length] 69 (0, 0))) ∧ Aside0 (wr.heap[g2]? = some (.cells (cc zero7) 37 (0, 0))) ∧ Aside0 (wr.heap[gs]? = some (.cells (ps.map fun p => Value.string (strB p)).toArray 9 (0, 0))) ∧ Aside0 (Below w.heap.size w wr)) (fun _ _ v19 _ => (9 - intOf v19).toNat)
  case atStart => exact ⟨0, by omega, rfl, HMP6, HGV, HGL6, HG26, HGS6, HB6⟩
  case round =>
    clear HMP6 HGV HGL6 HG26 HGS6 HB6
    obtain ⟨i, hi, rfl, HMP, HGV, HGL, HG2, HGS, HB⟩ := hrel
    by_cases hlt : i < 9
    · have m1 : decide ((i : Int) < 9) = true := decide_eq_true (by omega)
      have m2 : decide (i < 9) = true := decide_eq_true hlt
      have q1 : (0 ≤ (i : Int)) = True := eq_true (by omega)
      have q2 : ((i : Int) < 9) = True := eq_true (by omega)
      have q3 : (i < 9) = True := eq_true hlt
      have hv := (cell_in HGV.out i).trans (vbC_get (by omega))
      have HLT := Aside0.mk hlt
      obtain ⟨V, hV⟩ : ∃ V, strB (vb i) = V := ⟨_, rfl⟩
      rw [hV] at hv
      have HKY : Aside0 (keyOf Tryd.prog 9 (.string V) = some (.string (vb i))) := ⟨by
        rw [WideMaps.keyOf_string_mk Tryd.underlying9 (by rw [← hV, strB_size]; have := vb_len i; unfold maxLen; omega), ← hV, strB_data]⟩
      clear hV hlt
      go_wp2_with (first | ((with_reducible refine gate_ (.mapUpdate 84 (.tmp 24) (.tmp 25) (.tmp 26)) rfl ?_); refine wpList_mapUpdate_own _ rfl _ _ _ 84 rfl 9 3 strK Tryd.underlying84 (plainElem Tryd.prog 3) gm i (mapV i) rfl HMP.out (by have := HLT.out; unfold maxLen; omega) _ _ _ rfl rfl HKY.out (.lit (.int .i64 (i : Int))) [] (plainElem_int Tryd.underlying3 (wf64 (by omega) (by have := HLT.out; omega))) ?_; intro w7 hm7 hg7))
      have HM7 := Aside0.mk hm7
      have HGV7 := Aside0.mk (blk_map HGV.out hg7 HMP.out)
      have HGL7 := Aside0.mk (blk_map HGL.out hg7 HMP.out)
      have HG27 := Aside0.mk (blk_map HG2.out hg7 HMP.out)
      have HGS7 := Aside0.mk (blk_map HGS.out hg7 HMP.out)
      have HB7 := Aside0.mk (HB.out.grown hg7 (below_size HB.out) (fun k e => by cases e; exact HMB.out))
      clear hm7 hg7 HMP HGV HGL HG2 HGS HB hv
      go_wp2_with fail
      exact ⟨⟨i + 1, HLT.out, by rw [Int.natCast_add]; rfl, HM7, HGV7, HGL7, HG27, HGS7, HB7⟩, by have := HLT.out; simp [intOf]; omega⟩
    · have m1 : decide ((i : Int) < 9) = false := decide_eq_false (by omega)
      have m2 : decide (i < 9) = false := decide_eq_false hlt
      obtain rfl : i = 9 := by omega
      obtain ⟨p0, pq, hpe⟩ : ∃ p q, ps = p :: q := by
        have := spl_ne 32 s.data.toList
        rw [HPS.out] at this
        cases ps with
        | nil => exact absurd rfl this
        | cons p q => exact ⟨p, q, rfl⟩
      have hPc := pcR_block HGS.out
      have hz := pcr_head (show PcR wr (some ⟨gs, 0, none⟩) (p0 :: pq) by rw [← hpe]; exact hPc)
      have hcl := (cell_in HGL.out 0).trans (rfl : (#[Value.slice (some ⟨gs, 0, none⟩) ps.length ps.length] : Array Value)[0]? = _)
      have hpl : ps.length = pq.length + 1 := by rw [hpe]; rfl
      have HPL := Aside0.mk hpl
      have HPE := Aside0.mk hpe
      have HPC := Aside0.mk hPc
      have q1 : ((0 : Int) < (ps.length : Int)) = True := eq_true (by omega)
      have q2 : (0 < ps.length) = True := eq_true (by omega)
      obtain ⟨lk1, lk2⟩ := mapV_look p0 9
      have hsl : p0.length ≤ 100000 := HSL.out.1 p0 (by rw [hpe]; simp)
      obtain ⟨V, hV⟩ : ∃ V, strB p0 = V := ⟨_, rfl⟩
      have HKY : Aside0 (keyOf Tryd.prog 9 (.string V) = some (.string p0)) := ⟨by
        rw [WideMaps.keyOf_string_mk Tryd.underlying9 (by rw [← hV, strB_size]; unfold maxLen; omega), ← hV, strB_data]⟩
      rw [hV] at hz
      have HL1 := Aside0.mk lk1
      have HL2 := Aside0.mk lk2
      clear hpe hpl hPc hlt hi hsl hV lk1 lk2
      obtain ⟨O, hO8, hO⟩ := ixV_nat p0
      obtain ⟨F, hF⟩ : ∃ F, (vIx 9 p0).isSome = F := ⟨_, rfl⟩
      rw [hF] at HL1
      rw [hO] at HL2
      have HPR : Aside0 (parseP s.data.toList = if (runT (offN (O : Int)) ps F [(O : Int), 0, 0, 0, 0, 0, 0]).2.1 = true ∧ (runT (offN (O : Int)) ps F [(O : Int), 0, 0, 0, 0, 0, 0]).1.length = 1 ∧ rightL (runT (offN (O : Int)) ps F [(O : Int), 0, 0, 0, 0, 0, 0]).2.2 = true then ((runT (offN (O : Int)) ps F [(O : Int), 0, 0, 0, 0, 0, 0]).2.2, 0) else (zero7, 30)) := ⟨by
        unfold parseP parseR
        rw [HPS.out, show ps.headD [] = p0 by rw [HPE.out]; rfl, hO, hF]⟩
      have HO8 := Aside0.mk hO8
      clear hO8 hO hF
      go_wp2_with (first | ((with_reducible refine gate_ (.lookup 84 (.tmp 29) (.tmp 32) true) rfl ?_); refine wpList_lookup_own_ok_int _ rfl _ _ 84 rfl 9 3 .i64 strK Tryd.underlying84 Tryd.underlying3 (Tryd.zeroValue3 _) gm 9 (mapV 9) rfl HMP.out _ _ rfl HKY.out ?_; intro cX hcX hcW; have hce := lit_int_inj (hcX.symm.trans HL2.out); subst hce; rw [HL1.out]; clear hcX hcW))
      have kb1 : Below wr.heap.size wr (wr.alloc (.cells #[.bool F] 4 (0, 0))) := below_alloc (Below.refl _ _) _
      have kb2 : Below wr.heap.size wr ((wr.alloc (.cells #[.bool F] 4 (0, 0))).alloc (.cells (cc [(O : Int), 0, 0, 0, 0, 0, 0]) 37 (0, 0))) := below_alloc kb1 _
      have hgf : ((wr.alloc (.cells #[.bool F] 4 (0, 0))).alloc (.cells (cc [(O : Int), 0, 0, 0, 0, 0, 0]) 37 (0, 0))).heap[wr.heap.size]? = some (.cells #[.bool F] 4 (0, 0)) := blk_below (blk_new wr _) (below_alloc (Below.refl _ _) _)
      have hg10 : ((wr.alloc (.cells #[.bool F] 4 (0, 0))).alloc (.cells (cc [(O : Int), 0, 0, 0, 0, 0, 0]) 37 (0, 0))).heap[wr.heap.size + 1]? = some (.cells (cc [(O : Int), 0, 0, 0, 0, 0, 0]) 37 (0, 0)) := by
        have := blk_new (wr.alloc (.cells #[.bool F] 4 (0, 0))) (.cells (cc [(O : Int), 0, 0, 0, 0, 0, 0]) 37 (0, 0))
        rwa [World.size_alloc] at this
      have HGF := Aside0.mk hgf
      have HG10 := Aside0.mk hg10
      have HB8 := Aside0.mk (below_step HB.out kb2)
      have HGL8 := Aside0.mk (blk_below HGL.out kb2)
      have HG28 := Aside0.mk (blk_below HG2.out kb2)
      have HPC8 := Aside0.mk (HPC.out.kept (ks_below kb2))
      have HWS : Aside0 (w.heap.size ≤ wr.heap.size) := ⟨below_size HB.out⟩
      obtain ⟨W8, hW8⟩ : ∃ W, ((wr.alloc (.cells #[.bool F] 4 (0, 0))).alloc (.cells (cc [(O : Int), 0, 0, 0, 0, 0, 0]) 37 (0, 0))) = W := ⟨_, rfl⟩
      have hW8' : ((wr.alloc (.cells #[.bool F] 4 (0, 0))).alloc (.cells #[.int .i64 (O : Int), .int .i64 0, .int .i64 0, .int .i64 0, .int .i64 0, .int .i64 0, .int .i64 0] 37 (0, 0))) = W8 := hW8
      rw [hW8] at HGF HG10 HB8 HGL8 HG28 HPC8
      rw [hW8']
      clear hW8 hW8' kb1 kb2 hgf hg10 hcl hz
      have HNG2 : Aside0 (g2 ≠ wr.heap.size + 1) := ⟨by have h1 := (Array.getElem?_eq_some_iff.1 HG2.out).1; omega⟩
      obtain ⟨gf, hgf⟩ : ∃ g, wr.heap.size = g := ⟨_, rfl⟩
      rw [hgf] at HGF HG10 HWS HNG2 ⊢
      clear hgf
      refine (numbers_any (O : Int) (gf + 1) _ W8 HG10.out rfl).mono ?_
      rintro e w3 ⟨v, rfl, hp, hb3⟩
      obtain ⟨A, rfl, hq⟩ := ptrs_form hp
      obtain ⟨n, hn⟩ : ∃ n, (offN (O : Int)).length = n := ⟨_, rfl⟩
      have hn4 : (offN (O : Int)).length ≤ 4 := offN_len _
      have HGF3 := Aside0.mk (blk_below HGF.out hb3)
      have HG103 := Aside0.mk (blk_below HG10.out hb3)
      have HGL3 := Aside0.mk (blk_below HGL8.out hb3)
      have HG23 := Aside0.mk (blk_below HG28.out hb3)
      have HPC3 := Aside0.mk (HPC8.out.kept (ks_below hb3))
      have HB3 := Aside0.mk (below_step HB8.out hb3)
      have HP3 : Aside0 (Ptrs w3 (.slice A n n) (gf + 1) (offN (O : Int))) := ⟨by rw [← hn]; exact hp⟩
      have HN := Aside0.mk hn
      rw [hn] at hn4 ⊢
      clear hp hb3 hq HGF HG10 HGL8 HG28 HPC8 HB8 hn HMP HGV HGL HG2 HGS HB HKY HL1 HL2 HPC
      go_wp2_with fail
      obtain ⟨D, hD⟩ : ∃ D, runT (offN (O : Int)) ps F [(O : Int), 0, 0, 0, 0, 0, 0] = D := ⟨_, rfl⟩
      have HD := Aside0.mk hD
      rw [hD] at HPR
      clear hD
      go_loopw [13, 41] (fun _ v41 wq => ∃ (k : Nat) (l : List (List UInt8)) (f : Bool) (X : List Int) (A' : Option Addr) (c' : Nat), k ≤ n ∧ v41 = .int .i64 (k : Int) ∧ Aside0 (runT ((offN (O : Int)).drop k) l f X = D) ∧ Aside0 (wq.heap[gl]? = some (.cells #[.slice A' l.length c'] 69 (0, 0))) ∧ Aside0 (PcR wq A' l) ∧ Aside0 (l.length ≤ c' ∧ 1 ≤ l.length ∧ l.length ≤ 100001 ∧ (∀ p ∈ l, p.length ≤ 100000) ∧ X.length = 7) ∧ Aside0 (wq.heap[gf]? = some (.cells #[.bool f] 4 (0, 0))) ∧ Aside0 (wq.heap[gf + 1]? = some (.cells (cc X) 37 (0, 0))) ∧ Aside0 (Ptrs wq (.slice A n n) (gf + 1) (offN (O : Int))) ∧ Aside0 (wq.heap[g2]? = some (.cells (cc zero7) 37 (0, 0))) ∧ Aside0 (Below w.heap.size w wq)) (fun _ v41 _ => ((n : Int) - intOf v41).toNat)
      case atStart => exact ⟨0, ps, F, [(O : Int), 0, 0, 0, 0, 0, 0], some ⟨gs, 0, none⟩, ps.length, by omega, rfl, ⟨HD.out⟩, HGL3, HPC3, ⟨Nat.le_refl _, by have := HPL.out; omega, HSL.out.2, HSL.out.1, rfl⟩, HGF3, HG103, HP3, HG23, HB3⟩
      case round =>
        clear HGL3 HPC3 HGF3 HG103 HP3 HG23 HB3
        obtain ⟨k, l, f, X, A', c', hk, rfl, HA, HGL, HPC, HX, HGF, HGX, HPT, HG2, HB⟩ := hrel
        have HNE : Aside0 (gf + 1 ≠ gl ∧ gf + 1 ≠ gf) := ⟨⟨fun e => (by have h1 := HGX.out; rw [e, HGL.out] at h1; exact absurd ((Obj.cells.inj (Option.some.inj h1)).2.1) (by decide)), by omega⟩⟩
        have HGLB : Aside0 (w.heap.size ≤ gl) := ⟨HLB.out⟩
        rcases (by omega : k < n ∨ k = n) with hkn | rfl
        · have hoff := offN_at (O : Int) (j := k) (by rw [HN.out]; exact hkn)
          obtain ⟨A2, hA', hq⟩ := ptrs_form HPT.out
          obtain ⟨hh, hA2, hne, hcell⟩ := hq k (by rw [HN.out]; exact hkn)
          have hA1 : A = some ⟨hh, 0, none⟩ := (Value.slice.inj hA').1.trans hA2
          subst hA1
          have hdrop : (offN (O : Int)).drop k = (offN (O : Int)).getD k 0 :: (offN (O : Int)).drop (k + 1) := by
            have hk2 : k < (offN (O : Int)).length := by rw [HN.out]; exact hkn
            rw [List.drop_eq_getElem_cons hk2, List.getD_eq_getElem?_getD, List.getElem?_eq_getElem hk2]; rfl
          have hrun := HA.out
          rw [hdrop, runT] at hrun
          obtain ⟨j, hj⟩ : ∃ j, (offN (O : Int)).getD k 0 = j := ⟨_, rfl⟩
          rw [hj] at hcell hoff hrun
          obtain ⟨p0', q0, rfl⟩ : ∃ p q, l = p :: q := by
            have := HX.out.2.1
            cases l with
            | nil => simp at this
            | cons p q => exact ⟨p, q, rfl⟩
          have htl := takeP_len (p0' :: q0) f (M := 100001) (by omega) HX.out.2.2.1
          have hta := takeP_all (f := f) HX.out.2.2.2.1
          have htn := takeP_ne (p0' :: q0) f
          obtain ⟨⟨l', f', x⟩, hT⟩ : ∃ r, takeP (p0' :: q0) f = r := ⟨_, rfl⟩
          rw [hT] at hrun htl hta htn
          have HRUN := Aside0.mk hrun
          have HT := Aside0.mk hT
          have HTL := Aside0.mk (And.intro htn (And.intro htl hta))
          have hce := fun args W => enters_ Tryd.func41 (by rfl) (by rfl) args W
          have m1 : decide ((k : Int) < (n : Int)) = true := decide_eq_true (by omega)
          have m2 : decide (k < n) = true := decide_eq_true hkn
          have z1 : (0 ≤ (k : Int)) = True := eq_true (by omega)
          have z2 : ((k : Int) < (n : Int)) = True := eq_true (by omega)
          have z3 : (k < n) = True := eq_true hkn
          have HJ := Aside0.mk hoff
          have HKN := Aside0.mk hkn
          clear hA' hA2 hq hdrop hrun htl hta htn hT hj hoff hkn HA
          go_wp2_with fail
          refine (take_calls gl gf w.heap.size A' c' p0' q0 f wr (HGL.out) HGF.out HPC.out HX.out.1 HGLB.out HWS.out (below_size HB.out) (fun p hp => Nat.le_trans (HX.out.2.2.2.1 p (List.mem_cons_of_mem _ hp)) (by omega)) (by have := HX.out.2.2.1; simp only [List.length_cons] at this; omega) HT.out).mono ?_
          rintro e w4 ⟨rfl, A4, c4, g4l, g4f, p4, l4, k4, b4⟩
          have HGL4 := Aside0.mk g4l
          have HGF4 := Aside0.mk g4f
          have HPC4 := Aside0.mk p4
          have HL4 := Aside0.mk l4
          have HGX4 := Aside0.mk ((k4 (gf + 1) (Array.getElem?_eq_some_iff.1 HGX.out).1 HNE.out.1 HNE.out.2).trans HGX.out)
          have HPT4 := Aside0.mk (ptrs_kept HPT.out k4 HGL.out HGF.out (by decide) (by decide))
          have HG24 := Aside0.mk (blk_kept3 HG2.out k4 HGL.out HGF.out (by decide) (by decide))
          have HB4 := Aside0.mk (below_step2 HB.out b4)
          clear g4l g4f p4 l4 k4 b4 HGL HGF HPC HGX HPT HG2 HB hcell hce
          have hjb : j < X.length := by have := HX.out.2.2.2.2; have := HJ.out; omega
          have y0 : w4.cell? ⟨gf + 1, j, none⟩ = some (.int .i64 (X.getD j 0)) := (cell_in HGX4.out j).trans (cc_get hjb)
          have y1 := free_in HGX4.out j
          have HJB := Aside0.mk hjb
          clear hjb
          go_wp2_with (first | ((with_reducible refine gate_ (.store 3 (.tmp 48) (.tmp 47)) rfl ?_); refine storeBx rfl rfl 3 _ _ rfl (gf + 1) j (.int .i64 x) HGX4 (by first | (go_simp; done) | (go_simp; rfl)) ?_; intro W5 G5 B5 O5; clear y0 y1))
          have hcx : W5.heap[gf + 1]? = some (.cells (cc (X.set j x)) 37 (0, 0)) := by rw [← cc_set]; exact G5.out
          exact ⟨⟨k + 1, l', f', X.set j x, A4, c4, HKN.out, by rw [Int.natCast_add]; rfl, HRUN, ⟨blk_other HGL4.out O5.out HGX4.out (by decide)⟩, ⟨HPC4.out.kept (ks_others O5.out HGX4.out (by decide))⟩, ⟨HL4.out, HTL.out.1, HTL.out.2.1, HTL.out.2.2, by rw [List.length_set]; exact HX.out.2.2.2.2⟩, ⟨blk_other HGF4.out O5.out HGX4.out (by decide)⟩, ⟨hcx⟩, ⟨ptrs_far HPT4.out fun hh cs hb => blk_other hb O5.out HGX4.out (by decide)⟩, ⟨(O5.out g2 HNG2.out).trans HG24.out⟩, ⟨B5.out w.heap.size w (Nat.le_succ_of_le HWS.out) HB4.out⟩⟩, by have := HKN.out; simp [intOf]; omega⟩
        · have hfin := HA.out
          rw [List.drop_eq_nil_of_le (by rw [HN.out]; exact Nat.le_refl _), runT] at hfin
          have hpr := HPR.out
          rw [← hfin, HRR.out] at hpr
          dsimp only at hpr
          have HPQ := Aside0.mk hpr
          have m1 : decide ((k : Int) < (k : Int)) = false := decide_eq_false (by omega)
          have m2 : decide (k < k) = false := decide_eq_false (by omega)
          have hcf : wr.cell? ⟨gf, 0, none⟩ = some (.bool f) := (cell_in HGF.out 0).trans rfl
          have hcl : wr.cell? ⟨gl, 0, none⟩ = some (.slice A' l.length c') := (cell_in HGL.out 0).trans rfl
          have HL2' : Aside0 (w.heap.size ≤ g2) := L2
          clear hfin hpr HPR HA HPT HPC
          cases f with
          | false =>
            have hE := HPQ.out
            rw [if_neg (fun h => by cases h.1)] at hE
            obtain ⟨rfl, rfl⟩ := Prod.mk.inj hE
            clear hE HPQ HRR
            go_wp2_with (first | ((with_reducible refine gate_ (.store 37 (.tmp 2) (.tmp 62)) rfl ?_); refine storeRowBx rfl 37 _ _ rfl g2 (cc zero7) rfl rfl 37 _ HG2 (by kernel_rfl) rfl (by rw [← Array.all_toList]; rfl) ?_; intro W5 G5 B5 O5))
            refine bodyPost_ret (results_ct1 rfl _ _ g2 37 (cc zero7) _ rfl G5.out Tryd.underlying37 rfl (by kernel_rfl)) rfl ⟨rfl, B5.out _ _ HL2'.out HB.out⟩
          | true =>
            by_cases hl1 : l.length = 1
            · have z1 : ((l.length : Int) == 1) = true := by rw [hl1]; rfl
              have z2 : decide ((l.length : Int) = 1) = true := by rw [hl1]; rfl
              have z3 : ((l.length : Int) != 1) = false := by rw [bne, z1]; rfl
              have z4 : (l.length == 1) = true := by rw [hl1]; rfl
              have z5 : decide (l.length = 1) = true := by rw [hl1]; rfl
              obtain ⟨x0, x1, x2, x3, x4, x5, x6, rfl⟩ := list7 X HX.out.2.2.2.2
              obtain ⟨ok, hok⟩ : ∃ b, rightL [x0, x1, x2, x3, x4, x5, x6] = b := ⟨_, rfl⟩
              have hE := HPQ.out
              rw [hl1, hok] at hE
              have HE := Aside0.mk hE
              have HRT : Aside0 (cmd_Command_Right.f 16 x0 x1 x2 x3 x4 x5 x6 = some ok) := ⟨by rw [right_all (by omega), ← hok]; rfl⟩
              have HGR : Aside0 (wr.heap[gf + 1]? = some (.cells #[.int .i64 x0, .int .i64 x1, .int .i64 x2, .int .i64 x3, .int .i64 x4, .int .i64 x5, .int .i64 x6] 37 (0, 0))) := ⟨HGX.out⟩
              clear hE hok HPQ hl1
              have y0 := (cell_in HGR.out 0).trans rfl
              have y1 := (cell_in HGR.out 1).trans rfl
              have y2 := (cell_in HGR.out 2).trans rfl
              have y3 := (cell_in HGR.out 3).trans rfl
              have y4 := (cell_in HGR.out 4).trans rfl
              have y5 := (cell_in HGR.out 5).trans rfl
              have y6 := (cell_in HGR.out 6).trans rfl
              go_wp2_with fail
              refine (cmd_Command_Right.calls 16 x0 x1 x2 x3 x4 x5 x6 ok wr HRT.out).mono ?_
              rintro e w5 ⟨rfl, hb5⟩
              have HG25 := Aside0.mk (blk_below HG2.out hb5)
              have HGR5 := Aside0.mk (blk_below HGR.out hb5)
              have HB5 := Aside0.mk (below_step HB.out hb5)
              clear hb5 hcf hcl y0 y1 y2 y3 y4 y5 y6
              cases ok with
              | false =>
                have hE := HE.out
                rw [if_neg (fun h => by cases h.2.2)] at hE
                obtain ⟨rfl, rfl⟩ := Prod.mk.inj hE
                clear hE HE HRR
                go_wp2_with (first | ((with_reducible refine gate_ (.store 37 (.tmp 2) (.tmp 62)) rfl ?_); refine storeRowBx rfl 37 _ _ rfl g2 (cc zero7) rfl rfl 37 _ HG25 (by kernel_rfl) rfl (by rw [← Array.all_toList]; rfl) ?_; intro W5 G5 B5 O5))
                refine bodyPost_ret (results_ct1 rfl _ _ g2 37 (cc zero7) _ rfl G5.out Tryd.underlying37 rfl (by kernel_rfl)) rfl ⟨rfl, B5.out _ _ HL2'.out HB5.out⟩
              | true =>
                have hE := HE.out
                rw [if_pos (by simp)] at hE
                obtain ⟨rfl, rfl⟩ := Prod.mk.inj hE
                clear hE HE HRR
                go_wp2_with (first | ((with_reducible refine gate_dst (N := 63) rfl ?_); refine wpList_load_row rfl 37 _ rfl (gf + 1) rfl 37 _ (0, 0) _ HGR5.out Tryd.underlying37 rfl (by kernel_rfl) ?_) | ((with_reducible refine gate_ (.store 37 (.tmp 2) (.tmp 63)) rfl ?_); refine storeRowBx rfl 37 _ _ rfl g2 (cc [x0, x1, x2, x3, x4, x5, x6]) rfl rfl 37 _ HG25 (by kernel_rfl) rfl (by rw [← Array.all_toList]; rfl) ?_; intro W5 G5 B5 O5))
                refine bodyPost_ret (results_ct1 rfl _ _ g2 37 (cc [x0, x1, x2, x3, x4, x5, x6]) _ rfl G5.out Tryd.underlying37 rfl (by kernel_rfl)) rfl ⟨rfl, B5.out _ _ HL2'.out HB5.out⟩
            · have z1 : ((l.length : Int) == 1) = false := beq_eq_false_iff_ne.2 (by omega)
              have z2 : decide ((l.length : Int) = 1) = false := decide_eq_false (by omega)
              have z3 : ((l.length : Int) != 1) = true := by rw [bne, z1]; rfl
              have hE := HPQ.out
              rw [if_neg (fun h => hl1 h.2.1)] at hE
              obtain ⟨rfl, rfl⟩ := Prod.mk.inj hE
              clear hE HPQ HRR hl1
              go_wp2_with (first | ((with_reducible refine gate_ (.store 37 (.tmp 2) (.tmp 62)) rfl ?_); refine storeRowBx rfl 37 _ _ rfl g2 (cc zero7) rfl rfl 37 _ HG2 (by kernel_rfl) rfl (by rw [← Array.all_toList]; rfl) ?_; intro W5 G5 B5 O5))
              refine bodyPost_ret (results_ct1 rfl _ _ g2 37 (cc zero7) _ rfl G5.out Tryd.underlying37 rfl (by kernel_rfl)) rfl ⟨rfl, B5.out _ _ HL2'.out HB.out⟩
end Go.Proofs.YtmoodblpgnnenaaDoor.PLs
