/- (wave.Wave).High: walk. Helper text. -/
import Derived.Test.YtedjjodnceinlaaDoorWvHi
namespace Go.Proofs.YtedjjodnceinlaaDoor.PWv
open Go.RowKit Go.Shelf Go.Proofs.YtedjjodnceinlaaDoor.Kx Go.Proofs.YtedjjodnceinlaaDoor.PWe Go.Proofs.YtedjjodnceinlaaDoorW.PrintWords Go.Proofs.YtedjjodnceinlaaDoorW.PrintLast Go.Proofs.YtedjjodnceinlaaDoorW.PrintMore
set_option linter.unusedVariables false
set_option linter.unusedSimpArgs false
attribute [local go_sem] Oper.semAt_some
theorem tks_len : ∀ (l : List S46), (∀ x ∈ l, (0 ≤ x.f0 ∧ x.f0 ≤ 15) ∧ 1 ≤ x.f1) → ∀ a, ((tks l a).length : Int) = sumT l
  | [], _, _ => rfl
  | r :: q, h, a => by
    have h1 := tks_len q (fun x hx => h x (List.mem_cons_of_mem _ hx)) (a + r.f1)
    have h2 := (h r (by simp)).2
    rw [tks, List.length_append, tkR_len, sumT_cons]
    omega
theorem blk_kept {A B : World} {row : Option Nat} {k : Nat} {cs : Array Value} {t : TypeId} {z : Nat × Nat} (h : A.heap[k]? = some (.cells cs t z)) (hg : A.grownBy B row) (hr : ∀ r, row = some r → ∃ o : Obj, A.heap[r]? = some o ∧ o.isCells = false) : B.heap[k]? = some (.cells cs t z) := by
  refine (hg.block k (Array.getElem?_eq_some_iff.1 h).1 (fun e => ?_)).trans h
  obtain ⟨o, ho, hc⟩ := hr k e.symm
  rw [h] at ho
  cases ho
  cases hc
theorem ko_of {A B : World} (h : Below A.heap.size A B) : KeepsOthers A B := ⟨h.size, fun k o hk _ => (h.block k (Array.getElem?_eq_some_iff.1 hk).1).trans hk⟩
def hiB (L line : Int) : Bool := (wires_Lines_High.f L line).getD false
theorem hiB_eq (L line : Int) : wires_Lines_High.f L line = some (hiB L line) := by
  unfold hiB
  cases h : wires_Lines_High.f L line with
  | some b => rfl
  | none =>
    exfalso
    unfold wires_Lines_High.f wires_is.f at h
    by_cases h0 : line ≥ 0
    · rw [if_pos h0] at h
      by_cases h3 : line ≤ 3
      · simp [h3, h0] at h
      · simp [h3] at h
    · rw [if_neg h0] at h
      simp at h
def cntH (line : Int) (l : List (Int × Int)) : Int := ((l.filter fun x => hiB x.2 line).length : Int)
theorem cntH_snoc (line : Int) (l : List (Int × Int)) (x : Int × Int) : cntH line (l ++ [x]) = cntH line l + (if hiB x.2 line then 1 else 0) := by
  unfold cntH
  rw [List.filter_append, List.length_append]
  cases h : hiB x.2 line <;> simp [h]
theorem cell_new_l (W : World) (v : Value) (t : TypeId) : (W.alloc (.cells #[v] t (0, 0))).cell? ⟨W.heap.size, 0, none⟩ = some v ∧ (W.alloc (.cells #[v] t (0, 0))).frozen? ⟨W.heap.size, 0, none⟩ = false :=
  ⟨(cell_in (blk_new W _) 0).trans rfl, free_in (blk_new W _) 0⟩
theorem cell_alloc_l {W : World} {a : Addr} {v : Value} (o : Obj) (h : W.cell? a = some v) : (W.alloc o).cell? a = some v := Go.cell_kept h (World.grownBy_alloc W o none) (fun r e => by cases e)
theorem frozen_alloc_l {W : World} {a : Addr} {v : Value} (o : Obj) (h : W.cell? a = some v) (hf : W.frozen? a = false) : (W.alloc o).frozen? a = false := (Go.frozen_kept h (World.grownBy_alloc W o none) (fun r e => by cases e)).trans hf
set_option maxHeartbeats 4000000 in
set_option maxRecDepth 100000 in
theorem high_in (k : Nat) (A : Option Addr) (c : Nat) (wv cl : List S46) (line : Int) (w : World) (hC : Kd.C k46 w A wv.length wv) (hc : wv.length ≤ c) (hcl : wave_Wave_Clean.f k wv = some cl) (hok : WOK cl) :
    CallsIn Fence.wide 9 Tryd.prog 15 #[.slice A wv.length c, .int .i64 line] w fun e w' => e = .returned (.int .i64 (cntH line (tks cl 0))) ∧ Below w.heap.size w w' := by
  have HC := Aside0.mk hC
  have HCL := Aside0.mk hcl
  clear hC hcl
  refine callsIn_of_wp_marks Tryd.func15 rfl trivial ?_ rfl
  simp only [Tryd.ntmps15, List.size_toArray, List.length_cons, List.length_nil, Nat.reduceAdd, Nat.reduceSub, Array.replicate_succ, Array.replicate_zero, List.push_toArray, List.append_toArray, List.nil_append, List.cons_append]
  gi_wp2_with (fail)
  refine ⟨trivial, (callsIn_wide.2 (ticks_calls A wv.length c _)).mono ?_⟩
  rintro e w1 ⟨rfl, rfl⟩
  gi_wp2_with (fail)
  have hB0 : Below w.heap.size w (((w.alloc (.cells #[.int .i64 line] 3 (0, 0))).alloc (.cells #[.int .i64 0] 3 (0, 0))).alloc (.cells #[.slice A wv.length c] 23 (0, 0))) := below_alloc (below_alloc (below_alloc (Below.refl _ _) _) _) _
  have hc3 := cell_new_l ((w.alloc (.cells #[.int .i64 line] 3 (0, 0))).alloc (.cells #[.int .i64 0] 3 (0, 0))) (.slice A wv.length c) 23
  have hz1 : (w.alloc (.cells #[.int .i64 line] 3 (0, 0))).heap.size = w.heap.size + 1 := World.size_alloc _ _
  have hz2 : ((w.alloc (.cells #[.int .i64 line] 3 (0, 0))).alloc (.cells #[.int .i64 0] 3 (0, 0))).heap.size = w.heap.size + 1 + 1 := by rw [World.size_alloc, hz1]
  rw [hz2] at hc3
  have hd1 := ((below_alloc (below_alloc (Below.refl (w.alloc (.cells #[.int .i64 line] 3 (0, 0))).heap.size _) (.cells #[.int .i64 0] 3 (0, 0))) (.cells #[.slice A wv.length c] 23 (0, 0))).block w.heap.size (by omega)).trans (blk_new w _)
  have hd2 := ((below_alloc (Below.refl ((w.alloc (.cells #[.int .i64 line] 3 (0, 0))).alloc (.cells #[.int .i64 0] 3 (0, 0))).heap.size _) (.cells #[.slice A wv.length c] 23 (0, 0))).block (w.heap.size + 1) (by omega)).trans (hz1 ▸ blk_new (w.alloc (.cells #[.int .i64 line] 3 (0, 0))) (.cells #[.int .i64 0] 3 (0, 0)) : ((w.alloc (.cells #[.int .i64 line] 3 (0, 0))).alloc (.cells #[.int .i64 0] 3 (0, 0))).heap[w.heap.size + 1]? = some (.cells #[.int .i64 0] 3 (0, 0)))
  have hz3 : (((w.alloc (.cells #[.int .i64 line] 3 (0, 0))).alloc (.cells #[.int .i64 0] 3 (0, 0))).alloc (.cells #[.slice A wv.length c] 23 (0, 0))).heap.size = w.heap.size + 3 := by rw [World.size_alloc, hz2]
  obtain ⟨W0, hW0⟩ : ∃ W, (((w.alloc (.cells #[.int .i64 line] 3 (0, 0))).alloc (.cells #[.int .i64 0] 3 (0, 0))).alloc (.cells #[.slice A wv.length c] 23 (0, 0))) = W := ⟨_, rfl⟩
  rw [hW0] at hB0 hc3 hd1 hd2 hz3 ⊢
  clear hW0 hz1 hz2
  refine wpIn_rangeFunc_ownF rfl (by decide) (gf := 23) (lb := #[.pointer (some ⟨w.heap.size + 1 + 1, 0, none⟩)]) rfl trivial (enters_of Tryd.func23 (by kernel_rfl) rfl)
    (tks_stops 8 (by decide) (w.heap.size + 1 + 1) w.heap.size k A c wv cl HCL.out hok W0 (by omega) (by omega) hc3.1 (Kd.C_below HC.out hB0) hc) kpB_t (kpB_b (by omega)) (Below.refl _ _) (fun _ => rfl)
    (fun pre W => (W.heap[w.heap.size]? = some (.cells #[.int .i64 line] 3 (0, 0)) ∧ W.heap[w.heap.size + 1]? = some (.cells #[.int .i64 (cntH line pre)] 3 (0, 0))) ∧ Below w.heap.size w W)
    (fun _ _ _ => False)
    (OwnFrom.and (Own.from (fun s A B row hs hg hr => ⟨blk_kept hs.1 hg hr, blk_kept hs.2 hg hr⟩) _) (ownFrom_below (Nat.le_refl _) (by omega)))
    (fun _ _ _ _ _ hs _ _ => hs)
    ⟨⟨hd1, hd2⟩, hB0⟩
    (fun x => { tmps := #[.slice A wv.length c, .int .i64 line, undef, .pointer (some ⟨w.heap.size, 0, none⟩), .int .i64 0, .pointer (some ⟨w.heap.size + 1, 0, none⟩), undef, .int .u8 x.2, .slice A wv.length c, .func (.func 23) #[] #[.pointer (some ⟨w.heap.size + 1 + 1, 0, none⟩)], .int .i64 x.1, .int .u8 x.2, undef, undef, undef, undef, undef, undef], defers := [] }) ?assign ?body ?done ?stop
  case assign =>
    intro l x W K hK
    gi_wp2
    exact hK
  case body =>
    rintro l pre x W ⟨⟨hk1, hk2⟩, hB⟩ hlen
    obtain ⟨b, hb⟩ : ∃ b, hiB x.2 line = b := ⟨_, rfl⟩
    have hHi := hiB_eq x.2 line
    rw [hb] at hHi
    have HHi := Aside0.mk hHi
    have HSN := Aside0.mk (cntH_snoc line pre x)
    have HCL2 : Aside0 (0 ≤ cntH line pre ∧ cntH line pre + 1 ≤ 2000000) := ⟨by
      have h1 : cntH line pre ≤ (pre.length : Int) := by unfold cntH; exact Int.ofNat_le.2 (List.length_filter_le _ _)
      have h2 := tks_len cl hok.each 0
      have := hok.hi
      refine ⟨by unfold cntH; omega, by omega⟩⟩
    obtain ⟨C, hC⟩ : ∃ C, cntH line pre = C := ⟨_, rfl⟩
    rw [hC] at hk2 HSN HCL2
    have hc1 : W.cell? ⟨w.heap.size, 0, none⟩ = some (.int .i64 line) := (cell_in hk1 0).trans rfl
    have hw : wrap64 (C + 1) = C + 1 := w64 (by have := HCL2.out; omega) (by have := HCL2.out; omega)
    rw [hb] at HSN
    clear hHi hC hb hlen
    have hlt2 : w.heap.size + 1 < W.heap.size := (Array.getElem?_eq_some_iff.1 hk2).1
    have HK1 := Aside0.mk hk1
    have HK2 := Aside0.mk hk2
    clear hk1 hk2
    gi_wp2_with (fail)
    refine ⟨trivial, (CallsIn.inRound l (callsIn_wide.2 (wires_Lines_High.calls x.2 line b W HHi.out))).mono ?_⟩
    rintro e W3 ⟨rfl, hd⟩
    have hb3 := hd.below
    have HKO := Aside0.mk (ko_of hb3)
    have HKP := Aside0.mk (kpB_of hb3 hB.size)
    have HB3 := Aside0.mk (hB.trans (hb3.mono hB.size))
    have HL1 := Aside0.mk ((hb3.block _ (Array.getElem?_eq_some_iff.1 HK1.out).1).trans HK1.out)
    have HL2 := Aside0.mk ((hb3.block _ hlt2).trans HK2.out)
    have hc2' : W3.cell? ⟨w.heap.size + 1, 0, none⟩ = some (.int .i64 C) := (cell_in HL2.out 0).trans rfl
    have hf2' : W3.frozen? ⟨w.heap.size + 1, 0, none⟩ = false := free_in HL2.out 0
    clear hc1 hd hb3 hB HK1 HK2
    cases b
    · gi_wp2_with (fail)
      exact ⟨HKO.out, HKP.out, ⟨HL1.out, by rw [HSN.out]; simpa using HL2.out⟩, HB3.out⟩
    · gi_wp2_with (fail)
      refine ⟨HKO.out.trans (KeepsOthers.setCell _ _ _), kpB_t HKP.out ⟨(Below.refl w.heap.size W3).setCell (p := ⟨w.heap.size + 1, 0, none⟩) (Nat.le_succ _) _, fun k cs z hk => ?_⟩, ⟨?_, ?_⟩, HB3.out.setCell (p := ⟨w.heap.size + 1, 0, none⟩) (Nat.le_succ _) _⟩
      · by_cases e' : k = w.heap.size + 1
        · rw [e', HL2.out] at hk
          cases hk
        · exact (Below.heap_setCell W3 ⟨w.heap.size + 1, 0, none⟩ _ k e').trans hk
      · exact (Below.heap_setCell W3 ⟨w.heap.size + 1, 0, none⟩ _ w.heap.size (Nat.ne_of_lt (Nat.lt_succ_self _))).trans HL1.out
      · rw [HSN.out]
        exact blk_set HL2.out 0 _
  case done =>
    rintro D ys W hD rfl ⟨⟨_, hkk⟩, hB⟩ hK
    have hcc : W.cell? ⟨w.heap.size + 1, 0, none⟩ = some (.int .i64 (cntH line (tks cl 0))) := (cell_in hkk 0).trans rfl
    gi_wp2
    refine ⟨by simp, .inl ⟨_, _, rfl, run_takeDeferred hK, ?_⟩⟩
    exact ⟨_, results_tmp rfl _ _ _, rfl, hB.trans (belowK_b (w := w) (Nat.le_refl _) W D _ _ (by omega) hK rfl rfl)⟩
  case stop =>
    rintro D c pre W _ _ h _
    exact h.elim
end Go.Proofs.YtedjjodnceinlaaDoor.PWv
