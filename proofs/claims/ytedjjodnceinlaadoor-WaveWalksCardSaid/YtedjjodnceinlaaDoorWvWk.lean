/- busbarlaw37.WaveWalks: walk. Helper text. -/
import Derived.Test.YtedjjodnceinlaaDoorWvHg
import Derived.Test.YtedjjodnceinlaaDoorWvLw
import Derived.Test.YtedjjodnceinlaaDoorWvPl3
import Derived.Maps.AppendAt
import Derived.RangeFuncBox
import Derived.Deep.RegionHeld3
namespace Go.Proofs.YtedjjodnceinlaaDoor.PWv
open Go.RowKit Go.Shelf Go.Proofs.YtedjjodnceinlaaDoor.Kx Go.Proofs.YtedjjodnceinlaaDoor.PWe Go.Proofs.YtedjjodnceinlaaDoorW.PrintWords Go.Proofs.YtedjjodnceinlaaDoorW.PrintLast Go.Proofs.YtedjjodnceinlaaDoorW.PrintMore
set_option linter.unusedVariables false
set_option linter.unusedSimpArgs false
attribute [local go_sem] Oper.semAt_some
attribute [local go_sem] max2_int min2_int max_two min_two
/-- What At answers, at any number. -/
def atF (wv : List S46) (i : Int) : Int × Bool := (wave_Wave_At.f 1000 wv i).getD (0, false)
theorem atF_eq (wv : List S46) (hl : wv.length ≤ 200) (ht : (rawT wv).length ≤ 3000) (i : Int) : wave_Wave_At.f 1000 wv i = some (atF wv i) := by
  unfold atF
  by_cases h0 : i < 0
  · have e : wave_Wave_At.f 1000 wv i = some (0, false) := by
      unfold wave_Wave_At.f
      rw [if_pos h0]
      rfl
    rw [e]; rfl
  by_cases h1 : i < ((rawT wv).length : Int)
  · obtain ⟨j, rfl⟩ : ∃ j : Nat, i = (j : Int) := ⟨i.toNat, by omega⟩
    have hj : j < (rawT wv).length := by omega
    rw [at_raw (k := 1000) wv (by omega) (by omega) (by omega) (List.getElem?_eq_getElem hj)]; rfl
  · have e : wave_Wave_At.f 1000 wv i = some (0, false) := by
      unfold wave_Wave_At.f
      rw [if_neg h0, long_raw wv (by omega) (by omega) (by omega), Option.bind_some]
      have : decide (i ≥ ((rawT wv).length : Int)) = true := decide_eq_true (by omega)
      rw [this]; rfl
    rw [e]; rfl
/-- What the law's walk has found: fine. -/
def fineB (wv : List S46) (pre : List (Int × Int)) : Bool := pre.zipIdx.all fun x => (atF wv x.1.1).2 && (x.1.1 == (x.2 : Int)) && (x.1.2 == (atF wv x.1.1).1)
theorem fineB_snoc (wv : List S46) (pre : List (Int × Int)) (x : Int × Int) : fineB wv (pre ++ [x]) = (fineB wv pre && ((atF wv x.1).2 && (x.1 == (pre.length : Int)) && (x.2 == (atF wv x.1).1))) := by
  unfold fineB
  rw [List.zipIdx_append, List.all_append]
  simp
theorem fineB_pre {wv cl : List S46} (hok : WOK cl) (ht : tickL cl = rawT wv) (hl : wv.length ≤ 200) (h3 : (rawT wv).length ≤ 3000) {pre : List (Int × Int)} (hp : pre <+: tks cl 0) : fineB wv pre = true := by
  unfold fineB
  rw [List.all_eq_true]
  rintro ⟨x, i⟩ hx
  have hg : pre[i]? = some x := by simpa using List.mem_zipIdx_iff_getElem?.1 hx
  have hg2 : (tks cl 0)[i]? = some x := by
    obtain ⟨r, hr⟩ := hp
    rw [← hr, List.getElem?_append_left (List.getElem?_eq_some_iff.1 hg).1]; exact hg
  rw [tks_get cl hok.each, ht] at hg2
  obtain ⟨y, hy, rfl⟩ := Option.map_eq_some_iff.1 hg2
  have hy' := at_raw (k := 1000) wv (by omega) (by omega) (by omega) hy
  have e : atF wv (i : Int) = (y, true) := by unfold atF; rw [hy']; rfl
  simp [e]
theorem tks_long {cl wv : List S46} (hok : WOK cl) (ht : tickL cl = rawT wv) : (tks cl 0).length = (rawT wv).length := by
  have h1 := tks_len cl hok.each 0
  have h2 := tickL_len cl hok.each
  rw [ht] at h2
  omega
def encL (x : Int × Int) : Value := .int .u8 x.2
theorem infoL : (Tryd.prog.info? 36).map (fun i => (i.zero, i.size, i.bytes)) = some (some (.int .u8 0), 1, 1) := by kernel_rfl
theorem kpB_append {W w1 : World} {n0 B : Nat} {v v' : Value} {k : Nat} {xs : List Value} {tmp : Obj}
    (hv : Boxed W B 32 v) (hrow : W.ownsRow n0 36 1 v k xs) (hv1 : Boxed w1 B 32 v) (hgrow : (W.alloc tmp).grownBy w1 v.ownBlock) (hb : Below n0 W (w1.setCell ⟨B, 0, none⟩ v')) : KpB n0 W (w1.setCell ⟨B, 0, none⟩ v') :=
  ⟨hb, fun j cs z hj => by
    have hlt := (Array.getElem?_eq_some_iff.1 hj).1
    have e1 : (W.alloc tmp).heap[j]? = some (.cells cs 46 z) := (Below.heap_alloc W tmp j hlt).trans hj
    have e2 : w1.heap[j]? = some (.cells cs 46 z) := by
      refine (hgrow.block j (Array.getElem?_eq_some_iff.1 e1).1 fun e' => ?_).trans e1
      rcases hrow.2 with ⟨rfl, _⟩ | ⟨g, cap, cur, rfl, _, hgb, _⟩
      · simp [Value.ownBlock] at e'
      · obtain rfl : j = g := by simpa [Value.ownBlock] using e'
        rw [hgb] at hj; cases hj
    refine (Below.heap_setCell w1 ⟨B, 0, none⟩ v' j fun e' => ?_).trans e2
    have e'' : j = B := e'
    rw [e'', show w1.heap[B]? = _ from hv1] at e2
    cases e2⟩
theorem kpB_set {W : World} {n0 B : Nat} {t : TypeId} {v v' : Value} (hv : Boxed W B t v) (ht : t ≠ 46) (hb : n0 ≤ B) : KpB n0 W (W.setCell ⟨B, 0, none⟩ v') :=
  ⟨(Below.refl n0 W).setCell (p := ⟨B, 0, none⟩) hb _, fun j cs z hj => by
    refine (Below.heap_setCell W ⟨B, 0, none⟩ v' j fun e' => ?_).trans hj
    have e'' : j = B := e'
    rw [e'', show W.heap[B]? = _ from hv] at hj
    cases hj
    exact ht rfl⟩
/-- What the law's last region loads, in every world that it comes by. -/
def WkS (w : World) (D z B : Nat) (la sl : Value) (s : Int) (w' : World) : Prop :=
  w'.cell? ⟨z + 1, 0, none⟩ = some (.bool true) ∧ w'.cell? ⟨z, 0, none⟩ = some la ∧ w'.cell? ⟨B + 1, 0, none⟩ = some (.int .i64 s) ∧ w'.cell? ⟨B, 0, none⟩ = some sl ∧ w'.heap[D]? = some (.deferred (some [])) ∧ Below w.heap.size w w'
theorem WkS.on {w : World} {D z B : Nat} {la sl : Value} {s : Int} {w1 w2 : World} (h : WkS w D z B la sl s w1) (hb : Below w1.heap.size w1 w2) : WkS w D z B la sl s w2 :=
  ⟨(hb.cell (World.block_lt_of_cell? w1 _ h.1)).trans h.1, (hb.cell (World.block_lt_of_cell? w1 _ h.2.1)).trans h.2.1, (hb.cell (World.block_lt_of_cell? w1 _ h.2.2.1)).trans h.2.2.1, (hb.cell (World.block_lt_of_cell? w1 _ h.2.2.2.1)).trans h.2.2.2.1, (hb.block _ (Array.getElem?_eq_some_iff.1 h.2.2.2.2.1).1).trans h.2.2.2.2.1, below_step h.2.2.2.2.2 hb⟩
/-- What the boxes hold when pre has come. -/
structure WkI (B z : Nat) (sl : Value) (s : Int) (wv : List S46) (pre : List (Int × Int)) (W : World) : Prop where
  w : Boxed W B 23 sl
  s : Boxed W (B + 1) 3 (.int .i64 s)
  l : ∃ v, Boxed W z 32 v ∧ W.ownsRow B 36 1 v pre.length (pre.map encL)
  f : Boxed W (z + 1) 4 (.bool (fineB wv pre))
theorem wkI_own (B z : Nat) (sl : Value) (s : Int) (wv : List S46) : Own (WkI B z sl s wv) := by
  intro pre X Y row h hg hr
  obtain ⟨v, h1, h2, _⟩ := holdsRow_own B z 32 36 1 (fun pre : List (Int × Int) => pre.length) (fun pre => pre.map encL) (fun _ _ => True) pre X Y row (let ⟨v, h1, h2⟩ := h.l; ⟨v, h1, h2, trivial⟩) hg hr
  exact ⟨boxed_own B _ (fun _ : List (Int × Int) => sl) pre X Y row h.w hg hr, boxed_own (B + 1) _ (fun _ : List (Int × Int) => .int .i64 s) pre X Y row h.s hg hr, ⟨v, h1, h2⟩, boxed_own (z + 1) _ (fun pre : List (Int × Int) => .bool (fineB wv pre)) pre X Y row h.f hg hr⟩
theorem row_slice {W : World} {B e k : Nat} {v : Value} {xs : List Value} (h : W.ownsRow B e 1 v k xs) : ∃ A c, v = .slice A k c := by
  rcases h.2 with ⟨rfl, rfl⟩ | ⟨g, cap, _, rfl, _⟩
  · exact ⟨_, _, rfl⟩
  · exact ⟨_, _, rfl⟩
set_option maxHeartbeats 4000000 in
set_option maxRecDepth 100000 in
theorem walks_calls (A : Option Addr) (c : Nat) (wv : List S46) (stop m : Int) (w : World) (hC : Kd.C k46 w A wv.length wv) (hc : wv.length ≤ c) (hm : w.cell? ⟨0, 0, none⟩ = some (.int .i64 m)) :
    Calls Tryd.prog 4 #[.slice A wv.length c, .int .i64 stop] w fun e w' => e = .returned (.bool true) ∧ Below w.heap.size w w' := by
  have HC := Aside0.mk hC
  have HM := Aside0.mk hm
  have HCc := Aside0.mk hc
  clear hC hm hc
  obtain ⟨r, hr, hcase⟩ := few_raw (k := 1000) wv (by omega)
  have HR := Aside0.mk hr
  clear hr
  have hb0 : Below w.heap.size w ((w.alloc (.cells #[.slice A wv.length c] 23 (0, 0))).alloc (.cells #[.int .i64 stop] 3 (0, 0))) := below_alloc (below_alloc (Below.refl _ _) _) _
  obtain ⟨W0, hW0⟩ : ∃ W, (w.alloc (.cells #[.slice A wv.length c] 23 (0, 0))).alloc (.cells #[.int .i64 stop] 3 (0, 0)) = W := ⟨_, rfl⟩
  have hz0 : W0.heap.size = w.heap.size + 2 := by rw [← hW0, World.size_alloc, World.size_alloc]
  have BW : Boxed W0 w.heap.size 23 (.slice A wv.length c) := by rw [← hW0]; exact (Boxed.new w _ _).alloc _
  have BS : Boxed W0 (w.heap.size + 1) 3 (.int .i64 stop) := by rw [← hW0]; have := Boxed.new (w.alloc (.cells #[.slice A wv.length c] 23 (0, 0))) 3 (.int .i64 stop); rwa [World.size_alloc] at this
  rw [hW0] at hb0
  have HB0 := Aside0.mk hb0
  have HBW := Aside0.mk BW
  have HBS := Aside0.mk BS
  have HZ0 := Aside0.mk hz0
  clear hb0 BW BS hz0
  have hcw := HBW.out.cell
  refine (callsIn_wide (n := 12)).1 ?_
  refine callsIn_of_wp_marks Tryd.func4 rfl trivial ?_ rfl
  simp only [Tryd.ntmps4, List.size_toArray, List.length_cons, List.length_nil, Nat.reduceAdd, Nat.reduceSub, Array.replicate_succ, Array.replicate_zero, List.push_toArray, List.append_toArray, List.nil_append, List.cons_append]
  gi_wp2_with (fail)
  clear hW0 hcw
  rcases hcase with rfl | ⟨rfl, h3, h200⟩
  · refine ⟨trivial, (callsIn_wide.2 (busbarlaw37_Few.calls 1000 A c wv 0 _ (Kd.C_below HC.out HB0.out) HCc.out HR.out)).mono ?_⟩
    rintro e w1 ⟨rfl, hb1⟩
    have HB1 := Aside0.mk (below_step HB0.out hb1)
    have hcw := (hb1.cell HBW.out.lt).trans HBW.out.cell
    clear hb1
    gi_wp2_with (fail)
    refine ⟨trivial, ?_⟩
    gi_wp2_with (fail)
    refine ⟨trivial, (callsIn_wide.2 (busbarlaw37_Few.calls 1000 A c wv 0 _ (Kd.C_below HC.out HB1.out) HCc.out HR.out)).mono ?_⟩
    rintro e w2 ⟨rfl, hb2⟩
    have HB2 := Aside0.mk (below_step HB1.out hb2)
    clear hb2 hcw
    gi_wp2_with (fail)
    exact ⟨_, results_tmp rfl _ _ _, rfl, HB2.out⟩
  · refine ⟨trivial, (callsIn_wide.2 (busbarlaw37_Few.calls 1000 A c wv 1 _ (Kd.C_below HC.out HB0.out) HCc.out HR.out)).mono ?_⟩
    rintro e w1 ⟨rfl, hb1⟩
    have HB1 := Aside0.mk (below_step HB0.out hb1)
    have HBW1 := Aside0.mk (show Boxed w1 w.heap.size 23 (.slice A wv.length c) from (hb1.block w.heap.size HBW.out.lt).trans HBW.out)
    have HBS1 := Aside0.mk (show Boxed w1 (w.heap.size + 1) 3 (.int .i64 stop) from (hb1.block (w.heap.size + 1) HBS.out.lt).trans HBS.out)
    have HM1 := Aside0.mk ((HB1.out.cell (World.block_lt_of_cell? w _ HM.out)).trans HM.out)
    clear hb1 HB0 HBW HBS
    gi_wp2_with (fail)
    refine ⟨trivial, (callsIn_wide.2 (one_calls m w1 HM1.out)).mono ?_⟩
    rintro e w2 ⟨rfl, hb2⟩
    have HB2 := Aside0.mk (below_step HB1.out hb2)
    have HBW2 := Aside0.mk (show Boxed w2 w.heap.size 23 (.slice A wv.length c) from (hb2.block w.heap.size HBW1.out.lt).trans HBW1.out)
    have HBS2 := Aside0.mk (show Boxed w2 (w.heap.size + 1) 3 (.int .i64 stop) from (hb2.block (w.heap.size + 1) HBS1.out.lt).trans HBS1.out)
    clear hb2 HB1 HBW1 HBS1 HM1
    have hcs := HBS2.out.cell
    have hfs := HBS2.out.frozen
    have hsz2 : w.heap.size + 2 ≤ w2.heap.size := by have := HBS2.out.lt; omega
    have hbs := i64_and_1023 stop
    have BW3 := (((HBW2.out).other (B' := w.heap.size + 1) (by omega) (.int .i64 (stop % 1024))).alloc (.cells #[.slice none 0 0] 32 (0, 0))).alloc (.cells #[.bool true] 4 (0, 0))
    have BS3 := (((HBS2.out).set (.int .i64 (stop % 1024))).alloc (.cells #[.slice none 0 0] 32 (0, 0))).alloc (.cells #[.bool true] 4 (0, 0))
    have BL3 := (Boxed.new (w2.setCell ⟨w.heap.size + 1, 0, none⟩ (.int .i64 (stop % 1024))) 32 (.slice none 0 0)).alloc (.cells #[.bool true] 4 (0, 0))
    have BF3 := Boxed.new ((w2.setCell ⟨w.heap.size + 1, 0, none⟩ (.int .i64 (stop % 1024))).alloc (.cells #[.slice none 0 0] 32 (0, 0))) 4 (.bool true)
    have hb3 : Below w.heap.size w (((w2.setCell ⟨w.heap.size + 1, 0, none⟩ (.int .i64 (stop % 1024))).alloc (.cells #[.slice none 0 0] 32 (0, 0))).alloc (.cells #[.bool true] 4 (0, 0))) := below_alloc (below_alloc (HB2.out.setCell (p := ⟨w.heap.size + 1, 0, none⟩) (Nat.le_succ _) _) _) _
    have hzs : (w2.setCell ⟨w.heap.size + 1, 0, none⟩ (.int .i64 (stop % 1024))).heap.size = w2.heap.size := by simp
    rw [hzs] at BL3
    rw [World.size_alloc, hzs] at BF3
    have hcw3 := BW3.cell
    have HB3 := Aside0.mk (And.intro BW3 (And.intro BS3 (And.intro BL3 (And.intro BF3 hb3))))
    clear BW3 BS3 BL3 BF3 hb3 hzs
    gi_wp2_with (fail)
    refine ⟨trivial, (callsIn_wide.2 (ticks_calls A wv.length c _)).mono ?_⟩
    rintro e w3 ⟨rfl, rfl⟩
    clear hcw3 hcs hfs
    gi_wp2_with (fail)
    obtain ⟨bW, bS, bL, bF, hb3⟩ := HB3.out
    obtain ⟨cl, hcl, hok, hcll⟩ := clean_ok (k := 1000) wv (by omega) (by omega)
    have htick := clean_tick (k := 1000) wv (by omega) (by omega) (by omega) hcl
    have hlong := tks_long hok htick
    obtain ⟨i0, hi, hz0, hz1, hz2⟩ := info_parts infoL
    have hz3 : (((w2.setCell ⟨w.heap.size + 1, 0, none⟩ (.int .i64 (stop % 1024))).alloc (.cells #[.slice none 0 0] 32 (0, 0))).alloc (.cells #[.bool true] 4 (0, 0))).heap.size = w2.heap.size + 2 := by simp
    have bT := Boxed.new (((w2.setCell ⟨w.heap.size + 1, 0, none⟩ (.int .i64 (stop % 1024))).alloc (.cells #[.slice none 0 0] 32 (0, 0))).alloc (.cells #[.bool true] 4 (0, 0))) 23 (.slice A wv.length c)
    rw [hz3] at bT
    replace bW := bW.alloc (.cells #[.slice A wv.length c] 23 (0, 0))
    replace bS := bS.alloc (.cells #[.slice A wv.length c] 23 (0, 0))
    replace bL := bL.alloc (.cells #[.slice A wv.length c] 23 (0, 0))
    replace bF := bF.alloc (.cells #[.slice A wv.length c] 23 (0, 0))
    have hb4 := below_alloc hb3 (.cells #[.slice A wv.length c] 23 (0, 0))
    have hz4 : ((((w2.setCell ⟨w.heap.size + 1, 0, none⟩ (.int .i64 (stop % 1024))).alloc (.cells #[.slice none 0 0] 32 (0, 0))).alloc (.cells #[.bool true] 4 (0, 0))).alloc (.cells #[.slice A wv.length c] 23 (0, 0))).heap.size = w2.heap.size + 3 := by simp
    obtain ⟨W4, hW4⟩ : ∃ W, ((((w2.setCell ⟨w.heap.size + 1, 0, none⟩ (.int .i64 (stop % 1024))).alloc (.cells #[.slice none 0 0] 32 (0, 0))).alloc (.cells #[.bool true] 4 (0, 0))).alloc (.cells #[.slice A wv.length c] 23 (0, 0))) = W := ⟨_, rfl⟩
    rw [hW4] at bW bS bL bF bT hb4 hz4 ⊢
    clear hW4 hz3 hb3 HB3 hbs
    obtain ⟨z, hz⟩ : ∃ z, w2.heap.size = z := ⟨_, rfl⟩
    rw [hz] at bL bF bT hz4 hsz2 ⊢
    clear hz HB2 HBW2 HBS2
    have hs01 : 0 ≤ stop % 1024 ∧ stop % 1024 ≤ 1023 := by omega
    obtain ⟨s, hs⟩ : ∃ s, stop % 1024 = s := ⟨_, rfl⟩
    rw [hs] at bS hs01 ⊢
    clear hs
    refine wpIn_rangeFunc_ownF rfl (by decide) (gf := 23) (lb := #[.pointer (some ⟨z + 1 + 1, 0, none⟩)]) rfl trivial (enters_of Tryd.func23 (by kernel_rfl) rfl)
      (tks_stops 11 (by decide) (z + 1 + 1) w.heap.size 1000 A c wv cl hcl hok W4 (by omega) (by omega) bT.cell (Kd.C_below HC.out hb4) HCc.out) kpB_t (kpB_b (by omega)) (Below.refl _ _) (fun _ => rfl)
      (fun pre W => (WkI w.heap.size z (.slice A wv.length c) s wv pre W ∧ (pre.length : Int) ≤ s) ∧ Below w.heap.size w W)
      (fun c' pre W => ((WkI w.heap.size z (.slice A wv.length c) s wv pre W ∧ (pre.length : Int) = s + 1) ∧ c' = .exit 0) ∧ Below w.heap.size w W)
      (OwnFrom.and (OwnFrom.and (Own.from (wkI_own _ _ _ _ _) _) (ownFrom_pure _ fun pre : List (Int × Int) => (pre.length : Int) ≤ s)) (ownFrom_below (Nat.le_refl _) (by omega)))
      (fun c' => OwnFrom.and (OwnFrom.and (OwnFrom.and (Own.from (wkI_own _ _ _ _ _) _) (ownFrom_pure _ fun pre : List (Int × Int) => (pre.length : Int) = s + 1)) (ownFrom_pure _ fun _ => c' = .exit 0)) (ownFrom_below (Nat.le_refl _) (by omega)))
      ⟨⟨⟨bW, bS, ⟨_, bL, World.ownsRow_nil _ _ _ _⟩, bF⟩, hs01.1⟩, hb4⟩
      (fun x => { tmps := #[.slice A wv.length c, .int .i64 stop, .pointer (some ⟨w.heap.size, 0, none⟩), .pointer (some ⟨w.heap.size + 1, 0, none⟩), .bool false, .pointer (some ⟨z, 0, none⟩), .pointer (some ⟨z + 1, 0, none⟩), .int .i64 x.1, .int .u8 x.2, undef, undef, .slice A wv.length c, .int .i64 1, .bool false, .bool false, .bool true, .bool false, .bool false, undef, undef, undef, .int .i64 stop, .int .i64 s, .slice A wv.length c, .func (.func 23) #[] #[.pointer (some ⟨z + 1 + 1, 0, none⟩)], .int .i64 x.1, .int .u8 x.2, undef, undef, undef, undef, undef, undef, undef, undef, undef, undef, undef, undef, undef, undef, undef, undef, undef, undef, undef, undef, undef, undef, undef, undef, undef, undef, undef, undef, undef, undef, undef, undef, undef, undef, undef, undef, undef, undef, undef, undef], defers := [] }) ?assign ?body ?done ?stop
    case assign =>
      intro l x W K hK
      gi_wp2
      exact hK
    case body =>
      rintro l pre x W ⟨⟨hI, hle⟩, hB⟩ hlen
      obtain ⟨v, bl, hrow⟩ := hI.l
      obtain ⟨Av, cv, rfl⟩ := row_slice hrow
      have hlen3 : pre.length + 1 ≤ 3000 := by omega
      obtain ⟨⟨L, is⟩, hat⟩ : ∃ r, atF wv x.1 = r := ⟨_, rfl⟩
      have HAT : Aside0 (wave_Wave_At.f 1000 wv x.1 = some (L, is)) := ⟨by rw [atF_eq wv h200 h3, hat]⟩
      have hsn := fineB_snoc wv pre x
      rw [hat] at hsn
      dsimp only at hsn
      obtain ⟨f, hf⟩ : ∃ f, fineB wv pre = f := ⟨_, rfl⟩
      obtain ⟨e1, he1⟩ : ∃ e, (x.1 == (pre.length : Int)) = e := ⟨_, rfl⟩
      obtain ⟨e2, he2⟩ : ∃ e, (x.2 == L) = e := ⟨_, rfl⟩
      rw [hf, he1, he2] at hsn
      have bf := hI.f
      rw [hf] at bf
      have HSN := Aside0.mk hsn
      have HLE := Aside0.mk hle
      have bw := hI.w
      have bs := hI.s
      have HC5 := Aside0.mk (Kd.C_below HC.out hB)
      have hcw := bw.cell
      have HBL := Aside0.mk bl
      have HBF := Aside0.mk bf
      have HBW := Aside0.mk bw
      have HBS := Aside0.mk bs
      have HRW := Aside0.mk hrow
      have HB := Aside0.mk hB
      clear hat hsn hI bl hrow bf bw bs hB hlen hle hf
      gi_wp2_with (fail)
      refine ⟨trivial, (CallsIn.inRound l (callsIn_wide.2 (wave_Wave_At.calls 1000 A c wv x.1 L is W HC5.out HCc.out HAT.out))).mono ?_⟩
      rintro e W3 ⟨rfl, hd⟩
      have HKO := Aside0.mk (ko_of hd)
      have HKP := Aside0.mk (kpB_of hd (below_size HB.out))
      have HB3 := Aside0.mk (below_step HB.out hd)
      have bw := HBW.out.kept (grown_of hd) (by simp)
      have bs := HBS.out.kept (grown_of hd) (by simp)
      have bl := HBL.out.kept (grown_of hd) (by simp)
      have bf := HBF.out.kept (grown_of hd) (by simp)
      have hrow := HRW.out.kept (grown_of hd) (by cases Av <;> simp [Value.ownBlock])
      have HBL3 := Aside0.mk bl
      have HBF3 := Aside0.mk bf
      have HBW3 := Aside0.mk bw
      have HBS3 := Aside0.mk bs
      have HRW3 := Aside0.mk hrow
      have hcl := bl.cell
      have hcf := bf.cell
      have hff := bf.frozen
      clear hd HB HBW HBS HBL HBF HRW HC5 HAT hcw bw bs bl bf hrow
      obtain ⟨b', hb'⟩ : ∃ b, (f && (is && e1 && e2)) = b := ⟨_, rfl⟩
      rw [hb'] at HSN
      have hz5 : (W3.setCell ⟨z + 1, 0, none⟩ (.bool b')).heap.size = W3.heap.size := by simp
      have HBF5 := Aside0.mk (HBF3.out.set (.bool b'))
      have HBL5 := Aside0.mk (HBL3.out.other (B' := z + 1) (by omega) (.bool b'))
      have HBS5 := Aside0.mk (HBS3.out.other (B' := z + 1) (by omega) (.bool b'))
      have HBW5 := Aside0.mk (HBW3.out.other (B' := z + 1) (by omega) (.bool b'))
      have HRW5 := Aside0.mk (HRW3.out.kept (grownBy_setCell' W3 (z + 1) (.bool b')) (.inr (HBF3.out.not_row (by decide) HRW3.out).symm))
      have HKO5 := Aside0.mk (HKO.out.trans (KeepsOthers.setCell W3 ⟨z + 1, 0, none⟩ (.bool b')))
      have hbl5 : Below W3.heap.size W3 W3 := Below.refl _ _
      have HKP5 := Aside0.mk (kpB_t HKP.out (kpB_set (n0 := w.heap.size) (v' := .bool b') HBF3.out (by decide) (by omega)))
      have HB5 := Aside0.mk (HB3.out.setCell (p := ⟨z + 1, 0, none⟩) (by show w.heap.size ≤ z + 1; omega) (.bool b'))
      have hnew := cell_one_new (W3.setCell ⟨z + 1, 0, none⟩ (.bool b')) (.int .u8 x.2) 36
      rw [hz5] at hnew
      obtain ⟨W5, hW5⟩ : ∃ W, W3.setCell ⟨z + 1, 0, none⟩ (.bool b') = W := ⟨_, rfl⟩
      rw [hW5] at HBF5 HBL5 HBS5 HBW5 HRW5 HKO5 HKP5 HB5 hnew hz5
      have HNW := Aside0.mk hnew
      have HLE2 : Aside0 (w.heap.size ≤ W3.heap.size ∧ w.heap.size + 2 ≤ z ∧ pre.length + 1 ≤ 3000) := ⟨⟨below_size HB3.out, hsz2, hlen3⟩⟩
      obtain ⟨q, hq⟩ : ∃ q, decide (s < (pre.length : Int) + 1) = q := ⟨_, rfl⟩
      have hq2 : decide (s < ((pre.length + 1 : Nat) : Int)) = q := by rw [← hq]; rfl
      have hcl5 := HBL5.out.cell
      clear HKO HKP hbl5 hnew HBF3 HBL3 HBS3 HBW3 HRW3 hsz2 hlen3 HB3
      have FIN : Aside0 (∀ (w1 : World) (g' cap' : Nat), w1.ownsRow w.heap.size 36 1 (.slice (some ⟨g', 0, none⟩) (pre.length + 1) cap') (pre.length + 1) (pre.map encL ++ [.int .u8 x.2]) → (W5.alloc (.cells #[.int .u8 x.2] 36 (0, 0))).grownBy w1 (Value.slice Av pre.length cv).ownBlock →
          Boxed w1 z 32 (.slice Av pre.length cv) ∧ Boxed (w1.setCell ⟨z, 0, none⟩ (.slice (some ⟨g', 0, none⟩) (pre.length + 1) cap')) z 32 (.slice (some ⟨g', 0, none⟩) (pre.length + 1) cap') ∧ KeepsOthers W (w1.setCell ⟨z, 0, none⟩ (.slice (some ⟨g', 0, none⟩) (pre.length + 1) cap')) ∧ KpB w.heap.size W (w1.setCell ⟨z, 0, none⟩ (.slice (some ⟨g', 0, none⟩) (pre.length + 1) cap')) ∧
          WkI w.heap.size z (.slice A wv.length c) s wv (pre ++ [x]) (w1.setCell ⟨z, 0, none⟩ (.slice (some ⟨g', 0, none⟩) (pre.length + 1) cap')) ∧ Below w.heap.size w (w1.setCell ⟨z, 0, none⟩ (.slice (some ⟨g', 0, none⟩) (pre.length + 1) cap'))) := ⟨by
        intro w1 g' cap' hown' hgrow
        have hx := HLE2.out
        obtain ⟨hv1, hv2, hr2, hk2, hb2⟩ := HBL5.out.appended (by decide) HRW5.out (by omega) (by omega) hown' hgrow
        refine ⟨hv1, hv2, HKO5.out.trans hk2, kpB_t HKP5.out (kpB_append HBL5.out HRW5.out hv1 hgrow hb2), ⟨?_, ?_, ⟨_, hv2, by simpa [encL] using hr2⟩, ?_⟩, HB5.out.trans hb2⟩
        · exact ((HBW5.out.alloc _).kept hgrow (HBW5.out.not_row (by decide) HRW5.out)).other (by omega) _
        · exact ((HBS5.out.alloc _).kept hgrow (HBS5.out.not_row (by decide) HRW5.out)).other (by omega) _
        · rw [HSN.out]
          exact ((HBF5.out.alloc _).kept hgrow (HBF5.out.not_row (by decide) HRW5.out)).other (by omega) _⟩
      clear HSN HBW5 HBS5 HBF5 HKO5 HKP5 HB5
      have HQ := Aside0.mk hq
      cases f <;> cases is <;> cases e1 <;> cases e2 <;> simp only [Bool.false_and, Bool.true_and, Bool.and_true, Bool.and_false, Bool.and_self] at hb' <;> subst hb' <;> cases q <;>
        (gi_wp2_with (first | (gi_at_builtin; refine wpListIn_append_own _ rfl _ _ 32 rfl w.heap.size 36 i0 (.int .u8 0) 1 1 Tryd.underlying32 hi hz0 hz1 hz2 rfl (by decide) _ _ _ rfl (HRW5.out.alloc _) ⟨W3.heap.size, 0, none⟩ 1 1 [.int .u8 x.2] rfl rfl HNW.out (by simp [Value.oneCell']) (by have := HLE2.out; simp only [maxLen]; omega) (by have := HLE2.out; omega) (by have := HLE2.out; rw [World.size_alloc, hz5]; omega) ?_; intro v' w1 hown' hgrow _; obtain ⟨g', cap', rfl⟩ := ownsRow_succ hown'; have hE := FIN.out w1 g' cap' hown' hgrow; have hc1 := hE.1.cell; have hf1 := hE.1.frozen; have hc2 := hE.2.1.cell; have hc3 := hE.2.2.2.2.1.s.cell; have HE := Aside0.mk hE.2.2; clear hE hown' hgrow))
         have hqq := HQ.out
         have hle := HLE.out
         simp only [decide_eq_true_eq, decide_eq_false_iff_not] at hqq
         first
          | exact ⟨HE.out.1, HE.out.2.1, ⟨HE.out.2.2.1, by rw [List.length_append]; simp only [List.length_cons, List.length_nil]; omega⟩, HE.out.2.2.2⟩
          | exact ⟨HE.out.1, ⟨⟨HE.out.2.2.1, by rw [List.length_append]; simp only [List.length_cons, List.length_nil]; omega⟩, rfl⟩, HE.out.2.2.2⟩)
    case done =>
      rintro D ys W hD rfl ⟨⟨hI, hle⟩, hB⟩ hK
      obtain ⟨v, bl, hrow⟩ := hI.l
      obtain ⟨Av, cv, rfl⟩ := row_slice hrow
      have bf := hI.f
      rw [fineB_pre hok htick h200 h3 (List.prefix_refl _)] at bf
      have hS : WkS w D z w.heap.size (.slice Av (tks cl 0).length cv) (.slice A wv.length c) s W := ⟨bf.cell, bl.cell, hI.s.cell, hI.w.cell, hK, hB⟩
      have HS := Aside0.mk hS
      have hw1 : wrap64 (s + 1) = s + 1 := w64 (by omega) (by omega)
      have hw2 : IntKind.i64.wrap (s + 1) = s + 1 := IntWalk.i64_in _ (by omega)
      have hlg := long_raw (k := 1000) wv (by omega) (by omega) (by omega)
      obtain ⟨lg, hlgq⟩ : ∃ g, ((rawT wv).length : Int) = g := ⟨_, rfl⟩
      rw [hlgq] at hlg
      obtain ⟨n, hn⟩ : ∃ n, (tks cl 0).length = n := ⟨_, rfl⟩
      have hmn : (if lg < s + 1 then lg else s + 1) = (n : Int) := by rw [hlong] at hn; have := hle; rw [hlong] at this; split <;> omega
      have HLG : Aside0 (∀ w', WkS w D z w.heap.size (.slice Av n cv) (.slice A wv.length c) s w' → Calls Tryd.prog 9 #[.slice A wv.length c] w' fun e w2 => e = .returned (.int .i64 lg) ∧ Below w'.heap.size w' w2) := ⟨fun w' h => wave_Wave_Long.calls 1000 A c wv lg w' (Kd.C_below HC.out h.2.2.2.2.2) HCc.out hlg⟩
      rw [hn] at HS
      have hh := HS.out
      unfold WkS at hh
      obtain ⟨c1, c2, c3, c4, hD4, hB4⟩ := hh
      clear hI bl bf hrow hB hS hlg hlgq hn htick hlong hK
      gi_wp2_with (fail)
      refine wpIn_wide.2 ?_
      go_region_held3 (fun w' => w'.cell? ⟨z + 1, 0, none⟩ = some (.bool true) ∧ w'.cell? ⟨z, 0, none⟩ = some (.slice Av n cv) ∧ w'.cell? ⟨w.heap.size + 1, 0, none⟩ = some (.int .i64 s) ∧ w'.cell? ⟨w.heap.size, 0, none⟩ = some (.slice A wv.length c) ∧ w'.heap[D]? = some (.deferred (some [])) ∧ Below w.heap.size w w')
        (first | assumption | exact ⟨c1, c2, c3, c4, hD4, hB4.drew⟩ | exact hk2)
        (first
          | (go_at_call 9; refine Calls.mono (HLG.out _ ?hs) ?_; (case hs => assumption); rintro e w2 ⟨rfl, hb2⟩; have hk2 := WkS.on (w := w) (D := D) (z := z) (B := w.heap.size) (la := .slice Av n cv) (sl := .slice A wv.length c) (s := s) (by assumption) hb2; unfold WkS at hk2; clear hb2))
      obtain ⟨_, _, _, _, hKd, hBd⟩ := hk2
      have HBd := Aside0.mk hBd
      clear c1 c2 c3 c4 hD4 hB4
      gi_wp2_with (fail)
      refine ⟨by simp, .inl ⟨_, _, rfl, run_takeDeferred hKd, ?_⟩⟩
      exact ⟨_, results_tmp rfl _ _ _, rfl, HBd.out.trans (belowK_b (w := w) (Nat.le_refl _) _ D _ _ (by omega) hKd rfl rfl)⟩
    case stop =>
      rintro D c' pre W hD hpre ⟨⟨⟨hI, hle⟩, rfl⟩, hB⟩ hK
      obtain ⟨v, bl, hrow⟩ := hI.l
      obtain ⟨Av, cv, rfl⟩ := row_slice hrow
      have bf := hI.f
      rw [fineB_pre hok htick h200 h3 hpre] at bf
      have hS : WkS w D z w.heap.size (.slice Av pre.length cv) (.slice A wv.length c) s W := ⟨bf.cell, bl.cell, hI.s.cell, hI.w.cell, hK, hB⟩
      have HS := Aside0.mk hS
      have hw1 : wrap64 (s + 1) = s + 1 := w64 (by omega) (by omega)
      have hw2 : IntKind.i64.wrap (s + 1) = s + 1 := IntWalk.i64_in _ (by omega)
      have hlg := long_raw (k := 1000) wv (by omega) (by omega) (by omega)
      obtain ⟨lg, hlgq⟩ : ∃ g, ((rawT wv).length : Int) = g := ⟨_, rfl⟩
      rw [hlgq] at hlg
      obtain ⟨n, hn⟩ : ∃ n, pre.length = n := ⟨_, rfl⟩
      have hmn : (if lg < s + 1 then lg else s + 1) = (n : Int) := by have := hpre.length_le; rw [hlong] at this; split <;> omega
      have HLG : Aside0 (∀ w', WkS w D z w.heap.size (.slice Av n cv) (.slice A wv.length c) s w' → Calls Tryd.prog 9 #[.slice A wv.length c] w' fun e w2 => e = .returned (.int .i64 lg) ∧ Below w'.heap.size w' w2) := ⟨fun w' h => wave_Wave_Long.calls 1000 A c wv lg w' (Kd.C_below HC.out h.2.2.2.2.2) HCc.out hlg⟩
      rw [hn] at HS
      have hh := HS.out
      unfold WkS at hh
      obtain ⟨c1, c2, c3, c4, hD4, hB4⟩ := hh
      clear hI bl bf hrow hB hS hlg hlgq hn htick hlong hK
      gi_wp2_with (fail)
      refine wpIn_wide.2 ?_
      go_region_held3 (fun w' => w'.cell? ⟨z + 1, 0, none⟩ = some (.bool true) ∧ w'.cell? ⟨z, 0, none⟩ = some (.slice Av n cv) ∧ w'.cell? ⟨w.heap.size + 1, 0, none⟩ = some (.int .i64 s) ∧ w'.cell? ⟨w.heap.size, 0, none⟩ = some (.slice A wv.length c) ∧ w'.heap[D]? = some (.deferred (some [])) ∧ Below w.heap.size w w')
        (first | assumption | exact ⟨c1, c2, c3, c4, hD4, hB4.drew⟩ | exact hk2)
        (first
          | (go_at_call 9; refine Calls.mono (HLG.out _ ?hs) ?_; (case hs => assumption); rintro e w2 ⟨rfl, hb2⟩; have hk2 := WkS.on (w := w) (D := D) (z := z) (B := w.heap.size) (la := .slice Av n cv) (sl := .slice A wv.length c) (s := s) (by assumption) hb2; unfold WkS at hk2; clear hb2))
      obtain ⟨_, _, _, _, hKd, hBd⟩ := hk2
      have HBd := Aside0.mk hBd
      clear c1 c2 c3 c4 hD4 hB4
      gi_wp2_with (fail)
      refine ⟨by simp, .inl ⟨_, _, rfl, run_takeDeferred hKd, ?_⟩⟩
      exact ⟨_, results_tmp rfl _ _ _, rfl, HBd.out.trans (belowK_b (w := w) (Nat.le_refl _) _ D _ _ (by omega) hKd rfl rfl)⟩
end Go.Proofs.YtedjjodnceinlaaDoor.PWv
