/- walk.Windows: its walk. Helper text. -/
import Derived.Test.YtbaapakkdnhcmaaWkNext
import Derived.Test.YtbaapakkdnhcmaaPWex2
namespace Go.Proofs.Ytbaapakkdnhcmaa.PWe
open Go.RowKit Go.Proofs.Ytbaapakkdnhcmaa.Kx Go.Proofs.YtbaapakkdnhcmaaW.PrintWords Go.Proofs.YtbaapakkdnhcmaaW.PrintLast Go.Proofs.YtbaapakkdnhcmaaW.PrintMore
set_option linter.unusedVariables false
set_option linter.unusedSimpArgs false

/-- The rounds of a walk that are left, where it is, where it goes back to, what it came to. -/
def winL (md : Int) (code : List Int) : Nat → Int → List Int → List S76 → Option (List S76 × Int)
  | 0, _, _, _ => some ([], 15)
  | n + 1, at_, back, out => (readF 16 code at_).bind fun r =>
      if r.2.2 = 0 then
        if r.1.getD 0 0 = 0 then some (out, 0) else
        if (turnF (r.1.getD 0 0) (r.1.getD 6 0) r.2.1 back).1 = 0 then
          (walk_window.f 16 (r.1.getD 0 0) (r.1.getD 1 0) (r.1.getD 2 0) (r.1.getD 3 0) (r.1.getD 4 0) (r.1.getD 5 0) (r.1.getD 6 0) md).bind fun x =>
            if x.2.2.2.2.2.2 = true then
              if 32 ≤ (out.length : Int) then some ([], 15) else winL md code n (turnF (r.1.getD 0 0) (r.1.getD 6 0) r.2.1 back).2.1 (turnF (r.1.getD 0 0) (r.1.getD 6 0) r.2.1 back).2.2 (out ++ [⟨x.1, x.2.1, x.2.2.1, x.2.2.2.1, x.2.2.2.2.1, x.2.2.2.2.2.1⟩])
            else winL md code n (turnF (r.1.getD 0 0) (r.1.getD 6 0) r.2.1 back).2.1 (turnF (r.1.getD 0 0) (r.1.getD 6 0) r.2.1 back).2.2 out
        else some ([], (turnF (r.1.getD 0 0) (r.1.getD 6 0) r.2.1 back).1)
      else some ([], r.2.2)
def walk_Windows.f (a0_0 : Int) (a0_1 : Int) (a0_2 : Int) (l0_3 : List Int) (a1 : Int) : Option (List S76 × Int) :=
  (image_Image_Right.f a0_0 a0_1 a0_2 l0_3).bind fun ok => if ok = true then (if a1 < 0 then some ([], 2) else if 2 ≤ a1 then some ([], 2) else winL a0_0 l0_3 4096 (if a1 = 0 then a0_1 else a0_2) [] []) else some ([], 2)

/-- How a walk's memory lies: the image, the walker's place, the walker, where it goes back to, what it came to. -/
structure WI (w wr : World) (gm gw : Nat) (md e0 e1 : Int) (A : Option Addr) (c : Nat) (code : List Int) (at_ : Int) (back : List Int) (v vo : Value) (out : List S76) : Prop where
  m : wr.heap[gm]? = some (.cells #[.int .i64 md, .int .i64 e0, .int .i64 e1, .slice A code.length c] 25 (0, 0))
  p : wr.heap[gw + 1]? = some (.cells #[.pointer (some ⟨gw, 0, none⟩)] 120 (0, 0))
  wk : wr.heap[gw]? = some (.cells #[.int .i64 at_, v] 122 (0, 0))
  r : Kd.R (Kd.int .i64) 3 wr w.heap.size (fun k => k ≠ gw) v back
  s : Kd.S k76 92 wr w.heap.size (fun k => k ≠ gw ∧ some k ≠ v.ownBlock) vo out
  b : Below w.heap.size w wr
  lt : gm < gw
  le : w.heap.size ≤ gm
section
variable {w wr W2 : World} {gm gw : Nat} {md e0 e1 at_ : Int} {A : Option Addr} {c : Nat} {code back : List Int} {v vo : Value} {out : List S76}
theorem WI.below (h : WI w wr gm gw md e0 e1 A c code at_ back v vo out) (hb : Below wr.heap.size wr W2) : WI w W2 gm gw md e0 e1 A c code at_ back v vo out :=
  ⟨blk_below h.m hb, blk_below h.p hb, blk_below h.wk hb, Kd.R_below h.r hb, Kd.S_below h.s hb, below_step h.b hb, h.lt, h.le⟩
theorem WI.next (h : WI w wr gm gw md e0 e1 A c code at_ back v vo out) {at' : Int} (hw : W2.heap[gw]? = some (.cells #[.int .i64 at', v] 122 (0, 0))) (hk : Kept wr W2 (fun k => k = gw)) (hb : Below w.heap.size wr W2) : WI w W2 gm gw md e0 e1 A c code at' back v vo out :=
  ⟨blk_kept h.m hk (by have := h.lt; omega), blk_kept h.p hk (by omega), hw, Kd.R_kept h.r hk (fun _ hn => hn), Kd.S_kept h.s hk (fun _ hn => hn.1), h.b.trans hb, h.lt, h.le⟩
theorem WI.turned (h : WI w wr gm gw md e0 e1 A c code at_ back v vo out) {r : Int × Int × List Int} (ht : Turned wr gw w.heap.size v r W2) : ∃ v', WI w W2 gm gw md e0 e1 A c code r.2.1 r.2.2 v' vo out ∧ (∀ g cs t, wr.heap[g]? = some (.cells cs t (0, 0)) → t ≠ 3 → g ≠ gw → W2.heap[g]? = some (.cells cs t (0, 0))) := by
  obtain ⟨v', hw, hr, hk, hv, hb⟩ := ht
  have hty : ∀ k, v.ownBlock = some k → ∃ cells, wr.heap[k]? = some (.cells cells 3 (0, 0)) := Kd.R_typed h.r
  have hne : ∀ g cs t, wr.heap[g]? = some (.cells cs t (0, 0)) → t ≠ 3 → ¬ (g = gw ∨ some g = v.ownBlock) ∨ g = gw := by
    intro g cs t hg ht
    by_cases e : g = gw
    · exact .inr e
    · refine .inl (fun h2 => ?_)
      rcases h2 with h2 | h2
      · exact e h2
      · obtain ⟨cells, hc⟩ := hty g h2.symm
        rw [hg] at hc
        injection hc with hc
        injection hc with _ hc
        exact ht hc
  have hlt := h.lt
  refine ⟨v', ⟨?_, ?_, hw, hr, ?_, h.b.trans hb, h.lt, h.le⟩, fun g cs t hg ht hgw => blk_kept hg hk ((hne g cs t hg ht).resolve_right hgw)⟩
  · refine blk_kept h.m hk ?_
    rcases hne gm _ _ h.m (by decide) with h2 | h2
    · exact h2
    · omega
  · refine blk_kept h.p hk ?_
    rcases hne (gw + 1) _ _ h.p (by decide) with h2 | h2
    · exact h2
    · omega
  · have hs := Kd.S_bound (Kd.S_kept (Kd.S_bound h.s) hk (fun k hk2 h2 => by
      rcases h2 with h2 | h2
      · exact hk2.1.1 h2
      · exact hk2.1.2 h2))
    refine Kd.S_mono hs (fun k hk2 => ⟨hk2.1.1.1, fun e => ?_⟩)
    rcases hv with hv | ⟨b, hv, hb2⟩
    · rw [hv] at e; exact hk2.1.1.2 e
    · rw [hv] at e
      have : k = b := by injection e
      have := hk2.1.2.2.1
      omega
theorem WI.grown (h : WI w wr gm gw md e0 e1 A c code at_ back v vo out) {v1 : Value} {out' : List S76} (hs : Kd.S k76 92 W2 w.heap.size (fun k => k ≠ gw ∧ some k ≠ v.ownBlock) v1 out') (hb : Below w.heap.size w W2) (hg : wr.grownBy W2 vo.ownBlock) : WI w W2 gm gw md e0 e1 A c code at_ back v v1 out' := by
  have hne : ∀ g cs t, wr.heap[g]? = some (.cells cs t (0, 0)) → t ≠ 92 → some g ≠ vo.ownBlock := fun g cs t hh ht => Kd.S_ne h.s hh (Ne.symm ht)
  refine ⟨(hg.block _ (lt_of_block h.m) (hne _ _ _ h.m (by decide))).trans h.m, (hg.block _ (lt_of_block h.p) (hne _ _ _ h.p (by decide))).trans h.p, (hg.block _ (lt_of_block h.wk) (hne _ _ _ h.wk (by decide))).trans h.wk, ?_, hs, hb, h.lt, h.le⟩
  exact Kd.R_mono (Kd.R_grown (Kd.R_bound h.r) hg (fun k hk => by
    obtain ⟨q, hq, cells, hc⟩ := hk.2.2.2
    refine hne k cells q hc ?_
    have : q = 3 := by simpa [Kd.int, Kd.scalar] using hq
    rw [this]
    decide)) (fun k hk => hk.1)
end

theorem win_app {w W6 : World} {gm gw : Nat} {md e0 e1 at_ : Int} {A A7 : Option Addr} {c c7 : Nat} {code back : List Int} {v : Value} {out : List S76} {v4 v5 : Value} {x : S76} {g4n : Nat} (h : WI w W6 gm gw md e0 e1 A c code at_ back v (.slice A7 out.length c7) out)
    (h4 : Kd.R (Kd.int .i64) 3 W6 g4n (fun k => some k ≠ v5.ownBlock) v4 x.f4) (h5 : Kd.R (Kd.int .i64) 3 W6 g4n (fun k => some k ≠ v4.ownBlock) v5 x.f5)
    (hs : Kd.S k76 92 W6 w.heap.size (fun k => (k ≠ gw ∧ some k ≠ v.ownBlock) ∧ k < g4n) (.slice A7 out.length c7) out) (hlt : gw < g4n ∧ (∀ k, v.ownBlock = some k → k < g4n)) (hz : g4n ≤ W6.heap.size) :
    k76.M W6 w.heap.size (fun k => some k = v4.ownBlock ∨ some k = v5.ownBlock) x [.int .i64 x.f0, .int .i64 x.f1, .int .i64 x.f2, .int .i64 x.f3, v4, v5] ∧
    (∀ k, (some k = v4.ownBlock ∨ some k = v5.ownBlock) → (k ≠ gw ∧ some k ≠ v.ownBlock) ∧ some k ≠ (Value.slice A7 out.length c7).ownBlock) ∧ (∀ k, W6.heap.size ≤ k → k ≠ gw ∧ some k ≠ v.ownBlock) ∧
    Kd.S k76 92 W6 w.heap.size (fun k => (k ≠ gw ∧ some k ≠ v.ownBlock) ∧ ¬ (some k = v4.ownBlock ∨ some k = v5.ownBlock)) (.slice A7 out.length c7) out := by
  have hbb : w.heap.size ≤ g4n := by have := h.lt; have := h.le; omega
  have hge : ∀ k, (some k = v4.ownBlock ∨ some k = v5.ownBlock) → g4n ≤ k := by
    intro k hk
    rcases hk with hk | hk
    · exact Kd.R_base h4 k hk.symm
    · exact Kd.R_base h5 k hk.symm
  refine ⟨k76_mkM _ _ _ x (Kd.R_mono (Kd.R_lower (Kd.R_tight rfl h4) hbb) (fun k hk => .inl hk)) (Kd.R_mono (Kd.R_lower (Kd.R_tight rfl h5) hbb) (fun k hk => .inr hk)), ?_, ?_, ?_⟩
  · intro k hk
    have hk2 := hge k hk
    refine ⟨⟨by omega, fun e => by have := hlt.2 k e.symm; omega⟩, fun e => ?_⟩
    have := (Kd.S_R hs).1 k e.symm
    omega
  · intro k hk
    exact ⟨by omega, fun e => by have := hlt.2 k e.symm; omega⟩
  · exact Kd.S_mono hs (fun k hk => ⟨hk.1, fun e => by have := hge k e; omega⟩)
theorem store_rowN {P : Program} {ops : Array Oper} {rest : List Oper} {o : Oper} {a : Act} {w w0 : World} {B : Nat} {Q : Exit → Act → World → Prop} (hgd : o.guard = none) (ty : TypeId) (x y : Operand) (ho : o.op = .store ty x y)
    (g : Nat) (cells : Array Value) (hx : a.eval x = .pointer (some ⟨g, 0, none⟩)) (hy : a.eval y = .agg cells)
    (t : TypeId) (old : Array Value) (hg : w.heap[g]? = some (.cells old t (0, 0))) (hi : (P.info? ty).map (·.size) = some cells.size)
    (hold : old.size = cells.size) (h1 : cells.all (·.oneCell') = true) (hb : Below B w0 w) (hB : B ≤ g)
    (h : ∀ W3, W3.heap[g]? = some (.cells cells t (0, 0)) → Below B w0 W3 → wpList P ops Q rest (a.put o.dst undef) W3) : wpList P ops Q (o :: rest) a w :=
  wpList_store_row hgd ty x y ho g cells hx hy t old hg hi hold h1 (h _ (setRow_heap _ _ _ _ _ _ hg) (Kx.below_setRow hb hB))

set_option maxHeartbeats 4000000 in
set_option maxRecDepth 100000 in
theorem walk_Windows.calls (a0_0 : Int) (a0_1 : Int) (a0_2 : Int) (A0_3 : Option Addr) (c0_3 : Nat) (l0_3 : List Int) (a1 : Int) (r1 : List S76) (r2 : Int) (w : World) (hr0_3 : Kd.C (Kd.int .u8) w A0_3 l0_3.length l0_3) (hc0_3 : l0_3.length ≤ c0_3) (h : walk_Windows.f a0_0 a0_1 a0_2 l0_3 a1 = some (r1, r2)) :
    Calls Try.prog 44 #[.agg #[.int .i64 a0_0, .int .i64 a0_1, .int .i64 a0_2, .slice A0_3 l0_3.length c0_3], .int .i64 a1] w fun e w' => ∃ v0_ : Value, e = .returned (.tuple #[v0_, .int .i64 r2]) ∧ Kd.S k76 92 w' w.heap.size (fun _ => True) v0_ r1 ∧ Below w.heap.size w w' := by
  unfold walk_Windows.f at h
  obtain ⟨ok, h1, h2⟩ := Option.bind_eq_some_iff.mp h
  have HOK := Aside0.mk h1
  have HA := Aside0.mk hr0_3
  have HC := Aside0.mk hc0_3
  clear h h1 hr0_3 hc0_3
  have hz := Try.underlying25
  obtain ⟨gm, hgm⟩ : ∃ g, w.heap.size = g := ⟨_, rfl⟩
  have HM : Aside0 ((w.alloc (.cells #[.int .i64 a0_0, .int .i64 a0_1, .int .i64 a0_2, .slice A0_3 l0_3.length c0_3] 25)).heap[gm]? = some (.cells #[.int .i64 a0_0, .int .i64 a0_1, .int .i64 a0_2, .slice A0_3 l0_3.length c0_3] 25 (0, 0))) := ⟨by rw [← hgm]; exact heap_alloc_new _ _⟩
  have HB : Aside0 (Below w.heap.size w (w.alloc (.cells #[.int .i64 a0_0, .int .i64 a0_1, .int .i64 a0_2, .slice A0_3 l0_3.length c0_3] 25))) := ⟨below_alloc (Below.refl _ _) _⟩
  have hal : wrap64 = wrap64 := rfl
  clear hal
  cases ok with
  | false =>
    rw [if_neg (by decide)] at h2
    obtain ⟨rfl, rfl⟩ := Prod.mk.inj (Option.some.inj h2)
    clear h2
    go_enter Try.func44, Try.ntmps44
    go_wp2
    go_step3
    go_wp2_with (refine wpList_load_row rfl 25 _ rfl gm rfl 25 _ (0, 0) _ HM.out Try.underlying25 rfl (by kernel_rfl) ?_)
    refine (image_Image_Right.calls a0_0 a0_1 a0_2 A0_3 c0_3 l0_3 false _ (Kd.C_below HA.out HB.out) HC.out HOK.out).mono ?_
    rintro e w1 ⟨rfl, hb⟩
    replace HB := Aside0.mk (below_step HB.out hb)
    clear hb
    go_wp2
    rw [Exit.noGoto_ret]
    go_ret2
    exact ⟨_, rfl, Kd.S_nil _ _ _ _ _, HB.out⟩
  | true =>
    rw [if_pos rfl] at h2
    by_cases hv : a1 < 0 ∨ 2 ≤ a1
    · obtain ⟨rfl, rfl⟩ : r1 = [] ∧ r2 = 2 := by
        rcases hv with hv | hv
        · rw [if_pos hv] at h2
          obtain ⟨rfl, rfl⟩ := Prod.mk.inj (Option.some.inj h2)
          exact ⟨rfl, rfl⟩
        · rw [if_neg (by omega), if_pos hv] at h2
          obtain ⟨rfl, rfl⟩ := Prod.mk.inj (Option.some.inj h2)
          exact ⟨rfl, rfl⟩
      clear h2
      by_cases hv1 : a1 < 0
      · have hd1 : decide (a1 < 0) = true := decide_eq_true hv1
        clear hv hv1
        go_enter Try.func44, Try.ntmps44
        go_wp2
        go_step3
        go_wp2_with (refine wpList_load_row rfl 25 _ rfl gm rfl 25 _ (0, 0) _ HM.out Try.underlying25 rfl (by kernel_rfl) ?_)
        refine (image_Image_Right.calls a0_0 a0_1 a0_2 A0_3 c0_3 l0_3 true _ (Kd.C_below HA.out HB.out) HC.out HOK.out).mono ?_
        rintro e w1 ⟨rfl, hb⟩
        replace HB := Aside0.mk (below_step HB.out hb)
        clear hb
        go_wp2
        rw [Exit.noGoto_ret]
        go_ret2
        exact ⟨_, rfl, Kd.S_nil _ _ _ _ _, HB.out⟩
      · have hd1 : decide (a1 < 0) = false := decide_eq_false hv1
        have hd2 : decide (2 ≤ a1) = true := decide_eq_true (by omega)
        clear hv hv1
        go_enter Try.func44, Try.ntmps44
        go_wp2
        go_step3
        go_wp2_with (refine wpList_load_row rfl 25 _ rfl gm rfl 25 _ (0, 0) _ HM.out Try.underlying25 rfl (by kernel_rfl) ?_)
        refine (image_Image_Right.calls a0_0 a0_1 a0_2 A0_3 c0_3 l0_3 true _ (Kd.C_below HA.out HB.out) HC.out HOK.out).mono ?_
        rintro e w1 ⟨rfl, hb⟩
        replace HB := Aside0.mk (below_step HB.out hb)
        clear hb
        go_wp2
        rw [Exit.noGoto_ret]
        go_ret2
        exact ⟨_, rfl, Kd.S_nil _ _ _ _ _, HB.out⟩
    have hv0 : 0 ≤ a1 := by omega
    have hv2 : a1 < 2 := by omega
    clear hv
    rw [if_neg (by omega), if_neg (by omega)] at h2
    have HF := Aside0.mk h2
    clear h2
    obtain ⟨st, hst⟩ : ∃ s, (if a1 = 0 then a0_1 else a0_2) = s := ⟨_, rfl⟩
    rw [hst] at HF
    have c1 : (#[Value.int .i64 a0_0, .int .i64 a0_1, .int .i64 a0_2, .slice A0_3 l0_3.length c0_3] : Array Value)[1 + a1.toNat]? = some (.int .i64 st) := by
      rcases (by omega : a1 = 0 ∨ a1 = 1) with rfl | rfl
      · rw [← hst]; rfl
      · rw [← hst]; rfl
    have HST := Aside0.mk c1
    clear c1 hst
    have hd1 : decide (a1 < 0) = false := decide_eq_false (by omega)
    have hd2 : decide (2 ≤ a1) = false := decide_eq_false (by omega)
    go_enter Try.func44, Try.ntmps44
    go_wp2
    go_step3
    go_wp2_with (refine wpList_load_row rfl 25 _ rfl gm rfl 25 _ (0, 0) _ HM.out Try.underlying25 rfl (by kernel_rfl) ?_)
    refine (image_Image_Right.calls a0_0 a0_1 a0_2 A0_3 c0_3 l0_3 true _ (Kd.C_below HA.out HB.out) HC.out HOK.out).mono ?_
    rintro e w1 ⟨rfl, hb⟩
    have HM1 := Aside0.mk (blk_below HM.out hb)
    replace HB := Aside0.mk (below_step HB.out hb)
    clear hb HM
    have x1 : w1.cell? ⟨gm, 1 + a1.toNat, none⟩ = some (.int .i64 st) := (cell_in HM1.out _).trans HST.out
    have HAL0 : Aside0 (Kd.C (Kd.int .u8) w1 A0_3 l0_3.length l0_3) := ⟨Kd.C_below HA.out HB.out⟩
    have HB0 := HB.out.size
    have hgmb : gm < w1.heap.size := lt_of_block HM1.out
    obtain ⟨gw, hgw⟩ : ∃ g, w1.heap.size = g := ⟨_, rfl⟩
    have HAI := Aside0.mk HA.out
    have HI : Aside0 (WI w ((w1.alloc (.cells #[.int .i64 st, .slice none 0 0] 122)).alloc (.cells #[.pointer (some ⟨gw, 0, none⟩)] 120)) gm gw a0_0 a0_1 a0_2 A0_3 c0_3 l0_3 st [] (.slice none 0 0) (.slice none 0 0) []) := by
      have b1 : Below w1.heap.size w1 (w1.alloc (.cells #[.int .i64 st, .slice none 0 0] 122)) := below_alloc (Below.refl _ _) _
      have b2 : Below (w1.alloc (.cells #[.int .i64 st, .slice none 0 0] 122)).heap.size (w1.alloc (.cells #[.int .i64 st, .slice none 0 0] 122)) ((w1.alloc (.cells #[.int .i64 st, .slice none 0 0] 122)).alloc (.cells #[.pointer (some ⟨gw, 0, none⟩)] 120)) := below_alloc (Below.refl _ _) _
      have hs : (w1.alloc (.cells #[.int .i64 st, .slice none 0 0] 122)).heap.size = gw + 1 := by simp [hgw]
      refine ⟨⟨blk_below (blk_below HM1.out b1) b2, ?_, ?_, Kd.R_nil _ _ _ _ _, Kd.S_nil _ _ _ _ _, below_step (below_step HB.out b1) b2, by omega, by omega⟩⟩
      · rw [← hs]; exact heap_alloc_new _ _
      · refine blk_below ?_ b2
        rw [← hgw]; exact heap_alloc_new _ _
    clear hgmb HB0
    go_wp2
    clear HM1 x1 HB hgm hgw HST HOK HA
    generalize (w1.alloc (.cells #[.int .i64 st, .slice none 0 0] 122)).alloc (.cells #[.pointer (some ⟨gw, 0, none⟩)] 120) = W1 at *
    clear HAL0
    go_step3
    go_wp2_with fail
    go_loopw [7, 32] (fun v7 v32 wr => ∃ (i : Nat) (at_ : Int) (back : List Int) (v : Value) (out : List S76), i ≤ 4096 ∧ v32 = .int .i64 i ∧ winL a0_0 l0_3 (4096 - i) at_ back out = some (r1, r2) ∧ WI w wr gm gw a0_0 a0_1 a0_2 A0_3 c0_3 l0_3 at_ back v v7 out) (fun _ v32 _ => (4096 - intOf v32).toNat)
    case atStart => exact ⟨0, st, [], _, [], by omega, rfl, HF.out, HI.out⟩
    case round =>
      obtain ⟨i, at_, back, v, out, hi, rfl, hf, hI⟩ := hrel
      obtain ⟨A7, c7, e7⟩ := Kd.S_slice hI.s
      subst e7
      clear HF HI
      have HI := Aside0.mk hI
      have HF := Aside0.mk hf
      clear hI hf
      by_cases hlt : (i : Int) < 4096
      · have c1 : decide ((i : Int) < 4096) = true := decide_eq_true hlt
        obtain ⟨n, hn⟩ : ∃ n, 4096 - i = n + 1 := ⟨4095 - i, by omega⟩
        have hf := HF.out
        rw [hn, winL] at hf
        obtain ⟨⟨C, nx, er⟩, hr, hf⟩ := Option.bind_eq_some_iff.mp hf
        have HR := Aside0.mk hr
        have HF2 := Aside0.mk hf
        have HN := Aside0.mk hn
        clear hr hf HF hn
        go_wp2_with fail
        have HI0 := HI.out
        refine (next_any 16 a0_0 a0_1 a0_2 at_ l0_3 A0_3 c0_3 gm (gw + 1) gw w.heap.size v (C, nx, er) wr HI.out.m HI.out.p HI.out.wk (Kd.C_below HAI.out HI.out.b) HC.out HR.out (below_size HI.out.b) (by have := HI.out.lt; have := HI.out.le; omega) (by have := HI.out.lt; omega) (by omega)).mono ?_
        rintro e W2 ⟨rfl, hw2, hk2, hb2⟩
        have HI2 := Aside0.mk (HI.out.next hw2 hk2 hb2)
        have HCL : Aside0 (C.length = 7) := ⟨readF_len HR.out⟩
        clear HI0 HI hw2 hk2 hb2 HR
        obtain ⟨f0, f1, f2, f3, f4, f5, f6, rfl⟩ := list7 C HCL.out
        clear HCL
        have hf2 := HF2.out
        clear HF2
        simp only [List.getD_cons_zero, List.getD_cons_succ] at hf2
        have HF2 := Aside0.mk hf2
        clear hf2
        obtain ⟨g9, hg9⟩ : ∃ g, W2.heap.size = g := ⟨_, rfl⟩
        have H9 : Aside0 ((W2.alloc (.cells (cc zero7) 98)).heap[g9]? = some (.cells (cc zero7) 98 (0, 0))) := ⟨by rw [← hg9]; exact heap_alloc_new _ _⟩
        by_cases he : er = 0
        · subst he
          have hf2 := HF2.out
          clear HF2
          rw [if_pos rfl] at hf2
          by_cases h0 : f0 = 0
          · subst h0
            rw [if_pos rfl] at hf2
            obtain ⟨rfl, rfl⟩ := Prod.mk.inj (Option.some.inj hf2)
            clear hf2
            go_wp2_with (refine store_rowN (w0 := W2) (B := W2.heap.size) rfl 98 _ _ rfl g9 (cc [0, f1, f2, f3, f4, f5, f6]) rfl rfl 98 _ H9.out (by rw [cc_size]; kernel_rfl) rfl (cc_one _) (below_alloc (Below.refl _ _) _) (by omega) ?_; intro W3 h93 hb3; have H93 := Aside0.mk h93; have HI3 := Aside0.mk (HI2.out.below hb3); clear h93 hb3 HI2 H9; have x0 := cell_in H93.out 0; replace x0 : W3.cell? ⟨g9, 0, none⟩ = some (.int .i64 0) := x0)
            rw [Exit.noGoto_ret]
            go_ret2
            exact ⟨_, rfl, Kd.S_mono HI3.out.s (fun _ _ => trivial), HI3.out.b⟩
          · rw [if_neg h0] at hf2
            have HF2 := Aside0.mk hf2
            clear hf2
            have d0 : (f0 == 0) = false := by simpa using h0
            clear h0
            go_wp2_with (first | (refine store_rowN (w0 := W2) (B := W2.heap.size) rfl 98 _ _ rfl g9 (cc [f0, f1, f2, f3, f4, f5, f6]) rfl rfl 98 _ H9.out (by rw [cc_size]; kernel_rfl) rfl (cc_one _) (below_alloc (Below.refl _ _) _) (by omega) ?_; intro W3 h93 hb3; have H93 := Aside0.mk h93; have HI3 := Aside0.mk (HI2.out.below hb3); clear h93 hb3 HI2 H9; have x0 := cell_in H93.out 0; replace x0 : W3.cell? ⟨g9, 0, none⟩ = some (.int .i64 f0) := x0; have x1 := cell_in HI3.out.p 0; replace x1 : W3.cell? ⟨gw + 1, 0, none⟩ = some (.pointer (some ⟨gw, 0, none⟩)) := x1) | (refine wpList_load_row rfl 98 _ rfl g9 rfl 98 _ (0, 0) _ H93.out Try.underlying98 rfl (by rw [cc_size]; kernel_rfl) ?_))
            refine (turn_any f0 f1 f2 f3 f4 f5 f6 nx gw w.heap.size back v W3 HI3.out.wk HI3.out.r (below_size HI3.out.b) (by have := HI3.out.lt; have := HI3.out.le; omega)).mono ?_
            rintro e W4 ⟨rfl, ht⟩
            obtain ⟨v', hI4, hk4⟩ := HI3.out.turned ht
            have hgg : g9 ≠ gw := by
              have := lt_of_block HI3.out.p
              intro e
              subst e
              have h1 := HI3.out.wk
              rw [H93.out] at h1
              injection h1 with h1
              injection h1 with _ h1
              exact absurd h1 (by decide)
            have H94 := Aside0.mk (hk4 g9 _ _ H93.out (by decide) hgg)
            have HI4 := Aside0.mk hI4
            clear hgg hk4 hI4 ht x0 x1 HI3 H93 d0
            obtain ⟨⟨te, ta, tb⟩, htt⟩ : ∃ t, turnF f0 f6 nx back = t := ⟨_, rfl⟩
            have hf2 := HF2.out
            clear HF2
            rw [htt] at hf2 HI4 ⊢
            clear htt
            replace HI4 : Aside0 (WI w W4 gm gw a0_0 a0_1 a0_2 A0_3 c0_3 l0_3 ta tb v' (.slice A7 out.length c7) out) := HI4
            replace hf2 : (if te = 0 then (walk_window.f 16 f0 f1 f2 f3 f4 f5 f6 a0_0).bind fun x => if x.2.2.2.2.2.2 = true then (if 32 ≤ (out.length : Int) then some ([], 15) else winL a0_0 l0_3 n ta tb (out ++ [⟨x.1, x.2.1, x.2.2.1, x.2.2.2.1, x.2.2.2.2.1, x.2.2.2.2.2.1⟩])) else winL a0_0 l0_3 n ta tb out else some ([], te)) = some (r1, r2) := hf2
            by_cases he : te = 0
            · subst he
              rw [if_pos rfl] at hf2
              obtain ⟨⟨x1, x2, x3, x4, x5, x6, x7⟩, hx, hf2⟩ := Option.bind_eq_some_iff.mp hf2
              have HX := Aside0.mk hx
              replace hf2 : (if x7 = true then (if 32 ≤ (out.length : Int) then some ([], 15) else winL a0_0 l0_3 n ta tb (out ++ [⟨x1, x2, x3, x4, x5, x6⟩])) else winL a0_0 l0_3 n ta tb out) = some (r1, r2) := hf2
              have HF2 := Aside0.mk hf2
              clear hf2 hx
              have y1 := cell_in HI4.out.m 0
              replace y1 : W4.cell? ⟨gm, 0, none⟩ = some (.int .i64 a0_0) := y1
              go_wp2_with (refine wpList_load_row rfl 98 _ rfl g9 rfl 98 _ (0, 0) _ H94.out Try.underlying98 rfl (by rw [cc_size]; kernel_rfl) ?_)
              refine (walk_window.calls 16 f0 f1 f2 f3 f4 f5 f6 a0_0 x1 x2 x3 x4 x5 x6 x7 W4 HX.out).mono ?_
              rintro e W5 ⟨v4, v5, rfl, hr4, hr5, hb5⟩
              have HI5 := Aside0.mk (HI4.out.below hb5)
              have H95 := Aside0.mk (blk_below H94.out hb5)
              have HR4 := Aside0.mk hr4
              have HR5 := Aside0.mk hr5
              have HS5 := Aside0.mk (Kd.S_old HI4.out.s hb5)
              have HLT4 : Aside0 (gw < W4.heap.size ∧ (∀ k, v'.ownBlock = some k → k < W4.heap.size)) := ⟨lt_of_block HI4.out.wk, Kd.R_lt HI4.out.r⟩
              clear hr4 hr5 HI4 H94 y1 HX
              obtain ⟨g12, hg12⟩ : ∃ g, W5.heap.size = g := ⟨_, rfl⟩
              have H12 : Aside0 ((W5.alloc (.cells #[.int .i64 0, .int .i64 0, .int .i64 0, .int .i64 0, .slice none 0 0, .slice none 0 0] 92)).heap[g12]? = some (.cells #[.int .i64 0, .int .i64 0, .int .i64 0, .int .i64 0, .slice none 0 0, .slice none 0 0] 92 (0, 0))) := ⟨by rw [← hg12]; exact heap_alloc_new _ _⟩
              have HV4 := Aside0.mk (Kd.R_val HR4.out)
              have HV5 := Aside0.mk (Kd.R_val HR5.out)
              have HONE : Aside0 ((#[.int .i64 x1, .int .i64 x2, .int .i64 x3, .int .i64 x4, v4, v5] : Array Value).all (·.oneCell') = true) := ⟨by rw [← Array.all_toList]; simp only [List.all_cons, List.all_nil, HV4.out.2, HV5.out.2]; rfl⟩
              have HZ5 := Aside0.mk hb5.size
              clear hb5
              have hz76 := Try.underlying92
              cases x7 with
              | false =>
                have hf2 := HF2.out
                clear HF2
                rw [if_neg (by decide)] at hf2
                have HF2 := Aside0.mk hf2
                clear hf2
                go_wp2_with (refine store_rowN (w0 := W5) (B := W5.heap.size) rfl 92 _ _ rfl g12 #[.int .i64 x1, .int .i64 x2, .int .i64 x3, .int .i64 x4, v4, v5] rfl rfl 92 _ H12.out (by kernel_rfl) rfl HONE.out (below_alloc (Below.refl _ _) _) (by omega) ?_; intro W6 h126 hb6; have H126 := Aside0.mk h126; have HI6 := Aside0.mk (HI5.out.below hb6); have HR46 := Aside0.mk (Kd.R_below HR4.out hb6); have HR56 := Aside0.mk (Kd.R_below HR5.out hb6); have HS6 := Aside0.mk (Kd.S_below HS5.out hb6); have HZ6 := Aside0.mk hb6.size; clear h126 hb6 HI5 H12 HR4 HR5 HS5 H95)
                exact ⟨⟨i + 1, ta, tb, v', out, by omega, by simp, by rw [show 4096 - (i + 1) = n by have := HN.out; omega]; exact HF2.out, HI6.out⟩, by simp [intOf]; omega⟩
              | true =>
                have hf2 := HF2.out
                clear HF2
                rw [if_pos rfl] at hf2
                by_cases h32 : 32 ≤ (out.length : Int)
                · rw [if_pos h32] at hf2
                  obtain ⟨rfl, rfl⟩ := Prod.mk.inj (Option.some.inj hf2)
                  clear hf2
                  have d5 : decide (32 ≤ (out.length : Int)) = true := decide_eq_true h32
                  have d6 : decide (32 ≤ out.length) = true := decide_eq_true (by omega)
                  clear h32
                  go_wp2_with (refine store_rowN (w0 := W5) (B := W5.heap.size) rfl 92 _ _ rfl g12 #[.int .i64 x1, .int .i64 x2, .int .i64 x3, .int .i64 x4, v4, v5] rfl rfl 92 _ H12.out (by kernel_rfl) rfl HONE.out (below_alloc (Below.refl _ _) _) (by omega) ?_; intro W6 h126 hb6; have H126 := Aside0.mk h126; have HI6 := Aside0.mk (HI5.out.below hb6); have HR46 := Aside0.mk (Kd.R_below HR4.out hb6); have HR56 := Aside0.mk (Kd.R_below HR5.out hb6); have HS6 := Aside0.mk (Kd.S_below HS5.out hb6); have HZ6 := Aside0.mk hb6.size; clear h126 hb6 HI5 H12 HR4 HR5 HS5 H95)
                  rw [Exit.noGoto_ret]
                  go_ret2
                  exact ⟨_, rfl, Kd.S_nil _ _ _ _ _, HI6.out.b⟩
                · rw [if_neg h32] at hf2
                  have HF2 := Aside0.mk hf2
                  clear hf2
                  have d5 : decide (32 ≤ (out.length : Int)) = false := decide_eq_false h32
                  have d6 : decide (32 ≤ out.length) = false := decide_eq_false (by omega)
                  have H32 : Aside0 (out.length < 32) := ⟨by omega⟩
                  clear h32
                  go_wp2_with (first | (refine store_rowN (w0 := W5) (B := W5.heap.size) rfl 92 _ _ rfl g12 #[.int .i64 x1, .int .i64 x2, .int .i64 x3, .int .i64 x4, v4, v5] rfl rfl 92 _ H12.out (by kernel_rfl) rfl HONE.out (below_alloc (Below.refl _ _) _) (by omega) ?_; intro W6 h126 hb6; have H126 := Aside0.mk h126; have HI6 := Aside0.mk (HI5.out.below hb6); have HR46 := Aside0.mk (Kd.R_below HR4.out hb6); have HR56 := Aside0.mk (Kd.R_below HR5.out hb6); have HS6 := Aside0.mk (Kd.S_below HS5.out hb6); have HZ6 := Aside0.mk hb6.size; clear h126 hb6 HI5 H12 HR4 HR5 HS5 H95) | ((with_reducible refine gate_dst (N := 67) rfl ?_); refine wpList_load_row rfl 92 _ rfl g12 rfl 92 _ (0, 0) _ H126.out Try.underlying92 rfl (by kernel_rfl) ?_; have HP := Aside0.mk (win_app (x := ⟨x1, x2, x3, x4, x5, x6⟩) HI6.out HR46.out HR56.out HS6.out HLT4.out (Nat.le_trans HZ5.out HZ6.out))) | ((with_reducible refine gate_builtin (b := .append) (xs := #[.tmp 66, .tmp 68]) rfl ?_); at_builtin; refine Kd.S_append k76 (w0 := w) w.heap.size rfl (.tmp 66) (.tmp 68) 40 92 (.agg #[.int .i64 0, .int .i64 0, .int .i64 0, .int .i64 0, .slice none 0 0, .slice none 0 0]) 80 rfl Try.underlying40 info92 rfl (by decide) (by omega) (.slice A7 out.length c7) out (⟨x1, x2, x3, x4, x5, x6⟩ : S76) [.int .i64 x1, .int .i64 x2, .int .i64 x3, .int .i64 x4, v4, v5] (fun k => k ≠ gw ∧ some k ≠ v'.ownBlock) (fun k => some k = v4.ownBlock ∨ some k = v5.ownBlock) rfl rfl HP.out.1 HP.out.2.1 HP.out.2.2.1 HP.out.2.2.2 HI6.out.b (below_size HI6.out.b) (by have := H32.out; omega) ?_; intro v7 W7 hs7 hb7 hg7 hat7; have HI7 := Aside0.mk (HI6.out.grown hs7 hb7 hg7); clear hs7 hb7 hg7 hat7 HP))
                  exact ⟨⟨i + 1, ta, tb, v', _, by omega, by simp, by rw [show 4096 - (i + 1) = n by have := HN.out; omega]; exact HF2.out, HI7.out⟩, by simp [intOf]; omega⟩
            · rw [if_neg he] at hf2
              obtain ⟨rfl, rfl⟩ := Prod.mk.inj (Option.some.inj hf2)
              clear hf2
              have d0 : (te == 0) = false := by simpa using he
              have d1 : (te != 0) = true := by simpa using he
              clear he
              go_wp2
              rw [Exit.noGoto_ret]
              go_ret2
              exact ⟨_, rfl, Kd.S_nil _ _ _ _ _, HI4.out.b⟩
        · have hf2 := HF2.out
          clear HF2
          rw [if_neg he] at hf2
          obtain ⟨rfl, rfl⟩ := Prod.mk.inj (Option.some.inj hf2)
          clear hf2
          have d0 : (er == 0) = false := by simpa using he
          have d1 : (er != 0) = true := by simpa using he
          clear he
          go_wp2_with (refine store_rowN (w0 := W2) (B := W2.heap.size) rfl 98 _ _ rfl g9 (cc [f0, f1, f2, f3, f4, f5, f6]) rfl rfl 98 _ H9.out (by rw [cc_size]; kernel_rfl) rfl (cc_one _) (below_alloc (Below.refl _ _) _) (by omega) ?_; intro W3 h93 hb3; have H93 := Aside0.mk h93; have HI3 := Aside0.mk (HI2.out.below hb3); clear h93 hb3 HI2 H9; have x0 := cell_in H93.out 0; replace x0 : W3.cell? ⟨g9, 0, none⟩ = some (.int .i64 f0) := x0)
          rw [Exit.noGoto_ret]
          go_ret2
          exact ⟨_, rfl, Kd.S_nil _ _ _ _ _, HI3.out.b⟩
      · obtain rfl : i = 4096 := by omega
        have hf := HF.out
        rw [Nat.sub_self, winL] at hf
        obtain ⟨rfl, rfl⟩ := Prod.mk.inj (Option.some.inj hf)
        clear hf hlt hi
        go_wp2
        rw [Exit.noGoto_ret]
        go_ret2
        exact ⟨_, rfl, Kd.S_nil _ _ _ _ _, HI.out.b⟩
end Go.Proofs.Ytbaapakkdnhcmaa.PWe
