/- The schedule's window of one that was noted: walk. Helper text. -/
import Derived.Test.YtekbaconbemgpaaAuUnl
namespace Go.Proofs.Ytekbaconbemgpaa.PWe
open Go.RowKit Go.Proofs.Ytekbaconbemgpaa.Kx Go.Proofs.YtekbaconbemgpaaW.PrintWords Go.Proofs.YtekbaconbemgpaaW.PrintLast Go.Proofs.YtekbaconbemgpaaW.PrintMore
set_option linter.unusedVariables false
set_option linter.unusedSimpArgs false

section
variable {P : Program} {ops : Array Oper} {Q : Exit → Act → World → Prop} {S : World → Prop} {w : World} {K : Act → World → Prop} {l' : Array Bool} {oi : Oper} {a : Act} {fuel : Nat}
/-- A whole struct written into a block that was there: the new world is as it is said. -/
theorem storeRowS (hK : Shut (∀ a' w', S w' → (S w' → wpAnyLast P .any ops Q S [] fuel l' a' w') → K a' w')) (g : Nat) (cells : Array Value) {t : TypeId} {old : Array Value} (hg : Aside0 (w.heap[g]? = some (.cells old t (0, 0)))) (hS : S (w.setRow g cells)) (h : wpAnyLast P .any ops Q S [] fuel l' a (w.setRow g cells))
    {ty : TypeId} {x y : Operand} (ho : oi.op = .store ty x y := by rfl) (hx : a.eval x = .pointer (some ⟨g, 0, none⟩) := by rfl) (hy : a.eval y = .agg cells := by rfl) (hi : (P.info? ty).map (·.size) = some cells.size := by kernel_rfl) (hold : old.size = cells.size := by rfl)
    (h1 : cells.all (·.oneCell') = true := by (rw [← Array.all_toList]; rfl)) (hw : Region.wanted oi (yielded ops a.tmps) = true := by rfl) (hd : oi.dst = none := by rfl) : if Region.wanted oi (yielded ops a.tmps) = true then Oper.wp P oi a w K Q else K (a.put none undef) w := by
  rw [if_pos hw]
  refine wp_store_row ty x y ho g cells hx hy t old hg.out hi hold h1 ?_
  rw [hd]
  exact hK.out _ _ hS fun _ => h
end
def frameL (l0 l1 : List S76) (v : Int) : List S76 := if v = 0 then l0 else l1
/-- The schedule's window: none, or it. -/
def wdwP (l0 l1 : List S76) (x : S101) : Option S76 := if x.f1 < 0 ∨ 2 ≤ x.f1 ∨ x.f0 < 1 ∨ ((frameL l0 l1 x.f1).length : Int) < x.f0 then none else (frameL l0 l1 x.f1)[(x.f0 - 1).toNat]?
def z76w : S76 := ⟨0, 0, 0, 0, [], []⟩
def wdwY (l0 l1 : List S76) (x : S101) : S76 := (wdwP l0 l1 x).getD z76w
def wdwB (l0 l1 : List S76) (x : S101) : Bool := match wdwP l0 l1 x with
  | none => false
  | some y => y.f0 == 0
theorem w76_at {w : World} {A : Option Addr} {l : List S76} (h : Kd.C k76 w A l.length l) {i : Nat} (hi : i < l.length) {x : S76} (hx : l[i] = x) : ∃ ad A4 c4 A5 c5, A = some ad ∧ w.cell? (ad.add (i * 6)) = some (.int .i64 x.f0) ∧ w.cell? ⟨(ad.add (i * 6)).block, (ad.add (i * 6)).off + 1, none⟩ = some (.int .i64 x.f1) ∧ w.cell? ⟨(ad.add (i * 6)).block, (ad.add (i * 6)).off + 2, none⟩ = some (.int .i64 x.f2) ∧ w.cell? ⟨(ad.add (i * 6)).block, (ad.add (i * 6)).off + 3, none⟩ = some (.int .i64 x.f3) ∧ w.cell? ⟨(ad.add (i * 6)).block, (ad.add (i * 6)).off + 4, none⟩ = some (.slice A4 x.f4.length c4) ∧ w.cell? ⟨(ad.add (i * 6)).block, (ad.add (i * 6)).off + 5, none⟩ = some (.slice A5 x.f5.length c5) ∧
    x.f4.length ≤ c4 ∧ Kd.C (Kd.int .i64) w A4 x.f4.length x.f4 ∧ x.f5.length ≤ c5 ∧ Kd.C (Kd.int .i64) w A5 x.f5.length x.f5 := by
  subst hx
  have h := at_T76 h (i : Int) (by omega) (by omega)
  have e : rd_T76 l (i : Int) = l[i] := by
    unfold rd_T76
    rw [Int.toNat_natCast, List.getD_eq_getElem?_getD, List.getElem?_eq_getElem hi]; rfl
  rw [e, Int.toNat_natCast] at h
  exact h
def wdT3 : Bool × List (List Nat × List Nat) := (true, [([], []), ([0], [0]), ([], []), ([2], [2]), ([3, 1], [1, 3]), ([4], [4]), ([], []), ([6], [6]), ([7], [7]), ([5, 8], [5, 8]), ([9], [9]), ([], []), ([11, 10, 0, 1, 2, 3, 4, 5, 6, 7, 8, 9, 10, 11], [10, 11])])
theorem wdtab3 : rtab .any (opsOf Try.f65 3) = wdT3 := by kernel_rfl
def wdT4 : Bool × List (List Nat × List Nat) := (true, [([], []), ([], []), ([1], [1]), ([2], [2]), ([0, 0], [0]), ([3, 4, 0, 1, 2, 3, 4], [3])])
theorem wdtab4 : rtab .any (opsOf Try.f65 4) = wdT4 := by kernel_rfl
/-- What is read of the schedule. -/
def WSeen (ga gb : Nat) (v : Int) (AF : Addr) (nF cF k : Nat) (s0 s1 v0 v1 v2 v3 v4 v5 : Value) (W : World) : Prop :=
  W.cell? ⟨ga, 1 + v.toNat, none⟩ = some (.slice (some AF) nF cF) ∧ W.cell? ⟨gb, 0, none⟩ = some s0 ∧ W.cell? ⟨gb, 1, none⟩ = some s1 ∧ W.cell? (AF.add (k * 6)) = some v0 ∧ W.cell? ⟨(AF.add (k * 6)).block, (AF.add (k * 6)).off + 1, none⟩ = some v1 ∧ W.cell? ⟨(AF.add (k * 6)).block, (AF.add (k * 6)).off + 2, none⟩ = some v2 ∧ W.cell? ⟨(AF.add (k * 6)).block, (AF.add (k * 6)).off + 3, none⟩ = some v3 ∧ W.cell? ⟨(AF.add (k * 6)).block, (AF.add (k * 6)).off + 4, none⟩ = some v4 ∧ W.cell? ⟨(AF.add (k * 6)).block, (AF.add (k * 6)).off + 5, none⟩ = some v5
set_option maxHeartbeats 4000000 in
set_option maxRecDepth 100000 in
theorem window_calls (a : AudV) (v : WinV) (w : World) (ha : a.ok w) :
    Calls Try.prog 65 #[.agg a.arr, .agg v.arr] w fun e w' => ∃ A4 c4 A5 c5, e = .returned (.tuple #[.agg #[.int .i64 (wdwY a.l0 a.l1 v.x).f0, .int .i64 (wdwY a.l0 a.l1 v.x).f1, .int .i64 (wdwY a.l0 a.l1 v.x).f2, .int .i64 (wdwY a.l0 a.l1 v.x).f3, .slice A4 (wdwY a.l0 a.l1 v.x).f4.length c4, .slice A5 (wdwY a.l0 a.l1 v.x).f5.length c5], .bool (wdwB a.l0 a.l1 v.x)]) ∧ (wdwY a.l0 a.l1 v.x).f4.length ≤ c4 ∧ Kd.C (Kd.int .i64) w' A4 (wdwY a.l0 a.l1 v.x).f4.length (wdwY a.l0 a.l1 v.x).f4 ∧ (wdwY a.l0 a.l1 v.x).f5.length ≤ c5 ∧ Kd.C (Kd.int .i64) w' A5 (wdwY a.l0 a.l1 v.x).f5.length (wdwY a.l0 a.l1 v.x).f5 ∧ Below w.heap.size w w' := by
  obtain ⟨md, A0, c0, l0, A1, c1, l1, AL, cL, L, AG, cG, G⟩ := a
  obtain ⟨⟨s, v, t, y3, y4, y5, cd, y7⟩, A3, c3, A4, c4, A5, c5, A7, c7⟩ := v
  have HA := Aside0.mk ha
  have HB : Aside0 (Below w.heap.size w w) := ⟨Below.refl _ _⟩
  unfold WinV.arr AudV.arr
  dsimp only
  obtain ⟨Y, hY⟩ : ∃ y, wdwY l0 l1 ⟨s, v, t, y3, y4, y5, cd, y7⟩ = y := ⟨_, rfl⟩
  obtain ⟨Bq, hBq⟩ : ∃ y, wdwB l0 l1 ⟨s, v, t, y3, y4, y5, cd, y7⟩ = y := ⟨_, rfl⟩
  rw [hY, hBq]
  have HY := Aside0.mk hY
  have HBQ := Aside0.mk hBq
  clear hY hBq ha
  by_cases hin : v < 0 ∨ 2 ≤ v ∨ s < 1 ∨ ((frameL l0 l1 v).length : Int) < s
  · have hn : wdwP l0 l1 ⟨s, v, t, y3, y4, y5, cd, y7⟩ = none := by unfold wdwP; rw [if_pos hin]
    obtain rfl : z76w = Y := by rw [← HY.out, wdwY, hn]; rfl
    obtain rfl : false = Bq := by rw [← HBQ.out, wdwB, hn]
    have hq : decide (v < 0) = true ∨ (decide (v < 0) = false ∧ (decide (2 ≤ v) = true ∨ (decide (2 ≤ v) = false ∧ (decide (s < 1) = true ∨ (decide (s < 1) = false ∧ ∃ AF nF cF, (0 ≤ v ∧ v < 2) ∧ (#[Value.int .i64 md, .slice A0 l0.length c0, .slice A1 l1.length c1, .slice AL L.length cL, .slice AG G.length cG] : Array Value)[1 + v.toNat]? = some (.slice AF nF cF) ∧ decide ((nF : Int) < s) = true))))) := by
      by_cases h1 : v < 0
      · exact .inl (decide_eq_true h1)
      refine .inr ⟨decide_eq_false h1, ?_⟩
      by_cases h2 : 2 ≤ v
      · exact .inl (decide_eq_true h2)
      refine .inr ⟨decide_eq_false h2, ?_⟩
      by_cases h3 : s < 1
      · exact .inl (decide_eq_true h3)
      refine .inr ⟨decide_eq_false h3, ?_⟩
      have h4 : ((frameL l0 l1 v).length : Int) < s := by omega
      unfold frameL at h4
      rcases (by omega : v = 0 ∨ v = 1) with rfl | rfl
      · exact ⟨A0, l0.length, c0, by decide, rfl, decide_eq_true h4⟩
      · exact ⟨A1, l1.length, c1, by decide, rfl, decide_eq_true h4⟩
    clear hin hn
    rcases hq with j0 | ⟨j0, j1 | ⟨j1, j2 | ⟨j2, AF, nF, cF, hv, hcell, j3⟩⟩⟩
    · go_enter Try.func65, Try.ntmps65
      go_wp2_with (first | ((with_reducible refine gate_dst (N := 2) rfl ?_); refine boxN (w := w) rfl (N := 2) rfl (cs := #[.int .i64 md, .slice A0 l0.length c0, .slice A1 l1.length c1, .slice AL L.length cL, .slice AG G.length cG]) (t := 97) (by first | (go_simp; done) | (go_simp; rfl)) HB ?_; intro ga Wa Ha Lga HB_Wa K_Wa) | ((with_reducible refine gate_dst (N := 3) rfl ?_); refine boxN (w := w) rfl (N := 3) rfl (cs := #[.int .i64 s, .int .i64 v, .int .i64 t, .slice A3 y3.length c3, .slice A4 y4.length c4, .slice A5 y5.length c5, .int .i64 cd, .slice A7 y7.length c7]) (t := 101) (by first | (go_simp; done) | (go_simp; rfl)) HB_Wa ?_; intro gb Wb Hb Lgb HB_Wb K_Wb) | ((with_reducible refine gate_dst (N := 4) rfl ?_); refine boxN (w := w) rfl (N := 4) rfl (cs := #[.int .i64 0, .int .i64 0, .int .i64 0, .int .i64 0, .slice none 0 0, .slice none 0 0]) (t := 76) (by first | (go_simp; done) | (go_simp; rfl)) HB_Wb ?_; intro gc Wc Hc Lgc HB_Wc K_Wc; have HGA := Aside0.mk (blk_below Ha.out (below_step K_Wb.out K_Wc.out)); have HGB := Aside0.mk (blk_below Hb.out K_Wc.out); have z0 := cell_in HGA.out 0; have t0 : Wc.cell? ⟨gb, 0, none⟩ = some (.int .i64 s) := cell_in HGB.out 0; have t1 : Wc.cell? ⟨gb, 1, none⟩ = some (.int .i64 v) := cell_in HGB.out 1))
      go_quiet (fail)
      go_wp2_with (first | (have HBq : Aside0 (Below w.heap.size w (Wc.drewN nq)) := ⟨below_drewN HB_Wc.out nq⟩; have KQ : Aside0 (Below Wc.heap.size Wc (Wc.drewN nq)) := ⟨below_drewN (Below.refl _ _) nq⟩; have HcQ := Aside0.mk (blk_below Hc.out KQ.out); refine storeN (w := w) (wb := w) rfl 76 _ _ rfl gc #[.int .i64 0, .int .i64 0, .int .i64 0, .int .i64 0, .slice none 0 0, .slice none 0 0] rfl rfl 76 _ HcQ (by kernel_rfl) rfl (by rw [← Array.all_toList]; rfl) HBq ⟨Lgc.out.1, Lgc.out.1⟩ HBq ?_; intro Wd Hd HB_Wd K_Wd))
      refine bodyPost_ret (results_ct rfl _ _ gc 76 #[.int .i64 0, .int .i64 0, .int .i64 0, .int .i64 0, .slice none 0 0, .slice none 0 0] (0, 0) _ rfl Hd.out Try.underlying76 rfl (by kernel_rfl)) rfl ⟨none, 0, none, 0, rfl, Nat.le_refl _, Kd.C_nil _ _, Nat.le_refl _, Kd.C_nil _ _, HB_Wd.out⟩
    · go_enter Try.func65, Try.ntmps65
      go_wp2_with (first | ((with_reducible refine gate_dst (N := 2) rfl ?_); refine boxN (w := w) rfl (N := 2) rfl (cs := #[.int .i64 md, .slice A0 l0.length c0, .slice A1 l1.length c1, .slice AL L.length cL, .slice AG G.length cG]) (t := 97) (by first | (go_simp; done) | (go_simp; rfl)) HB ?_; intro ga Wa Ha Lga HB_Wa K_Wa) | ((with_reducible refine gate_dst (N := 3) rfl ?_); refine boxN (w := w) rfl (N := 3) rfl (cs := #[.int .i64 s, .int .i64 v, .int .i64 t, .slice A3 y3.length c3, .slice A4 y4.length c4, .slice A5 y5.length c5, .int .i64 cd, .slice A7 y7.length c7]) (t := 101) (by first | (go_simp; done) | (go_simp; rfl)) HB_Wa ?_; intro gb Wb Hb Lgb HB_Wb K_Wb) | ((with_reducible refine gate_dst (N := 4) rfl ?_); refine boxN (w := w) rfl (N := 4) rfl (cs := #[.int .i64 0, .int .i64 0, .int .i64 0, .int .i64 0, .slice none 0 0, .slice none 0 0]) (t := 76) (by first | (go_simp; done) | (go_simp; rfl)) HB_Wb ?_; intro gc Wc Hc Lgc HB_Wc K_Wc; have HGA := Aside0.mk (blk_below Ha.out (below_step K_Wb.out K_Wc.out)); have HGB := Aside0.mk (blk_below Hb.out K_Wc.out); have z0 := cell_in HGA.out 0; have t0 : Wc.cell? ⟨gb, 0, none⟩ = some (.int .i64 s) := cell_in HGB.out 0; have t1 : Wc.cell? ⟨gb, 1, none⟩ = some (.int .i64 v) := cell_in HGB.out 1))
      go_quiet (fail)
      go_wp2_with (first | (have HBq : Aside0 (Below w.heap.size w (Wc.drewN nq)) := ⟨below_drewN HB_Wc.out nq⟩; have KQ : Aside0 (Below Wc.heap.size Wc (Wc.drewN nq)) := ⟨below_drewN (Below.refl _ _) nq⟩; have HcQ := Aside0.mk (blk_below Hc.out KQ.out); refine storeN (w := w) (wb := w) rfl 76 _ _ rfl gc #[.int .i64 0, .int .i64 0, .int .i64 0, .int .i64 0, .slice none 0 0, .slice none 0 0] rfl rfl 76 _ HcQ (by kernel_rfl) rfl (by rw [← Array.all_toList]; rfl) HBq ⟨Lgc.out.1, Lgc.out.1⟩ HBq ?_; intro Wd Hd HB_Wd K_Wd))
      refine bodyPost_ret (results_ct rfl _ _ gc 76 #[.int .i64 0, .int .i64 0, .int .i64 0, .int .i64 0, .slice none 0 0, .slice none 0 0] (0, 0) _ rfl Hd.out Try.underlying76 rfl (by kernel_rfl)) rfl ⟨none, 0, none, 0, rfl, Nat.le_refl _, Kd.C_nil _ _, Nat.le_refl _, Kd.C_nil _ _, HB_Wd.out⟩
    · go_enter Try.func65, Try.ntmps65
      go_wp2_with (first | ((with_reducible refine gate_dst (N := 2) rfl ?_); refine boxN (w := w) rfl (N := 2) rfl (cs := #[.int .i64 md, .slice A0 l0.length c0, .slice A1 l1.length c1, .slice AL L.length cL, .slice AG G.length cG]) (t := 97) (by first | (go_simp; done) | (go_simp; rfl)) HB ?_; intro ga Wa Ha Lga HB_Wa K_Wa) | ((with_reducible refine gate_dst (N := 3) rfl ?_); refine boxN (w := w) rfl (N := 3) rfl (cs := #[.int .i64 s, .int .i64 v, .int .i64 t, .slice A3 y3.length c3, .slice A4 y4.length c4, .slice A5 y5.length c5, .int .i64 cd, .slice A7 y7.length c7]) (t := 101) (by first | (go_simp; done) | (go_simp; rfl)) HB_Wa ?_; intro gb Wb Hb Lgb HB_Wb K_Wb) | ((with_reducible refine gate_dst (N := 4) rfl ?_); refine boxN (w := w) rfl (N := 4) rfl (cs := #[.int .i64 0, .int .i64 0, .int .i64 0, .int .i64 0, .slice none 0 0, .slice none 0 0]) (t := 76) (by first | (go_simp; done) | (go_simp; rfl)) HB_Wb ?_; intro gc Wc Hc Lgc HB_Wc K_Wc; have HGA := Aside0.mk (blk_below Ha.out (below_step K_Wb.out K_Wc.out)); have HGB := Aside0.mk (blk_below Hb.out K_Wc.out); have z0 := cell_in HGA.out 0; have t0 : Wc.cell? ⟨gb, 0, none⟩ = some (.int .i64 s) := cell_in HGB.out 0; have t1 : Wc.cell? ⟨gb, 1, none⟩ = some (.int .i64 v) := cell_in HGB.out 1))
      go_quiet (fail)
      go_wp2_with (first | (have HBq : Aside0 (Below w.heap.size w (Wc.drewN nq)) := ⟨below_drewN HB_Wc.out nq⟩; have KQ : Aside0 (Below Wc.heap.size Wc (Wc.drewN nq)) := ⟨below_drewN (Below.refl _ _) nq⟩; have HcQ := Aside0.mk (blk_below Hc.out KQ.out); refine storeN (w := w) (wb := w) rfl 76 _ _ rfl gc #[.int .i64 0, .int .i64 0, .int .i64 0, .int .i64 0, .slice none 0 0, .slice none 0 0] rfl rfl 76 _ HcQ (by kernel_rfl) rfl (by rw [← Array.all_toList]; rfl) HBq ⟨Lgc.out.1, Lgc.out.1⟩ HBq ?_; intro Wd Hd HB_Wd K_Wd))
      refine bodyPost_ret (results_ct rfl _ _ gc 76 #[.int .i64 0, .int .i64 0, .int .i64 0, .int .i64 0, .slice none 0 0, .slice none 0 0] (0, 0) _ rfl Hd.out Try.underlying76 rfl (by kernel_rfl)) rfl ⟨none, 0, none, 0, rfl, Nat.le_refl _, Kd.C_nil _ _, Nat.le_refl _, Kd.C_nil _ _, HB_Wd.out⟩
    · have p1 : (0 ≤ v) = True := eq_true hv.1
      have p2 : (v < 2) = True := eq_true hv.2
      have HCE := Aside0.mk hcell
      clear hv hcell
      go_enter Try.func65, Try.ntmps65
      go_wp2_with (first | ((with_reducible refine gate_dst (N := 2) rfl ?_); refine boxN (w := w) rfl (N := 2) rfl (cs := #[.int .i64 md, .slice A0 l0.length c0, .slice A1 l1.length c1, .slice AL L.length cL, .slice AG G.length cG]) (t := 97) (by first | (go_simp; done) | (go_simp; rfl)) HB ?_; intro ga Wa Ha Lga HB_Wa K_Wa) | ((with_reducible refine gate_dst (N := 3) rfl ?_); refine boxN (w := w) rfl (N := 3) rfl (cs := #[.int .i64 s, .int .i64 v, .int .i64 t, .slice A3 y3.length c3, .slice A4 y4.length c4, .slice A5 y5.length c5, .int .i64 cd, .slice A7 y7.length c7]) (t := 101) (by first | (go_simp; done) | (go_simp; rfl)) HB_Wa ?_; intro gb Wb Hb Lgb HB_Wb K_Wb) | ((with_reducible refine gate_dst (N := 4) rfl ?_); refine boxN (w := w) rfl (N := 4) rfl (cs := #[.int .i64 0, .int .i64 0, .int .i64 0, .int .i64 0, .slice none 0 0, .slice none 0 0]) (t := 76) (by first | (go_simp; done) | (go_simp; rfl)) HB_Wb ?_; intro gc Wc Hc Lgc HB_Wc K_Wc; have HGA := Aside0.mk (blk_below Ha.out (below_step K_Wb.out K_Wc.out)); have HGB := Aside0.mk (blk_below Hb.out K_Wc.out); have z0 := cell_in HGA.out 0; have t0 : Wc.cell? ⟨gb, 0, none⟩ = some (.int .i64 s) := cell_in HGB.out 0; have t1 : Wc.cell? ⟨gb, 1, none⟩ = some (.int .i64 v) := cell_in HGB.out 1))
      have z1 : Wc.cell? ⟨ga, 1 + v.toNat, none⟩ = some (.slice AF nF cF) := (cell_in HGA.out _).trans HCE.out
      go_quiet (fail)
      go_wp2_with (first | (have HBq : Aside0 (Below w.heap.size w (Wc.drewN nq)) := ⟨below_drewN HB_Wc.out nq⟩; have KQ : Aside0 (Below Wc.heap.size Wc (Wc.drewN nq)) := ⟨below_drewN (Below.refl _ _) nq⟩; have HcQ := Aside0.mk (blk_below Hc.out KQ.out); refine storeN (w := w) (wb := w) rfl 76 _ _ rfl gc #[.int .i64 0, .int .i64 0, .int .i64 0, .int .i64 0, .slice none 0 0, .slice none 0 0] rfl rfl 76 _ HcQ (by kernel_rfl) rfl (by rw [← Array.all_toList]; rfl) HBq ⟨Lgc.out.1, Lgc.out.1⟩ HBq ?_; intro Wd Hd HB_Wd K_Wd))
      refine bodyPost_ret (results_ct rfl _ _ gc 76 #[.int .i64 0, .int .i64 0, .int .i64 0, .int .i64 0, .slice none 0 0, .slice none 0 0] (0, 0) _ rfl Hd.out Try.underlying76 rfl (by kernel_rfl)) rfl ⟨none, 0, none, 0, rfl, Nat.le_refl _, Kd.C_nil _ _, Nat.le_refl _, Kd.C_nil _ _, HB_Wd.out⟩
  · have hv : 0 ≤ v ∧ v < 2 := by omega
    obtain ⟨AF, cF, F, hF, hFC, hcell⟩ : ∃ AF cF F, frameL l0 l1 v = F ∧ Kd.C k76 w AF F.length F ∧ (#[Value.int .i64 md, .slice A0 l0.length c0, .slice A1 l1.length c1, .slice AL L.length cL, .slice AG G.length cG] : Array Value)[1 + v.toNat]? = some (.slice AF F.length cF) := by
      unfold frameL
      rcases (by omega : v = 0 ∨ v = 1) with rfl | rfl
      · exact ⟨A0, c0, l0, rfl, HA.out.h0, rfl⟩
      · exact ⟨A1, c1, l1, rfl, HA.out.h1, rfl⟩
    have hFf := hF
    rw [hF] at hin
    obtain ⟨k, hk, hks⟩ : ∃ k : Nat, k < F.length ∧ s = (k : Int) + 1 := ⟨(s - 1).toNat, by omega, by omega⟩
    subst hks
    obtain ⟨y, hy⟩ : ∃ y, F[k] = y := ⟨_, rfl⟩
    have hp : wdwP l0 l1 ⟨(k : Int) + 1, v, t, y3, y4, y5, cd, y7⟩ = some y := by
      unfold wdwP
      dsimp only
      rw [hF, if_neg hin, show ((k : Int) + 1 - 1).toNat = k by omega, List.getElem?_eq_getElem hk, hy]
    obtain rfl : y = Y := by rw [← HY.out, wdwY, hp]; rfl
    obtain rfl : (y.f0 == 0) = Bq := by rw [← HBQ.out, wdwB, hp]
    obtain ⟨ad, E4, b4, E5, b5, hA, x0, x1, x2, x3, x4, x5, hl4, hr4, hl5, hr5⟩ := w76_at hFC hk hy
    subst hA
    have j0 : decide (v < 0) = false := decide_eq_false (by omega)
    have j1 : decide (2 ≤ v) = false := decide_eq_false (by omega)
    have j2 : decide ((k : Int) + 1 < 1) = false := decide_eq_false (by omega)
    have j3 : decide ((F.length : Int) < (k : Int) + 1) = false := decide_eq_false (by omega)
    have p1 : (0 ≤ v) = True := eq_true hv.1
    have p2 : (v < 2) = True := eq_true hv.2
    have q1 : (0 ≤ (k : Int)) = True := eq_true (by omega)
    have q2 : ((k : Int) < (F.length : Int)) = True := eq_true (by omega)
    have q3 : (k < F.length) = True := eq_true hk
    have hk63 : k < 9223372036854775807 := by have := hFC.2.1; omega
    have e1 : IntKind.i64.wrap (k : Int) = (k : Int) := by rw [IntKind.wrap_i64]; omega
    have e2 : wrap64 (k : Int) = (k : Int) := by unfold wrap64; omega
    have e3 : IntKind.i64.wrap ((k : Int) + 1 - 1) = (k : Int) := by rw [IntKind.wrap_i64]; omega
    have HR4 := Aside0.mk hr4
    have HR5 := Aside0.mk hr5
    have HCE := Aside0.mk hcell
    have HX : Aside0 (∀ W, Below w.heap.size w W → W.cell? (ad.add (k * 6)) = some (.int .i64 y.f0) ∧ W.cell? ⟨(ad.add (k * 6)).block, (ad.add (k * 6)).off + 1, none⟩ = some (.int .i64 y.f1) ∧ W.cell? ⟨(ad.add (k * 6)).block, (ad.add (k * 6)).off + 2, none⟩ = some (.int .i64 y.f2) ∧ W.cell? ⟨(ad.add (k * 6)).block, (ad.add (k * 6)).off + 3, none⟩ = some (.int .i64 y.f3) ∧ W.cell? ⟨(ad.add (k * 6)).block, (ad.add (k * 6)).off + 4, none⟩ = some (.slice E4 y.f4.length b4) ∧ W.cell? ⟨(ad.add (k * 6)).block, (ad.add (k * 6)).off + 5, none⟩ = some (.slice E5 y.f5.length b5)) := ⟨fun W hb => by
      have up : ∀ {p : Addr} {v : Value}, w.cell? p = some v → W.cell? p = some v := fun h => (hb.cell (World.block_lt_of_cell? w _ h)).trans h
      exact ⟨up x0, up x1, up x2, up x3, up x4, up x5⟩⟩
    clear hin hF hFf hFC hcell hp hr4 hr5 hy x0 x1 x2 x3 x4 x5 hv hk
    go_enter Try.func65, Try.ntmps65
    go_wp2_with (first | ((with_reducible refine gate_dst (N := 2) rfl ?_); refine boxN (w := w) rfl (N := 2) rfl (cs := #[.int .i64 md, .slice A0 l0.length c0, .slice A1 l1.length c1, .slice AL L.length cL, .slice AG G.length cG]) (t := 97) (by first | (go_simp; done) | (go_simp; rfl)) HB ?_; intro ga Wa Ha Lga HB_Wa K_Wa) | ((with_reducible refine gate_dst (N := 3) rfl ?_); refine boxN (w := w) rfl (N := 3) rfl (cs := #[.int .i64 ((k : Int) + 1), .int .i64 v, .int .i64 t, .slice A3 y3.length c3, .slice A4 y4.length c4, .slice A5 y5.length c5, .int .i64 cd, .slice A7 y7.length c7]) (t := 101) (by first | (go_simp; done) | (go_simp; rfl)) HB_Wa ?_; intro gb Wb Hb Lgb HB_Wb K_Wb) | ((with_reducible refine gate_dst (N := 4) rfl ?_); refine boxN (w := w) rfl (N := 4) rfl (cs := #[.int .i64 0, .int .i64 0, .int .i64 0, .int .i64 0, .slice none 0 0, .slice none 0 0]) (t := 76) (by first | (go_simp; done) | (go_simp; rfl)) HB_Wb ?_; intro gc Wc Hc Lgc HB_Wc K_Wc; have HGA := Aside0.mk (blk_below Ha.out (below_step K_Wb.out K_Wc.out)); have HGB := Aside0.mk (blk_below Hb.out K_Wc.out); have z0 := cell_in HGA.out 0; have t0 : Wc.cell? ⟨gb, 0, none⟩ = some (.int .i64 ((k : Int) + 1)) := cell_in HGB.out 0; have t1 : Wc.cell? ⟨gb, 1, none⟩ = some (.int .i64 v) := cell_in HGB.out 1))
    have z1 : Wc.cell? ⟨ga, 1 + v.toNat, none⟩ = some (.slice (some ad) F.length cF) := (cell_in HGA.out _).trans HCE.out
    go_quiet (fail)
    go_wp2_with fail
    (try simp only [Act.put, List.setIfInBounds_toArray, List.set_cons_zero, List.set_cons_succ])
    have HB2 : Aside0 (Below w.heap.size w (Wc.drewN nq)) := ⟨below_drewN HB_Wc.out nq⟩
    have K2 : Aside0 (Below Wc.heap.size Wc (Wc.drewN nq)) := ⟨below_drewN (Below.refl _ _) nq⟩
    obtain ⟨W2, hW2⟩ : ∃ W, Wc.drewN nq = W := ⟨_, rfl⟩
    rw [hW2] at HB2 K2 ⊢
    clear hW2 z0 z1 t0 t1
    have HGA2 := Aside0.mk (blk_below HGA.out K2.out)
    have HGB2 := Aside0.mk (blk_below HGB.out K2.out)
    have Hc2 := Aside0.mk (blk_below Hc.out K2.out)
    have HSE : Aside0 (∀ W', Below W2.heap.size W2 W' → WSeen ga gb v ad F.length cF k (.int .i64 ((k : Int) + 1)) (.int .i64 v) (.int .i64 y.f0) (.int .i64 y.f1) (.int .i64 y.f2) (.int .i64 y.f3) (.slice E4 y.f4.length b4) (.slice E5 y.f5.length b5) W') := ⟨fun W' hb => by
      have h := HX.out W' (below_step HB2.out hb)
      exact ⟨(cell_in (blk_below HGA2.out hb) _).trans HCE.out, cell_in (blk_below HGB2.out hb) 0, cell_in (blk_below HGB2.out hb) 1, h.1, h.2.1, h.2.2.1, h.2.2.2.1, h.2.2.2.2.1, h.2.2.2.2.2⟩⟩
    have K3 : Aside0 (Below W2.heap.size W2 W2) := ⟨Below.refl _ _⟩
    refine startD 13 wdtab3 HSE K3 (fun W3 HT B3 K4 => ?_)
    refine pureD 0 (some 33) (lb 13 0x1) HT ?_
    refine takeD 1 (some 34) (lb 13 0x3) HT HSE B3 ?_ (hy := Or.inl ⟨by rfl, by intro w' hs; obtain ⟨s0, s1, s2, s3, s4, s5, s6, s7, s8⟩ := hs; go_simp; with_reducible rfl⟩)
    refine pureD 2 (some 35) (lb 13 0x7) HT ?_
    refine pureD 3 (some 36) (lb 13 0xf) HT ?_
    refine pureD 4 (some 37) (lb 13 0x1f) HT ?_
    refine takeD 5 (some 38) (lb 13 0x3f) HT HSE B3 ?_ (hy := Or.inl ⟨by rfl, by intro w' hs; obtain ⟨s0, s1, s2, s3, s4, s5, s6, s7, s8⟩ := hs; go_simp; with_reducible rfl⟩)
    refine pureD 6 (some 39) (lb 13 0x7f) HT ?_
    refine takeD 7 (some 40) (lb 13 0xff) HT HSE B3 ?_ (hy := Or.inl ⟨by rfl, by intro w' hs; obtain ⟨s0, s1, s2, s3, s4, s5, s6, s7, s8⟩ := hs; go_simp; with_reducible rfl⟩)
    refine pureD 8 (some 41) (lb 13 0x1ff) HT ?_
    refine pureD 9 (some 42) (lb 13 0x3ff) HT ?_
    refine takeD 10 (some 43) (lb 13 0x7ff) HT HSE B3 ?_ (hy := Or.inl ⟨by rfl, by intro w' hs; obtain ⟨s0, s1, s2, s3, s4, s5, s6, s7, s8⟩ := hs; go_simp; with_reducible rfl⟩)
    refine oneD 11 (some 6) (lb 13 0xfff) HT (fun K hK => ?_)
    refine boxK hK HSE B3 #[.int .i64 0, .int .i64 0, .int .i64 0, .int .i64 0, .slice none 0 0, .slice none 0 0] 76 (by first | (go_simp; done) | (go_simp; rfl)) (fun g6 W4 HG6 HG6L B4 => ?_)
    refine oneD 12 none (lb 13 0x1fff) HT (fun K hK => ?_)
    refine storeRowK hK HSE B4 g6 #[.int .i64 y.f0, .int .i64 y.f1, .int .i64 y.f2, .int .i64 y.f3, .slice E4 y.f4.length b4, .slice E5 y.f5.length b5] HG6 HG6L (fun W5 HG5 B5 => ?_)
    refine doneD HT ?_
    clear HT
    go_wp2_with fail
    (try simp only [Act.put, List.setIfInBounds_toArray, List.set_cons_zero, List.set_cons_succ])
    have HS6 := Aside0.mk (six_of HG5.out)
    have Hc5 := Aside0.mk (blk_below Hc2.out B5.out)
    have HB5 := Aside0.mk (below_step HB2.out B5.out)
    have K5 : Aside0 (Below W5.heap.size W5 W5) := ⟨Below.refl _ _⟩
    refine startD 6 wdtab4 HS6 K5 (fun W6 HT B6 K6 => ?_)
    refine takeD 0 (some 44) (lb 6 0x1) HT HS6 B6 ?_
    refine pureD 1 (some 45) (lb 6 0x3) HT ?_
    refine takeD 2 (some 46) (lb 6 0x7) HT HS6 B6 ?_
    refine pureD 3 (some 47) (lb 6 0xf) HT ?_
    have Hc6 := Aside0.mk (blk_below Hc5.out B6.out)
    have HG6 := Aside0.mk (blk_below HG5.out B6.out)
    have hne : g6 ≠ gc := fun e => by
      have h1 := blk_lt Hc2.out
      have h2 := HG6L.out
      omega
    have hS := six_of ((setRow_other W6 gc g6 #[.int .i64 y.f0, .int .i64 y.f1, .int .i64 y.f2, .int .i64 y.f3, .slice E4 y.f4.length b4, .slice E5 y.f5.length b5] hne).trans HG6.out) _ (Below.refl _ _)
    refine oneD 4 none (lb 6 0x1f) HT (fun K hK => ?_)
    refine storeRowS hK gc #[.int .i64 y.f0, .int .i64 y.f1, .int .i64 y.f2, .int .i64 y.f3, .slice E4 y.f4.length b4, .slice E5 y.f5.length b5] Hc6 hS ?_
    refine pureD 5 (some 5) (lb 6 0x3f) HT ?_
    refine doneD HT ?_
    have HB7 := Aside0.mk (below_setRow (cs := #[.int .i64 y.f0, .int .i64 y.f1, .int .i64 y.f2, .int .i64 y.f3, .slice E4 y.f4.length b4, .slice E5 y.f5.length b5]) (below_step HB5.out B6.out) Lgc.out.1)
    have Hc7 := Aside0.mk (setRow_heap _ _ _ #[.int .i64 y.f0, .int .i64 y.f1, .int .i64 y.f2, .int .i64 y.f3, .slice E4 y.f4.length b4, .slice E5 y.f5.length b5] _ _ Hc6.out)
    clear hS hne
    go_wp2_with fail
    refine bodyPost_ret (results_ct rfl _ _ gc 76 #[.int .i64 y.f0, .int .i64 y.f1, .int .i64 y.f2, .int .i64 y.f3, .slice E4 y.f4.length b4, .slice E5 y.f5.length b5] (0, 0) _ rfl Hc7.out Try.underlying76 rfl (by kernel_rfl)) rfl ⟨E4, b4, E5, b5, rfl, hl4, Kd.C_below HR4.out HB7.out, hl5, Kd.C_below HR5.out HB7.out, HB7.out⟩
end Go.Proofs.Ytekbaconbemgpaa.PWe
