/- Is an event of a window; of a message; bytes copied: walks. Helper text. -/
import Derived.Test.YtekbaconbemgpaaAuFun
import Derived.Lib.SliceRun
namespace Go.Proofs.Ytekbaconbemgpaa.PWe
open Go.RowKit Go.Proofs.Ytekbaconbemgpaa.Kx Go.Proofs.YtekbaconbemgpaaW.PrintWords Go.Proofs.YtekbaconbemgpaaW.PrintLast Go.Proofs.YtekbaconbemgpaaW.PrintMore
set_option linter.unusedVariables false
set_option linter.unusedSimpArgs false

def ofP (x : S101) (e : S95) : Bool := ((x.f0 == e.f3) && (x.f1 == e.f4)) && ((decide (x.f2 ≤ e.f5) && decide (wrap64 (e.f5 - x.f2) ≤ 100)) || (decide (e.f5 < x.f2) && decide (wrap64 (x.f2 - e.f5) ≤ 100)))
def win8 (x : S101) (vS vT vM vW : Value) : Array Value := #[.int .i64 x.f0, .int .i64 x.f1, .int .i64 x.f2, vS, vT, vM, .int .i64 x.f6, vW]
set_option maxHeartbeats 4000000 in
set_option maxRecDepth 100000 in
theorem of_calls (x : S101) (vS vT vM vW : Value) (e : S95) (A7 : Option Addr) (c7 : Nat) (w : World) :
    Calls Try.prog 75 #[.agg (win8 x vS vT vM vW), .agg (evc e A7 c7)] w fun e' w' => e' = .returned (.bool (ofP x e)) ∧ Below w.heap.size w w' := by
  obtain ⟨r, hr⟩ : ∃ r, ofP x e = r := ⟨_, rfl⟩
  rw [hr]
  unfold ofP at hr
  have HB : Aside0 (Below w.heap.size w w) := ⟨Below.refl _ _⟩
  unfold win8 evc
  cases h0 : (x.f0 == e.f3)
  · rw [h0] at hr
    obtain rfl : false = r := hr
    have k0 : (x.f0 != e.f3) = true := by rw [bne, h0]; rfl
    go_enter Try.func75, Try.ntmps75
    go_wp2_with (first | ((with_reducible refine gate_dst (N := 2) rfl ?_); refine boxN (w := w) rfl (N := 2) rfl (cs := #[.int .i64 x.f0, .int .i64 x.f1, .int .i64 x.f2, vS, vT, vM, .int .i64 x.f6, vW]) (t := 101) (by first | (go_simp; done) | (go_simp; rfl)) HB ?_; intro ga Wa Ha Lga HB_Wa K_Wa) | ((with_reducible refine gate_dst (N := 3) rfl ?_); refine boxN (w := w) rfl (N := 3) rfl (cs := #[.int .i64 e.f0, .int .i64 e.f1, .int .i64 e.f2, .int .i64 e.f3, .int .i64 e.f4, .int .i64 e.f5, .int .i64 e.f6, .slice A7 e.f7.length c7]) (t := 95) (by first | (go_simp; done) | (go_simp; rfl)) HB_Wa ?_; intro gb Wb Hb Lgb HB_Wb K_Wb; have HGA := Aside0.mk (blk_below Ha.out K_Wb.out); have s0 : Wb.cell? ⟨ga, 0, none⟩ = some (.int .i64 x.f0) := cell_in HGA.out 0; have s1 : Wb.cell? ⟨ga, 1, none⟩ = some (.int .i64 x.f1) := cell_in HGA.out 1; have s2 : Wb.cell? ⟨ga, 2, none⟩ = some (.int .i64 x.f2) := cell_in HGA.out 2; have t3 : Wb.cell? ⟨gb, 3, none⟩ = some (.int .i64 e.f3) := cell_in Hb.out 3; have t4 : Wb.cell? ⟨gb, 4, none⟩ = some (.int .i64 e.f4) := cell_in Hb.out 4; have t5 : Wb.cell? ⟨gb, 5, none⟩ = some (.int .i64 e.f5) := cell_in Hb.out 5))
    go_ret
    exact ⟨rfl, HB_Wb.out⟩
  have k0 : (x.f0 != e.f3) = false := by rw [bne, h0]; rfl
  cases h1 : (x.f1 == e.f4)
  · rw [h0, h1] at hr
    obtain rfl : false = r := hr
    have k1 : (x.f1 != e.f4) = true := by rw [bne, h1]; rfl
    go_enter Try.func75, Try.ntmps75
    go_wp2_with (first | ((with_reducible refine gate_dst (N := 2) rfl ?_); refine boxN (w := w) rfl (N := 2) rfl (cs := #[.int .i64 x.f0, .int .i64 x.f1, .int .i64 x.f2, vS, vT, vM, .int .i64 x.f6, vW]) (t := 101) (by first | (go_simp; done) | (go_simp; rfl)) HB ?_; intro ga Wa Ha Lga HB_Wa K_Wa) | ((with_reducible refine gate_dst (N := 3) rfl ?_); refine boxN (w := w) rfl (N := 3) rfl (cs := #[.int .i64 e.f0, .int .i64 e.f1, .int .i64 e.f2, .int .i64 e.f3, .int .i64 e.f4, .int .i64 e.f5, .int .i64 e.f6, .slice A7 e.f7.length c7]) (t := 95) (by first | (go_simp; done) | (go_simp; rfl)) HB_Wa ?_; intro gb Wb Hb Lgb HB_Wb K_Wb; have HGA := Aside0.mk (blk_below Ha.out K_Wb.out); have s0 : Wb.cell? ⟨ga, 0, none⟩ = some (.int .i64 x.f0) := cell_in HGA.out 0; have s1 : Wb.cell? ⟨ga, 1, none⟩ = some (.int .i64 x.f1) := cell_in HGA.out 1; have s2 : Wb.cell? ⟨ga, 2, none⟩ = some (.int .i64 x.f2) := cell_in HGA.out 2; have t3 : Wb.cell? ⟨gb, 3, none⟩ = some (.int .i64 e.f3) := cell_in Hb.out 3; have t4 : Wb.cell? ⟨gb, 4, none⟩ = some (.int .i64 e.f4) := cell_in Hb.out 4; have t5 : Wb.cell? ⟨gb, 5, none⟩ = some (.int .i64 e.f5) := cell_in Hb.out 5))
    go_ret
    exact ⟨rfl, HB_Wb.out⟩
  have k1 : (x.f1 != e.f4) = false := by rw [bne, h1]; rfl
  rw [h0, h1] at hr
  replace hr : ((decide (x.f2 ≤ e.f5) && decide (wrap64 (e.f5 - x.f2) ≤ 100)) || (decide (e.f5 < x.f2) && decide (wrap64 (x.f2 - e.f5) ≤ 100))) = r := hr
  have w1 : ∀ y : Int, IntKind.i64.wrap y = wrap64 y := i64_w
  by_cases h2 : x.f2 ≤ e.f5
  · have j2 : decide (x.f2 ≤ e.f5) = true := decide_eq_true h2
    have j3 : decide (e.f5 < x.f2) = false := decide_eq_false (by omega)
    rw [j2, j3] at hr
    cases h3 : decide (wrap64 (e.f5 - x.f2) ≤ 100)
    · rw [h3] at hr
      obtain rfl : false = r := hr
      clear h2
      go_enter Try.func75, Try.ntmps75
      go_wp2_with (first | ((with_reducible refine gate_dst (N := 2) rfl ?_); refine boxN (w := w) rfl (N := 2) rfl (cs := #[.int .i64 x.f0, .int .i64 x.f1, .int .i64 x.f2, vS, vT, vM, .int .i64 x.f6, vW]) (t := 101) (by first | (go_simp; done) | (go_simp; rfl)) HB ?_; intro ga Wa Ha Lga HB_Wa K_Wa) | ((with_reducible refine gate_dst (N := 3) rfl ?_); refine boxN (w := w) rfl (N := 3) rfl (cs := #[.int .i64 e.f0, .int .i64 e.f1, .int .i64 e.f2, .int .i64 e.f3, .int .i64 e.f4, .int .i64 e.f5, .int .i64 e.f6, .slice A7 e.f7.length c7]) (t := 95) (by first | (go_simp; done) | (go_simp; rfl)) HB_Wa ?_; intro gb Wb Hb Lgb HB_Wb K_Wb; have HGA := Aside0.mk (blk_below Ha.out K_Wb.out); have s0 : Wb.cell? ⟨ga, 0, none⟩ = some (.int .i64 x.f0) := cell_in HGA.out 0; have s1 : Wb.cell? ⟨ga, 1, none⟩ = some (.int .i64 x.f1) := cell_in HGA.out 1; have s2 : Wb.cell? ⟨ga, 2, none⟩ = some (.int .i64 x.f2) := cell_in HGA.out 2; have t3 : Wb.cell? ⟨gb, 3, none⟩ = some (.int .i64 e.f3) := cell_in Hb.out 3; have t4 : Wb.cell? ⟨gb, 4, none⟩ = some (.int .i64 e.f4) := cell_in Hb.out 4; have t5 : Wb.cell? ⟨gb, 5, none⟩ = some (.int .i64 e.f5) := cell_in Hb.out 5))
      go_ret
      exact ⟨rfl, HB_Wb.out⟩
    · rw [h3] at hr
      obtain rfl : true = r := hr
      clear h2
      go_enter Try.func75, Try.ntmps75
      go_wp2_with (first | ((with_reducible refine gate_dst (N := 2) rfl ?_); refine boxN (w := w) rfl (N := 2) rfl (cs := #[.int .i64 x.f0, .int .i64 x.f1, .int .i64 x.f2, vS, vT, vM, .int .i64 x.f6, vW]) (t := 101) (by first | (go_simp; done) | (go_simp; rfl)) HB ?_; intro ga Wa Ha Lga HB_Wa K_Wa) | ((with_reducible refine gate_dst (N := 3) rfl ?_); refine boxN (w := w) rfl (N := 3) rfl (cs := #[.int .i64 e.f0, .int .i64 e.f1, .int .i64 e.f2, .int .i64 e.f3, .int .i64 e.f4, .int .i64 e.f5, .int .i64 e.f6, .slice A7 e.f7.length c7]) (t := 95) (by first | (go_simp; done) | (go_simp; rfl)) HB_Wa ?_; intro gb Wb Hb Lgb HB_Wb K_Wb; have HGA := Aside0.mk (blk_below Ha.out K_Wb.out); have s0 : Wb.cell? ⟨ga, 0, none⟩ = some (.int .i64 x.f0) := cell_in HGA.out 0; have s1 : Wb.cell? ⟨ga, 1, none⟩ = some (.int .i64 x.f1) := cell_in HGA.out 1; have s2 : Wb.cell? ⟨ga, 2, none⟩ = some (.int .i64 x.f2) := cell_in HGA.out 2; have t3 : Wb.cell? ⟨gb, 3, none⟩ = some (.int .i64 e.f3) := cell_in Hb.out 3; have t4 : Wb.cell? ⟨gb, 4, none⟩ = some (.int .i64 e.f4) := cell_in Hb.out 4; have t5 : Wb.cell? ⟨gb, 5, none⟩ = some (.int .i64 e.f5) := cell_in Hb.out 5))
      go_ret
      exact ⟨rfl, HB_Wb.out⟩
  · have j2 : decide (x.f2 ≤ e.f5) = false := decide_eq_false h2
    have j3 : decide (e.f5 < x.f2) = true := decide_eq_true (by omega)
    rw [j2, j3] at hr
    cases h3 : decide (wrap64 (x.f2 - e.f5) ≤ 100)
    · rw [h3] at hr
      obtain rfl : false = r := hr
      clear h2
      go_enter Try.func75, Try.ntmps75
      go_wp2_with (first | ((with_reducible refine gate_dst (N := 2) rfl ?_); refine boxN (w := w) rfl (N := 2) rfl (cs := #[.int .i64 x.f0, .int .i64 x.f1, .int .i64 x.f2, vS, vT, vM, .int .i64 x.f6, vW]) (t := 101) (by first | (go_simp; done) | (go_simp; rfl)) HB ?_; intro ga Wa Ha Lga HB_Wa K_Wa) | ((with_reducible refine gate_dst (N := 3) rfl ?_); refine boxN (w := w) rfl (N := 3) rfl (cs := #[.int .i64 e.f0, .int .i64 e.f1, .int .i64 e.f2, .int .i64 e.f3, .int .i64 e.f4, .int .i64 e.f5, .int .i64 e.f6, .slice A7 e.f7.length c7]) (t := 95) (by first | (go_simp; done) | (go_simp; rfl)) HB_Wa ?_; intro gb Wb Hb Lgb HB_Wb K_Wb; have HGA := Aside0.mk (blk_below Ha.out K_Wb.out); have s0 : Wb.cell? ⟨ga, 0, none⟩ = some (.int .i64 x.f0) := cell_in HGA.out 0; have s1 : Wb.cell? ⟨ga, 1, none⟩ = some (.int .i64 x.f1) := cell_in HGA.out 1; have s2 : Wb.cell? ⟨ga, 2, none⟩ = some (.int .i64 x.f2) := cell_in HGA.out 2; have t3 : Wb.cell? ⟨gb, 3, none⟩ = some (.int .i64 e.f3) := cell_in Hb.out 3; have t4 : Wb.cell? ⟨gb, 4, none⟩ = some (.int .i64 e.f4) := cell_in Hb.out 4; have t5 : Wb.cell? ⟨gb, 5, none⟩ = some (.int .i64 e.f5) := cell_in Hb.out 5))
      go_ret
      exact ⟨rfl, HB_Wb.out⟩
    · rw [h3] at hr
      obtain rfl : true = r := hr
      clear h2
      go_enter Try.func75, Try.ntmps75
      go_wp2_with (first | ((with_reducible refine gate_dst (N := 2) rfl ?_); refine boxN (w := w) rfl (N := 2) rfl (cs := #[.int .i64 x.f0, .int .i64 x.f1, .int .i64 x.f2, vS, vT, vM, .int .i64 x.f6, vW]) (t := 101) (by first | (go_simp; done) | (go_simp; rfl)) HB ?_; intro ga Wa Ha Lga HB_Wa K_Wa) | ((with_reducible refine gate_dst (N := 3) rfl ?_); refine boxN (w := w) rfl (N := 3) rfl (cs := #[.int .i64 e.f0, .int .i64 e.f1, .int .i64 e.f2, .int .i64 e.f3, .int .i64 e.f4, .int .i64 e.f5, .int .i64 e.f6, .slice A7 e.f7.length c7]) (t := 95) (by first | (go_simp; done) | (go_simp; rfl)) HB_Wa ?_; intro gb Wb Hb Lgb HB_Wb K_Wb; have HGA := Aside0.mk (blk_below Ha.out K_Wb.out); have s0 : Wb.cell? ⟨ga, 0, none⟩ = some (.int .i64 x.f0) := cell_in HGA.out 0; have s1 : Wb.cell? ⟨ga, 1, none⟩ = some (.int .i64 x.f1) := cell_in HGA.out 1; have s2 : Wb.cell? ⟨ga, 2, none⟩ = some (.int .i64 x.f2) := cell_in HGA.out 2; have t3 : Wb.cell? ⟨gb, 3, none⟩ = some (.int .i64 e.f3) := cell_in Hb.out 3; have t4 : Wb.cell? ⟨gb, 4, none⟩ = some (.int .i64 e.f4) := cell_in Hb.out 4; have t5 : Wb.cell? ⟨gb, 5, none⟩ = some (.int .i64 e.f5) := cell_in Hb.out 5))
      go_ret
      exact ⟨rfl, HB_Wb.out⟩
def msgP (e : S95) : Bool := decide (1 ≤ e.f2) && decide (e.f2 ≤ 3)
set_option maxHeartbeats 1000000 in
theorem message_calls (e : S95) (A7 : Option Addr) (c7 : Nat) (w : World) : Calls Try.prog 74 #[.agg (evc e A7 c7)] w fun e' w' => e' = .returned (.bool (msgP e)) ∧ Below w.heap.size w w' := by
  have HB : Aside0 (Below w.heap.size w w) := ⟨Below.refl _ _⟩
  unfold evc msgP
  obtain ⟨a, ha⟩ : ∃ a, decide (1 ≤ e.f2) = a := ⟨_, rfl⟩
  obtain ⟨b, hb⟩ : ∃ a, decide (e.f2 ≤ 3) = a := ⟨_, rfl⟩
  rw [ha, hb]
  cases a
  · go_enter Try.func74, Try.ntmps74
    go_wp2_with (first | ((with_reducible refine gate_dst (N := 1) rfl ?_); refine boxN (w := w) rfl (N := 1) rfl (cs := #[.int .i64 e.f0, .int .i64 e.f1, .int .i64 e.f2, .int .i64 e.f3, .int .i64 e.f4, .int .i64 e.f5, .int .i64 e.f6, .slice A7 e.f7.length c7]) (t := 95) (by first | (go_simp; done) | (go_simp; rfl)) HB ?_; intro ga Wa Ha Lga HB_Wa K_Wa; have y2 : Wa.cell? ⟨ga, 2, none⟩ = some (.int .i64 e.f2) := cell_in Ha.out 2))
    go_ret
    exact ⟨rfl, HB_Wa.out⟩
  · go_enter Try.func74, Try.ntmps74
    go_wp2_with (first | ((with_reducible refine gate_dst (N := 1) rfl ?_); refine boxN (w := w) rfl (N := 1) rfl (cs := #[.int .i64 e.f0, .int .i64 e.f1, .int .i64 e.f2, .int .i64 e.f3, .int .i64 e.f4, .int .i64 e.f5, .int .i64 e.f6, .slice A7 e.f7.length c7]) (t := 95) (by first | (go_simp; done) | (go_simp; rfl)) HB ?_; intro ga Wa Ha Lga HB_Wa K_Wa; have y2 : Wa.cell? ⟨ga, 2, none⟩ = some (.int .i64 e.f2) := cell_in Ha.out 2))
    go_ret
    exact ⟨rfl, HB_Wa.out⟩
theorem nothing_calls (n : Int) (e : S95) (A7 : Option Addr) (c7 : Nat) (w : World) : Calls Try.prog 56 #[.int .i64 n, .agg (evc e A7 c7)] w fun e' w' => e' = .returned (.tuple #[]) ∧ Below w.heap.size w w' := by
  have HB : Aside0 (Below w.heap.size w w) := ⟨Below.refl _ _⟩
  unfold evc
  go_enter Try.func56, Try.ntmps56
  go_wp2_with (first | ((with_reducible refine gate_dst (N := 3) rfl ?_); refine boxN (w := w) rfl (N := 3) rfl (cs := #[.int .i64 e.f0, .int .i64 e.f1, .int .i64 e.f2, .int .i64 e.f3, .int .i64 e.f4, .int .i64 e.f5, .int .i64 e.f6, .slice A7 e.f7.length c7]) (t := 95) (by first | (go_simp; done) | (go_simp; rfl)) HB ?_; intro ga Wa Ha Lga HB_Wa K_Wa))
  exact bodyPost_end (results_none rfl _ _ _) rfl ⟨rfl, HB_Wa.out⟩
set_option maxHeartbeats 1000000 in
set_option maxRecDepth 100000 in
theorem clone_calls (A : Option Addr) (c : Nat) (l : List Int) (w : World) (hr : Kd.C (Kd.int .u8) w A l.length l) (hl : l.length ≤ 140737488355328) :
    Calls Try.prog 77 #[.slice A l.length c] w fun e' w' => ∃ v1, e' = .returned v1 ∧ Kd.R (Kd.int .u8) 5 w' w.heap.size (fun _ => True) v1 l ∧ Below w.heap.size w w' := by
  have HR := Aside0.mk hr
  have HB : Aside0 (Below w.heap.size w w) := ⟨Below.refl _ _⟩
  cases hA : A
  · subst hA
    have h0 : l.length = 0 := by
      rcases Nat.eq_zero_or_pos l.length with h | h
      · exact h
      · obtain ⟨ad, h', _⟩ := hr.2.2 h
        cases h'
    obtain rfl := List.eq_nil_of_length_eq_zero h0
    have hq := Go.Lib.run_eql_slice_nil (P := Try.prog) w 23 5 none 0 c 0 0 Try.underlying23
    clear hr h0
    go_enter Try.func77, Try.ntmps77
    go_wp2_with fail
    go_ret
    exact ⟨_, rfl, Kd.R_nil _ _ _ _ _, Below.refl _ _⟩
  · rename_i ad
    subst hA
    have hq := Go.Lib.run_eql_slice_nil (P := Try.prog) w 23 5 (some ad) l.length c 0 0 Try.underlying23
    clear hr
    go_enter Try.func77, Try.ntmps77
    go_wp2_with (first | ((with_reducible refine gate_dst (N := 5) rfl ?_); refine litN (w := w) (Kd.int .u8) 5 rfl (N := 5) rfl (xs := ([] : List Int)) (inner := []) (by first | (go_simp; done) | (go_simp; rfl)) (Reps.none _ _) HB (by simp) ?_; intro vL W5 H5 HB_W5 K_W5) | ((with_reducible refine gate_builtin (b := .append) (xs := #[.tmp 5, .tmp 6]) rfl ?_); at_builtin; refine Kd.R_append_row (Value.int .u8) (0 : Int) (w0 := w) w.heap.size rfl (.tmp 5) (.tmp 6) 23 5 (.int .u8 0) 1 rfl Try.underlying23 info5 rfl (by omega) vL [] l (some ad) l.length c (fun _ => True) rfl rfl (fun _ _ => trivial) H5.out (Kd.C_below HR.out HB_W5.out) HB_W5.out (below_size HB_W5.out) (by simpa using hl) ?_; intro v6 W6 h6 hb6 hg6 hat6; have H6 := Aside0.mk h6; have HB_W6 := Aside0.mk hb6; clear h6 hb6 hg6 hat6))
    go_ret
    exact ⟨_, rfl, H6.out, HB_W6.out⟩
end Go.Proofs.Ytekbaconbemgpaa.PWe
