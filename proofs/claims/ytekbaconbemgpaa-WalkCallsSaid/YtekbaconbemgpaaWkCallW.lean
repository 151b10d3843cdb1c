/- WalkCalls: its walk. Helper text. -/
import Derived.Test.YtekbaconbemgpaaWkCallP
import Derived.Test.YtekbaconbemgpaaWkRunP
import Derived.Test.YtekbaconbemgpaaK5
import Derived.BigQuiet
namespace Go.Proofs.Ytekbaconbemgpaa.PWe
open Go.RowKit Go.Proofs.Ytekbaconbemgpaa.Kx Go.Proofs.YtekbaconbemgpaaW.PrintWords Go.Proofs.YtekbaconbemgpaaW.PrintLast Go.Proofs.YtekbaconbemgpaaW.PrintMore
set_option linter.unusedVariables false
set_option linter.unusedSimpArgs false

theorem readP_seven (b : List Int) (at_ : Int) : (readP b at_).1.length = 7 := by
  unfold readP
  repeat' split
  all_goals first | rfl | (unfold cmdP; repeat' split) | skip
  all_goals rfl
theorem readP_nx {b : List Int} {at_ : Int} (h : (readP b at_).2.2 = 0) : (readP b at_).2.1 ≤ (b.length : Int) := by
  unfold readP at h ⊢
  split
  · rename_i hh; rw [if_pos hh] at h; cases h
  rename_i h0; rw [if_neg h0] at h
  split
  · rename_i hh; rw [if_pos hh] at h; cases h
  rename_i h1; rw [if_neg h1] at h
  split
  · rename_i hh; rw [if_pos hh] at h; cases h
  rename_i h2; rw [if_neg h2] at h
  split
  · rename_i hh; rw [if_pos hh] at h; cases h
  rename_i h3; rw [if_neg h3] at h
  split
  · simp only; omega
  · rename_i hh; rw [if_neg hh] at h; cases h
/-- How far the law's look goes. -/
def Inv (a b : List Int) (i : Int) : Prop := (0 ≤ i ∧ i ≤ (a.length : Int) ∧ ∃ l, Chain (a ++ b) 0 i l) ∨ ((a.length : Int) ≤ i ∧ i ≤ (a.length : Int) + (b.length : Int) ∧ ∃ l l', Chain (a ++ b) 0 (a.length : Int) l ∧ Chain (a ++ b) (a.length : Int) i l')
set_option maxHeartbeats 4000000 in
set_option maxRecDepth 100000 in
theorem calls_walk (a b : List Int) (A B : Option Addr) (ca cb : Nat) (v : Int) (w : World) (hA : Kd.C (Kd.int .u8) w A a.length a) (hca : a.length ≤ ca) (hB : Kd.C (Kd.int .u8) w B b.length b) (hcb : b.length ≤ cb) (ha : Bytes a) (hb : Bytes b) :
    Calls Try.prog 5 #[.slice A a.length ca, .slice B b.length cb, .int .i64 v] w fun e w' => e = .returned (.bool true) ∧ Below w.heap.size w w' := by
  by_cases h1 : 200 < a.length
  · have d1 : decide (200 < (a.length : Int)) = true := decide_eq_true (by omega)
    have d2 : decide (200 < a.length) = true := decide_eq_true h1
    clear h1
    go_enter Try.func5, Try.ntmps5
    go_wp2
    go_ret
    exact ⟨rfl, Below.refl _ _⟩
  by_cases h2 : 200 < b.length
  · have d1 : decide (200 < (a.length : Int)) = false := decide_eq_false (by omega)
    have d2 : decide (200 < a.length) = false := decide_eq_false h1
    have d3 : decide (200 < (b.length : Int)) = true := decide_eq_true (by omega)
    have d4 : decide (200 < b.length) = true := decide_eq_true h2
    clear h1 h2
    go_enter Try.func5, Try.ntmps5
    go_wp2
    go_ret
    exact ⟨rfl, Below.refl _ _⟩
  have HA := Aside0.mk hA
  have HBb := Aside0.mk hB
  have HBA := Aside0.mk ha
  have HBB := Aside0.mk hb
  have HLA : Aside0 (a.length ≤ 200) := ⟨by omega⟩
  have HLB : Aside0 (b.length ≤ 200) := ⟨by omega⟩
  obtain ⟨v2, hv2⟩ : ∃ x, bits .and .i64 v 1 = x := ⟨_, rfl⟩
  have hv3 : 0 ≤ v2 ∧ v2 < 2 := by rw [← hv2, i64_and_1]; omega
  have HV := Aside0.mk hv3
  have d1 : decide (200 < (a.length : Int)) = false := decide_eq_false (by omega)
  have d2 : decide (200 < a.length) = false := decide_eq_false h1
  have d3 : decide (200 < (b.length : Int)) = false := decide_eq_false (by omega)
  have d4 : decide (200 < b.length) = false := decide_eq_false h2
  have hal : a.length ≤ 200 := by omega
  have hdv : ((a.length : Int) + 4) / 256 = 0 := by omega
  clear hA hB ha hb h1 h2 hv3
  have HB : Aside0 (Below w.heap.size w w) := ⟨Below.refl _ _⟩
  go_enter Try.func5, Try.ntmps5
  go_wp2_with (first | ((with_reducible refine gate_dst (N := 32) rfl ?_); refine Kd.R_lit (Kd.int .u8) (w0 := w) w.heap.size 5 ?hg (N := 32) ?hd (xs := ([] : List Int)) (inner := []) (ok := fun _ => True) (okp := fun _ => True) ?hr ?hp (fun _ hk => hk) trivial HB.out (below_size HB.out) (by simp) ?_; (case hd => rfl); (case hg => rfl); (case hr => first | (go_simp; done) | (go_simp; rfl)); (case hp => exact (Reps.none _ _)); intro v W1 ho hb hg hat; have H1 := Aside0.mk ho; have HB_H1 := Aside0.mk hb; clear ho hb hg hat) | ((with_reducible refine gate_builtin (b := .append) (xs := #[.tmp 32, .tmp 33]) rfl ?_); at_builtin; refine Kd.R_append_rows (Kd.int .u8) (w0 := w) w.heap.size rfl (.tmp 32) (.tmp 33) 23 5 (.int .u8 0) 1 rfl Try.underlying23 info5 rfl (by decide) (by omega) _ ([]) (a) _ _ _ (fun _ => True) (fun _ => False) rfl rfl H1.out (Kd.C_below HA.out HB_H1.out) (fun _ _ h => h) (fun _ h => h.elim) (fun _ _ => trivial) HB_H1.out (below_size HB_H1.out) (by have := HLA.out; have := HLB.out; simp; omega) ?_; intro v W2 ho hb hg hat; have H2 := Aside0.mk ho; have HB_H2 := Aside0.mk hb; clear ho hb hg hat) | ((with_reducible refine gate_dst (N := 40) rfl ?_); refine Kd.R_lit (Kd.int .u8) (w0 := w) w.heap.size 5 ?hg (N := 40) ?hd (xs := ([6, 0, ((a.length : Int) + 4), 0] : List Int)) (inner := [.int .u8 6, .int .u8 0, .int .u8 ((a.length : Int) + 4), .int .u8 0]) (ok := fun _ => True) (okp := fun _ => True) ?hr ?hp (fun _ hk => hk) trivial HB_H2.out (below_size HB_H2.out) (by simp) ?_; (case hd => rfl); (case hg => rfl); (case hr => first | (go_simp; done) | (go_simp; rfl)); (case hp => exact (Reps.one (show Kd.M (Kd.int .u8) _ _ _ 6 [.int .u8 6] from rfl) (Reps.one (show Kd.M (Kd.int .u8) _ _ _ 0 [.int .u8 0] from rfl) (Reps.one (show Kd.M (Kd.int .u8) _ _ _ ((a.length : Int) + 4) [.int .u8 ((a.length : Int) + 4)] from rfl) (Reps.one (show Kd.M (Kd.int .u8) _ _ _ 0 [.int .u8 0] from rfl) (Reps.none _ _)))))); intro v W3 ho hb hg hat; obtain ⟨A3, c3, e3⟩ := Kd.R_slice ho; subst e3; have H3 := Aside0.mk ho; have HB_H3 := Aside0.mk hb; have H23 := Aside0.mk (Kd.R_grown H2.out hg (fun k _ => by simp)); clear ho hb hg hat) | ((with_reducible refine gate_builtin (b := .append) (xs := #[.tmp 34, .tmp 40]) rfl ?_); at_builtin; refine Kd.R_append_rows (Kd.int .u8) (w0 := w) w.heap.size rfl (.tmp 34) (.tmp 40) 23 5 (.int .u8 0) 1 rfl Try.underlying23 info5 rfl (by decide) (by omega) _ ([] ++ a) ([6, 0, ((a.length : Int) + 4), 0]) _ _ _ (fun _ => True) (fun _ => False) rfl rfl H23.out ((Kd.R_reads' H3.out).2.2) (fun _ _ h => h) (fun _ h => h.elim) (fun _ _ => trivial) HB_H3.out (below_size HB_H3.out) (by have := HLA.out; have := HLB.out; simp; omega) ?_; intro v W4 ho hb hg hat; have H4 := Aside0.mk ho; have HB_H4 := Aside0.mk hb; clear ho hb hg hat) | ((with_reducible refine gate_builtin (b := .append) (xs := #[.tmp 41, .tmp 42]) rfl ?_); at_builtin; refine Kd.R_append_rows (Kd.int .u8) (w0 := w) w.heap.size rfl (.tmp 41) (.tmp 42) 23 5 (.int .u8 0) 1 rfl Try.underlying23 info5 rfl (by decide) (by omega) _ (([] ++ a) ++ [6, 0, ((a.length : Int) + 4), 0]) (b) _ _ _ (fun _ => True) (fun _ => False) rfl rfl H4.out (Kd.C_below HBb.out HB_H4.out) (fun _ _ h => h) (fun _ h => h.elim) (fun _ _ => trivial) HB_H4.out (below_size HB_H4.out) (by have := HLA.out; have := HLB.out; simp; omega) ?_; intro v W5 ho hb hg hat; have H5 := Aside0.mk ho; have HB_H5 := Aside0.mk hb; clear ho hb hg hat) | ((with_reducible refine gate_dst (N := 44) rfl ?_); refine Kd.R_lit (Kd.int .u8) (w0 := w) w.heap.size 5 ?hg (N := 44) ?hd (xs := ([7] : List Int)) (inner := [.int .u8 7]) (ok := fun _ => True) (okp := fun _ => True) ?hr ?hp (fun _ hk => hk) trivial HB_H5.out (below_size HB_H5.out) (by simp) ?_; (case hd => rfl); (case hg => rfl); (case hr => first | (go_simp; done) | (go_simp; rfl)); (case hp => exact (Reps.one (show Kd.M (Kd.int .u8) _ _ _ 7 [.int .u8 7] from rfl) (Reps.none _ _))); intro v W6 ho hb hg hat; obtain ⟨A6, c6, e6⟩ := Kd.R_slice ho; subst e6; have H6 := Aside0.mk ho; have HB_H6 := Aside0.mk hb; have H56 := Aside0.mk (Kd.R_grown H5.out hg (fun k _ => by simp)); clear ho hb hg hat) | ((with_reducible refine gate_builtin (b := .append) (xs := #[.tmp 43, .tmp 44]) rfl ?_); at_builtin; refine Kd.R_append_rows (Kd.int .u8) (w0 := w) w.heap.size rfl (.tmp 43) (.tmp 44) 23 5 (.int .u8 0) 1 rfl Try.underlying23 info5 rfl (by decide) (by omega) _ ((([] ++ a) ++ [6, 0, ((a.length : Int) + 4), 0]) ++ b) ([7]) _ _ _ (fun _ => True) (fun _ => False) rfl rfl H56.out ((Kd.R_reads' H6.out).2.2) (fun _ _ h => h) (fun _ h => h.elim) (fun _ _ => trivial) HB_H6.out (below_size HB_H6.out) (by have := HLA.out; have := HLB.out; simp; omega) ?_; intro v W7 ho hb hg hat; have H7 := Aside0.mk ho; have HB_H7 := Aside0.mk hb; clear ho hb hg hat; have HBR : Aside0 (Below W7.heap.size W7 W7) := ⟨Below.refl _ _⟩; have HA7 := Aside0.mk (Kd.C_below HA.out HB_H7.out); have HB7 := Aside0.mk (Kd.C_below HBb.out HB_H7.out)) | ((with_reducible refine gate_dst (N := 46) rfl ?_); refine Kd.R_lit (Kd.int .u8) (w0 := W7) W7.heap.size 5 ?hg (N := 46) ?hd (xs := ([] : List Int)) (inner := []) (ok := fun _ => True) (okp := fun _ => True) ?hr ?hp (fun _ hk => hk) trivial HBR.out (below_size HBR.out) (by simp) ?_; (case hd => rfl); (case hg => rfl); (case hr => first | (go_simp; done) | (go_simp; rfl)); (case hp => exact (Reps.none _ _)); intro v X1 ho hb hg hat; have P1 := Aside0.mk ho; have HB_P1 := Aside0.mk hb; clear ho hb hg hat) | ((with_reducible refine gate_builtin (b := .append) (xs := #[.tmp 46, .tmp 47]) rfl ?_); at_builtin; refine Kd.R_append_rows (Kd.int .u8) (w0 := W7) W7.heap.size rfl (.tmp 46) (.tmp 47) 23 5 (.int .u8 0) 1 rfl Try.underlying23 info5 rfl (by decide) (by omega) _ ([]) (a) _ _ _ (fun _ => True) (fun _ => False) rfl rfl P1.out (Kd.C_below HA7.out HB_P1.out) (fun _ _ h => h) (fun _ h => h.elim) (fun _ _ => trivial) HB_P1.out (below_size HB_P1.out) (by have := HLA.out; have := HLB.out; simp; omega) ?_; intro v X2 ho hb hg hat; have P2 := Aside0.mk ho; have HB_P2 := Aside0.mk hb; clear ho hb hg hat) | ((with_reducible refine gate_builtin (b := .append) (xs := #[.tmp 48, .tmp 49]) rfl ?_); at_builtin; refine Kd.R_append_rows (Kd.int .u8) (w0 := W7) W7.heap.size rfl (.tmp 48) (.tmp 49) 23 5 (.int .u8 0) 1 rfl Try.underlying23 info5 rfl (by decide) (by omega) _ ([] ++ a) (b) _ _ _ (fun _ => True) (fun _ => False) rfl rfl P2.out (Kd.C_below HB7.out HB_P2.out) (fun _ _ h => h) (fun _ h => h.elim) (fun _ _ => trivial) HB_P2.out (below_size HB_P2.out) (by have := HLA.out; have := HLB.out; simp; omega) ?_; intro v X3 ho hb hg hat; have P3 := Aside0.mk ho; have HB_P3 := Aside0.mk hb; clear ho hb hg hat) | ((with_reducible refine gate_dst (N := 51) rfl ?_); refine Kd.R_lit (Kd.int .u8) (w0 := W7) W7.heap.size 5 ?hg (N := 51) ?hd (xs := ([0] : List Int)) (inner := [.int .u8 0]) (ok := fun _ => True) (okp := fun _ => True) ?hr ?hp (fun _ hk => hk) trivial HB_P3.out (below_size HB_P3.out) (by simp) ?_; (case hd => rfl); (case hg => rfl); (case hr => first | (go_simp; done) | (go_simp; rfl)); (case hp => exact (Reps.one (show Kd.M (Kd.int .u8) _ _ _ 0 [.int .u8 0] from rfl) (Reps.none _ _))); intro v X4 ho hb hg hat; obtain ⟨A9, c9, e9⟩ := Kd.R_slice ho; subst e9; have P4 := Aside0.mk ho; have HB_P4 := Aside0.mk hb; have P34 := Aside0.mk (Kd.R_grown P3.out hg (fun k _ => by simp)); clear ho hb hg hat) | ((with_reducible refine gate_builtin (b := .append) (xs := #[.tmp 50, .tmp 51]) rfl ?_); at_builtin; refine Kd.R_append_rows (Kd.int .u8) (w0 := W7) W7.heap.size rfl (.tmp 50) (.tmp 51) 23 5 (.int .u8 0) 1 rfl Try.underlying23 info5 rfl (by decide) (by omega) _ (([] ++ a) ++ b) ([0]) _ _ _ (fun _ => True) (fun _ => False) rfl rfl P34.out ((Kd.R_reads' P4.out).2.2) (fun _ _ h => h) (fun _ h => h.elim) (fun _ _ => trivial) HB_P4.out (below_size HB_P4.out) (by have := HLA.out; have := HLB.out; simp; omega) ?_; intro v X5 ho hb hg hat; have P5 := Aside0.mk ho; have HB_P5 := Aside0.mk hb; clear ho hb hg hat))
  obtain ⟨A8, c8, e8⟩ := Kd.R_slice H7.out
  subst e8
  obtain ⟨A9, c9, e9⟩ := Kd.R_slice P5.out
  subst e9
  have hc8 := (Kd.R_reads' H7.out).2.1
  have hc9 := (Kd.R_reads' P5.out).2.1
  have R8 : Aside0 (Kd.C (Kd.int .u8) X5 A8 (calledB a b).length (calledB a b)) := ⟨Kd.C_below (Kd.R_reads' H7.out).2.2 HB_P5.out⟩
  have R9 : Aside0 (Kd.C (Kd.int .u8) X5 A9 (plainB a b).length (plainB a b)) := ⟨(Kd.R_reads' P5.out).2.2⟩
  have HX : Aside0 (Below w.heap.size w X5) := ⟨below_step HB_H7.out HB_P5.out⟩
  clear H1 H2 H23 H3 H4 H5 H56 H6 H7 P1 P2 P3 P34 P4 HB_H1 HB_H2 HB_H3 HB_H4 HB_H5 HB_H6 HB_H7 HB_P1 HB_P2 HB_P3 HB_P4 HB_P5 HBR HA7 HB7 hdv hal d1 d2 d3 d4
  obtain ⟨N8, hN8⟩ : ∃ n, ([] ++ a ++ [6, 0, ((a.length : Int) + 4), 0] ++ b ++ [7]).length = n := ⟨_, rfl⟩
  obtain ⟨q, hq⟩ : ∃ q, ([] ++ a ++ b ++ [0]).length = q + 1 := ⟨a.length + b.length, by simp; omega⟩
  rw [hN8, hq]
  have hN8' : (calledB a b).length = N8 := hN8
  have hq' : (plainB a b).length = q + 1 := hq
  have hqq : q = a.length + b.length := by have := plain_len a b; omega
  have HQ : Aside0 (q = a.length + b.length) := ⟨hqq⟩
  have HPB : Aside0 ((a ++ b).length = q) := ⟨by rw [List.length_append]; omega⟩
  have HP1 : Aside0 ((plainB a b).length = q + 1) := ⟨hq'⟩
  have HN8 : Aside0 ((calledB a b).length = N8) := ⟨hN8'⟩
  replace hc8 : N8 ≤ c8 := by rw [← hN8]; exact hc8
  replace hc9 : q + 1 ≤ c9 := by rw [← hq]; exact hc9
  rw [HN8.out] at R8
  rw [HP1.out] at R9
  have hq400 : q ≤ 400 := by have := HLA.out; have := HLB.out; omega
  clear hN8 hq hN8' hq' hqq
  go_loopw [10] (fun v10 wr => ∃ at_ : Int, v10 = .int .i64 at_ ∧ Inv a b at_ ∧ Kd.C (Kd.int .u8) wr A8 N8 (calledB a b) ∧ Kd.C (Kd.int .u8) wr A9 (q + 1) (plainB a b) ∧ Below w.heap.size w wr) (fun v10 _ => ((q : Int) - intOf v10).toNat)
  case atStart => exact ⟨0, rfl, .inl ⟨Int.le_refl _, by omega, _, Chain.here _⟩, R8.out, R9.out, HX.out⟩
  case round =>
    obtain ⟨at_, rfl, hI, h8, h9, hb⟩ := hrel
    clear R8 R9 HX
    have R8 := Aside0.mk h8
    have R9 := Aside0.mk h9
    have HX := Aside0.mk hb
    have HI := Aside0.mk hI
    have hat : 0 ≤ at_ ∧ at_ ≤ 400 := by
      have := HLA.out
      have := HLB.out
      rcases hI with ⟨h1, h2, -⟩ | ⟨h1, h2, -⟩ <;> omega
    have hat0 := hat.1
    have hat4 := hat.2
    clear h8 h9 hb hI hat
    by_cases hlt : at_ < (q : Int)
    · have k1 : decide (at_ + 1 < (q : Int) + 1) = true := decide_eq_true (by omega)
      have k2 : decide (at_ < (q : Int)) = true := decide_eq_true hlt
      have p1 : (q ≤ c9) = True := eq_true (by omega)
      have p2 : (q ≤ q + 1) = True := eq_true (by omega)
      go_wp2_with fail
      have hpb : Bytes (a ++ b) := HBA.out.append HBB.out
      have hrd : Kd.C (Kd.int .u8) wr A9 (a ++ b).length (a ++ b) := by
        have h9 := R9.out
        rw [← HP1.out] at h9
        have := Kd.C_take h9 (m := q) (by have := HP1.out; omega)
        rw [List.length_take, HP1.out, Nat.min_eq_left (Nat.le_succ q)] at this
        rw [HPB.out]
        have e : (plainB a b).take q = a ++ b := by rw [plainB, List.take_append_of_le_length (by rw [HPB.out]; omega), List.take_of_length_le (by rw [HPB.out]; omega)]
        rw [e] at this
        exact this
      have hread := read_any 16 (a ++ b) at_ A9 c9 (readP (a ++ b) at_) wr hrd (by rw [HPB.out]; omega) (readF_is hpb (by rw [HPB.out]; omega) at_)
      rw [HPB.out] at hread
      have HOK := Aside0.mk (readP_ok (b := a ++ b) (at_ := at_))
      have HCL := Aside0.mk (readP_seven (a ++ b) at_)
      have HNL := Aside0.mk (@readP_nx (a ++ b) at_)
      obtain ⟨⟨C, nx, er⟩, hrp⟩ : ∃ p, readP (a ++ b) at_ = p := ⟨_, rfl⟩
      rw [hrp] at hread HOK HCL HNL
      clear hrp hpb hrd
      refine hread.mono ?_
      rintro e W2 ⟨rfl, hb2⟩
      clear hread k1 k2 p1 p2
      replace HCL : Aside0 (C.length = 7) := HCL
      replace HX := Aside0.mk (below_step HX.out hb2)
      replace R8 := Aside0.mk (Kd.C_below R8.out hb2)
      replace R9 := Aside0.mk (Kd.C_below R9.out hb2)
      clear hb2
      have hok := HOK.out
      clear HOK
      dsimp only at hok ⊢
      obtain ⟨op, f1, f2, f3, f4, f5, f6, rfl⟩ := list7 C HCL.out
      by_cases he : er = 0
      · subst he
        obtain ⟨-, hC, h0, h9, hc, hnx⟩ : (0 : Int) = 0 ∧ CmdOK [op, f1, f2, f3, f4, f5, f6] ∧ 0 ≤ at_ ∧ at_ < ((a ++ b).length : Int) ∧ [op, f1, f2, f3, f4, f5, f6] = cmdP (a ++ b) at_ (rd (a ++ b) at_) ∧ nx = at_ + longP (rd (a ++ b) at_) := by
          rcases hok with h | h
          · exact h
          · omega
        have hopr : rd (a ++ b) at_ = op := by rw [← cmdP_op (a ++ b) at_ (rd (a ++ b) at_), ← hc]; rfl
        rw [hopr] at hc hnx
        have HC := Aside0.mk hC
        have HCC := Aside0.mk hc
        have HOP := Aside0.mk hopr
        have HNX := Aside0.mk hnx
        have hlp := longP_bd op
        have hnx1 : at_ + 1 ≤ nx := by omega
        have hnx5 : nx ≤ at_ + 5 := by omega
        clear hok hC hc hopr hnx hlp h9
        by_cases hop0 : op = 0
        · subst hop0
          go_wp2_with (first | ((with_reducible refine gate_dst (N := 11) rfl ?_); refine box_event ?hg (N := 11) ?hd (cs := cc zero7) (t := 54) ?hr ?_; (case hd => rfl); (case hg => rfl); (case hr => first | (go_simp; done) | (go_simp; rfl)); intro g11 hg W2b hbox hb; have H11 := Aside0.mk hbox; have HL11 : Aside0 (W2.heap.size ≤ g11) := ⟨by omega⟩; have HBX := Aside0.mk hb; clear hbox hb hg) | (refine store_rowN (w0 := W2) (B := W2.heap.size) rfl 54 _ _ rfl g11 (cc [0, f1, f2, f3, f4, f5, f6]) rfl rfl 54 _ H11.out (by rw [cc_size]; kernel_rfl) (by rfl) (cc_one _) HBX.out HL11.out ?_; intro W3 hst hb; clear H11 HBX; have H11 := Aside0.mk hst; replace HX := Aside0.mk (below_step HX.out hb); replace R8 := Aside0.mk (Kd.C_below R8.out hb); replace R9 := Aside0.mk (Kd.C_below R9.out hb); clear hst hb; have x0 : W3.cell? ⟨g11, 0, none⟩ = some (.int .i64 0) := cell_in H11.out 0))
          refine (busbarlaw11_one.calls 2000 true _ (one_true (by decide))).mono ?_
          rintro e W9 ⟨rfl, hb9⟩
          go_wp2
          go_ret
          exact ⟨rfl, below_step HX.out hb9⟩
        have e0 : (op == 0) = false := by simpa using hop0
        by_cases hop6 : op ≥ 6
        · have e6 : decide (6 ≤ op) = true := decide_eq_true hop6
          go_wp2_with (first | ((with_reducible refine gate_dst (N := 11) rfl ?_); refine box_event ?hg (N := 11) ?hd (cs := cc zero7) (t := 54) ?hr ?_; (case hd => rfl); (case hg => rfl); (case hr => first | (go_simp; done) | (go_simp; rfl)); intro g11 hg W2b hbox hb; have H11 := Aside0.mk hbox; have HL11 : Aside0 (W2.heap.size ≤ g11) := ⟨by omega⟩; have HBX := Aside0.mk hb; clear hbox hb hg) | (refine store_rowN (w0 := W2) (B := W2.heap.size) rfl 54 _ _ rfl g11 (cc [op, f1, f2, f3, f4, f5, f6]) rfl rfl 54 _ H11.out (by rw [cc_size]; kernel_rfl) (by rfl) (cc_one _) HBX.out HL11.out ?_; intro W3 hst hb; clear H11 HBX; have H11 := Aside0.mk hst; replace HX := Aside0.mk (below_step HX.out hb); replace R8 := Aside0.mk (Kd.C_below R8.out hb); replace R9 := Aside0.mk (Kd.C_below R9.out hb); clear hst hb; have x0 : W3.cell? ⟨g11, 0, none⟩ = some (.int .i64 op) := cell_in H11.out 0))
          refine (busbarlaw11_one.calls 2000 true _ (one_true (by decide))).mono ?_
          rintro e W9 ⟨rfl, hb9⟩
          go_wp2
          go_ret
          exact ⟨rfl, below_step HX.out hb9⟩
        have e6 : decide (6 ≤ op) = false := decide_eq_false (by omega)
        have hrt : rightL (cmdP (a ++ b) at_ op) = true := by
          rw [← HCC.out]
          obtain ⟨q0, q1, q2, q3, q4, q5, q6, e, hr, -, -⟩ := HC.out
          rw [e]; exact hr
        have hop1 : 1 ≤ op := by
          obtain ⟨q0, q1, q2, q3, q4, q5, q6, e, hr, -, -⟩ := HC.out
          have : op = q0 := by injection e
          have := ((rightP_iff _ _ _ _ _ _ _).1 hr).1
          omega
        have HRT := Aside0.mk hrt
        have hnq : nx ≤ (q : Int) := by have := HNL.out rfl; rw [HPB.out] at this; exact this
        clear hrt HNL
        by_cases hbd : at_ < (a.length : Int) ∧ (a.length : Int) < nx
        · have k1 : decide (at_ < (a.length : Int)) = true := decide_eq_true hbd.1
          have k2 : decide ((a.length : Int) < nx) = true := decide_eq_true hbd.2
          clear hbd
          go_wp2_with (first | ((with_reducible refine gate_dst (N := 11) rfl ?_); refine box_event ?hg (N := 11) ?hd (cs := cc zero7) (t := 54) ?hr ?_; (case hd => rfl); (case hg => rfl); (case hr => first | (go_simp; done) | (go_simp; rfl)); intro g11 hg W2b hbox hb; have H11 := Aside0.mk hbox; have HL11 : Aside0 (W2.heap.size ≤ g11) := ⟨by omega⟩; have HBX := Aside0.mk hb; clear hbox hb hg) | (refine store_rowN (w0 := W2) (B := W2.heap.size) rfl 54 _ _ rfl g11 (cc [op, f1, f2, f3, f4, f5, f6]) rfl rfl 54 _ H11.out (by rw [cc_size]; kernel_rfl) (by rfl) (cc_one _) HBX.out HL11.out ?_; intro W3 hst hb; clear H11 HBX; have H11 := Aside0.mk hst; replace HX := Aside0.mk (below_step HX.out hb); replace R8 := Aside0.mk (Kd.C_below R8.out hb); replace R9 := Aside0.mk (Kd.C_below R9.out hb); clear hst hb; have x0 : W3.cell? ⟨g11, 0, none⟩ = some (.int .i64 op) := cell_in H11.out 0))
          refine (busbarlaw11_one.calls 2000 true _ (one_true (by decide))).mono ?_
          rintro e W9 ⟨rfl, hb9⟩
          go_wp2
          go_ret
          exact ⟨rfl, below_step HX.out hb9⟩
        have hnew : Inv a b nx := by
          rw [HNX.out]
          have hr := HRT.out
          have ho := HOP.out
          have hq := HQ.out
          have hnx := HNX.out
          rcases HI.out with ⟨i0, i1, l, hl⟩ | ⟨i0, i1, l, l', hl, hl'⟩
          · by_cases hi : at_ < (a.length : Int)
            · exact .inl ⟨by omega, by omega, _, hl.snoc hat0 ho hop1 (by omega) hr⟩
            · obtain rfl : at_ = (a.length : Int) := by omega
              exact .inr ⟨by omega, by omega, l, _, hl, (Chain.here _).snoc hat0 ho hop1 (by omega) hr⟩
          · exact .inr ⟨by omega, by omega, l, _, hl, hl'.snoc hat0 ho hop1 (by omega) hr⟩
        have HNEW := Aside0.mk hnew
        clear hnew
        by_cases hi : at_ < (a.length : Int)
        · have k1 : decide (at_ < (a.length : Int)) = true := decide_eq_true hi
          have k2 : decide ((a.length : Int) < nx) = false := decide_eq_false (by omega)
          clear hbd
          go_wp2_with (first | ((with_reducible refine gate_dst (N := 11) rfl ?_); refine box_event ?hg (N := 11) ?hd (cs := cc zero7) (t := 54) ?hr ?_; (case hd => rfl); (case hg => rfl); (case hr => first | (go_simp; done) | (go_simp; rfl)); intro g11 hg W2b hbox hb; have H11 := Aside0.mk hbox; have HL11 : Aside0 (W2.heap.size ≤ g11) := ⟨by omega⟩; have HBX := Aside0.mk hb; clear hbox hb hg) | (refine store_rowN (w0 := W2) (B := W2.heap.size) rfl 54 _ _ rfl g11 (cc [op, f1, f2, f3, f4, f5, f6]) rfl rfl 54 _ H11.out (by rw [cc_size]; kernel_rfl) (by rfl) (cc_one _) HBX.out HL11.out ?_; intro W3 hst hb; clear H11 HBX; have H11 := Aside0.mk hst; replace HX := Aside0.mk (below_step HX.out hb); replace R8 := Aside0.mk (Kd.C_below R8.out hb); replace R9 := Aside0.mk (Kd.C_below R9.out hb); clear hst hb; have x0 : W3.cell? ⟨g11, 0, none⟩ = some (.int .i64 op) := cell_in H11.out 0))
          exact ⟨⟨nx, rfl, HNEW.out, R8.out, R9.out, HX.out⟩, by simp [intOf]; omega⟩
        · have k1 : decide (at_ < (a.length : Int)) = false := decide_eq_false hi
          clear hbd
          go_wp2_with (first | ((with_reducible refine gate_dst (N := 11) rfl ?_); refine box_event ?hg (N := 11) ?hd (cs := cc zero7) (t := 54) ?hr ?_; (case hd => rfl); (case hg => rfl); (case hr => first | (go_simp; done) | (go_simp; rfl)); intro g11 hg W2b hbox hb; have H11 := Aside0.mk hbox; have HL11 : Aside0 (W2.heap.size ≤ g11) := ⟨by omega⟩; have HBX := Aside0.mk hb; clear hbox hb hg) | (refine store_rowN (w0 := W2) (B := W2.heap.size) rfl 54 _ _ rfl g11 (cc [op, f1, f2, f3, f4, f5, f6]) rfl rfl 54 _ H11.out (by rw [cc_size]; kernel_rfl) (by rfl) (cc_one _) HBX.out HL11.out ?_; intro W3 hst hb; clear H11 HBX; have H11 := Aside0.mk hst; replace HX := Aside0.mk (below_step HX.out hb); replace R8 := Aside0.mk (Kd.C_below R8.out hb); replace R9 := Aside0.mk (Kd.C_below R9.out hb); clear hst hb; have x0 : W3.cell? ⟨g11, 0, none⟩ = some (.int .i64 op) := cell_in H11.out 0))
          exact ⟨⟨nx, rfl, HNEW.out, R8.out, R9.out, HX.out⟩, by simp [intOf]; omega⟩
      · have d0 : (er == 0) = false := by simpa using he
        have d1 : (er != 0) = true := by simpa using he
        clear he hok
        go_wp2_with (first | ((with_reducible refine gate_dst (N := 11) rfl ?_); refine box_event ?hg (N := 11) ?hd (cs := cc zero7) (t := 54) ?hr ?_; (case hd => rfl); (case hg => rfl); (case hr => first | (go_simp; done) | (go_simp; rfl)); intro g11 hg W2b hbox hb; have H11 := Aside0.mk hbox; have HL11 : Aside0 (W2.heap.size ≤ g11) := ⟨by omega⟩; have HBX := Aside0.mk hb; clear hbox hb hg) | (refine store_rowN (w0 := W2) (B := W2.heap.size) rfl 54 _ _ rfl g11 (cc [op, f1, f2, f3, f4, f5, f6]) rfl rfl 54 _ H11.out (by rw [cc_size]; kernel_rfl) (by rfl) (cc_one _) HBX.out HL11.out ?_; intro W3 hst hb; clear H11 HBX; have H11 := Aside0.mk hst; replace HX := Aside0.mk (below_step HX.out hb); replace R8 := Aside0.mk (Kd.C_below R8.out hb); replace R9 := Aside0.mk (Kd.C_below R9.out hb); clear hst hb; have x0 : W3.cell? ⟨g11, 0, none⟩ = some (.int .i64 op) := cell_in H11.out 0))
        refine (busbarlaw11_one.calls 2000 true _ (one_true (by decide))).mono ?_
        rintro e W9 ⟨rfl, hb9⟩
        go_wp2
        go_ret
        exact ⟨rfl, below_step HX.out hb9⟩
    · have hend : ∃ la lb, Chain (a ++ b) 0 (a.length : Int) la ∧ Chain (a ++ b) (a.length : Int) ((a.length : Int) + (b.length : Int)) lb := by
        have hq := HQ.out
        rcases HI.out with ⟨i0, i1, l, hl⟩ | ⟨i0, i1, l, l', hl, hl'⟩
        · have h1 : at_ = (a.length : Int) := by omega
          have h2 : (a.length : Int) + (b.length : Int) = (a.length : Int) := by omega
          rw [h1] at hl
          rw [h2]
          exact ⟨l, [], hl, Chain.here _⟩
        · have h2 : (a.length : Int) + (b.length : Int) = at_ := by omega
          rw [h2]
          exact ⟨l, l', hl, hl'⟩
      obtain ⟨la, lb, hc1, hc2⟩ := hend
      have hsame := calls_same HBA.out HBB.out HLA.out HLB.out hc1 hc2 HV.out.1 HV.out.2
      obtain ⟨l, e, hw, hh⟩ := windows_ok (md := 1) (e0 := 0) (e1 := 0) (v := v2) (plain_bytes HBA.out HBB.out)
      have hg : (e = 0 ∧ (0 ≤ v2 ∧ v2 < 2) ∧ (0 ≤ (1 : Int) ∧ (1 : Int) < 16) ∧ l.length ≤ 32 ∧ ∀ x ∈ l, GoodW 1 x) ∨ e ≠ 0 := by rcases hh with h | h; exact .inl h; exact .inr (by omega)
      have hr2 := run_is (k := 2000) (by decide) hw hg
      have hr1 := run_is (k := 2000) (by decide) (hsame.trans hw) hg
      have hll : (runP 1 v2 l e).1.length ≤ 100 := by
        unfold runP
        split
        · have hvl := viewL_len 1 l (200 + 40 * v2)
          have hl32 : l.length ≤ 32 := by rcases hg with h | h; exact h.2.2.2.1; omega
          split
          · exact Nat.zero_le _
          · simp only [List.length_cons]; omega
        · exact Nat.zero_le _
      obtain ⟨⟨L, er⟩, hL⟩ : ∃ p, runP 1 v2 l e = p := ⟨_, rfl⟩
      rw [hL] at hr1 hr2 hll
      have HLL : Aside0 (L.length ≤ 100) := ⟨hll⟩
      have HR1 := Aside0.mk hr1
      have HR2 := Aside0.mk hr2
      clear hsame hw hh hg hr1 hr2 hL hc1 hc2 HI hll
      have k1 : decide (at_ + 1 < (q : Int) + 1) = false := decide_eq_false (by omega)
      have k2 : decide (at_ < (q : Int)) = false := decide_eq_false hlt
      have hc8' : N8 ≤ c8 := hc8
      clear hlt
      go_wp2_with fail
      have hrun1 := walk_Run.calls 2000 1 0 0 A8 c8 (calledB a b) v2 L er wr (by rw [HN8.out]; exact R8.out) (by rw [HN8.out]; exact hc8') HR1.out
      rw [HN8.out] at hrun1
      refine hrun1.mono ?_
      rintro e1 W3 ⟨x, rfl, hx, hb3⟩
      clear hrun1
      have R9' := Aside0.mk (Kd.C_below R9.out hb3)
      have HX3 := Aside0.mk (below_step HX.out hb3)
      have HRX := Aside0.mk hx
      clear hx hb3 R8 R9 HX
      go_wp2_with fail
      have hrun2 := walk_Run.calls 2000 1 0 0 A9 c9 (plainB a b) v2 L er W3 (by rw [HP1.out]; exact R9'.out) (by rw [HP1.out]; exact hc9) HR2.out
      rw [HP1.out] at hrun2
      refine hrun2.mono ?_
      rintro e2 W4 ⟨y, rfl, hy, hb4⟩
      clear hrun2
      have HRX4 := Aside0.mk (Kd.R_below HRX.out hb4)
      have HX4 := Aside0.mk (below_step HX3.out hb4)
      have HRY := Aside0.mk hy
      clear hy hb4 R9' HX3 HRX HR1 HR2
      obtain ⟨AX, cx, ex⟩ := Kd.R_slice HRX4.out
      subst ex
      obtain ⟨AY, cy, ey⟩ := Kd.R_slice HRY.out
      subst ey
      have CX := Aside0.mk (Kd.R_reads' HRX4.out).2.2
      have CY := Aside0.mk (Kd.R_reads' HRY.out).2.2
      clear HRX4 HRY
      have n1 : (er != er) = false := by simp
      have n2 : ((L.length : Int) != (L.length : Int)) = false := by simp
      have n3 : (L.length != L.length) = false := by simp
      go_wp2_with fail
      go_loopw [18] (fun v18 wr2 => ∃ i n : Nat, i ≤ L.length ∧ v18 = .int .i64 (i : Int) ∧ wr2 = W4.drewN n) (fun v18 _ => ((L.length : Int) - intOf v18).toNat)
      case atStart => exact ⟨0, 0, Nat.zero_le _, rfl, rfl⟩
      case round =>
        obtain ⟨i, nd, hi, rfl, rfl⟩ := hrel
        by_cases hlt2 : i < L.length
        · have m1 : decide ((i : Int) < (L.length : Int)) = true := decide_eq_true (by omega)
          have m2 : decide (i < L.length) = true := decide_eq_true hlt2
          have p1 : (0 ≤ (i : Int)) = True := eq_true (by omega)
          have p2 : ((i : Int) < (L.length : Int)) = True := eq_true (by omega)
          have p3 : (i < L.length) = True := eq_true hlt2
          have hi64 : (i : Int) ≤ 100 := by have := HLL.out; omega
          obtain ⟨adx, ex, x0, x1, x2, x3, x4, x5, x6, x7⟩ := at_T47 CX.out (i : Int) (by omega) (by omega)
          obtain ⟨ady, ey, y0, y1, y2, y3, y4, y5, y6, y7⟩ := at_T47 CY.out (i : Int) (by omega) (by omega)
          subst ex ey
          simp only [Int.toNat_natCast] at x0 x1 x2 x3 x4 x5 x6 x7 y0 y1 y2 y3 y4 y5 y6 y7
          go_wp2_with fail
          go_quiet (fail)
          go_wp2_with fail
          exact ⟨⟨i + 1, nd + nq, by omega, by rw [Int.natCast_add]; rfl, rfl⟩, by simp [intOf]; omega⟩
        · have m1 : decide ((i : Int) < (L.length : Int)) = false := decide_eq_false (by omega)
          have m2 : decide (i < L.length) = false := decide_eq_false hlt2
          clear hlt2
          go_wp2_with fail
          refine (busbarlaw11_one.calls 2000 true _ (one_true (by decide))).mono ?_
          rintro e W9 ⟨rfl, hb9⟩
          go_wp2
          go_ret
          exact ⟨rfl, below_step (below_drewN HX4.out nd) hb9⟩
end Go.Proofs.Ytekbaconbemgpaa.PWe
