/- The reference's Put and call: walks. Helper text. -/
import Derived.Test.YtbaapakkdnhcmaaRfD
import Derived.Test.YtbaapakkdnhcmaaCcFor
import Derived.Test.YtbaapakkdnhcmaaCcP
namespace Go.Proofs.Ytbaapakkdnhcmaa.PWe
open Go.RowKit Go.Proofs.Ytbaapakkdnhcmaa.Kx Go.Proofs.YtbaapakkdnhcmaaW.PrintWords Go.Proofs.YtbaapakkdnhcmaaW.PrintLast Go.Proofs.YtbaapakkdnhcmaaW.PrintMore
set_option linter.unusedVariables false
set_option linter.unusedSimpArgs false
def rputI (a0 a1 a2 a3 a4 a5 a6 : Int) : List Int :=
  if a0 = 1 then [1, a1, a2, a3, a4] else if a0 = 2 then [2, a1, a2, a4] else if a0 = 3 then [3, a2, a4] else if a0 = 4 then [4, a5] else if a0 = 6 ∨ a0 = 8 then [a0, wrap64 (Int.tdiv a6 256), Int.tmod a6 256] else [a0]
def m256 (l : List Int) : List Int := l.map (· % 256)
theorem str_app (a b : List Int) : strOfNums (a ++ b) = strOfNums a ++ strOfNums b := by
  unfold strOfNums
  rw [List.map_append]
  apply ByteArray.ext
  simp
theorem str_size (a : List Int) : (strOfNums a).size = a.length := strOfNums_size a
def cmdC7 (a0 a1 a2 a3 a4 a5 a6 : Int) : Array Value := #[.int .i64 a0, .int .i64 a1, .int .i64 a2, .int .i64 a3, .int .i64 a4, .int .i64 a5, .int .i64 a6]
theorem cell7 {w : World} {g : Nat} {a0 a1 a2 a3 a4 a5 a6 : Int} {t : TypeId} (h : w.heap[g]? = some (.cells (cmdC7 a0 a1 a2 a3 a4 a5 a6) t (0, 0))) :
    w.cell? ⟨g, 0, none⟩ = some (.int .i64 a0) ∧ w.cell? ⟨g, 1, none⟩ = some (.int .i64 a1) ∧ w.cell? ⟨g, 2, none⟩ = some (.int .i64 a2) ∧ w.cell? ⟨g, 3, none⟩ = some (.int .i64 a3) ∧ w.cell? ⟨g, 4, none⟩ = some (.int .i64 a4) ∧ w.cell? ⟨g, 5, none⟩ = some (.int .i64 a5) ∧ w.cell? ⟨g, 6, none⟩ = some (.int .i64 a6) :=
  ⟨(cell_in h 0).trans rfl, (cell_in h 1).trans rfl, (cell_in h 2).trans rfl, (cell_in h 3).trans rfl, (cell_in h 4).trans rfl, (cell_in h 5).trans rfl, (cell_in h 6).trans rfl⟩
theorem str_ok {s t : ByteArray} (h : s.size + t.size ≤ 1000000) : (9223372036854775807 < s.size + t.size) = False := eq_false (by omega)
set_option maxHeartbeats 8000000 in
set_option maxRecDepth 100000 in
theorem rput_calls (a0 a1 a2 a3 a4 a5 a6 : Int) (w : World) {r : ByteArray} (hr : strOfNums (m256 (rputI a0 a1 a2 a3 a4 a5 a6)) = r) :
    Calls Try.prog 92 #[.agg (cmdC7 a0 a1 a2 a3 a4 a5 a6)] w fun e w' => e = .returned (.string r) ∧ Below w.heap.size w w' := by
  have HB : Aside0 (Below w.heap.size w w) := ⟨Below.refl _ _⟩
  obtain ⟨I, hI⟩ : ∃ I, rputI a0 a1 a2 a3 a4 a5 a6 = I := ⟨_, rfl⟩
  rw [hI] at hr
  have HRR := Aside0.mk hr
  have hsp : (a0 = 1 ∧ I = [1, a1, a2, a3, a4]) ∨ (a0 = 2 ∧ I = [2, a1, a2, a4]) ∨ (a0 = 3 ∧ I = [3, a2, a4]) ∨ (a0 = 4 ∧ I = [4, a5]) ∨ (a0 = 6 ∧ I = [6, wrap64 (Int.tdiv a6 256), Int.tmod a6 256]) ∨ (a0 = 8 ∧ I = [8, wrap64 (Int.tdiv a6 256), Int.tmod a6 256]) ∨ (((a0 == 1) = false ∧ (a0 == 2) = false ∧ (a0 == 3) = false ∧ (a0 == 4) = false ∧ (a0 == 6) = false ∧ (a0 == 8) = false) ∧ I = [a0]) := by
    rw [← hI]
    unfold rputI
    by_cases h1 : a0 = 1
    · exact .inl ⟨h1, by rw [if_pos h1]⟩
    by_cases h2 : a0 = 2
    · exact .inr (.inl ⟨h2, by rw [if_neg h1, if_pos h2]⟩)
    by_cases h3 : a0 = 3
    · exact .inr (.inr (.inl ⟨h3, by rw [if_neg h1, if_neg h2, if_pos h3]⟩))
    by_cases h4 : a0 = 4
    · exact .inr (.inr (.inr (.inl ⟨h4, by rw [if_neg h1, if_neg h2, if_neg h3, if_pos h4]⟩)))
    by_cases h6 : a0 = 6
    · exact .inr (.inr (.inr (.inr (.inl ⟨h6, by rw [if_neg h1, if_neg h2, if_neg h3, if_neg h4, if_pos (.inl h6), h6]⟩))))
    by_cases h8 : a0 = 8
    · exact .inr (.inr (.inr (.inr (.inr (.inl ⟨h8, by rw [if_neg h1, if_neg h2, if_neg h3, if_neg h4, if_pos (.inr h8), h8]⟩)))))
    exact .inr (.inr (.inr (.inr (.inr (.inr ⟨⟨by simpa using h1, by simpa using h2, by simpa using h3, by simpa using h4, by simpa using h6, by simpa using h8⟩, by rw [if_neg h1, if_neg h2, if_neg h3, if_neg h4, if_neg (by omega)]⟩)))))
  have hlen : I.length ≤ 5 := by rcases hsp with ⟨_, h⟩ | ⟨_, h⟩ | ⟨_, h⟩ | ⟨_, h⟩ | ⟨_, h⟩ | ⟨_, h⟩ | ⟨_, h⟩ <;> rw [h] <;> simp
  clear hr hI
  obtain ⟨q1, hq1⟩ : ∃ q, wrap64 (Int.tdiv a6 256) = q := ⟨_, rfl⟩
  obtain ⟨q2, hq2⟩ : ∃ q, Int.tmod a6 256 = q := ⟨_, rfl⟩
  rw [hq1, hq2] at hsp
  rcases hsp with ⟨rfl, hI⟩ | ⟨rfl, hI⟩ | ⟨rfl, hI⟩ | ⟨rfl, hI⟩ | ⟨rfl, hI⟩ | ⟨rfl, hI⟩ | ⟨⟨k1, k2, k3, k4, k6, k8⟩, hI⟩
  all_goals
    have HI := Aside0.mk hI
    clear hI
    unfold cmdC7
    go_enter Try.func92, Try.ntmps92
    go_wp2_with (first | ((with_reducible refine gate_dst (N := 1) rfl ?_); refine boxN (w := w) rfl (N := 1) rfl (cs := cmdC7 _ a1 a2 a3 a4 a5 a6) (t := 138) (by first | (go_simp; done) | (go_simp; rfl)) HB ?_; intro g1 Wf Hb Lg1 HBf Kf; obtain ⟨x0, x1, x2, x3, x4, x5, x6⟩ := cell7 Hb.out) | ((with_reducible refine gate_dst (N := 8) rfl ?_); refine litN (w := w) (Kd.int .i64) 3 rfl (N := 8) rfl (xs := ([1] : List Int)) (inner := [.int .i64 1]) (by first | (go_simp; done) | (go_simp; rfl)) (Reps.one (show Kd.M (Kd.int .i64) _ _ _ 1 [.int .i64 1] from rfl) (Reps.none _ _)) HBf (by simp) ?_; intro Vf Wf Hf HBf Kf; have Hb := Aside0.mk (blk_below Hb.out Kf.out); obtain ⟨x0, x1, x2, x3, x4, x5, x6⟩ := cell7 Hb.out) | ((with_reducible refine gate_dst (N := 8) rfl ?_); refine litN (w := w) (Kd.int .i64) 3 rfl (N := 8) rfl (xs := ([2] : List Int)) (inner := [.int .i64 2]) (by first | (go_simp; done) | (go_simp; rfl)) (Reps.one (show Kd.M (Kd.int .i64) _ _ _ 2 [.int .i64 2] from rfl) (Reps.none _ _)) HBf (by simp) ?_; intro Vf Wf Hf HBf Kf; have Hb := Aside0.mk (blk_below Hb.out Kf.out); obtain ⟨x0, x1, x2, x3, x4, x5, x6⟩ := cell7 Hb.out) | ((with_reducible refine gate_dst (N := 8) rfl ?_); refine litN (w := w) (Kd.int .i64) 3 rfl (N := 8) rfl (xs := ([3] : List Int)) (inner := [.int .i64 3]) (by first | (go_simp; done) | (go_simp; rfl)) (Reps.one (show Kd.M (Kd.int .i64) _ _ _ 3 [.int .i64 3] from rfl) (Reps.none _ _)) HBf (by simp) ?_; intro Vf Wf Hf HBf Kf; have Hb := Aside0.mk (blk_below Hb.out Kf.out); obtain ⟨x0, x1, x2, x3, x4, x5, x6⟩ := cell7 Hb.out) | ((with_reducible refine gate_dst (N := 8) rfl ?_); refine litN (w := w) (Kd.int .i64) 3 rfl (N := 8) rfl (xs := ([4] : List Int)) (inner := [.int .i64 4]) (by first | (go_simp; done) | (go_simp; rfl)) (Reps.one (show Kd.M (Kd.int .i64) _ _ _ 4 [.int .i64 4] from rfl) (Reps.none _ _)) HBf (by simp) ?_; intro Vf Wf Hf HBf Kf; have Hb := Aside0.mk (blk_below Hb.out Kf.out); obtain ⟨x0, x1, x2, x3, x4, x5, x6⟩ := cell7 Hb.out) | ((with_reducible refine gate_dst (N := 8) rfl ?_); refine litN (w := w) (Kd.int .i64) 3 rfl (N := 8) rfl (xs := ([6] : List Int)) (inner := [.int .i64 6]) (by first | (go_simp; done) | (go_simp; rfl)) (Reps.one (show Kd.M (Kd.int .i64) _ _ _ 6 [.int .i64 6] from rfl) (Reps.none _ _)) HBf (by simp) ?_; intro Vf Wf Hf HBf Kf; have Hb := Aside0.mk (blk_below Hb.out Kf.out); obtain ⟨x0, x1, x2, x3, x4, x5, x6⟩ := cell7 Hb.out) | ((with_reducible refine gate_dst (N := 8) rfl ?_); refine litN (w := w) (Kd.int .i64) 3 rfl (N := 8) rfl (xs := ([8] : List Int)) (inner := [.int .i64 8]) (by first | (go_simp; done) | (go_simp; rfl)) (Reps.one (show Kd.M (Kd.int .i64) _ _ _ 8 [.int .i64 8] from rfl) (Reps.none _ _)) HBf (by simp) ?_; intro Vf Wf Hf HBf Kf; have Hb := Aside0.mk (blk_below Hb.out Kf.out); obtain ⟨x0, x1, x2, x3, x4, x5, x6⟩ := cell7 Hb.out) | ((with_reducible refine gate_dst (N := 8) rfl ?_); refine litN (w := w) (Kd.int .i64) 3 rfl (N := 8) rfl (xs := ([a0] : List Int)) (inner := [.int .i64 a0]) (by first | (go_simp; done) | (go_simp; rfl)) (Reps.one (show Kd.M (Kd.int .i64) _ _ _ a0 [.int .i64 a0] from rfl) (Reps.none _ _)) HBf (by simp) ?_; intro Vf Wf Hf HBf Kf; have Hb := Aside0.mk (blk_below Hb.out Kf.out); obtain ⟨x0, x1, x2, x3, x4, x5, x6⟩ := cell7 Hb.out) | ((with_reducible refine gate_dst (N := 21) rfl ?_); refine litN (w := w) (Kd.int .i64) 3 rfl (N := 21) rfl (xs := ([1, a1, a2, a3, a4] : List Int)) (inner := [.int .i64 1, .int .i64 a1, .int .i64 a2, .int .i64 a3, .int .i64 a4]) (by first | (go_simp; done) | (go_simp; rfl)) (Reps.one (show Kd.M (Kd.int .i64) _ _ _ 1 [.int .i64 1] from rfl) (Reps.one (show Kd.M (Kd.int .i64) _ _ _ a1 [.int .i64 a1] from rfl) (Reps.one (show Kd.M (Kd.int .i64) _ _ _ a2 [.int .i64 a2] from rfl) (Reps.one (show Kd.M (Kd.int .i64) _ _ _ a3 [.int .i64 a3] from rfl) (Reps.one (show Kd.M (Kd.int .i64) _ _ _ a4 [.int .i64 a4] from rfl) (Reps.none _ _)))))) HBf (by simp) ?_; intro Vf Wf Hf HBf Kf; have Hb := Aside0.mk (blk_below Hb.out Kf.out); obtain ⟨x0, x1, x2, x3, x4, x5, x6⟩ := cell7 Hb.out) | ((with_reducible refine gate_dst (N := 30) rfl ?_); refine litN (w := w) (Kd.int .i64) 3 rfl (N := 30) rfl (xs := ([2, a1, a2, a4] : List Int)) (inner := [.int .i64 2, .int .i64 a1, .int .i64 a2, .int .i64 a4]) (by first | (go_simp; done) | (go_simp; rfl)) (Reps.one (show Kd.M (Kd.int .i64) _ _ _ 2 [.int .i64 2] from rfl) (Reps.one (show Kd.M (Kd.int .i64) _ _ _ a1 [.int .i64 a1] from rfl) (Reps.one (show Kd.M (Kd.int .i64) _ _ _ a2 [.int .i64 a2] from rfl) (Reps.one (show Kd.M (Kd.int .i64) _ _ _ a4 [.int .i64 a4] from rfl) (Reps.none _ _))))) HBf (by simp) ?_; intro Vf Wf Hf HBf Kf; have Hb := Aside0.mk (blk_below Hb.out Kf.out); obtain ⟨x0, x1, x2, x3, x4, x5, x6⟩ := cell7 Hb.out) | ((with_reducible refine gate_dst (N := 37) rfl ?_); refine litN (w := w) (Kd.int .i64) 3 rfl (N := 37) rfl (xs := ([3, a2, a4] : List Int)) (inner := [.int .i64 3, .int .i64 a2, .int .i64 a4]) (by first | (go_simp; done) | (go_simp; rfl)) (Reps.one (show Kd.M (Kd.int .i64) _ _ _ 3 [.int .i64 3] from rfl) (Reps.one (show Kd.M (Kd.int .i64) _ _ _ a2 [.int .i64 a2] from rfl) (Reps.one (show Kd.M (Kd.int .i64) _ _ _ a4 [.int .i64 a4] from rfl) (Reps.none _ _)))) HBf (by simp) ?_; intro Vf Wf Hf HBf Kf; have Hb := Aside0.mk (blk_below Hb.out Kf.out); obtain ⟨x0, x1, x2, x3, x4, x5, x6⟩ := cell7 Hb.out) | ((with_reducible refine gate_dst (N := 42) rfl ?_); refine litN (w := w) (Kd.int .i64) 3 rfl (N := 42) rfl (xs := ([4, a5] : List Int)) (inner := [.int .i64 4, .int .i64 a5]) (by first | (go_simp; done) | (go_simp; rfl)) (Reps.one (show Kd.M (Kd.int .i64) _ _ _ 4 [.int .i64 4] from rfl) (Reps.one (show Kd.M (Kd.int .i64) _ _ _ a5 [.int .i64 a5] from rfl) (Reps.none _ _))) HBf (by simp) ?_; intro Vf Wf Hf HBf Kf; have Hb := Aside0.mk (blk_below Hb.out Kf.out); obtain ⟨x0, x1, x2, x3, x4, x5, x6⟩ := cell7 Hb.out) | ((with_reducible refine gate_dst (N := 54) rfl ?_); refine litN (w := w) (Kd.int .i64) 3 rfl (N := 54) rfl (xs := ([6, q1, q2] : List Int)) (inner := [.int .i64 6, .int .i64 q1, .int .i64 q2]) (by first | (go_simp; done) | (go_simp; rfl)) (Reps.one (show Kd.M (Kd.int .i64) _ _ _ 6 [.int .i64 6] from rfl) (Reps.one (show Kd.M (Kd.int .i64) _ _ _ q1 [.int .i64 q1] from rfl) (Reps.one (show Kd.M (Kd.int .i64) _ _ _ q2 [.int .i64 q2] from rfl) (Reps.none _ _)))) HBf (by simp) ?_; intro Vf Wf Hf HBf Kf; have Hb := Aside0.mk (blk_below Hb.out Kf.out); obtain ⟨x0, x1, x2, x3, x4, x5, x6⟩ := cell7 Hb.out) | ((with_reducible refine gate_dst (N := 54) rfl ?_); refine litN (w := w) (Kd.int .i64) 3 rfl (N := 54) rfl (xs := ([8, q1, q2] : List Int)) (inner := [.int .i64 8, .int .i64 q1, .int .i64 q2]) (by first | (go_simp; done) | (go_simp; rfl)) (Reps.one (show Kd.M (Kd.int .i64) _ _ _ 8 [.int .i64 8] from rfl) (Reps.one (show Kd.M (Kd.int .i64) _ _ _ q1 [.int .i64 q1] from rfl) (Reps.one (show Kd.M (Kd.int .i64) _ _ _ q2 [.int .i64 q2] from rfl) (Reps.none _ _)))) HBf (by simp) ?_; intro Vf Wf Hf HBf Kf; have Hb := Aside0.mk (blk_below Hb.out Kf.out); obtain ⟨x0, x1, x2, x3, x4, x5, x6⟩ := cell7 Hb.out))
    have HOI : Aside0 (∃ (A3 : Option Addr) (c3 : Nat), Vf = .slice A3 I.length c3 ∧ Kd.C (Kd.int .i64) Wf A3 I.length I) := ⟨by
      obtain ⟨A3, c3, e3⟩ := Kd.R_slice Hf.out
      have h2 := Hf.out
      rw [e3] at h2
      rw [HI.out]
      exact ⟨A3, c3, e3, (Kd.R_reads' h2).2.2⟩⟩
    obtain ⟨A3, c3, e3, hC3⟩ := HOI.out
    have HC := Aside0.mk hC3
    clear hC3 HOI
    subst e3
    go_loopw [4, 5] (fun v4 v5 wr => ∃ (k : Nat) (s : ByteArray), k ≤ I.length ∧ v5 = .int .i64 (k : Int) ∧ v4 = .string s ∧ Aside0 (s = strOfNums ((m256 I).take k)) ∧ Below Wf.heap.size Wf wr) (fun _ v5 _ => ((I.length : Int) - intOf v5).toNat)
    case atStart => exact ⟨0, ⟨#[]⟩, Nat.zero_le _, rfl, rfl, ⟨rfl⟩, Below.refl _ _⟩
    case round =>
      obtain ⟨k, s, hk, rfl, rfl, HS, hbr⟩ := hrel
      have HKr := Aside0.mk hbr
      have HBr := Aside0.mk (below_step HBf.out hbr)
      have HCr := Aside0.mk (Kd.C_below HC.out hbr)
      clear hbr
      have hsz : s.size ≤ 5 := by rw [HS.out, str_size, List.length_take]; unfold m256; rw [List.length_map]; omega
      by_cases hlt : k < I.length
      · have m1 : decide ((k : Int) < (I.length : Int)) = true := decide_eq_true (by omega)
        have m2 : decide (k < I.length) = true := decide_eq_true hlt
        have z1 : (0 ≤ (k : Int)) = True := eq_true (by omega)
        have z2 : ((k : Int) < (I.length : Int)) = True := eq_true (by omega)
        have z3 : (k < I.length) = True := eq_true hlt
        obtain ⟨x, hx⟩ : ∃ x, I[k] = x := ⟨_, rfl⟩
        obtain ⟨ad, hA, y0⟩ := int_at HCr.out hlt hlt hx
        subst hA
        obtain ⟨t, ht⟩ : ∃ t, strOfNums [x % 256] = t := ⟨_, rfl⟩
        have htz : t.size = 1 := by rw [← ht, str_size]; rfl
        have HT := Aside0.mk ht
        have g1_ : (9223372036854775807 < s.size + t.size) = False := str_ok (by omega)
        have HN : Aside0 (s ++ t = strOfNums ((m256 I).take (k + 1))) := ⟨by
          rw [HS.out, ← ht, ← str_app, List.take_add_one]
          congr 2
          unfold m256
          rw [List.getElem?_map, List.getElem?_eq_getElem hlt, hx]; rfl⟩
        clear hx ht HS
        go_wp2_with (first | ((with_reducible refine gate_dst (N := 67) rfl ?_); refine litN (w := w) (Kd.int .u8) 5 rfl (N := 67) rfl (xs := ([x % 256] : List Int)) (inner := [.int .u8 (x % 256)]) (by first | (go_simp; done) | (go_simp; rfl)) (Reps.one (show Kd.M (Kd.int .u8) _ _ _ (x % 256) [.int .u8 (x % 256)] from rfl) (Reps.none _ _)) HBr (by simp) ?_; intro vz Wz Hz HB_Wz K_Wz; obtain ⟨Az, cz, ez⟩ := Kd.R_slice Hz.out; subst ez; have hcv : (convert 23 9 (.slice Az 1 cz)).run Try.prog Wz = .ok (.string t) Wz := by rw [← HT.out]; exact Kd.C_string (P := Try.prog) Try.underlying23 Try.underlying5 Try.underlying9 (Kd.R_reads' Hz.out).2.2))
        exact ⟨⟨k + 1, s ++ t, by omega, by rw [Int.natCast_add]; rfl, rfl, HN, below_step HKr.out K_Wz.out⟩, by simp [intOf]; omega⟩
      · have m1 : decide ((k : Int) < (I.length : Int)) = false := decide_eq_false (by omega)
        have m2 : decide (k < I.length) = false := decide_eq_false hlt
        have hs2 : s = r := by
          rw [HS.out, ← HRR.out, List.take_of_length_le (by unfold m256; rw [List.length_map]; omega)]
        subst hs2
        clear hlt HS
        go_wp2_with fail
        go_ret
        exact ⟨rfl, HBr.out⟩
set_option maxHeartbeats 2000000 in
theorem rcall_calls (a : Int) (w : World) {r : ByteArray} (hr : strOfNums [6, wrap64 (Int.tdiv a 256) % 256, Int.tmod a 256 % 256, 0] = r) :
    Calls Try.prog 55 #[.int .i64 a] w fun e w' => e = .returned (.string r) ∧ Below w.heap.size w w' := by
  have HB : Aside0 (Below w.heap.size w w) := ⟨Below.refl _ _⟩
  have HRR := Aside0.mk hr
  clear hr
  go_enter Try.func55, Try.ntmps55
  go_wp2_with (first | ((with_reducible refine gate_dst (N := 9) rfl ?_); refine litN (w := w) (Kd.int .u8) 5 rfl (N := 9) rfl (xs := ([6, wrap64 (Int.tdiv a 256) % 256, Int.tmod a 256 % 256, 0] : List Int)) (inner := [.int .u8 6, .int .u8 (wrap64 (Int.tdiv a 256) % 256), .int .u8 (Int.tmod a 256 % 256), .int .u8 0]) (by first | (go_simp; done) | (go_simp; rfl)) (Reps.one (show Kd.M (Kd.int .u8) _ _ _ 6 [.int .u8 6] from rfl) (Reps.one (show Kd.M (Kd.int .u8) _ _ _ (wrap64 (Int.tdiv a 256) % 256) [.int .u8 (wrap64 (Int.tdiv a 256) % 256)] from rfl) (Reps.one (show Kd.M (Kd.int .u8) _ _ _ (Int.tmod a 256 % 256) [.int .u8 (Int.tmod a 256 % 256)] from rfl) (Reps.one (show Kd.M (Kd.int .u8) _ _ _ 0 [.int .u8 0] from rfl) (Reps.none _ _))))) HB (by simp) ?_; intro vz Wz Hz HB_Wz K_Wz; obtain ⟨Az, cz, ez⟩ := Kd.R_slice Hz.out; subst ez; have hcv : (convert 23 9 (.slice Az 4 cz)).run Try.prog Wz = .ok (.string r) Wz := by rw [← HRR.out]; exact Kd.C_string (P := Try.prog) Try.underlying23 Try.underlying5 Try.underlying9 (Kd.R_reads' Hz.out).2.2))
  go_ret
  exact ⟨rfl, HB_Wz.out⟩
end Go.Proofs.Ytbaapakkdnhcmaa.PWe
namespace Go.Proofs.Ytbaapakkdnhcmaa.PWe
open Go.RowKit Go.Proofs.Ytbaapakkdnhcmaa.Kx Go.Proofs.YtbaapakkdnhcmaaW.PrintWords Go.Proofs.YtbaapakkdnhcmaaW.PrintLast Go.Proofs.YtbaapakkdnhcmaaW.PrintMore
set_option linter.unusedVariables false
set_option linter.unusedSimpArgs false
/-- The last place at which a module is; acc: none since. -/
def lastI (md : Int) : List Int → Nat → Int → Int
  | [], _, acc => acc
  | x :: r, k, acc => lastI md r (k + 1) (if x = md then (k : Int) else acc)
def rop (cd : Int) (b : Bool) : Int := if 0 ≤ cd then 1 else if b = true then 2 else 3
def rad (cd : Int) (b : Bool) (a : Int) : Int := if 0 ≤ cd then a else if b = true then a else 0
def rcd (cd : Int) : Int := if 0 ≤ cd then cd else 0
def rcmdP (x : S76) (md : Int) : Int × Int × Int × Int × Int × Int × Int :=
  if x.f0 = 1 then (4, 0, 0, 0, 0, x.f1, 0) else if x.f0 = 2 then (5, 0, 0, 0, 0, 0, 0) else
  (rop (lastI md x.f4 0 (-1)) (has_ x.f5 md), rad (lastI md x.f4 0 (-1)) (has_ x.f5 md) x.f3, x.f2, rcd (lastI md x.f4 0 (-1)), (x.f4.length : Int), 0, 0)
def RS1 (g : Nat) (a3 : Int) (W : World) : Prop := W.cell? ⟨g, 3, none⟩ = some (.int .i64 a3)
theorem rcmT10 : rtab .any (opsOf Try.f93 10) = (true, [([], []), ([0], [0]), ([], []), ([2], [2]), ([0, 1, 2, 3], []), ([4, 1, 3, 0, 1, 2, 3], [1, 4])]) := by kernel_rfl
theorem rcmT15 : rtab .any (opsOf Try.f93 15) = (true, [([], []), ([0], [0]), ([], []), ([], []), ([3], [3]), ([0, 1, 3, 4], []), ([5, 1, 4, 0, 1, 3, 4], [1, 5]), ([0, 1, 2, 3, 4, 5, 6], []), ([7, 2, 6, 0, 1, 2, 3, 4, 5, 6], [2, 7])]) := by kernel_rfl
set_option maxHeartbeats 8000000 in
set_option maxRecDepth 100000 in
theorem rcommand_calls (x : S76) (A4 : Option Addr) (c4 : Nat) (A5 : Option Addr) (c5 : Nat) (md : Int) (w : World) (hr4 : Kd.C (Kd.int .i64) w A4 x.f4.length x.f4) (hr5 : Kd.C (Kd.int .i64) w A5 x.f5.length x.f5) {o a wd cd mn bt at_ : Int} (hr : rcmdP x md = (o, a, wd, cd, mn, bt, at_)) :
    Calls Try.prog 93 #[.agg (winCs x.f0 x.f1 x.f2 x.f3 A4 x.f4.length c4 A5 x.f5.length c5), .int .i64 md] w fun e w' => e = .returned (.agg (cmdC7 o a wd cd mn bt at_)) ∧ Below w.heap.size w w' := by
  obtain ⟨a0, a1, a2, a3, l4, l5⟩ := x
  dsimp only at hr4 hr5 ⊢
  unfold rcmdP at hr
  dsimp only at hr
  have H4 := Aside0.mk hr4
  have H5 := Aside0.mk hr5
  have hm4 : l4.length ≤ 9223372036854775807 := hr4.2.1
  have hm5 : l5.length ≤ 9223372036854775807 := hr5.2.1
  have HB : Aside0 (Below w.heap.size w w) := ⟨Below.refl _ _⟩
  clear hr4 hr5
  by_cases h1 : a0 = 1
  · subst h1
    rw [if_pos rfl] at hr
    simp only [Prod.mk.injEq] at hr
    obtain ⟨rfl, rfl, rfl, rfl, rfl, rfl, rfl⟩ := hr
    unfold winCs
    go_enter Try.func93, Try.ntmps93
    go_wp2_with (first | ((with_reducible refine gate_dst (N := 2) rfl ?_); refine boxN (w := w) rfl (N := 2) rfl (cs := winCs 1 a1 a2 a3 A4 l4.length c4 A5 l5.length c5) (t := 93) (by first | (go_simp; done) | (go_simp; rfl)) HB ?_; intro g2 Wa Ha Lg2 HBa Ka) | ((with_reducible refine gate_dst (N := 4) rfl ?_); refine boxN (w := w) rfl (N := 4) rfl (cs := cmdC7 0 0 0 0 0 0 0) (t := 138) (by first | (go_simp; done) | (go_simp; rfl)) HBa ?_; intro g4 Wb Hb Lg4 HBb Kb; obtain ⟨x0, x1, x2, x3, x4, x5⟩ := win_cells (blk_below Ha.out Kb.out)) | (refine storeCsN (w := w) rfl 138 _ _ rfl g4 (cmdC7 4 0 0 0 0 a1 0) rfl rfl 138 _ Hb (by kernel_rfl) rfl (by rw [← Array.all_toList]; rfl) HBb ⟨Lg4.out.1⟩ ?_; intro Wz Hz HBz _))
    refine bodyPost_ret (results_cell_row rfl _ _ g4 138 (cmdC7 4 0 0 0 0 a1 0) (0, 0) _ rfl Hz.out Try.underlying138 rfl (by kernel_rfl)) rfl ⟨rfl, HBz.out⟩
  have k1 : (a0 == 1) = false := by simpa using h1
  rw [if_neg h1] at hr
  by_cases h2 : a0 = 2
  · subst h2
    rw [if_pos rfl] at hr
    simp only [Prod.mk.injEq] at hr
    obtain ⟨rfl, rfl, rfl, rfl, rfl, rfl, rfl⟩ := hr
    clear k1 h1
    unfold winCs
    go_enter Try.func93, Try.ntmps93
    go_wp2_with (first | ((with_reducible refine gate_dst (N := 2) rfl ?_); refine boxN (w := w) rfl (N := 2) rfl (cs := winCs 2 a1 a2 a3 A4 l4.length c4 A5 l5.length c5) (t := 93) (by first | (go_simp; done) | (go_simp; rfl)) HB ?_; intro g2 Wa Ha Lg2 HBa Ka) | ((with_reducible refine gate_dst (N := 4) rfl ?_); refine boxN (w := w) rfl (N := 4) rfl (cs := cmdC7 0 0 0 0 0 0 0) (t := 138) (by first | (go_simp; done) | (go_simp; rfl)) HBa ?_; intro g4 Wb Hb Lg4 HBb Kb; obtain ⟨x0, x1, x2, x3, x4, x5⟩ := win_cells (blk_below Ha.out Kb.out)) | (refine storeCsN (w := w) rfl 138 _ _ rfl g4 (cmdC7 5 0 0 0 0 0 0) rfl rfl 138 _ Hb (by kernel_rfl) rfl (by rw [← Array.all_toList]; rfl) HBb ⟨Lg4.out.1⟩ ?_; intro Wz Hz HBz _))
    refine bodyPost_ret (results_cell_row rfl _ _ g4 138 (cmdC7 5 0 0 0 0 0 0) (0, 0) _ rfl Hz.out Try.underlying138 rfl (by kernel_rfl)) rfl ⟨rfl, HBz.out⟩
  have k2 : (a0 == 2) = false := by simpa using h2
  rw [if_neg h2] at hr
  obtain ⟨CD, hCD⟩ : ∃ c, lastI md l4 0 (-1) = c := ⟨_, rfl⟩
  obtain ⟨B, hBB⟩ : ∃ b, has_ l5 md = b := ⟨_, rfl⟩
  rw [hCD, hBB] at hr
  simp only [Prod.mk.injEq] at hr
  obtain ⟨e1, e2, rfl, e4, rfl, rfl, rfl⟩ := hr
  have E1 := Aside0.mk e1
  have E2 := Aside0.mk e2
  have E4 := Aside0.mk e4
  have HCD := Aside0.mk hCD
  have HBB := Aside0.mk hBB
  clear e1 e2 e4 hCD hBB h1 h2
  unfold winCs
  go_enter Try.func93, Try.ntmps93
  go_wp2_with (first | ((with_reducible refine gate_dst (N := 2) rfl ?_); refine boxN (w := w) rfl (N := 2) rfl (cs := winCs a0 a1 a2 a3 A4 l4.length c4 A5 l5.length c5) (t := 93) (by first | (go_simp; done) | (go_simp; rfl)) HB ?_; intro g2 Wa Ha Lg2 HBa Ka) | ((with_reducible refine gate_dst (N := 4) rfl ?_); refine boxN (w := w) rfl (N := 4) rfl (cs := cmdC7 0 0 0 0 0 0 0) (t := 138) (by first | (go_simp; done) | (go_simp; rfl)) HBa ?_; intro g4 Wb Hb Lg4 HBb Kb; have Hab := Aside0.mk (blk_below Ha.out Kb.out); obtain ⟨x0, x1, x2, x3, x4, x5⟩ := win_cells Hab.out; have HBwb : Aside0 (Below Wb.heap.size Wb Wb) := ⟨Below.refl _ _⟩) | ((with_reducible refine gate_dst (N := 5) rfl ?_); refine boxN (w := Wb) rfl (N := 5) rfl (cs := cmdC7 0 0 0 0 0 0 0) (t := 138) (by first | (go_simp; done) | (go_simp; rfl)) HBwb ?_; intro g5 Wc Hc Lg5 HBc Kc) | (refine storeCsN (w := Wb) rfl 138 _ _ rfl g5 (cmdC7 3 0 a2 0 (l4.length : Int) 0 0) rfl rfl 138 _ Hc (by kernel_rfl) rfl (by rw [← Array.all_toList]; rfl) HBc ⟨Lg5.out.1⟩ ?_; intro Wd Hd HBd _))
  clear x0 x1 x2 x3 x4 x5 HBa Ka Ha Hc HBc Kc
  have HS : Aside0 (∀ W', Below Wb.heap.size Wb W' → RS1 g2 a3 W') := ⟨fun W' h => (cell_in (blk_below Hab.out h) 3).trans rfl⟩
  have HLE : Aside0 (Wb.heap.size ≤ g5) := ⟨Lg5.out.1⟩
  go_loopw [6] (fun v6 wr => ∃ i : Nat, i ≤ l5.length ∧ v6 = .int .i64 (i : Int) ∧ wr.heap[g5]? = some (.cells (cmdC7 (rop (-1) (has_ (l5.take i) md)) (rad (-1) (has_ (l5.take i) md) a3) a2 0 (l4.length : Int) 0 0) 138 (0, 0)) ∧ Below Wb.heap.size Wb wr) (fun v6 _ => ((l5.length : Int) - intOf v6).toNat)
  case atStart => exact ⟨0, Nat.zero_le _, rfl, Hd.out, HBd.out⟩
  case round =>
    obtain ⟨i, hi, rfl, hg5, hbr⟩ := hrel
    have HG5 := Aside0.mk hg5
    have HKr := Aside0.mk hbr
    have HBr := Aside0.mk (below_step HBb.out hbr)
    have Har := Aside0.mk (blk_below Hab.out hbr)
    have H5r := Aside0.mk (Kd.C_below H5.out HBr.out)
    clear hg5 hbr
    obtain ⟨x0, x1, x2, x3, x4, x5⟩ := win_cells Har.out
    by_cases hlt : i < l5.length
    · have m1 : decide ((i : Int) < (l5.length : Int)) = true := decide_eq_true (by omega)
      have m2 : decide (i < l5.length) = true := decide_eq_true hlt
      have q1 : (0 ≤ (i : Int)) = True := eq_true (by omega)
      have q2 : ((i : Int) < (l5.length : Int)) = True := eq_true (by omega)
      have q3 : (i < l5.length) = True := eq_true hlt
      obtain ⟨x, hx⟩ : ∃ x, l5[i] = x := ⟨_, rfl⟩
      obtain ⟨ad, hA, y0⟩ := int_at H5r.out hlt hlt hx
      subst hA
      have hst : has_ (l5.take (i + 1)) md = (has_ (l5.take i) md || (md == x)) := by unfold has_; rw [List.take_add_one, List.getElem?_eq_getElem hlt, hx, List.any_append]; simp
      by_cases hp : x = md
      · have p1 : (x == md) = true := by simpa using hp
        have HNX : Aside0 (has_ (l5.take (i + 1)) md = true) := ⟨by rw [hst, hp]; simp⟩
        clear hx hst hp
        go_wp2_with fail
        clear x0 x1 x2 x3 x4 x5
        refine startD 6 rcmT10 HS HKr (fun W4 HT B4 K4 => ?_)
        have HG4 := Aside0.mk (blk_below HG5.out K4.out)
        refine pureD 0 (some 38) (lb 6 0x1) HT ?_
        refine pureD 2 (some 40) (lb 6 0x5) HT ?_
        refine takeD 1 (some 39) (lb 6 0x7) HT HS B4 ?_ (hy := Or.inl ⟨by rfl, by intro w' hs; unfold RS1 at hs; go_simp; with_reducible rfl⟩)
        refine oneD 3 none (lb 6 0xf) HT (fun K hK => ?_)
        refine storeCellK hK HS B4 g5 0 (.int .i64 2) HG4 HLE (by have f0 := free_in HG4.out 0; obtain ⟨y0_, y1_, y2_, y3_, y4_, y5_, y6_⟩ := cell7 HG4.out; go_simp) (fun W5 HG5_ B5 => ?_)
        have HG5a : Aside0 (W5.heap[g5]? = some (.cells (cmdC7 2 (rad (-1) (has_ (l5.take i) md) a3) a2 0 (l4.length : Int) 0 0) 138 (0, 0))) := HG5_
        refine pureD 4 (some 41) (lb 6 0x1f) HT ?_
        refine oneD 5 none (lb 6 0x3f) HT (fun K hK => ?_)
        refine storeCellK hK HS B5 g5 1 (.int .i64 a3) HG5a HLE (by have f0 := free_in HG5a.out 1; obtain ⟨y0_, y1_, y2_, y3_, y4_, y5_, y6_⟩ := cell7 HG5a.out; go_simp) (fun W6 HG6_ B6 => ?_)
        have HG6 : Aside0 (W6.heap[g5]? = some (.cells (cmdC7 2 a3 a2 0 (l4.length : Int) 0 0) 138 (0, 0))) := HG6_
        refine doneD HT ?_
        clear HT
        go_wp2_with fail
        exact ⟨⟨i + 1, by omega, by rw [Int.natCast_add]; rfl, by rw [HNX.out]; exact HG6.out, B6.out⟩, by simp [intOf]; omega⟩
      · have p1 : (x == md) = false := by simpa using hp
        have HNX : Aside0 (has_ (l5.take (i + 1)) md = has_ (l5.take i) md) := ⟨by rw [hst]; have h : (md == x) = false := (by simpa using Ne.symm hp); rw [h, Bool.or_false]⟩
        clear hx hst hp
        go_wp2_with fail
        exact ⟨⟨i + 1, by omega, by rw [Int.natCast_add]; rfl, by rw [HNX.out]; exact HG5.out, HKr.out⟩, by simp [intOf]; omega⟩
    · have m1 : decide ((i : Int) < (l5.length : Int)) = false := decide_eq_false (by omega)
      have m2 : decide (i < l5.length) = false := decide_eq_false hlt
      have HGB : Aside0 (wr.heap[g5]? = some (.cells (cmdC7 (rop (-1) B) (rad (-1) B a3) a2 0 (l4.length : Int) 0 0) 138 (0, 0))) := ⟨by have h := HG5.out; rw [List.take_of_length_le (by omega), HBB.out] at h; exact h⟩
      clear hlt HG5
      go_wp2_with fail
      go_loopw [7] (fun v7 wk => ∃ (i : Nat) (acc : Int), i ≤ l4.length ∧ v7 = .int .i64 (i : Int) ∧ -1 ≤ acc ∧ Aside0 (lastI md (l4.drop i) i acc = CD) ∧ wk.heap[g5]? = some (.cells (cmdC7 (rop acc B) (rad acc B a3) a2 (rcd acc) (l4.length : Int) 0 0) 138 (0, 0)) ∧ Below Wb.heap.size Wb wk) (fun v7 _ => ((l4.length : Int) - intOf v7).toNat)
      case atStart => exact ⟨0, -1, Nat.zero_le _, rfl, by omega, ⟨HCD.out⟩, HGB.out, HKr.out⟩
      case round =>
        obtain ⟨i, acc, hi, rfl, hacc, HA, hg5, hbr⟩ := hrel
        have HG5 := Aside0.mk hg5
        have HKr := Aside0.mk hbr
        have HBr := Aside0.mk (below_step HBb.out hbr)
        have Har := Aside0.mk (blk_below Hab.out hbr)
        have H4r := Aside0.mk (Kd.C_below H4.out HBr.out)
        have Hb4 := Aside0.mk (blk_below Hb.out hbr)
        clear hg5 hbr x0 x1 x2 x3 x4 x5
        obtain ⟨x0, x1, x2, x3, x4, x5⟩ := win_cells Har.out
        by_cases hlt : i < l4.length
        · have m1 : decide ((i : Int) < (l4.length : Int)) = true := decide_eq_true (by omega)
          have m2 : decide (i < l4.length) = true := decide_eq_true hlt
          have q1 : (0 ≤ (i : Int)) = True := eq_true (by omega)
          have q2 : ((i : Int) < (l4.length : Int)) = True := eq_true (by omega)
          have q3 : (i < l4.length) = True := eq_true hlt
          obtain ⟨x, hx⟩ : ∃ x, l4[i] = x := ⟨_, rfl⟩
          obtain ⟨ad, hA, y0⟩ := int_at H4r.out hlt hlt hx
          subst hA
          have hst : lastI md (l4.drop (i + 1)) (i + 1) (if x = md then (i : Int) else acc) = CD := by rw [← HA.out, List.drop_eq_getElem_cons hlt, hx, lastI]
          by_cases hp : x = md
          · have p1 : (x == md) = true := by simpa using hp
            have HNX : Aside0 (lastI md (l4.drop (i + 1)) (i + 1) (i : Int) = CD) := ⟨by rw [if_pos hp] at hst; exact hst⟩
            clear hx hst hp
            go_wp2_with fail
            clear x0 x1 x2 x3 x4 x5
            refine startD 9 rcmT15 HS HKr (fun W4 HT B4 K4 => ?_)
            have HG4 := Aside0.mk (blk_below HG5.out K4.out)
            refine pureD 0 (some 56) (lb 9 0x1) HT ?_
            refine pureD 2 (some 58) (lb 9 0x5) HT ?_
            refine pureD 3 (some 59) (lb 9 0xd) HT ?_
            refine takeD 1 (some 57) (lb 9 0xf) HT HS B4 ?_ (hy := Or.inl ⟨by rfl, by intro w' hs; unfold RS1 at hs; go_simp; with_reducible rfl⟩)
            refine oneD 4 none (lb 9 0x1f) HT (fun K hK => ?_)
            refine storeCellK hK HS B4 g5 0 (.int .i64 1) HG4 HLE (by have f0 := free_in HG4.out 0; obtain ⟨y0_, y1_, y2_, y3_, y4_, y5_, y6_⟩ := cell7 HG4.out; go_simp) (fun W5 HG5_ B5 => ?_)
            have HG5a : Aside0 (W5.heap[g5]? = some (.cells (cmdC7 1 (rad acc B a3) a2 (rcd acc) (l4.length : Int) 0 0) 138 (0, 0))) := HG5_
            refine pureD 5 (some 60) (lb 9 0x3f) HT ?_
            refine oneD 6 none (lb 9 0x7f) HT (fun K hK => ?_)
            refine storeCellK hK HS B5 g5 1 (.int .i64 a3) HG5a HLE (by have f0 := free_in HG5a.out 1; obtain ⟨y0_, y1_, y2_, y3_, y4_, y5_, y6_⟩ := cell7 HG5a.out; go_simp) (fun W6 HG6_ B6 => ?_)
            have HG6 : Aside0 (W6.heap[g5]? = some (.cells (cmdC7 1 a3 a2 (rcd acc) (l4.length : Int) 0 0) 138 (0, 0))) := HG6_
            refine pureD 7 (some 61) (lb 9 0xff) HT ?_
            refine oneD 8 none (lb 9 0x1ff) HT (fun K hK => ?_)
            refine storeCellK hK HS B6 g5 3 (.int .i64 (i : Int)) HG6 HLE (by have f0 := free_in HG6.out 3; obtain ⟨y0_, y1_, y2_, y3_, y4_, y5_, y6_⟩ := cell7 HG6.out; go_simp) (fun W7 HG7_ B7 => ?_)
            have HG7 : Aside0 (W7.heap[g5]? = some (.cells (cmdC7 1 a3 a2 (i : Int) (l4.length : Int) 0 0) 138 (0, 0))) := HG7_
            refine doneD HT ?_
            clear HT
            go_wp2_with fail
            exact ⟨⟨i + 1, (i : Int), by omega, by rw [Int.natCast_add]; rfl, by omega, HNX, by unfold rop rad rcd; rw [if_pos (by omega), if_pos (by omega), if_pos (by omega)]; exact HG7.out, B7.out⟩, by simp [intOf]; omega⟩
          · have p1 : (x == md) = false := by simpa using hp
            have HNX : Aside0 (lastI md (l4.drop (i + 1)) (i + 1) acc = CD) := ⟨by rw [if_neg hp] at hst; exact hst⟩
            clear hx hst hp
            go_wp2_with fail
            exact ⟨⟨i + 1, acc, by omega, by rw [Int.natCast_add]; rfl, hacc, HNX, HG5.out, HKr.out⟩, by simp [intOf]; omega⟩
        · have m1 : decide ((i : Int) < (l4.length : Int)) = false := decide_eq_false (by omega)
          have m2 : decide (i < l4.length) = false := decide_eq_false hlt
          have hac : acc = CD := by rw [← HA.out, List.drop_eq_nil_of_le (by omega)]; rfl
          have HGZ : Aside0 (wr.heap[g5]? = some (.cells (cmdC7 o a a2 cd (l4.length : Int) 0 0) 138 (0, 0))) := ⟨by rw [← E1.out, ← E2.out, ← E4.out, ← hac]; exact HG5.out⟩
          clear hlt HG5 hac HA
          go_wp2_with (first | ((with_reducible refine gate_dst (N := 62) rfl ?_); refine wpList_load_row rfl 138 _ rfl g5 rfl 138 _ (0, 0) _ HGZ.out Try.underlying138 rfl (by kernel_rfl) ?_) | (refine storeCsN (w := w) rfl 138 _ _ rfl g4 (cmdC7 o a a2 cd (l4.length : Int) 0 0) rfl rfl 138 _ Hb4 (by kernel_rfl) rfl (by rw [← Array.all_toList]; rfl) HBr ⟨Lg4.out.1⟩ ?_; intro Wz Hz HBz _))
          refine bodyPost_ret (results_cell_row rfl _ _ g4 138 (cmdC7 o a a2 cd (l4.length : Int) 0 0) (0, 0) _ rfl Hz.out Try.underlying138 rfl (by kernel_rfl)) rfl ⟨rfl, HBz.out⟩
end Go.Proofs.Ytbaapakkdnhcmaa.PWe
namespace Go.Proofs.Ytbaapakkdnhcmaa.PWe
open Go.RowKit Go.Proofs.Ytbaapakkdnhcmaa.Kx Go.Proofs.YtbaapakkdnhcmaaW.PrintWords Go.Proofs.YtbaapakkdnhcmaaW.PrintLast Go.Proofs.YtbaapakkdnhcmaaW.PrintMore
set_option linter.unusedVariables false
set_option linter.unusedSimpArgs false
theorem lastI_out (md : Int) : ∀ (l : List Int) (k : Nat) (acc : Int), md ∉ l → lastI md l k acc = acc
  | [], _, _, _ => rfl
  | x :: r, k, acc, h => by
    rw [lastI, if_neg (fun e => h (by rw [e]; exact List.mem_cons_self)), lastI_out md r _ _ (fun hm => h (List.mem_cons_of_mem _ hm))]
theorem lastI_idx (md : Int) : ∀ (l had : List Int) (k : Nat), twiceP had l = false → lastI md l k (-1) = idxP (fun y => md == y) l k
  | [], _, _, _ => rfl
  | x :: r, had, k, h => by
    rw [twiceP] at h
    by_cases hx : x ∈ had
    · rw [if_pos hx] at h; cases h
    rw [if_neg hx] at h
    rw [lastI, idxP]
    by_cases he : x = md
    · subst he
      rw [if_pos rfl, if_pos (by simp)]
      exact lastI_out x r _ _ (fun hm => twice_in r _ h x hm (List.mem_append_right _ List.mem_cons_self))
    · rw [if_neg he, if_neg (by simpa using Ne.symm he)]
      exact lastI_idx md r _ _ h
def rputT (t : Int × Int × Int × Int × Int × Int × Int) : List Int := m256 (rputI t.1 t.2.1 t.2.2.1 t.2.2.2.1 t.2.2.2.2.1 t.2.2.2.2.2.1 t.2.2.2.2.2.2)
theorem rput_is {x : S76} {m md : Int} (h : wndP x m = 0) : rputT (rcmdP x md) = putS (cmdS x md) := by
  unfold wndP at h
  by_cases h0 : x.f0 = 0
  · rw [if_pos h0] at h
    have h' := h
    obtain ⟨hw, ha, ⟨hl, hn⟩, ht, _, _⟩ := data_in h
    have hn1 := (named_in hn).1
    have hli : lastI md x.f4 0 (-1) = candP x.f4 md := lastI_idx md x.f4 [] 0 ht
    obtain ⟨n, hn'⟩ : ∃ n, x.f4.length = n := ⟨_, rfl⟩
    rw [hn'] at hl hn1
    have e1 : ¬ x.f0 = 1 := by omega
    have e2 : ¬ x.f0 = 2 := by omega
    have hcd := idxP_bd (fun y => md == y) x.f4 0
    obtain ⟨cd, hcd'⟩ : ∃ c, candP x.f4 md = c := ⟨_, rfl⟩
    rw [show idxP (fun y => md == y) x.f4 0 = cd from hcd', hn'] at hcd
    rw [hcd'] at hli
    have hrc : rcmdP x md = (rop cd (has_ x.f5 md), rad cd (has_ x.f5 md) x.f3, x.f2, rcd cd, (n : Int), 0, 0) := by unfold rcmdP; rw [if_neg e1, if_neg e2, hli, hn']
    have hop : opP x.f4 x.f5 md = rop cd (has_ x.f5 md) := by unfold opP rop; rw [hcd']
    rw [hrc]
    by_cases hc : 0 ≤ cd
    · have ho : rop cd (has_ x.f5 md) = 1 := by unfold rop; rw [if_pos hc]
      have hW : cmdW x md = [1, x.f3, x.f2, cd, (n : Int), 0, 0] := by
        unfold cmdW
        rw [if_neg e1, if_neg e2, hop, ho, hcd', if_pos hc, hn']
        rfl
      have hr : rgtS (cmdS x md) = true := by unfold cmdS; rw [hW]; show rightP 1 x.f3 x.f2 cd (n : Int) 0 0 = true; rw [rightP_iff]; omega
      have hd : rad cd (has_ x.f5 md) x.f3 = x.f3 := by unfold rad; rw [if_pos hc]
      have hq : rcd cd = cd := by unfold rcd; rw [if_pos hc]
      rw [ho, hd, hq]
      unfold putS
      rw [if_pos hr]
      unfold cmdS
      rw [hW]
      rfl
    · have hq : rcd cd = 0 := by unfold rcd; rw [if_neg hc]
      cases hb : has_ x.f5 md
      · have ho : rop cd (has_ x.f5 md) = 3 := by unfold rop; rw [if_neg hc, hb]; rfl
        have hW : cmdW x md = [3, 0, x.f2, 0, (n : Int), 0, 0] := by
          unfold cmdW
          rw [if_neg e1, if_neg e2, hop, ho, hcd', if_neg hc, hn']
          rfl
        have hr : rgtS (cmdS x md) = true := by unfold cmdS; rw [hW]; show rightP 3 0 x.f2 0 (n : Int) 0 0 = true; rw [rightP_iff]; omega
        rw [hb] at ho
        rw [ho, hq]
        unfold putS
        rw [if_pos hr]
        unfold cmdS
        rw [hW]
        rfl
      · have ho : rop cd (has_ x.f5 md) = 2 := by unfold rop; rw [if_neg hc, hb]; rfl
        have hd : rad cd (has_ x.f5 md) x.f3 = x.f3 := by unfold rad; rw [if_neg hc, hb]; rfl
        have hW : cmdW x md = [2, x.f3, x.f2, 0, (n : Int), 0, 0] := by
          unfold cmdW
          rw [if_neg e1, if_neg e2, hop, ho, hcd', if_neg hc, hn']
          rfl
        have hr : rgtS (cmdS x md) = true := by unfold cmdS; rw [hW]; show rightP 2 x.f3 x.f2 0 (n : Int) 0 0 = true; rw [rightP_iff]; omega
        rw [hb] at ho hd
        rw [ho, hd, hq]
        unfold putS
        rw [if_pos hr]
        unfold cmdS
        rw [hW]
        rfl
  rw [if_neg h0] at h
  by_cases h1 : x.f0 = 1
  · rw [if_pos h1] at h
    have hb : 1 ≤ x.f1 ∧ x.f1 ≤ 100 := by
      by_cases a : x.f1 < 1
      · rw [if_pos a] at h; cases h
      rw [if_neg a] at h
      by_cases b : 100 < x.f1
      · rw [if_pos b] at h; cases h
      omega
    have hW : cmdW x md = [4, 0, 0, 0, 0, x.f1, 0] := by unfold cmdW; rw [if_pos h1]
    have hr : rgtS (cmdS x md) = true := by unfold cmdS; rw [hW]; show rightP 4 0 0 0 0 x.f1 0 = true; rw [rightP_iff]; omega
    have hrc : rcmdP x md = (4, 0, 0, 0, 0, x.f1, 0) := by unfold rcmdP; rw [if_pos h1]
    rw [hrc]
    unfold putS
    rw [if_pos hr]
    unfold cmdS
    rw [hW]
    rfl
  rw [if_neg h1] at h
  by_cases h2 : x.f0 = 2
  · have hW : cmdW x md = [5, 0, 0, 0, 0, 0, 0] := by unfold cmdW; rw [if_neg h1, if_pos h2]
    have hrc : rcmdP x md = (5, 0, 0, 0, 0, 0, 0) := by unfold rcmdP; rw [if_neg h1, if_pos h2]
    rw [hrc]
    unfold cmdS
    rw [hW]
    rfl
  · rw [if_neg h2] at h; cases h
def rflat (l : List S76) (md : Int) : List Int := l.flatMap fun x => rputT (rcmdP x md)
theorem rflat_is {m md : Int} : ∀ (l : List S76), (∀ x ∈ l, wndP x m = 0) → rflat l md = l.flatMap fun x => putS (cmdS x md)
  | [], _ => rfl
  | x :: r, h => by
    unfold rflat
    rw [List.flatMap_cons, List.flatMap_cons, rput_is (h x List.mem_cons_self)]
    congr 1
    exact rflat_is r fun y hy => h y (List.mem_cons_of_mem _ hy)
theorem rputT_len (t : Int × Int × Int × Int × Int × Int × Int) : (rputT t).length ≤ 5 := by
  unfold rputT m256 rputI
  rw [List.length_map]
  by_cases h1 : t.1 = 1
  · rw [if_pos h1]; simp
  rw [if_neg h1]
  by_cases h1 : t.1 = 2
  · rw [if_pos h1]; simp
  rw [if_neg h1]
  by_cases h1 : t.1 = 3
  · rw [if_pos h1]; simp
  rw [if_neg h1]
  by_cases h1 : t.1 = 4
  · rw [if_pos h1]; simp
  rw [if_neg h1]
  by_cases h1 : t.1 = 6 ∨ t.1 = 8
  · rw [if_pos h1]; simp
  rw [if_neg h1]; simp
theorem rflat_len (md : Int) : ∀ (l : List S76), (rflat l md).length ≤ 5 * l.length
  | [] => Nat.le_refl _
  | x :: r => by
    have h1 := rputT_len (rcmdP x md)
    have h2 := rflat_len md r
    unfold rflat at h2 ⊢
    rw [List.flatMap_cons, List.length_append, List.length_cons]
    omega
theorem rflat_step {l : List S76} {md : Int} {i : Nat} (h : i < l.length) : rflat (l.take (i + 1)) md = rflat (l.take i) md ++ rputT (rcmdP l[i] md) := by
  unfold rflat
  rw [List.take_add_one, List.getElem?_eq_getElem h, List.flatMap_append]
  simp
set_option maxHeartbeats 4000000 in
set_option maxRecDepth 100000 in
theorem rbody_calls (A : Option Addr) (c : Nat) (l : List S76) (md : Int) (w : World) (hr : Kd.C k76 w A l.length l) (hl : l.length ≤ 1000) {r : ByteArray} (hR : strOfNums (rflat l md ++ [7]) = r) :
    Calls Try.prog 54 #[.slice A l.length c, .int .i64 md] w fun e w' => e = .returned (.string r) ∧ Below w.heap.size w w' := by
  have HR := Aside0.mk hr
  have HRR := Aside0.mk hR
  have hm : l.length ≤ 9223372036854775807 := hr.2.1
  clear hr hR
  go_enter Try.func54, Try.ntmps54
  go_wp2_with fail
  go_loopw [5, 6] (fun v5 v6 wr => ∃ (i : Nat) (s : ByteArray), i ≤ l.length ∧ v6 = .int .i64 (i : Int) ∧ v5 = .string s ∧ Aside0 (s = strOfNums (rflat (l.take i) md)) ∧ Below w.heap.size w wr) (fun _ v6 _ => ((l.length : Int) - intOf v6).toNat)
  case atStart => exact ⟨0, ⟨#[]⟩, Nat.zero_le _, rfl, rfl, ⟨rfl⟩, Below.refl _ _⟩
  case round =>
    obtain ⟨i, s, hi, rfl, rfl, HS, hbr⟩ := hrel
    have HBr := Aside0.mk hbr
    clear hbr
    have hsz : s.size ≤ 5000 := by rw [HS.out, str_size]; have := rflat_len md (l.take i); rw [List.length_take] at this; omega
    by_cases hlt : i < l.length
    · have m1 : decide ((i : Int) < (l.length : Int)) = true := decide_eq_true (by omega)
      have m2 : decide (i < l.length) = true := decide_eq_true hlt
      have q1 : (0 ≤ (i : Int)) = True := eq_true (by omega)
      have q2 : ((i : Int) < (l.length : Int)) = True := eq_true (by omega)
      have q3 : (i < l.length) = True := eq_true hlt
      obtain ⟨x, hx⟩ : ∃ x, l[i] = x := ⟨_, rfl⟩
      obtain ⟨ad, A4, c4, A5, c5, hA, x0, x1, x2, x3, x4, x5, hl4, hr4, hl5, hr5⟩ := win_at HR.out HBr.out hlt hx
      subst hA
      have HST : Aside0 (rflat (l.take (i + 1)) md = rflat (l.take i) md ++ rputT (rcmdP x md)) := ⟨by rw [rflat_step hlt, hx]⟩
      obtain ⟨⟨o, a, wd, cd, mn_, bt, at_⟩, hT⟩ : ∃ t, rcmdP x md = t := ⟨_, rfl⟩
      obtain ⟨t, ht⟩ : ∃ t, strOfNums (m256 (rputI o a wd cd mn_ bt at_)) = t := ⟨_, rfl⟩
      have htz : t.size ≤ 5 := by rw [← ht, str_size]; exact rputT_len (o, a, wd, cd, mn_, bt, at_)
      have HN : Aside0 (s ++ t = strOfNums (rflat (l.take (i + 1)) md)) := ⟨by rw [HST.out, str_app, HS.out, hT, ← ht]; rfl⟩
      have g1_ : (9223372036854775807 < s.size + t.size) = False := str_ok (by omega)
      have HLT := Aside0.mk hlt
      have hc := Aside0.mk (rcommand_calls x A4 c4 A5 c5 md wr (Kd.C_below hr4 HBr.out) (Kd.C_below hr5 HBr.out) hT)
      have HP := Aside0.mk (fun w => rput_calls o a wd cd mn_ bt at_ w ht)
      clear hx hr4 hr5 hl4 hl5 hT ht HS HST hlt
      go_wp2_with fail
      have hc2 := hc.out
      unfold winCs at hc2
      refine hc2.mono ?_
      rintro e w5 ⟨rfl, hb5⟩
      have HB5 := Aside0.mk (below_step HBr.out hb5)
      clear hc hc2 hb5 x0 x1 x2 x3 x4 x5
      go_wp2_with fail
      refine (HP.out _).mono ?_
      rintro e w6 ⟨rfl, hb6⟩
      have HB6 := Aside0.mk (below_step HB5.out hb6)
      clear hb6
      go_wp2_with fail
      exact ⟨⟨i + 1, s ++ t, by have := HLT.out; omega, by rw [Int.natCast_add]; rfl, rfl, HN, HB6.out⟩, by have := HLT.out; simp [intOf]; omega⟩
    · have m1 : decide ((i : Int) < (l.length : Int)) = false := decide_eq_false (by omega)
      have m2 : decide (i < l.length) = false := decide_eq_false hlt
      have g1_ : (9223372036854775807 < s.size + 1) = False := eq_false (by omega)
      have hs2 : s ++ ⟨#[7]⟩ = r := by
        rw [← HRR.out, str_app, HS.out, List.take_of_length_le (by omega)]
        rfl
      have HS2 := Aside0.mk hs2
      clear hlt HS hs2
      go_wp2_with fail
      go_ret
      exact ⟨by rw [← HS2.out]; rfl, HBr.out⟩
def callL (a : Int) : List Int := [6, wrap64 (Int.tdiv a 256) % 256, Int.tmod a 256 % 256, 0]
def rcodeP (l1 l2 : List S76) (md : Int) : List Int :=
  if same_ (rflat l1 md ++ [7]) (rflat l2 md ++ [7]) = true then callL 8 ++ callL 8 ++ (rflat l1 md ++ [7])
  else callL 8 ++ callL (8 + ((rflat l1 md ++ [7]).length : Int)) ++ (rflat l1 md ++ [7]) ++ (rflat l2 md ++ [7])
theorem rcode_is {m md : Int} {l1 l2 : List S76} (h1 : l1.length ≤ 32 ∧ ∀ x ∈ l1, wndP x m = 0) (h2 : l2.length ≤ 32 ∧ ∀ x ∈ l2, wndP x m = 0) : rcodeP l1 l2 md = codeP l1 l2 md := by
  have e1 : rflat l1 md ++ [7] = bodyP l1 md := by rw [rflat_is l1 h1.2]; rfl
  have e2 : rflat l2 md ++ [7] = bodyP l2 md := by rw [rflat_is l2 h2.2]; rfl
  have hl := rflat_len md l1
  have hb : (bodyP l1 md).length ≤ 161 := by rw [← e1, List.length_append]; simp; omega
  have hcl : ∀ a : Int, 0 ≤ a → a ≤ 1023 → callL a = [6, a / 256, a % 256, 0] := fun a h0 h1 => by
    unfold callL
    rw [Int.tdiv_eq_ediv_of_nonneg h0, Int.tmod_eq_emod_of_nonneg h0, wr (by omega) (by omega), show a / 256 % 256 = a / 256 by omega, show a % 256 % 256 = a % 256 by omega]
  unfold rcodeP codeP
  rw [e1, e2]
  by_cases hs : same_ (bodyP l1 md) (bodyP l2 md) = true
  · rw [if_pos hs, if_pos hs, head_is (by omega) (by omega), hcl 8 (by omega) (by omega), List.append_nil]
    rfl
  · rw [if_neg hs, if_neg hs, head_is (by omega) (by omega), hcl 8 (by omega) (by omega), hcl _ (by omega) (by omega)]
    rfl
theorem rcodT : rtab .any (opsOf Try.f19 1) = (true, [([], []), ([0], [0]), ([], []), ([1, 2], [1, 2]), ([], []), ([4], [4]), ([], []), ([5, 6, 3], [5, 6]), ([3, 7, 0, 1, 2, 3], [3]), ([7, 8, 0, 1, 2, 3, 4, 5, 6, 7, 8], [7])]) := by kernel_rfl
def Two2 (g : Nat) (v0 v1 : Value) (W : World) : Prop := W.cell? ⟨g, 0, none⟩ = some v0 ∧ W.cell? ⟨g, 1, none⟩ = some v1
set_option maxHeartbeats 4000000 in
set_option maxRecDepth 100000 in
theorem rcode_calls (A1 A2 : Option Addr) (c1 c2 : Nat) (l1 l2 : List S76) (md : Int) (w : World) (hr1 : Kd.C k76 w A1 l1.length l1) (hr2 : Kd.C k76 w A2 l2.length l2) (hl1 : l1.length ≤ 1000) (hl2 : l2.length ≤ 1000) {r : ByteArray} (hR : strOfNums (rcodeP l1 l2 md) = r) :
    Calls Try.prog 19 #[.agg #[.slice A1 l1.length c1, .slice A2 l2.length c2], .int .i64 md] w fun e w' => e = .returned (.string r) ∧ Below w.heap.size w w' := by
  have H1 := Aside0.mk hr1
  have H2 := Aside0.mk hr2
  have HRR := Aside0.mk hR
  have HB : Aside0 (Below w.heap.size w w) := ⟨Below.refl _ _⟩
  have hz1 := rflat_len md l1
  have hz2 := rflat_len md l2
  obtain ⟨B1, hB1⟩ : ∃ b, rflat l1 md ++ [7] = b := ⟨_, rfl⟩
  obtain ⟨B2, hB2⟩ : ∃ b, rflat l2 md ++ [7] = b := ⟨_, rfl⟩
  have hn1 : B1.length ≤ 5001 := by rw [← hB1, List.length_append]; simp; omega
  have hn2 : B2.length ≤ 5001 := by rw [← hB2, List.length_append]; simp; omega
  obtain ⟨s1, hs1⟩ : ∃ s, strOfNums B1 = s := ⟨_, rfl⟩
  obtain ⟨s2, hs2⟩ : ∃ s, strOfNums B2 = s := ⟨_, rfl⟩
  have hz3 : s1.size = B1.length := by rw [← hs1, str_size]
  have hz4 : s2.size = B2.length := by rw [← hs2, str_size]
  have HB1 := Aside0.mk (show strOfNums (rflat l1 md ++ [7]) = s1 by rw [hB1, hs1])
  have HB2 := Aside0.mk (show strOfNums (rflat l2 md ++ [7]) = s2 by rw [hB2, hs2])
  obtain ⟨sm, hsm⟩ : ∃ b, (s1.toList == s2.toList) = b := ⟨_, rfl⟩
  obtain ⟨k8, hk8⟩ : ∃ s, strOfNums (callL 8) = s := ⟨_, rfl⟩
  obtain ⟨kz, hkz⟩ : ∃ s, strOfNums (callL (8 + (B1.length : Int))) = s := ⟨_, rfl⟩
  have hz5 : k8.size = 4 := by rw [← hk8, str_size]; rfl
  have hz6 : kz.size = 4 := by rw [← hkz, str_size]; rfl
  have HRE : Aside0 ((if sm = true then k8 ++ k8 ++ s1 else k8 ++ kz ++ s1 ++ s2) = r) := ⟨by
    rw [← HRR.out, ← hsm]
    unfold rcodeP same_
    rw [hB1, hB2, hs1, hs2]
    split
    · rw [str_app, str_app, hk8, hs1]
    · rw [str_app, str_app, str_app, hk8, hs1, hs2, hkz]⟩
  have C8 := Aside0.mk (fun w => rcall_calls 8 w (show strOfNums (callL 8) = k8 from hk8))
  have CZ := Aside0.mk (fun w => rcall_calls (8 + (B1.length : Int)) w (show strOfNums (callL (8 + (B1.length : Int))) = kz from hkz))
  have hw : wrap64 (8 + (B1.length : Int)) = 8 + (B1.length : Int) := by unfold wrap64; omega
  have hw2 : IntKind.i64.wrap (8 + (B1.length : Int)) = 8 + (B1.length : Int) := by rw [i64_w]; exact hw
  clear hr1 hr2 hR hB1 hB2 hs1 hs2 hk8 hkz hz1 hz2
  go_enter Try.func19, Try.ntmps19
  go_wp2_with (first | ((with_reducible refine gate_dst (N := 2) rfl ?_); refine boxN (w := w) rfl (N := 2) rfl (cs := #[.slice A1 l1.length c1, .slice A2 l2.length c2]) (t := 47) (by first | (go_simp; done) | (go_simp; rfl)) HB ?_; intro g2 Wa Ha Lg2 HBa Ka))
  have HS : Aside0 (∀ W', Below Wa.heap.size Wa W' → Two2 g2 (.slice A1 l1.length c1) (.slice A2 l2.length c2) W') := ⟨fun W' h => ⟨(cell_in (blk_below Ha.out h) 0).trans rfl, (cell_in (blk_below Ha.out h) 1).trans rfl⟩⟩
  have e47 := Try.underlying47
  refine startD 10 rcodT HS ⟨Below.refl _ _⟩ (fun W4 HT B4 K4 => ?_)
  refine pureD 0 (some 7) (lb 10 0x1) HT ?_
  refine pureD 2 (some 9) (lb 10 0x5) HT ?_
  refine pureD 4 (some 11) (lb 10 0x15) HT ?_
  refine pureD 6 (some 13) (lb 10 0x55) HT ?_
  refine takeD 1 (some 8) (lb 10 0x57) HT HS B4 ?_ (hy := Or.inl ⟨by rfl, by intro w' hs; unfold Two2 at hs; obtain ⟨s0, s1⟩ := hs; go_simp; with_reducible rfl⟩)
  refine takeD 5 (some 12) (lb 10 0x77) HT HS B4 ?_ (hy := Or.inl ⟨by rfl, by intro w' hs; unfold Two2 at hs; obtain ⟨s0, s1⟩ := hs; go_simp; with_reducible rfl⟩)
  refine oneD 3 (some 10) (lb 10 0x7f) HT (fun K hK => ?_)
  refine callK hK HS B4 Try.func54 (rbody_calls A1 c1 l1 md _ (Kd.C_below H1.out (below_step HBa.out B4.out)) hl1 HB1.out) (fun W5 B5 K5 => ?_)
  refine oneD 7 (some 14) (lb 10 0xff) HT (fun K hK => ?_)
  refine callK hK HS B5 Try.func54 (rbody_calls A2 c2 l2 md _ (Kd.C_below H2.out (below_step HBa.out B5.out)) hl2 HB2.out) (fun W6 B6 K6 => ?_)
  refine pureD 8 (some 5) (lb 10 0x1ff) HT ?_
  refine pureD 9 (some 6) (lb 10 0x3ff) HT ?_
  refine doneD HT ?_
  have HB6 := Aside0.mk (below_step HBa.out B6.out)
  have z1 : (s1.size : Int) = (B1.length : Int) := by rw [hz3]
  clear HT hz3 HS K4 K5 K6 B4 B5 B6 Ha HBa Ka HB1 HB2
  cases sm
  · have HRE2 : Aside0 (k8 ++ kz ++ s1 ++ s2 = r) := ⟨by have h := HRE.out; rwa [if_neg (by decide)] at h⟩
    have g1_ : (9223372036854775807 < k8.size + kz.size) = False := str_ok (by omega)
    have g2_ : (9223372036854775807 < (k8 ++ kz).size + s1.size) = False := str_ok (by rw [ByteArray.size_append]; omega)
    have g3_ : (9223372036854775807 < (k8 ++ kz ++ s1).size + s2.size) = False := str_ok (by rw [ByteArray.size_append, ByteArray.size_append]; omega)
    clear HRE
    go_wp2_with fail
    refine (C8.out _).mono ?_
    rintro e w7 ⟨rfl, hb7⟩
    have HB7 := Aside0.mk (below_step HB6.out hb7)
    clear hb7
    go_wp2_with fail
    refine (CZ.out _).mono ?_
    rintro e w8 ⟨rfl, hb8⟩
    have HB8 := Aside0.mk (below_step HB7.out hb8)
    clear hb8
    go_wp2_with fail
    go_ret
    exact ⟨by rw [← HRE2.out]; rfl, HB8.out⟩
  · have HRE2 : Aside0 (k8 ++ k8 ++ s1 = r) := ⟨by have h := HRE.out; rwa [if_pos rfl] at h⟩
    have g1_ : (9223372036854775807 < k8.size + k8.size) = False := str_ok (by omega)
    have g2_ : (9223372036854775807 < (k8 ++ k8).size + s1.size) = False := str_ok (by rw [ByteArray.size_append]; omega)
    clear HRE
    go_wp2_with fail
    refine (C8.out _).mono ?_
    rintro e w7 ⟨rfl, hb7⟩
    have HB7 := Aside0.mk (below_step HB6.out hb7)
    clear hb7
    go_wp2_with fail
    refine (C8.out _).mono ?_
    rintro e w8 ⟨rfl, hb8⟩
    have HB8 := Aside0.mk (below_step HB7.out hb8)
    clear hb8
    go_wp2_with fail
    go_ret
    exact ⟨by rw [← HRE2.out]; rfl, HB8.out⟩
end Go.Proofs.Ytbaapakkdnhcmaa.PWe
