/- listing.digits, number: walks. Helper text. -/
import Derived.Test.YtmoodblpgnnenaaDoorLsCmd
import Derived.Test.YtmoodblpgnnenaaDoorLsPln
import Derived.Lib.Strings
namespace Go.Proofs.YtmoodblpgnnenaaDoor.PLs
open Go.RowKit Go.Proofs.YtmoodblpgnnenaaDoor.Kx Go.Proofs.YtmoodblpgnnenaaDoor.PWe Go.Proofs.YtmoodblpgnnenaaDoorW.PrintWords Go.Proofs.YtmoodblpgnnenaaDoorW.PrintLast Go.Proofs.YtmoodblpgnnenaaDoorW.PrintMore
set_option linter.unusedVariables false
set_option linter.unusedSimpArgs false
/-- A string of bytes. -/
def strB (l : List UInt8) : ByteArray := ⟨l.toArray⟩
theorem strB_data (l : List UInt8) : (strB l).data.toList = l := by simp [strB]
theorem strB_size (l : List UInt8) : (strB l).size = l.length := by simp [strB, ByteArray.size]
theorem strB_app (a b : List UInt8) : strB a ++ strB b = strB (a ++ b) := by
  apply ByteArray.ext
  simp [strB]
theorem strB_of (s : ByteArray) : strB s.data.toList = s := Lib.mk_data s
theorem digP_len : ∀ n : Nat, n < 1000000000000000000 → (digP n).length ≤ 20 := by
  have h : ∀ k n : Nat, n < 10 ^ k → (digP n).length ≤ k + 1 := by
    intro k
    induction k with
    | zero => intro n hn; rw [digP_small (by simp at hn; omega)]; simp
    | succ k ih =>
      intro n hn
      by_cases h : n < 10
      · rw [digP_small h]; simp
      · rw [digP_great h, List.length_append]
        have := ih (n / 10) (by rw [Nat.pow_succ] at hn; omega)
        simp only [List.length_cons, List.length_nil]
        omega
  intro n hn
  have := h 18 n (by omega)
  omega
theorem str_dig_all : (List.range 10).map (fun n : Nat => strOfNums ([48 + (n : Int)] : List Int)) = (List.range 10).map (fun n : Nat => strB [dig n]) := by kernel_rfl
theorem str_dig {n : Nat} (h : n < 10) : strOfNums ([48 + (n : Int)] : List Int) = strB [dig n] := by
  have h2 := congrArg (fun l : List ByteArray => l[n]?) str_dig_all
  simpa [List.getElem?_map, List.getElem?_range h] using h2
set_option maxHeartbeats 2000000 in
set_option maxRecDepth 100000 in
theorem digits_calls : ∀ (n : Nat) (_ : n < 1000000000000000000) (w : World), Calls Tryd.prog 29 #[.int .i64 (n : Int)] w fun e w' => e = .returned (.string (strB (digP n))) ∧ Below w.heap.size w w' := by
  intro n
  induction n using Nat.strongRecOn with
  | _ n ih =>
    intro hn w
    have HB : Aside0 (Below w.heap.size w w) := ⟨Below.refl _ _⟩
    by_cases h : n < 10
    · have m1 : decide ((n : Int) < 10) = true := decide_eq_true (by omega)
      have m2 : decide (n < 10) = true := decide_eq_true h
      have f1 : IntKind.i64.wrap (48 + (n : Int)) = 48 + (n : Int) := IntWalk.i64_in _ (by omega)
      have f2 : wrap64 (48 + (n : Int)) = 48 + (n : Int) := wr (by omega) (by omega)
      have f3 : (48 + (n : Int)) % 256 = 48 + (n : Int) := by omega
      have f4 : IntKind.u8.wrap (48 + (n : Int)) = 48 + (n : Int) := IntWalk.u8_in _ (by omega)
      have HS := Aside0.mk (str_dig h)
      rw [digP_small h]
      clear h
      go_enter Tryd.func29, Tryd.ntmps29
      go_wp2_with (first | ((with_reducible refine gate_dst (N := 8) rfl ?_); refine litN (w := w) (Kd.int .u8) 5 rfl (N := 8) rfl (xs := ([48 + (n : Int)] : List Int)) (inner := [.int .u8 (48 + (n : Int))]) (by first | (go_simp; done) | (go_simp; rfl)) (Reps.one (show Kd.M (Kd.int .u8) _ _ _ (48 + (n : Int)) [.int .u8 (48 + (n : Int))] from rfl) (Reps.none _ _)) HB (by simp) ?_; intro va W1 Ha HB1 K1; have hcv := own_string (P := Tryd.prog) Tryd.underlying23 Tryd.underlying5 Tryd.underlying9 (Kd.own_of_R Ha.out); rw [HS.out] at hcv))
      go_ret
      exact ⟨rfl, HB1.out⟩
    · have m1 : decide ((n : Int) < 10) = false := decide_eq_false (by omega)
      have m2 : decide (n < 10) = false := decide_eq_false h
      have e1 : ((n : Int)).tdiv 10 = ((n / 10 : Nat) : Int) := by rw [Int.tdiv_eq_ediv_of_nonneg (by omega)]; omega
      have e2 : ((n : Int)).tmod 10 = ((n % 10 : Nat) : Int) := by rw [Int.tmod_eq_emod_of_nonneg (by omega)]; omega
      have I1 := Aside0.mk (ih (n / 10) (by omega) (by omega))
      have I2 := Aside0.mk (ih (n % 10) (by omega) (by omega))
      have l1 := digP_len (n / 10) (by omega)
      have l2 := digP_len (n % 10) (by omega)
      have hd : digP n = digP (n / 10) ++ digP (n % 10) := by rw [digP_great h, digP_small (show n % 10 < 10 by omega)]
      obtain ⟨d1, hd1⟩ : ∃ d, digP (n / 10) = d := ⟨_, rfl⟩
      obtain ⟨d2, hd2⟩ : ∃ d, digP (n % 10) = d := ⟨_, rfl⟩
      rw [hd1] at I1 l1 hd
      rw [hd2] at I2 l2 hd
      obtain ⟨q1, hq1⟩ : ∃ q, n / 10 = q := ⟨_, rfl⟩
      obtain ⟨q2, hq2⟩ : ∃ q, n % 10 = q := ⟨_, rfl⟩
      rw [hq1] at e1 I1
      rw [hq2] at e2 I2
      have f1 : IntKind.i64.wrap (q1 : Int) = (q1 : Int) := IntWalk.i64_in _ (by omega)
      have f2 : wrap64 (q1 : Int) = (q1 : Int) := wr (by omega) (by omega)
      obtain ⟨s1, hs1⟩ : ∃ s, strB d1 = s := ⟨_, rfl⟩
      obtain ⟨s2, hs2⟩ : ∃ s, strB d2 = s := ⟨_, rfl⟩
      have hc : ¬ 9223372036854775807 < s1.size + s2.size := by rw [← hs1, ← hs2, strB_size, strB_size]; omega
      rw [hd, ← strB_app, hs1, hs2]
      rw [hs1] at I1
      rw [hs2] at I2
      clear ih h hd hd1 hd2 hq1 hq2 hs1 hs2 l1 l2
      go_enter Tryd.func29, Tryd.ntmps29
      go_wp2_with fail
      refine (I1.out w).mono ?_
      rintro e w1 ⟨rfl, hb1⟩
      have HB1 := Aside0.mk hb1
      clear hb1
      go_wp2_with fail
      refine (I2.out w1).mono ?_
      rintro e w2 ⟨rfl, hb2⟩
      have HB2 := Aside0.mk (below_step HB1.out hb2)
      clear hb2
      go_wp2_with fail
      go_ret
      exact ⟨rfl, HB2.out⟩
end Go.Proofs.YtmoodblpgnnenaaDoor.PLs
