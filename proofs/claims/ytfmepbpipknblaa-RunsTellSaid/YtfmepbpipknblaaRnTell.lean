/- The reference's runs of layer 6, as contracts. Helper text. -/
import Derived.Test.YtfmepbpipknblaaRnTellP
import Derived.Test.YtfmepbpipknblaaK2
namespace Go.Proofs.Ytfmepbpipknblaa.Rn
open Go.RowKit Go.Proofs.Ytfmepbpipknblaa.Kx
set_option linter.unusedVariables false
set_option linter.unusedSimpArgs false

theorem hi_cons {x : Int} {zs : List Int} {k : Nat} (h : hi x k = true) (hz : ∀ z ∈ zs, hi z k = true) : ∀ z ∈ x :: zs, hi z k = true := fun z hm => by
  rcases List.mem_cons.1 hm with rfl | hm
  · exact h
  · exact hz z hm
def bytes8 (l : List Int) : Prop := ∀ x ∈ l, 0 ≤ x ∧ x ≤ 255

set_option maxHeartbeats 1000000 in
theorem ref_run (A : Option Addr) (c : Nat) (l : List Int) (k : Nat) (hk : k < 4) (hl : l.length ≤ 1000) (h8 : bytes8 l) (w : World) (rd : RdI w .i64 A l) :
    Calls Try.prog 65 #[.slice A l.length c, .int .i64 k] w fun e w' => e = .returned (.int .i64 (runs l k)) ∧ w = w' := by
  have RD := hid rd
  have H8 := hid h8
  clear rd h8
  obtain rfl | rfl | rfl | rfl : k = 0 ∨ k = 1 ∨ k = 2 ∨ k = 3 := by omega
  · go_enter Try.func65, Try.ntmps65
    go_wp2_with fail
    go_loop [5, 6] (fun n i => ∃ (ys zs : List Int) (j : Int), l = ys ++ zs ∧ (∀ z ∈ zs, hi z 0 = true) ∧ n = .int .i64 zs.length ∧ j = (ys.length : Int) - 1 ∧ i = .int .i64 j) (fun _ i => (intOf i + 1).toNat)
    case atStart => exact ⟨l, [], _, by simp, by simp, rfl, rfl, rfl⟩
    case round =>
      obtain ⟨ys, zs, j, hyz, hz, rfl, hj, rfl⟩ := hrel
      have HYZ := hid hyz
      have HZ := hid hz
      have hlen : ys.length + zs.length ≤ 1000 := by rw [hyz, List.length_append] at hl; exact hl
      clear hyz hz
      rcases List.eq_nil_or_concat ys with hy | ⟨ys', x, hy⟩
      · obtain rfl : j = -1 := by rw [hj, hy]; rfl
        have HV : Hid (runs l 0 = (zs.length : Int)) := by
          show runs l 0 = _
          rw [HYZ.out, hy, runs_all [] zs 0 HZ.out]
          simp [runs]
        clear hy hj
        go_wp2_with fail
        go_ret
        exact ⟨by rw [HV.out]; rfl, rfl⟩
      · subst hy
        rw [List.concat_eq_append] at HYZ hlen hj
        obtain rfl : j = (ys'.length : Int) := by rw [hj]; simp
        rw [List.length_append] at hlen
        obtain ⟨ad, hA, hc⟩ := RD.out ys'.length (by rw [HYZ.out]; simp)
        cases hA
        have hx : l.getD ys'.length 0 = x := by rw [HYZ.out]; simp [List.getD_eq_getElem?_getD]
        rw [hx] at hc
        have h8 := H8.out x (by rw [HYZ.out]; simp)
        have hlt : ys'.length < l.length := by rw [HYZ.out]; simp
        clear hx hj
        by_cases hh : hi x 0 = true
        · have HH := hid hh
          have ht : (x % 2 == 1) = true := by unfold hi at hh; simpa using hh
          clear hh
          go_wp2_with fail
          exact ⟨⟨ys', x :: zs, (ys'.length : Int) - 1, by rw [HYZ.out]; simp, hi_cons HH.out HZ.out, by go_num, rfl, rfl⟩, by simp [intOf]⟩
        · have hh : hi x 0 = false := by simpa using hh
          have HV : Hid (runs l 0 = (zs.length : Int)) := by
            show runs l 0 = _
            rw [HYZ.out, runs_all _ zs 0 HZ.out, runs_snoc, hh]
            simp
          have ht : (x % 2 == 1) = false := by unfold hi at hh; simpa using hh
          clear hh
          go_wp2_with fail
          go_ret
          exact ⟨by rw [HV.out]; rfl, rfl⟩
  · go_enter Try.func65, Try.ntmps65
    go_wp2_with fail
    go_loop [5, 6] (fun n i => ∃ (ys zs : List Int) (j : Int), l = ys ++ zs ∧ (∀ z ∈ zs, hi z 1 = true) ∧ n = .int .i64 zs.length ∧ j = (ys.length : Int) - 1 ∧ i = .int .i64 j) (fun _ i => (intOf i + 1).toNat)
    case atStart => exact ⟨l, [], _, by simp, by simp, rfl, rfl, rfl⟩
    case round =>
      obtain ⟨ys, zs, j, hyz, hz, rfl, hj, rfl⟩ := hrel
      have HYZ := hid hyz
      have HZ := hid hz
      have hlen : ys.length + zs.length ≤ 1000 := by rw [hyz, List.length_append] at hl; exact hl
      clear hyz hz
      rcases List.eq_nil_or_concat ys with hy | ⟨ys', x, hy⟩
      · obtain rfl : j = -1 := by rw [hj, hy]; rfl
        have HV : Hid (runs l 1 = (zs.length : Int)) := by
          show runs l 1 = _
          rw [HYZ.out, hy, runs_all [] zs 1 HZ.out]
          simp [runs]
        clear hy hj
        go_wp2_with fail
        go_ret
        exact ⟨by rw [HV.out]; rfl, rfl⟩
      · subst hy
        rw [List.concat_eq_append] at HYZ hlen hj
        obtain rfl : j = (ys'.length : Int) := by rw [hj]; simp
        rw [List.length_append] at hlen
        obtain ⟨ad, hA, hc⟩ := RD.out ys'.length (by rw [HYZ.out]; simp)
        cases hA
        have hx : l.getD ys'.length 0 = x := by rw [HYZ.out]; simp [List.getD_eq_getElem?_getD]
        rw [hx] at hc
        have h8 := H8.out x (by rw [HYZ.out]; simp)
        have hlt : ys'.length < l.length := by rw [HYZ.out]; simp
        clear hx hj
        by_cases hh : hi x 1 = true
        · have HH := hid hh
          have ht : (x / 2 % 2 == 1) = true := by unfold hi at hh; simpa using hh
          clear hh
          go_wp2_with fail
          exact ⟨⟨ys', x :: zs, (ys'.length : Int) - 1, by rw [HYZ.out]; simp, hi_cons HH.out HZ.out, by go_num, rfl, rfl⟩, by simp [intOf]⟩
        · have hh : hi x 1 = false := by simpa using hh
          have HV : Hid (runs l 1 = (zs.length : Int)) := by
            show runs l 1 = _
            rw [HYZ.out, runs_all _ zs 1 HZ.out, runs_snoc, hh]
            simp
          have ht : (x / 2 % 2 == 1) = false := by unfold hi at hh; simpa using hh
          clear hh
          go_wp2_with fail
          go_ret
          exact ⟨by rw [HV.out]; rfl, rfl⟩
  · go_enter Try.func65, Try.ntmps65
    go_wp2_with fail
    go_loop [5, 6] (fun n i => ∃ (ys zs : List Int) (j : Int), l = ys ++ zs ∧ (∀ z ∈ zs, hi z 2 = true) ∧ n = .int .i64 zs.length ∧ j = (ys.length : Int) - 1 ∧ i = .int .i64 j) (fun _ i => (intOf i + 1).toNat)
    case atStart => exact ⟨l, [], _, by simp, by simp, rfl, rfl, rfl⟩
    case round =>
      obtain ⟨ys, zs, j, hyz, hz, rfl, hj, rfl⟩ := hrel
      have HYZ := hid hyz
      have HZ := hid hz
      have hlen : ys.length + zs.length ≤ 1000 := by rw [hyz, List.length_append] at hl; exact hl
      clear hyz hz
      rcases List.eq_nil_or_concat ys with hy | ⟨ys', x, hy⟩
      · obtain rfl : j = -1 := by rw [hj, hy]; rfl
        have HV : Hid (runs l 2 = (zs.length : Int)) := by
          show runs l 2 = _
          rw [HYZ.out, hy, runs_all [] zs 2 HZ.out]
          simp [runs]
        clear hy hj
        go_wp2_with fail
        go_ret
        exact ⟨by rw [HV.out]; rfl, rfl⟩
      · subst hy
        rw [List.concat_eq_append] at HYZ hlen hj
        obtain rfl : j = (ys'.length : Int) := by rw [hj]; simp
        rw [List.length_append] at hlen
        obtain ⟨ad, hA, hc⟩ := RD.out ys'.length (by rw [HYZ.out]; simp)
        cases hA
        have hx : l.getD ys'.length 0 = x := by rw [HYZ.out]; simp [List.getD_eq_getElem?_getD]
        rw [hx] at hc
        have h8 := H8.out x (by rw [HYZ.out]; simp)
        have hlt : ys'.length < l.length := by rw [HYZ.out]; simp
        clear hx hj
        by_cases hh : hi x 2 = true
        · have HH := hid hh
          have ht : (x / 4 % 2 == 1) = true := by unfold hi at hh; simpa using hh
          clear hh
          go_wp2_with fail
          exact ⟨⟨ys', x :: zs, (ys'.length : Int) - 1, by rw [HYZ.out]; simp, hi_cons HH.out HZ.out, by go_num, rfl, rfl⟩, by simp [intOf]⟩
        · have hh : hi x 2 = false := by simpa using hh
          have HV : Hid (runs l 2 = (zs.length : Int)) := by
            show runs l 2 = _
            rw [HYZ.out, runs_all _ zs 2 HZ.out, runs_snoc, hh]
            simp
          have ht : (x / 4 % 2 == 1) = false := by unfold hi at hh; simpa using hh
          clear hh
          go_wp2_with fail
          go_ret
          exact ⟨by rw [HV.out]; rfl, rfl⟩
  · go_enter Try.func65, Try.ntmps65
    go_wp2_with fail
    go_loop [5, 6] (fun n i => ∃ (ys zs : List Int) (j : Int), l = ys ++ zs ∧ (∀ z ∈ zs, hi z 3 = true) ∧ n = .int .i64 zs.length ∧ j = (ys.length : Int) - 1 ∧ i = .int .i64 j) (fun _ i => (intOf i + 1).toNat)
    case atStart => exact ⟨l, [], _, by simp, by simp, rfl, rfl, rfl⟩
    case round =>
      obtain ⟨ys, zs, j, hyz, hz, rfl, hj, rfl⟩ := hrel
      have HYZ := hid hyz
      have HZ := hid hz
      have hlen : ys.length + zs.length ≤ 1000 := by rw [hyz, List.length_append] at hl; exact hl
      clear hyz hz
      rcases List.eq_nil_or_concat ys with hy | ⟨ys', x, hy⟩
      · obtain rfl : j = -1 := by rw [hj, hy]; rfl
        have HV : Hid (runs l 3 = (zs.length : Int)) := by
          show runs l 3 = _
          rw [HYZ.out, hy, runs_all [] zs 3 HZ.out]
          simp [runs]
        clear hy hj
        go_wp2_with fail
        go_ret
        exact ⟨by rw [HV.out]; rfl, rfl⟩
      · subst hy
        rw [List.concat_eq_append] at HYZ hlen hj
        obtain rfl : j = (ys'.length : Int) := by rw [hj]; simp
        rw [List.length_append] at hlen
        obtain ⟨ad, hA, hc⟩ := RD.out ys'.length (by rw [HYZ.out]; simp)
        cases hA
        have hx : l.getD ys'.length 0 = x := by rw [HYZ.out]; simp [List.getD_eq_getElem?_getD]
        rw [hx] at hc
        have h8 := H8.out x (by rw [HYZ.out]; simp)
        have hlt : ys'.length < l.length := by rw [HYZ.out]; simp
        clear hx hj
        by_cases hh : hi x 3 = true
        · have HH := hid hh
          have ht : (x / 8 % 2 == 1) = true := by unfold hi at hh; simpa using hh
          clear hh
          go_wp2_with fail
          exact ⟨⟨ys', x :: zs, (ys'.length : Int) - 1, by rw [HYZ.out]; simp, hi_cons HH.out HZ.out, by go_num, rfl, rfl⟩, by simp [intOf]⟩
        · have hh : hi x 3 = false := by simpa using hh
          have HV : Hid (runs l 3 = (zs.length : Int)) := by
            show runs l 3 = _
            rw [HYZ.out, runs_all _ zs 3 HZ.out, runs_snoc, hh]
            simp
          have ht : (x / 8 % 2 == 1) = false := by unfold hi at hh; simpa using hh
          clear hh
          go_wp2_with fail
          go_ret
          exact ⟨by rw [HV.out]; rfl, rfl⟩

set_option maxHeartbeats 1000000 in
theorem ref_third (A : Option Addr) (c : Nat) (l : List Int) (hl : l.length ≤ 1000) (h8 : bytes8 l) (w : World) (rd : RdI w .i64 A l) :
    Calls Try.prog 64 #[.slice A l.length c] w fun e w' => e = .returned (.int .i64 (third (runs l 0) (runs l 1) (runs l 2) (runs l 3))) ∧ w = w' := by
  have HR := hid (fun (k : Nat) (hk : k < 4) => ref_run A c l k hk hl h8 w rd)
  have HB := hid (bst_third (runs l) (fun k => (runs_ge l k).1))
  have HG := hid (fun k => runs_ge l k)
  clear rd h8
  generalize runs l = R at *
  go_enter Try.func64, Try.ntmps64
  go_wp2_with fail
  go_loop [3, 4] (fun b s => ∃ n : Nat, n ≤ 4 ∧ s = .int .i64 n ∧ b = .int .i64 (bst R n)) (fun _ s => 4 - (intOf s).toNat)
  case atStart => exact ⟨0, by omega, rfl, rfl⟩
  case round =>
    obtain ⟨n, hn, rfl, rfl⟩ := hrel
    by_cases hlt : (n : Int) < 4
    · obtain ⟨y, hy⟩ : ∃ y, bst R n = y := ⟨_, rfl⟩
      rw [hy]
      have HY := hid hy
      clear hy
      go_wp2_with fail
      go_loop [5, 6] (fun b s => ∃ m : Nat, m ≤ 4 ∧ s = .int .i64 m ∧ b = .int .i64 (lst R n m)) (fun _ s => 4 - (intOf s).toNat)
      case atStart => exact ⟨0, by omega, rfl, rfl⟩
      case round =>
        obtain ⟨m, hm, rfl, rfl⟩ := hrel
        by_cases hmt : (m : Int) < 4
        · have HRM := hid (HR.out m (by omega))
          have hg := HG.out m
          obtain ⟨x, hx⟩ : ∃ x, R m = x := ⟨_, rfl⟩
          obtain ⟨z, hz⟩ : ∃ z, lst R n m = z := ⟨_, rfl⟩
          rw [hx] at HRM hg
          rw [hz]
          have HS : Hid (lst R n (m + 1) = if m = n then z else if z < 0 then x else if x < z then x else z) := by
            show lst R n (m + 1) = _
            rw [lst, hx, hz]
          clear hx hz
          by_cases h1 : m = n
          · have h1' : ((m : Int) != (n : Int)) = false := by simp [h1]
            have H1 := hid h1
            clear h1
            go_wp2_with (go_at_call 65; refine HRM.out.mono ?_; rintro e w' ⟨rfl, rfl⟩)
            exact ⟨⟨m + 1, by omega, by go_num, by rw [HS.out, if_pos H1.out]⟩, by simp [intOf]; omega⟩
          · have h1' : ((m : Int) != (n : Int)) = true := by simp; omega
            have H1 := hid h1
            clear h1
            by_cases h2 : z < 0
            · go_wp2_with (go_at_call 65; refine HRM.out.mono ?_; rintro e w' ⟨rfl, rfl⟩)
              exact ⟨⟨m + 1, by omega, by go_num, by rw [HS.out, if_neg H1.out, if_pos (by omega)]⟩, by simp [intOf]; omega⟩
            · by_cases h3 : x < z
              · go_wp2_with (go_at_call 65; refine HRM.out.mono ?_; rintro e w' ⟨rfl, rfl⟩)
                exact ⟨⟨m + 1, by omega, by go_num, by rw [HS.out, if_neg H1.out, if_neg (by omega), if_pos (by omega)]⟩, by simp [intOf]; omega⟩
              · go_wp2_with (go_at_call 65; refine HRM.out.mono ?_; rintro e w' ⟨rfl, rfl⟩)
                exact ⟨⟨m + 1, by omega, by go_num, by rw [HS.out, if_neg H1.out, if_neg (by omega), if_neg (by omega)]⟩, by simp [intOf]; omega⟩
        · obtain rfl : m = 4 := by omega
          have HS : Hid (bst R (n + 1) = max y (lst R n 4)) := by
            show bst R (n + 1) = _
            rw [bst, HY.out]
          go_wp2_with fail
          exact ⟨⟨n + 1, by omega, by go_num, by rw [HS.out]⟩, by simp [intOf]; omega⟩
    · obtain rfl : n = 4 := by omega
      go_wp2_with fail
      go_ret
      exact ⟨by rw [← HB.out]; rfl, rfl⟩
end Go.Proofs.Ytfmepbpipknblaa.Rn
