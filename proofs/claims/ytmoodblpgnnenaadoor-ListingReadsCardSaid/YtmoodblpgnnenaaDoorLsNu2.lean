/- listing.number: walk. Helper text. -/
import Derived.Test.YtmoodblpgnnenaaDoorLsNum
namespace Go.Proofs.YtmoodblpgnnenaaDoor.PLs
open Go.RowKit Go.Proofs.YtmoodblpgnnenaaDoor.Kx Go.Proofs.YtmoodblpgnnenaaDoor.PWe Go.Proofs.YtmoodblpgnnenaaDoorW.PrintWords Go.Proofs.YtmoodblpgnnenaaDoorW.PrintLast Go.Proofs.YtmoodblpgnnenaaDoorW.PrintMore
set_option linter.unusedVariables false
set_option linter.unusedSimpArgs false
def numV : Option Nat → Int
  | some v => v
  | none => 0
theorem byte_at (s : ByteArray) {i : Nat} (h : i < s.size) : ∃ h' : i < s.data.toList.length, s.data.toList[i] = s[i] := ⟨by rw [← Lib.size_eq]; exact h, by rw [Array.getElem_toList]; rfl⟩
set_option maxHeartbeats 4000000 in
set_option maxRecDepth 100000 in
theorem number_calls (s : ByteArray) (hs : s.size ≤ 4000000000) (w : World) {N : Option Nat} (hN : numP s.data.toList = N) :
    Calls Tryd.prog 34 #[.string s] w fun e w' => e = .returned (.tuple #[.int .i64 (numV N), .bool N.isSome]) ∧ Below w.heap.size w w' := by
  have HB : Aside0 (Below w.heap.size w w) := ⟨Below.refl _ _⟩
  rw [numP_is] at hN
  obtain ⟨l, hl⟩ : ∃ l, s.data.toList = l := ⟨_, rfl⟩
  have hll : l.length = s.size := by rw [← hl]; exact (Lib.size_eq s).symm
  by_cases h0 : s.size = 0
  · have hl0 : l = [] := List.eq_nil_of_length_eq_zero (by omega)
    have m1 : s.toList.isEmpty = true := by rw [Go.ByteArray.toList_eq, hl, hl0]; rfl
    have m2 : (s.toList == []) = true := by rw [Go.ByteArray.toList_eq, hl, hl0]; rfl
    rw [hl, hl0, if_pos (.inl rfl)] at hN
    subst hN
    clear hl hll hl0 h0
    go_enter Tryd.func34, Tryd.ntmps34
    go_wp2_with fail
    go_ret2
    exact ⟨rfl, HB.out⟩
  have hlt0 : 0 < s.size := by omega
  obtain ⟨hx, hx0⟩ := byte_at s hlt0
  have m1 : s.toList.isEmpty = false := by rw [Go.ByteArray.toList_eq, hl]; cases l with | nil => simp at hll; omega | cons => rfl
  have m2 : (s.toList == []) = false := by rw [Go.ByteArray.toList_eq, hl]; cases l with | nil => simp at hll; omega | cons => rfl
  obtain ⟨b0, hb0⟩ : ∃ b : Nat, (s[0]'hlt0).toNat = b := ⟨_, rfl⟩
  have q3 : (0 < s.size) = True := eq_true hlt0
  have q2 : ((0 : Int) < (s.size : Int)) = True := eq_true (by omega)
  have hh : l.head? = some (s[0]'hlt0) := by
    rw [← hl, List.head?_eq_getElem?, List.getElem?_eq_getElem hx, hx0]
  have hb48 : (s[0]'hlt0 = 48) ↔ b0 = 48 := by
    rw [← hb0]
    exact ⟨fun e => by rw [e]; rfl, fun e => UInt8.toNat_inj.1 e⟩
  by_cases hz : b0 = 48 ∧ 1 < s.size
  · have hcond : l = [] ∨ (l.head? = some 48 ∧ 1 < l.length) := .inr ⟨by rw [hh, hb48.2 hz.1], by omega⟩
    rw [hl, if_pos hcond] at hN
    subst hN
    have n1 : ((b0 : Int) == 48) = true := by rw [hz.1]; rfl
    have n2 : decide ((b0 : Int) = 48) = true := by rw [hz.1]; rfl
    have n3 : decide (1 < (s.size : Int)) = true := decide_eq_true (by omega)
    have n4 : decide (1 < s.size) = true := decide_eq_true hz.2
    clear hl hll hcond hh hb48 hz hx0 hx h0
    go_enter Tryd.func34, Tryd.ntmps34
    go_wp2_with fail
    go_ret2
    exact ⟨rfl, HB.out⟩
  have hcond : ¬ (l = [] ∨ (l.head? = some 48 ∧ 1 < l.length)) := by
    rintro (h | ⟨h1, h2⟩)
    · rw [h] at hll; simp at hll; omega
    · rw [hh] at h1
      exact hz ⟨hb48.1 (Option.some.inj h1), by omega⟩
  rw [hl, if_neg hcond] at hN
  have HN := Aside0.mk hN
  have HL := Aside0.mk hl
  have HLL := Aside0.mk hll
  have hsp : (decide ((b0 : Int) = 48) = false ∧ ((b0 : Int) == 48) = false) ∨ ((decide ((b0 : Int) = 48) = true ∧ ((b0 : Int) == 48) = true) ∧ decide (1 < (s.size : Int)) = false ∧ decide (1 < s.size) = false) := by
    by_cases h : b0 = 48
    · have h2 : ¬ 1 < s.size := fun e => hz ⟨h, e⟩
      exact .inr ⟨⟨decide_eq_true (by omega), by rw [h]; rfl⟩, decide_eq_false (by omega), decide_eq_false h2⟩
    · exact .inl ⟨decide_eq_false (by omega), beq_eq_false_iff_ne.2 (by omega)⟩
  clear hl hll hcond hh hb48 hz hx0 hx h0 hN
  have KEY : ∀ n1 n2 : Bool, True := fun _ _ => trivial
  rcases hsp with ⟨n1, n2⟩ | ⟨⟨n1, n2⟩, n3, n4⟩
  all_goals
    go_enter Tryd.func34, Tryd.ntmps34
    go_wp2_with fail
    go_loopw [4, 5, 20] (fun v4 _ v20 wr => ∃ (i v : Nat) (t : Int), i ≤ s.size ∧ Aside0 (v < 2147483648 ∧ t = (v : Int)) ∧ v20 = .int .i64 (i : Int) ∧ v4 = .int .i64 t ∧ Aside0 (numR (l.drop i) v = N) ∧ Aside0 (Below w.heap.size w wr)) (fun _ _ v20 _ => ((s.size : Int) - intOf v20).toNat)
    case atStart => exact ⟨0, 0, 0, Nat.zero_le _, ⟨by omega, rfl⟩, rfl, rfl, ⟨by rw [List.drop_zero]; exact HN.out⟩, HB⟩
    case round =>
      obtain ⟨i, v, t, hi, HV, rfl, rfl, HI, HBr⟩ := hrel
      by_cases hlt : i < s.size
      · have m3 : decide ((i : Int) < (s.size : Int)) = true := decide_eq_true (by omega)
        have m4 : decide (i < s.size) = true := decide_eq_true hlt
        have q1 : (0 ≤ (i : Int)) = True := eq_true (by omega)
        have q4 : ((i : Int) < (s.size : Int)) = True := eq_true (by omega)
        have q5 : (i < s.size) = True := eq_true hlt
        obtain ⟨hy, hy0⟩ := byte_at s hlt
        obtain ⟨b, hb⟩ : ∃ b : Nat, (s[i]'hlt).toNat = b := ⟨_, rfl⟩
        have hI := HI.out
        have hyl : i < l.length := by have := HLL.out; omega
        have hye : l[i] = s[i]'hlt := by rw [← hy0]; congr 1; exact HL.out.symm
        rw [List.drop_eq_getElem_cons hyl, numR, hye, hb] at hI
        have HI2 := Aside0.mk hI
        clear hI HI hy hy0 hye hyl
        have hcs : (N = none ∧ (decide ((b : Int) < 48) = true ∨ (decide ((b : Int) < 48) = false ∧ decide (57 < (b : Int)) = true))) ∨ (decide ((b : Int) < 48) = false ∧ decide (57 < (b : Int)) = false) := by
          by_cases c1 : b < 48
          · exact .inl ⟨by rw [← HI2.out, if_pos (.inl c1)], .inl (decide_eq_true (by omega))⟩
          by_cases c2 : 57 < b
          · exact .inl ⟨by rw [← HI2.out, if_pos (.inr (.inl c2))], .inr ⟨decide_eq_false (by omega), decide_eq_true (by omega)⟩⟩
          · exact .inr ⟨decide_eq_false (by omega), decide_eq_false (by omega)⟩
        rcases hcs with ⟨rfl, o1 | ⟨o1, o2⟩⟩ | ⟨o1, o2⟩
        · go_wp2_with fail
          go_ret2
          exact ⟨rfl, HBr.out⟩
        · go_wp2_with fail
          go_ret2
          exact ⟨rfl, HBr.out⟩
        · have b48 := of_decide_eq_false o1
          have b57 := of_decide_eq_false o2
          obtain ⟨u, hu⟩ : ∃ u, v * 10 + (b - 48) = u := ⟨_, rfl⟩
          obtain ⟨x, hx⟩ : ∃ x : Int, (u : Int) = x := ⟨_, rfl⟩
          obtain ⟨hv, htv⟩ := HV.out
          have f1 : IntKind.i64.wrap (t * 10) = t * 10 := IntWalk.i64_in _ (by omega)
          have f2 : IntKind.u8.wrap ((b : Int) - 48) = (b : Int) - 48 := IntWalk.u8_in _ (by omega)
          have f3 : IntKind.i64.wrap (t * 10 + ((b : Int) - 48)) = x := by rw [IntWalk.i64_in _ (by omega)]; omega
          have f4 : IntKind.i64.wrap ((b : Int) - 48) = (b : Int) - 48 := IntWalk.i64_in _ (by omega)
          have HI3 : Aside0 ((if 2147483648 ≤ u then none else numR (l.drop (i + 1)) u) = N) := ⟨by
            rw [← HI2.out, hu]
            by_cases c : 2147483648 ≤ u
            · rw [if_pos c, if_pos (.inr (.inr c))]
            · rw [if_neg c, if_neg (by omega)]⟩
          have HLT := Aside0.mk hlt
          have HXU := Aside0.mk hx
          clear HI2 b48 b57 hu hv htv
          by_cases c : 2147483648 ≤ u
          · have p1 : decide (2147483648 ≤ x) = true := decide_eq_true (by omega)
            have HE := HI3.out
            rw [if_pos c] at HE
            subst HE
            clear c hx
            go_wp2_with fail
            go_ret2
            exact ⟨rfl, HBr.out⟩
          · have p1 : decide (2147483648 ≤ x) = false := decide_eq_false (by omega)
            have HE := HI3.out
            rw [if_neg c] at HE
            have HI4 := Aside0.mk HE
            have HC := Aside0.mk c
            clear HE HI3 c hx
            go_wp2_with fail
            exact ⟨⟨i + 1, u, x, HLT.out, ⟨by have := HC.out; omega, HXU.out.symm⟩, by rw [Int.natCast_add]; rfl, rfl, HI4, HBr⟩, by have := HLT.out; simp [intOf]; omega⟩
      · have m3 : decide ((i : Int) < (s.size : Int)) = false := decide_eq_false (by omega)
        have m4 : decide (i < s.size) = false := decide_eq_false hlt
        have hI := HI.out
        rw [List.drop_eq_nil_of_le (by have := HLL.out; omega), numR] at hI
        subst hI
        obtain rfl := HV.out.2
        go_wp2_with fail
        go_ret2
        exact ⟨rfl, HBr.out⟩
end Go.Proofs.YtmoodblpgnnenaaDoor.PLs
