/- listing.each: walk, over any closure. Helper text. -/
import Derived.Test.YtmoodblpgnnenaaDoorLsEa
namespace Go.Proofs.YtmoodblpgnnenaaDoor.PLs
open Go.RowKit Go.Proofs.YtmoodblpgnnenaaDoor.Kx Go.Proofs.YtmoodblpgnnenaaDoor.PWe Go.Proofs.YtmoodblpgnnenaaDoorW.PrintWords Go.Proofs.YtmoodblpgnnenaaDoorW.PrintLast Go.Proofs.YtmoodblpgnnenaaDoorW.PrintMore
set_option linter.unusedVariables false
set_option linter.unusedSimpArgs false
theorem longP_bd (op : Int) : 1 ≤ longP op ∧ longP op ≤ 5 := by unfold longP; repeat' split <;> omega
theorem cmdP_len (b : List Int) (at_ op : Int) : (cmdP b at_ op).length = 7 := by
  unfold cmdP
  split; rfl
  split; rfl
  split; rfl
  split; rfl
  split <;> rfl
theorem readP_len (b : List Int) (at_ : Int) : (readP b at_).1.length = 7 := by
  unfold readP
  split; rfl
  split; rfl
  split; rfl
  split; rfl
  split
  · exact cmdP_len _ _ _
  · rfl
theorem readP_next {b : List Int} {at_ : Int} (h : (readP b at_).2.2 = 0) : 0 ≤ at_ ∧ at_ < (readP b at_).2.1 ∧ (readP b at_).2.1 ≤ (b.length : Int) ∧ (readP b at_).2.1 ≤ at_ + 5 := by
  unfold readP at h ⊢
  have hl := longP_bd (rd b at_)
  split at h
  · cases h
  · split at h
    · cases h
    · split at h
      · cases h
      · split at h
        · cases h
        · split at h
          · rename_i h1 h2 h3 h4 h5
            rw [if_neg h1, if_neg h2, if_neg h3, if_neg h4, if_pos h5]
            dsimp only
            omega
          · cases h
set_option maxHeartbeats 4000000 in
set_option maxRecDepth 100000 in
theorem each_calls (w0 : World) (I : List (Int × List Int) → World → Prop) (f : FuncId) (caps : Array Value) (A : Option Addr) (c : Nat) (b : List Int) (w : World) (hC : Kd.C (Kd.int .u8) w0 A b.length b) (hc : b.length ≤ c) (hby : Bytes b) (hl : b.length ≤ 100000) (hw : Below w0.heap.size w0 w)
    (hent : ∀ (args : Array Value) (W : World), (callFunc f args).run Tryd.prog W = .ok (.enter f args) W)
    (hI : ∀ pre W W', I pre W → Below W.heap.size W W' → I pre W')
    (hdo : ∀ (pre : List (Int × List Int)) (n : Nat) (a0 a1 a2 a3 a4 a5 a6 : Int) (W : World), pre.length ≤ n → n < b.length → I pre W → Below w0.heap.size w0 W → Calls Tryd.prog f (#[.int .i64 (n : Int), .agg #[.int .i64 a0, .int .i64 a1, .int .i64 a2, .int .i64 a3, .int .i64 a4, .int .i64 a5, .int .i64 a6]] ++ caps) W fun e W' => e = .returned (.tuple #[]) ∧ I (pre ++ [((n : Int), [a0, a1, a2, a3, a4, a5, a6])]) W' ∧ Below w0.heap.size W W')
    (h0 : I [] w) {l : List (Int × List Int)} {E : Int} (hE : eachL b (b.length + 1) 0 = (l, E)) :
    Calls Tryd.prog 26 #[.slice A b.length c, .func (.func f) #[] caps] w fun e w' => e = .returned (.int .i64 E) ∧ I l w' ∧ Below w0.heap.size w0 w' := by
  have HC := Aside0.mk hC
  have HCc := Aside0.mk hc
  have HBY := Aside0.mk hby
  have HLb := Aside0.mk hl
  have HI := Aside0.mk hI
  have HDO := Aside0.mk hdo
  have HE := Aside0.mk hE
  have HENT := Aside0.mk hent
  have H0 := Aside0.mk h0
  have HW := Aside0.mk hw
  clear hC hc hby hl hI hdo hE hent h0 hw
  go_enter Tryd.func26, Tryd.ntmps26
  go_wp2_with fail
  go_loopw [5, 6, 7, 8] (fun v5 _ _ _ wr => ∃ (n fuel : Nat) (pre r : List (Int × List Int)), n ≤ b.length ∧ v5 = .int .i64 (n : Int) ∧ Aside0 (pre.length ≤ n ∧ b.length + 1 ≤ fuel + n ∧ eachL b fuel (n : Int) = (r, E) ∧ pre ++ r = l) ∧ Aside0 (I pre wr) ∧ Aside0 (Below w0.heap.size w0 wr)) (fun v5 _ _ _ _ => ((b.length : Int) - intOf v5).toNat)
  case atStart => exact ⟨0, b.length + 1, [], l, Nat.zero_le _, rfl, ⟨Nat.le_refl _, by omega, HE.out, rfl⟩, H0, HW⟩
  case round =>
    obtain ⟨n, fuel, pre, r, hn, rfl, HR, HIr, HBr⟩ := hrel
    by_cases hlt : n < b.length
    · have m1 : decide ((n : Int) < (b.length : Int)) = true := decide_eq_true (by omega)
      have m2 : decide (n < b.length) = true := decide_eq_true hlt
      obtain ⟨h1, h2, h3, h4⟩ := HR.out
      obtain ⟨fuel, rfl⟩ : ∃ q, fuel = q + 1 := ⟨fuel - 1, by omega⟩
      rw [eachL, if_pos (by omega)] at h3
      obtain ⟨x0, x1, x2, x3, x4, x5, x6, hx⟩ := list7 _ (readP_len b (n : Int))
      have hnx := fun h => readP_next (b := b) (at_ := (n : Int)) h
      obtain ⟨⟨C, nx, bad⟩, hrd⟩ : ∃ q, readP b (n : Int) = q := ⟨_, rfl⟩
      rw [hrd] at h3 hnx
      have hx' : C = [x0, x1, x2, x3, x4, x5, x6] := by rw [hrd] at hx; exact hx
      subst hx'
      dsimp only at h3 hnx
      have HRD : Aside0 (readF 16 b (n : Int) = some ([x0, x1, x2, x3, x4, x5, x6], nx, bad)) := ⟨by rw [readF_is HBY.out HLb.out, hrd]⟩
      have HNX := Aside0.mk hnx
      have H3 := Aside0.mk h3
      have H14 := Aside0.mk (And.intro h1 (And.intro h2 h4))
      have HLT := Aside0.mk hlt
      clear h1 h2 h3 h4 hx hnx hrd HR
      go_wp2_with fail
      refine (read_any 16 b (n : Int) A c _ wr (Kd.C_below HC.out HBr.out) HCc.out HRD.out).mono ?_
      rintro e w1 ⟨rfl, hb1⟩
      have hIw := HI.out pre wr w1 HIr.out hb1
      have HB1 := Aside0.mk hb1
      clear hb1
      have hcc : cc [x0, x1, x2, x3, x4, x5, x6] = #[.int .i64 x0, .int .i64 x1, .int .i64 x2, .int .i64 x3, .int .i64 x4, .int .i64 x5, .int .i64 x6] := rfl
      rw [hcc]
      clear hcc
      have hk2 : Below w1.heap.size w1 (w1.alloc (.cells #[.int .i64 x0, .int .i64 x1, .int .i64 x2, .int .i64 x3, .int .i64 x4, .int .i64 x5, .int .i64 x6] 37 (0, 0))) := below_alloc (Below.refl _ _) _
      have HI2 := Aside0.mk (HI.out pre w1 _ hIw hk2)
      have HB2 := Aside0.mk (below_mid (below_mid HBr.out HB1.out (Nat.le_refl _)) hk2 (Nat.le_refl _))
      clear hIw hk2
      by_cases hbad : bad = 0
      · subst hbad
        have b1 : ((0 : Int) == 0) = true := rfl
        have h3 := H3.out
        rw [if_pos rfl] at h3
        obtain ⟨n1, n2, n3, n4⟩ := HNX.out rfl
        obtain ⟨N, rfl⟩ : ∃ N : Nat, nx = (N : Int) := ⟨nx.toNat, by omega⟩
        obtain ⟨⟨r', E'⟩, hr'⟩ : ∃ q, eachL b fuel (N : Int) = q := ⟨_, rfl⟩
        rw [hr'] at h3
        obtain ⟨hr1, rfl⟩ := Prod.mk.inj h3
        dsimp only at hr1
        have HFIN : Aside0 (N ≤ b.length ∧ n < N ∧ (pre ++ [((n : Int), [x0, x1, x2, x3, x4, x5, x6])]).length ≤ N ∧ b.length + 1 ≤ fuel + N ∧ eachL b fuel (N : Int) = (r', E') ∧ (pre ++ [((n : Int), [x0, x1, x2, x3, x4, x5, x6])]) ++ r' = l) := ⟨by
          obtain ⟨h1, h2, h4⟩ := H14.out
          refine ⟨by omega, by omega, ?_, by omega, hr', ?_⟩
          · rw [List.length_append]; simp only [List.length_cons, List.length_nil]; omega
          · rw [← h4, ← hr1]; simp⟩
        have hce := fun args W => HENT.out args W
        clear n1 n2 n3 n4 hr' h3 hr1 H3 HNX HRD
        go_wp2_with fail
        refine (HDO.out pre n x0 x1 x2 x3 x4 x5 x6 _ H14.out.1 HLT.out HI2.out HB2.out).mono ?_
        rintro e w3 ⟨rfl, hI3, hb3⟩
        have HI3 := Aside0.mk hI3
        have HB3 := Aside0.mk (HB2.out.trans hb3)
        clear hI3 hb3 hce
        go_wp2_with fail
        exact ⟨⟨N, fuel, _, r', HFIN.out.1, rfl, ⟨HFIN.out.2.2.1, HFIN.out.2.2.2.1, HFIN.out.2.2.2.2.1, HFIN.out.2.2.2.2.2⟩, HI3, HB3⟩, by have := HFIN.out.1; have := HFIN.out.2.1; simp [intOf]; omega⟩
      · have b1 : (bad == 0) = false := beq_eq_false_iff_ne.2 hbad
        have b2 : decide (bad = 0) = false := decide_eq_false hbad
        have b3 : (bad != 0) = true := by rw [bne, b1]; rfl
        have h3 := H3.out
        rw [if_neg hbad] at h3
        obtain ⟨rfl, rfl⟩ := Prod.mk.inj h3
        have HP : Aside0 (pre = l) := ⟨by have := H14.out.2.2; rwa [List.append_nil] at this⟩
        clear h3 H3 HNX HRD hbad
        go_wp2_with fail
        go_ret
        exact ⟨rfl, by rw [← HP.out]; exact HI2.out, HB2.out⟩
    · have m1 : decide ((n : Int) < (b.length : Int)) = false := decide_eq_false (by omega)
      have m2 : decide (n < b.length) = false := decide_eq_false hlt
      obtain ⟨h1, h2, h3, h4⟩ := HR.out
      obtain ⟨fuel, rfl⟩ : ∃ q, fuel = q + 1 := ⟨fuel - 1, by omega⟩
      rw [eachL, if_neg (by omega)] at h3
      obtain ⟨rfl, rfl⟩ := Prod.mk.inj h3
      have HP : Aside0 (pre = l) := ⟨by rwa [List.append_nil] at h4⟩
      clear h1 h2 h3 h4 HR
      go_wp2_with fail
      go_ret
      exact ⟨rfl, by rw [← HP.out]; exact HIr.out, HBr.out⟩
end Go.Proofs.YtmoodblpgnnenaaDoor.PLs
