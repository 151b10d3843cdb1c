/- A course's Fit, as a contract in the printed functions' form. Helper text. -/
import Derived.Test.YtfmepbpipknblaaBuStep
import Derived.Deep.DeepCutAuto
namespace Go.Proofs.Ytfmepbpipknblaa.PBu
open Go.RowKit Go.Proofs.YtfmepbpipknblaaW.PrintWords Go.Proofs.YtfmepbpipknblaaW.PrintLast Go.Proofs.YtfmepbpipknblaaW.PrintMore
set_option linter.unusedVariables false
set_option linter.unusedSimpArgs false

def budget_Course_Fit.f (a0_0 : Int) (a0_1 : Int) (a0_2 : Bool) (a0_3 : Int) (a0_4 : Int) (l0_5 : List Int) (l0_6 : List S40) (a1 : Int) : Option (Int × Int × Bool × Int × Int × List Int × List S40) :=
  (fault_Fault_Right.f 9 a0_0 a0_1 a0_2 a0_3 a0_4 l0_5 a1).bind fun b => if okL l0_6 = true ∧ l0_5.length ≤ 140737488355328 then (if b = 0 then some (a0_0, a0_1, a0_2, a0_3, a0_4, l0_5, fits a1 [] l0_6) else some (0, 0, false, 0, 0, [], fits a1 [] l0_6)) else none
/-- The result's place, what is made so far, and its rows. -/
def FX (O R : Nat) (F0 F1 : Int) (F2 : Bool) (F3 F4 : Int) (v5 : Value) (p5 : List Int) (b base : Nat) (v6 : Value) (acc : List S40) (W : World) : Prop :=
  W.heap[R]? = some (.cells #[.int .i64 0, .int .i64 0, .bool false, .int .i64 0, .int .i64 0, .slice none 0 0, .slice none 0 0] 27 (0, 0)) ∧ W.heap[O]? = some (.cells #[.int .i64 F0, .int .i64 F1, .bool F2, .int .i64 F3, .int .i64 F4, v5, v6] 27 (0, 0)) ∧ Kd.R (Kd.int .u8) 5 W base (fun k => k ≠ b) v5 p5 ∧ Kd.R k40 40 W base (fun k => k ≠ b) v6 acc
section
variable {O R : Nat} {F0 F1 : Int} {F2 : Bool} {F3 F4 : Int} {v5 : Value} {p5 : List Int} {base : Nat} {v6 : Value} {acc : List S40} {w1 : World}
theorem blk_ne_row {W : World} {g : Nat} {t e : TypeId} {cs : Array Value} {v : Value} (h : W.heap[g]? = some (.cells cs t (0, 0))) (hv : ∀ k, v.ownBlock = some k → ∃ cells, W.heap[k]? = some (.cells cells e (0, 0))) (hne : t ≠ e) : some g ≠ v.ownBlock := fun he => by
  obtain ⟨cells, hc⟩ := hv g he.symm
  rw [h] at hc
  injection hc with hc
  injection hc with _ hc
  exact hne hc
theorem car_FX (hO : O ≠ w1.heap.size) (hR : R ≠ w1.heap.size) : Car w1 (FX O R F0 F1 F2 F3 F4 v5 p5 w1.heap.size base v6 acc) :=
  ⟨fun ⟨h1, h2, h3, h4⟩ hb => ⟨blk_below h1 hb, blk_below h2 hb, Kd.R_below h3 hb, Kd.R_below h4 hb⟩,
   fun ⟨h1, h2, h3, h4⟩ hv hg => ⟨blk_grown h1 hg (blk_ne_row h1 hv (by decide)), blk_grown h2 hg (blk_ne_row h2 hv (by decide)), Kd.R_over' h3 hv (by decide) hg, Kd.R_over' h4 hv (by decide) hg⟩,
   fun ⟨h1, h2, h3, h4⟩ hg => ⟨blk_grown h1 hg (fun e => hR (Option.some.inj e)), blk_grown h2 hg (fun e => hO (Option.some.inj e)), Kd.R_grown h3 hg (fun k hk e => hk (Option.some.inj e)), Kd.R_grown h4 hg (fun k hk e => hk (Option.some.inj e))⟩⟩
end
/-- Another row, or another block, has been written. -/
theorem Inv.other {X X' : World → Prop} {w w1 : World} {S : Nat} {s : S40} {l : List S40} {n : Nat} {D : DataW Unit} {W W' : World} {row : Option Nat} (h : Inv X w w1 S s l n D none none W) (hg : W.grownBy W' row) (hS : some S ≠ row) (hb : some w1.heap.size ≠ row) (hty : ∀ k, row = some k → w.heap.size ≤ k ∧ ∃ cells t, W.heap[k]? = some (.cells cells t (0, 0)) ∧ t ≠ 3) (hc : Car w1 X') (hx : X' W') : Inv X' w w1 S s l n D none none W' := by
  obtain ⟨⟨h1, hgr, hw, hn, hln, hne, _, _⟩, h2, h3, h4, h5, h6, h7⟩ := h
  refine ⟨⟨blk_grown h1 hg hS, hgr, hw, hn, hln, hne, hc, hx⟩, h2.kept (row := row) hg hb (fun es clock hes x hx' => ?_), pw_below_grown h3 _ h3.size hg (fun k hk => (hty k hk).1), h4, Nat.lt_of_lt_of_le h5 hg.size, (fun L hL => by cases hL), (fun p hp => by cases hp)⟩
  cases hv : x.val.ownBlock with
  | none => exact .inl rfl
  | some j =>
    refine .inr fun he => ?_
    obtain ⟨_, cells, t, hc', hnt⟩ := hty j he.symm
    obtain ⟨es', clock', hb', F, _⟩ := h2
    rw [hes] at hb'
    injection hb' with hb'
    injection hb' with e1 e2
    subst e1
    obtain ⟨y, hy⟩ := F.reads x hx'
    obtain ⟨z, hz, _⟩ := WideElems.rd_val hy
    obtain ⟨zs, ho, _⟩ := rowElem_inv hz
    obtain ⟨cells', hc2⟩ := own_typed ho.1 j hv
    rw [hc'] at hc2
    injection hc2 with hc2
    injection hc2 with _ hc2
    exact hnt hc2
theorem grown_setRow (W : World) (g : Nat) (cs : Array Value) : W.grownBy (W.setRow g cs) (some g) := ⟨rfl, rfl, rfl, by simp, fun k _ hk => setRow_other W g k cs (fun e => hk (by rw [e]))⟩
theorem grown_setC (W : World) (b i : Nat) (v : Value) : W.grownBy (W.setCell ⟨b, i, none⟩ v) (some b) := Kx.grown_set W b i v
/-- What stands ahead of the loop. -/
def Bef (w : World) (F0 F1 : Int) (F2 : Bool) (F3 F4 : Int) (v5 : Value) (p5 : List Int) (A0_6 : Option Addr) (n c : Nat) (W : World) : Prop :=
  W.heap[w.heap.size + 1 + 1]? = some (.cells #[.int .i64 F0, .int .i64 F1, .bool F2, .int .i64 F3, .int .i64 F4, v5, .slice none 0 0] 27 (0, 0)) ∧ W.heap[w.heap.size + 1]? = some (.cells #[.int .i64 0, .int .i64 0, .bool false, .int .i64 0, .int .i64 0, .slice none 0 0, .slice none 0 0] 27 (0, 0)) ∧ Kd.R (Kd.int .u8) 5 W w.heap.size (fun _ => True) v5 p5 ∧ Below w.heap.size w W ∧ W.cell? ⟨w.heap.size, 6, none⟩ = some (.slice A0_6 n c)
theorem row_ne {W : World} {g k t : Nat} {cs : Array Value} {E : List Nat} (h : W.heap[g]? = some (.cells cs t (0, 0))) (hk : ∃ q, q ∈ E ∧ ∃ cells, W.heap[k]? = some (.cells cells q (0, 0))) (hne : ∀ q, q ∈ E → q ≠ t) : k ≠ g := by
  rintro rfl
  obtain ⟨q, hq, cells, hc⟩ := hk
  rw [h] at hc
  injection hc with hc
  injection hc with _ hc
  exact hne q hq hc.symm
theorem groups_more {W : World} {base b n : Nat} {D : DataW Unit} (h : W.ownsGroups Try.prog 134 base 3 .i64 b n D) : W.ownsGroups Try.prog 134 base 3 .i64 b (n + 1) D := by
  obtain ⟨es, clock, hb, F, hs, hD, hbb, hlen, hap⟩ := h
  exact ⟨es, clock, hb, F, by omega, hD, hbb, fun x hx zs ho => by have := hlen x hx zs ho; omega, hap⟩
theorem Inv.x {X : World → Prop} {w w1 : World} {S : Nat} {s : S40} {l : List S40} {n : Nat} {D : DataW Unit} {li : Option Nat} {look : Option (World × Value × Value × List Int)} {W : World} (h : Inv X w w1 S s l n D li look W) : X W := h.1.2.2.2.2.2.2.2
theorem fits_skip {a1 : Int} {acc r : List S40} {s : S40} (h : ¬ (mayB s a1 = true ∧ nearB acc s = false)) : fits a1 acc (s :: r) = fits a1 acc r := by rw [fits, if_neg h]
theorem fits_take {a1 : Int} {acc r : List S40} {s : S40} (h1 : mayB s a1 = true) (h2 : nearB acc s = false) : fits a1 acc (s :: r) = fits a1 (acc ++ [s]) r := by rw [fits, if_pos ⟨h1, h2⟩]
set_option maxRecDepth 100000 in
set_option maxHeartbeats 8000000 in
theorem budget_Course_Fit.calls (a0_0 : Int) (a0_1 : Int) (a0_2 : Bool) (a0_3 : Int) (a0_4 : Int) (A0_5 : Option Addr) (c0_5 : Nat) (l0_5 : List Int) (A0_6 : Option Addr) (c0_6 : Nat) (l0_6 : List S40) (a1 : Int) (r1 : Int) (r2 : Int) (r3 : Bool) (r4 : Int) (r5 : Int) (r6 : List Int) (r7 : List S40) (w : World) (hr0_5 : Kd.C (Kd.int .u8) w A0_5 l0_5.length l0_5) (hc0_5 : l0_5.length ≤ c0_5) (hr0_6 : Kd.C k40 w A0_6 l0_6.length l0_6) (hc0_6 : l0_6.length ≤ c0_6) (h : budget_Course_Fit.f a0_0 a0_1 a0_2 a0_3 a0_4 l0_5 l0_6 a1 = some (r1, r2, r3, r4, r5, r6, r7)) :
    Calls Try.prog 21 #[.agg #[.int .i64 a0_0, .int .i64 a0_1, .bool a0_2, .int .i64 a0_3, .int .i64 a0_4, .slice A0_5 l0_5.length c0_5, .slice A0_6 l0_6.length c0_6], .int .i64 a1] w fun e w' => ∃ v5_ v6_ : Value, e = .returned (.agg #[.int .i64 r1, .int .i64 r2, .bool r3, .int .i64 r4, .int .i64 r5, v5_, v6_]) ∧ Kd.R (Kd.int .u8) 5 w' w.heap.size (fun _ => True) v5_ r6 ∧ Kd.R k40 40 w' w.heap.size (fun _ => True) v6_ r7 ∧ Below w.heap.size w w' := by
  unfold budget_Course_Fit.f at h
  have h9 := Option.bind_eq_some_iff.1 h
  clear h
  obtain ⟨b, hb, h⟩ := h9
  split at h
  · rename_i hok
    obtain ⟨hok, hp5⟩ := hok
    have HP5 := Aside0.mk hp5
    have HB0 := Aside0.mk (below_alloc (below_alloc (below_alloc (Below.refl w.heap.size w) (.cells #[.int .i64 a0_0, .int .i64 a0_1, .bool a0_2, .int .i64 a0_3, .int .i64 a0_4, .slice A0_5 l0_5.length c0_5, .slice A0_6 l0_6.length c0_6] 27)) (.cells #[.int .i64 0, .int .i64 0, .bool false, .int .i64 0, .int .i64 0, .slice none 0 0, .slice none 0 0] 27)) (.cells #[.int .i64 0, .int .i64 0, .bool false, .int .i64 0, .int .i64 0, .slice none 0 0, .slice none 0 0] 27))
    have HC := Aside0.mk (fun w1 h5 => fault_Fault_Right.calls 9 a0_0 a0_1 a0_2 a0_3 a0_4 A0_5 c0_5 l0_5 a1 b w1 h5 hc0_5 hb)
    have H5 := Aside0.mk hr0_5
    have H6 := Aside0.mk hr0_6
    have HH := Aside0.mk h
    have HO := Aside0.mk hok
    have HL := Aside0.mk (okL_len hok)
    have hl : (l0_6.length : Int) ≤ 1000 := by have := HL.out; omega
    have hu27 := Try.underlying27
    have hu24 := Try.underlying24
    have hu40 := Try.underlying40
    clear hb hr0_5 hr0_6 h hok hp5
    have hmm := @run_makeMap Try.prog
    go_enter Try.func21, Try.ntmps21
    go_wp2_with fail
    refine (HC.out _ (Kd.C_below H5.out HB0.out)).mono ?_
    rintro e w0 ⟨rfl, hb⟩
    have HP := Aside0.mk (blk_below (blk_alloc (blk_alloc (blk_new w (.cells #[.int .i64 a0_0, .int .i64 a0_1, .bool a0_2, .int .i64 a0_3, .int .i64 a0_4, .slice A0_5 l0_5.length c0_5, .slice A0_6 l0_6.length c0_6] 27)) (.cells #[.int .i64 0, .int .i64 0, .bool false, .int .i64 0, .int .i64 0, .slice none 0 0, .slice none 0 0] 27)) (.cells #[.int .i64 0, .int .i64 0, .bool false, .int .i64 0, .int .i64 0, .slice none 0 0, .slice none 0 0] 27)) hb)
    have HRR := Aside0.mk (blk_below (blk_alloc (blk_new (w.alloc (.cells #[.int .i64 a0_0, .int .i64 a0_1, .bool a0_2, .int .i64 a0_3, .int .i64 a0_4, .slice A0_5 l0_5.length c0_5, .slice A0_6 l0_6.length c0_6] 27)) (.cells #[.int .i64 0, .int .i64 0, .bool false, .int .i64 0, .int .i64 0, .slice none 0 0, .slice none 0 0] 27)) (.cells #[.int .i64 0, .int .i64 0, .bool false, .int .i64 0, .int .i64 0, .slice none 0 0, .slice none 0 0] 27)) hb)
    have HOO := Aside0.mk (blk_below (blk_new ((w.alloc (.cells #[.int .i64 a0_0, .int .i64 a0_1, .bool a0_2, .int .i64 a0_3, .int .i64 a0_4, .slice A0_5 l0_5.length c0_5, .slice A0_6 l0_6.length c0_6] 27)).alloc (.cells #[.int .i64 0, .int .i64 0, .bool false, .int .i64 0, .int .i64 0, .slice none 0 0, .slice none 0 0] 27)) (.cells #[.int .i64 0, .int .i64 0, .bool false, .int .i64 0, .int .i64 0, .slice none 0 0, .slice none 0 0] 27)) hb)
    have HB1 := Aside0.mk (below_then HB0.out HB0.out.size hb)
    simp only [World.size_alloc] at HRR HOO
    clear hb
    have hp6 : w0.cell? ⟨w.heap.size, 6, none⟩ = some (.slice A0_6 l0_6.length c0_6) := (blk_cell HP.out 6).trans rfl
    go_upto_if 14 with fail
    go_cut [15, 16, 17, 18] (fun _ _ _ _ wx => ∃ (F0 F1 : Int) (F2 : Bool) (F3 F4 : Int) (v5 : Value) (p5 : List Int), Aside0 (Bef w F0 F1 F2 F3 F4 v5 p5 A0_6 l0_6.length c0_6 wx ∧ F0 = r1 ∧ F1 = r2 ∧ F2 = r3 ∧ F3 = r4 ∧ F4 = r5 ∧ p5 = r6 ∧ fits a1 [] l0_6 = r7))
    case first =>
      by_cases h0 : b = 0
      · have hq : (b == 0) = true := by simpa using h0
        have HQ := HH.out
        rw [if_pos h0] at HQ
        simp only [Option.some.injEq, Prod.mk.injEq] at HQ
        have HQ' := Aside0.mk HQ
        have p0 := (blk_cell HP.out 0).trans rfl
        have p1 := (blk_cell HP.out 1).trans rfl
        have p2 := (blk_cell HP.out 2).trans rfl
        have p3 := (blk_cell HP.out 3).trans rfl
        have p4 := (blk_cell HP.out 4).trans rfl
        have p5 := (blk_cell HP.out 5).trans rfl
        clear HQ HH
        go_wp2_with fail
        refine (fault_Fault_Clone.calls a0_0 a0_1 a0_2 a0_3 a0_4 A0_5 c0_5 l0_5 a0_0 a0_1 a0_2 a0_3 a0_4 l0_5 _ (Kd.C_below H5.out HB1.out) hc0_5 (by unfold fault_Fault_Clone.f; rw [if_pos HP5.out])).mono ?_
        rintro e w2 ⟨v5, rfl, hR5, hb⟩
        obtain ⟨A5, c5, rfl⟩ := Kd.R_slice hR5
        have HR5 := Aside0.mk hR5
        have HB2 := Aside0.mk (below_then HB1.out HB1.out.size hb)
        have HRR2 := Aside0.mk (blk_below HRR.out hb)
        have HOO2 := Aside0.mk (blk_below HOO.out hb)
        have HP2 := Aside0.mk (blk_below HP.out hb)
        have hlt2 := Aside0.mk (show w.heap.size + 1 + 1 < w0.heap.size from blk_lt HOO.out)
        clear p0 p1 p2 p3 p4 p5 hp6 hR5 hb
        have d0 := (blk_cell HOO2.out 0).trans rfl
        have d1 := (blk_cell HOO2.out 1).trans rfl
        have d2 := (blk_cell HOO2.out 2).trans rfl
        have d3 := (blk_cell HOO2.out 3).trans rfl
        have d4 := (blk_cell HOO2.out 4).trans rfl
        have d5 := (blk_cell HOO2.out 5).trans rfl
        have g0 := blk_frozen HOO2.out 0
        have g1 := blk_frozen HOO2.out 1
        have g2 := blk_frozen HOO2.out 2
        have g3 := blk_frozen HOO2.out 3
        have g4 := blk_frozen HOO2.out 4
        have g5 := blk_frozen HOO2.out 5
        go_wp2_with fail
        go_meet
        have hn : w.heap.size + 1 ≠ w.heap.size + 1 + 1 := by omega
        have hk : ∀ k, w0.heap.size ≤ k → k ≠ w.heap.size + 1 + 1 := fun k hk => by have := hlt2.out; omega
        refine ⟨_, _, _, _, _, _, l0_5, ⟨⟨(blk_set (blk_set (blk_set (blk_set (blk_set (blk_set HOO2.out 0 _) 1 _) 2 _) 3 _) 4 _) 5 _).trans rfl, blk_far (blk_far (blk_far (blk_far (blk_far (blk_far HRR2.out hn _) hn _) hn _) hn _) hn _) hn _, ?_, ?_, ?_⟩, HQ'.out⟩⟩
        · have h1 := Kd.R_mono (Kd.R_bound HR5.out) (fun k h => hk k h.2.1)
          exact Kd.R_lower (Kd.R_mono (Kd.R_far (Kd.R_far (Kd.R_far (Kd.R_far (Kd.R_far (Kd.R_far (h1) (fun _ h => h) _) (fun _ h => h) _) (fun _ h => h) _) (fun _ h => h) _) (fun _ h => h) _) (fun _ h => h) _) (fun _ _ => trivial)) (by have := hlt2.out; omega)
        · exact ((((((HB2.out).setCell (by simp; omega) _).setCell (by simp; omega) _).setCell (by simp; omega) _).setCell (by simp; omega) _).setCell (by simp; omega) _).setCell (by simp; omega) _
        · exact (blk_cell (blk_far (blk_far (blk_far (blk_far (blk_far (blk_far (HP2.out) (by simp; omega) _) (by simp; omega) _) (by simp; omega) _) (by simp; omega) _) (by simp; omega) _) (by simp; omega) _) 6).trans rfl
      · have hq : (b == 0) = false := by simpa using h0
        have HQ := HH.out
        rw [if_neg h0] at HQ
        simp only [Option.some.injEq, Prod.mk.injEq] at HQ
        have HQ' := Aside0.mk HQ
        clear HQ HH hp6
        go_wp2_with fail
        go_meet
        exact ⟨0, 0, false, 0, 0, .slice none 0 0, [], ⟨⟨HOO.out, HRR.out, Kd.R_nil _ _ _ _ _, HB1.out, (blk_cell HP.out 6).trans rfl⟩, HQ'.out⟩⟩
    case rest =>
      obtain ⟨F0, F1, F2, F3, F4, v5, p5, HBef⟩ := hcut
      obtain ⟨hbf, rfl, rfl, rfl, rfl, rfl, rfl, hfits⟩ := HBef.out
      have HR7 := Aside0.mk hfits
      have HBf := Aside0.mk hbf
      have hcell : wc.cell? ⟨w.heap.size, 6, none⟩ = some (.slice A0_6 l0_6.length c0_6) := hbf.2.2.2.2
      have hsz : w.heap.size < wc.heap.size := Kx.lt_of_cell hcell
      have hszO : w.heap.size + 1 + 1 < wc.heap.size := blk_lt hbf.1
      have HCar := fun (v6 : Value) (acc : List S40) => car_FX (O := w.heap.size + 1 + 1) (R := w.heap.size + 1) (F0 := F0) (F1 := F1) (F2 := F2) (F3 := F3) (F4 := F4) (v5 := v5) (p5 := p5) (base := w.heap.size) (v6 := v6) (acc := acc) (w1 := wc) (by omega) (by omega)
      have HCAR := Aside0.mk HCar
      clear HBef hbf hfits hp6 HP HRR HOO HB1 HCar HH
      go_wp2_with fail
      go_loopw [8, 23] (fun _ u23 wr => ∃ k : Nat, k ≤ l0_6.length ∧ u23 = .int .i64 k ∧ (∃ (D : DataW Unit) (acc : List S40) (v6 : Value), Aside0 (wr.ownsGroups Try.prog 134 (wc.heap.size + 1) 3 .i64 wc.heap.size k D) ∧ Aside0 (GRel D acc) ∧ Aside0 (acc.length ≤ k) ∧ Aside0 (fits a1 acc (l0_6.drop k) = r7) ∧ Aside0 ((FX (w.heap.size + 1 + 1) (w.heap.size + 1) F0 F1 F2 F3 F4 v5 p5 wc.heap.size w.heap.size v6 acc) wr)) ∧ Aside0 (Below w.heap.size w wr) ∧ Aside0 (wc.heap.size < wr.heap.size)) (fun _ u23 _ => l0_6.length - (intOf u23).toNat)
      case atStart =>
        refine ⟨0, Nat.zero_le _, rfl, ⟨.map [], [], .slice none 0 0, ⟨World.ownsGroups_made wc Try.prog 134 3 .i64⟩, ⟨GRel.start⟩, ⟨by simp⟩, ⟨by simpa using HR7.out⟩, ⟨?_⟩⟩, ⟨HBf.out.2.2.2.1.alloc (by omega) _⟩, ⟨by simp⟩⟩
        obtain ⟨h1, h2, h3, h4, _⟩ := HBf.out
        exact ⟨blk_alloc h2 _, blk_alloc h1 _, Kd.R_below (Kd.R_mono (Kd.R_bound h3) (fun k hk => by have := hk.2.2.1; omega)) (below_alloc (Below.refl _ _) _), Kd.R_nil _ _ _ _ _⟩
      case round =>
        obtain ⟨k, hk, rfl, ⟨D, acc, v6, HD, HG, HA, HI, HX⟩, HB, HS⟩ := hrel
        by_cases hlt : (k : Int) < (l0_6.length : Int)
        · obtain ⟨ad, rfl, hcc⟩ := at_slip (Kd.C_below H6.out HB.out) k (by omega)
          have hk0 : (0 : Int) ≤ (k : Int) := by omega
          have HDr := Aside0.mk (drop_at l0_6 k (by omega))
          have HMem := Aside0.mk (show l0_6.getD k z40 ∈ l0_6 by rw [List.getD_eq_getElem?_getD, List.getElem?_eq_getElem (by omega)]; exact List.getElem_mem _)
          obtain ⟨s, hs⟩ : ∃ s, l0_6.getD k z40 = s := ⟨_, rfl⟩
          rw [hs] at hcc HDr HMem
          have HC1 := Aside0.mk hcc
          have HM := Aside0.mk (may_is s a1)
          clear hs hcc
          obtain ⟨f0, f1, f2, f3⟩ := s
          go_wp2_with (first | refine Kx.wpList_load_cells rfl 40 _ rfl (ad.add (k * 4)) rfl [Value.int .i64 f0, .bool f1, .int .i64 f2, .int .i64 f3] _ HC1.out Try.underlying40 rfl (by kernel_rfl) ?_)
          have hkw : k < maxLen := by have := HL.out; unfold maxLen; omega
          have HWr := Aside0.mk (show Below wr.heap.size wr (wr.alloc (.cells #[Value.int .i64 f0, .bool f1, .int .i64 f2, .int .i64 f3] 40)) from below_alloc (Below.refl _ _) _)
          have HF0 := Aside0.mk (okL_wf HO.out HMem.out)
          have hi0 : Inv (FX (w.heap.size + 1 + 1) (w.heap.size + 1) F0 F1 F2 F3 F4 v5 p5 wc.heap.size w.heap.size v6 acc) w wc wr.heap.size ⟨f0, f1, f2, f3⟩ acc k D none none (wr.alloc (.cells #[Value.int .i64 f0, .bool f1, .int .i64 f2, .int .i64 f3] 40)) := ⟨⟨blk_new _ _, HG.out, HF0.out, hkw, HA.out, by have := HS.out; omega, HCAR.out _ _, (HCAR.out _ _).on HX.out HWr.out⟩, World.ownsGroups.kept (row := none) HD.out (grown_of_below HWr.out none) (by simp) (fun es clock _ x _ => by cases x.val.ownBlock <;> simp), below_then HB.out HB.out.size HWr.out, by omega, Nat.lt_of_lt_of_le HS.out HWr.out.size, (fun L hL => by cases hL), (fun p hp => by cases hp)⟩
          have hi := Inv.on hi0 (Below.refl _ _).drew
          have hk0d := Inv.cells hi
          obtain ⟨m, hm⟩ : ∃ m, mayB ⟨f0, f1, f2, f3⟩ a1 = m := ⟨_, rfl⟩
          rw [hm] at HM
          have HMB := Aside0.mk hm
          obtain ⟨g, hg⟩ : ∃ g, grp acc f0 f1 = g := ⟨_, rfl⟩
          have HGr := Aside0.mk hg
          obtain ⟨nb, hnb⟩ : ∃ nb, g.any (nearP f2) = nb := ⟨_, rfl⟩
          have HNb := Aside0.mk (show nearB acc ⟨f0, f1, f2, f3⟩ = nb by unfold nearB; rw [show grp acc (⟨f0, f1, f2, f3⟩ : S40).f0 (⟨f0, f1, f2, f3⟩ : S40).f1 = g from hg]; exact hnb)
          have HNear := Aside0.mk (fun (A : Option Addr) (c : Nat) (W : World) (hC : Kd.C (Kd.int .i64) W A g.length g) => near_any f0 f1 f2 f3 A c g W hC)
          rw [hnb] at HNear
          clear hm hg hnb hi0 hkw
          cases m
          · obtain ⟨k1, k2, k3, k4⟩ := hk0d
            refine start_ (n := 12) (S := fun _ => True) (ds := []) #[false, false, false, false, false, false, false, false, false, false, false, false] (by kernel_rfl) rfl rfl trivial (fun _ => ?_)
            refine pure_ (i := 1) (N := some 28) (v := .int .i64 a1) #[false, true, false, false, false, false, false, false, false, false, false, false] rfl rfl (by kernel_rfl) (fun _ _ _ h => h) (Or.inl ⟨by rfl, fun w' => by go_simp⟩) rfl ?_
            simp only [Act.put, List.setIfInBounds_toArray, List.set_cons_zero, List.set_cons_succ]
            refine one_ (i := 0) (N := some 27) #[true, true, false, false, false, false, false, false, false, false, false, false] rfl rfl (by kernel_rfl) (by simp) (fun K hK => ?_)
            go_simp
            refine hK.out _ _ trivial (fun _ => ?_)
            clear hK K
            try simp only [Act.put, List.setIfInBounds_toArray, List.set_cons_zero, List.set_cons_succ]
            refine one_ (i := 2) (N := some 29) #[true, true, true, false, false, false, false, false, false, false, false, false] rfl rfl (by kernel_rfl) (by simp) (fun K hK => ?_)
            go_simp
            go_wp2_with (go_at_call 71; with_reducible refine (budget_Slip_may.calls f0 f1 f2 f3 a1 false _ HM.out).mono ?_; rintro e w2 ⟨rfl, hb2⟩; have hi2 := Inv.on (X := FX (w.heap.size + 1 + 1) (w.heap.size + 1) F0 F1 F2 F3 F4 v5 p5 wc.heap.size w.heap.size v6 acc) (w := w) (w1 := wc) (S := wr.heap.size) (s := ⟨f0, f1, f2, f3⟩) (l := acc) (n := k) (D := D) (li := none) (look := none) hi hb2; clear hb2)
            refine hK.out _ _ trivial (fun _ => ?_)
            clear hK K
            try simp only [Act.put, List.setIfInBounds_toArray, List.set_cons_zero, List.set_cons_succ]
            refine pure_ (i := 3) (N := some 30) (v := .bool false) #[true, true, true, true, false, false, false, false, false, false, false, false] rfl rfl (by kernel_rfl) (fun _ _ _ h => h) (Or.inl ⟨by rfl, fun w' => by go_simp⟩) rfl ?_
            simp only [Act.put, List.setIfInBounds_toArray, List.set_cons_zero, List.set_cons_succ]
            refine pure_ (i := 4) (N := some 31) (v := undef) #[true, true, true, true, true, false, false, false, false, false, false, false] rfl rfl (by kernel_rfl) (fun _ _ _ h => h) (Or.inr ⟨by rfl, rfl⟩) rfl ?_
            simp only [Act.put, List.setIfInBounds_toArray, List.set_cons_zero, List.set_cons_succ]
            refine pure_ (i := 5) (N := some 32) (v := undef) #[true, true, true, true, true, true, false, false, false, false, false, false] rfl rfl (by kernel_rfl) (fun _ _ _ h => h) (Or.inr ⟨by rfl, rfl⟩) rfl ?_
            simp only [Act.put, List.setIfInBounds_toArray, List.set_cons_zero, List.set_cons_succ]
            refine pure_ (i := 6) (N := some 33) (v := undef) #[true, true, true, true, true, true, true, false, false, false, false, false] rfl rfl (by kernel_rfl) (fun _ _ _ h => h) (Or.inr ⟨by rfl, rfl⟩) rfl ?_
            simp only [Act.put, List.setIfInBounds_toArray, List.set_cons_zero, List.set_cons_succ]
            refine pure_ (i := 7) (N := some 34) (v := undef) #[true, true, true, true, true, true, true, true, false, false, false, false] rfl rfl (by kernel_rfl) (fun _ _ _ h => h) (Or.inr ⟨by rfl, rfl⟩) rfl ?_
            simp only [Act.put, List.setIfInBounds_toArray, List.set_cons_zero, List.set_cons_succ]
            refine pure_ (i := 8) (N := some 35) (v := undef) #[true, true, true, true, true, true, true, true, true, false, false, false] rfl rfl (by kernel_rfl) (fun _ _ _ h => h) (Or.inr ⟨by rfl, rfl⟩) rfl ?_
            simp only [Act.put, List.setIfInBounds_toArray, List.set_cons_zero, List.set_cons_succ]
            refine pure_ (i := 9) (N := some 36) (v := undef) #[true, true, true, true, true, true, true, true, true, true, false, false] rfl rfl (by kernel_rfl) (fun _ _ _ h => h) (Or.inr ⟨by rfl, rfl⟩) rfl ?_
            simp only [Act.put, List.setIfInBounds_toArray, List.set_cons_zero, List.set_cons_succ]
            refine pure_ (i := 10) (N := some 37) (v := undef) #[true, true, true, true, true, true, true, true, true, true, true, false] rfl rfl (by kernel_rfl) (fun _ _ _ h => h) (Or.inr ⟨by rfl, rfl⟩) rfl ?_
            simp only [Act.put, List.setIfInBounds_toArray, List.set_cons_zero, List.set_cons_succ]
            refine pure_ (i := 11) (N := some 38) (v := .bool false) #[true, true, true, true, true, true, true, true, true, true, true, true] rfl rfl (by kernel_rfl) (fun _ _ _ h => h) (Or.inl ⟨by rfl, fun w' => by go_simp⟩) rfl ?_
            simp only [Act.put, List.setIfInBounds_toArray, List.set_cons_zero, List.set_cons_succ]
            refine done_ (by kernel_rfl) ?_
            have HI4 := Aside0.mk hi2
            clear hi2 hi k1 k2 k3 k4
            have HFt : Aside0 (fits a1 acc (l0_6.drop (k + 1)) = r7) := ⟨by rw [← HI.out, HDr.out, fits_skip (by rw [HMB.out]; simp)]⟩
            clear HI
            go_wp2_with fail
            obtain ⟨_, hgr, hbl, _, hsl, _⟩ := HI4.out
            exact ⟨⟨k + 1, by omega, by go_num, ⟨D, acc, v6, ⟨groups_more hgr⟩, HG, ⟨by have := HA.out; omega⟩, HFt, ⟨Inv.x HI4.out⟩⟩, ⟨hbl⟩, ⟨hsl⟩⟩, by simp [intOf]; omega⟩
          · go_region_held3 (fun w' => w'.cell? ⟨wr.heap.size, 0, none⟩ = some (.int .i64 f0) ∧ w'.cell? ⟨wr.heap.size, 1, none⟩ = some (.bool f1) ∧ w'.cell? ⟨wr.heap.size, 2, none⟩ = some (.int .i64 f2) ∧ w'.cell? ⟨wr.heap.size, 3, none⟩ = some (.int .i64 f3))
              (first | assumption | exact hk0d | exact Inv.cells (by assumption))
              (first
                | (go_at_call 71; with_reducible refine (budget_Slip_may.calls f0 f1 f2 f3 a1 true _ HM.out).mono ?_; rintro e w2 ⟨rfl, hb2⟩; have hi2 := Inv.on (X := FX (w.heap.size + 1 + 1) (w.heap.size + 1) F0 F1 F2 F3 F4 v5 p5 wc.heap.size w.heap.size v6 acc) (w := w) (w1 := wc) (S := wr.heap.size) (s := ⟨f0, f1, f2, f3⟩) (l := acc) (n := k) (D := D) (li := none) (look := none) (by assumption) hb2; have hk2 := Inv.cells hi2; clear hb2)
                | (go_at_call 73; with_reducible refine (budget_Slip_clock.calls f0 f1 f2 f3 f0 f1 _ rfl).mono ?_; rintro e w3 ⟨rfl, hb3⟩; have hi3 := Inv.on (X := FX (w.heap.size + 1 + 1) (w.heap.size + 1) F0 F1 F2 F3 F4 v5 p5 wc.heap.size w.heap.size v6 acc) (w := w) (w1 := wc) (S := wr.heap.size) (s := ⟨f0, f1, f2, f3⟩) (l := acc) (n := k) (D := D) (li := none) (look := none) (by assumption) hb3; have hk3 := Inv.cells hi3; obtain ⟨vq, hrunq, hiq⟩ := Inv.look_ hi3; have hoq := Inv.own hiq; rw [show grp acc (⟨f0, f1, f2, f3⟩ : S40).f0 (⟨f0, f1, f2, f3⟩ : S40).f1 = g from HGr.out] at hoq; obtain ⟨Aq, cq, rfl, hCq⟩ := ints_shape hoq; clear hb3 hoq hiq)
                | (go_at_call 72; refine (HNear.out _ _ _ (by assumption)).mono ?_; rintro e w4 ⟨rfl, hb4⟩; have hi4 := Inv.on (X := FX (w.heap.size + 1 + 1) (w.heap.size + 1) F0 F1 F2 F3 F4 v5 p5 wc.heap.size w.heap.size v6 acc) (w := w) (w1 := wc) (S := wr.heap.size) (s := ⟨f0, f1, f2, f3⟩) (l := acc) (n := k) (D := D) (li := none) (look := none) (by assumption) hb4; have hk4 := Inv.cells hi4; clear hb4))
            have HI4 := Aside0.mk hi4
            clear hi4 hk4 hi3 hk3 hrunq hCq hk0d hi hi2 hk2
            cases nb
            · obtain ⟨x1, x2, x3, x4⟩ := Inv.x HI4.out
              have hO6 : w4.cell? ⟨w.heap.size + 1 + 1, 6, none⟩ = some v6 := (blk_cell x2 6).trans rfl
              obtain ⟨s0, s1, s2, s3⟩ := Inv.cells HI4.out
              have X1 := Aside0.mk x1
              have X2 := Aside0.mk x2
              have X3 := Aside0.mk x3
              have X4 := Aside0.mk x4
              have HLa := Aside0.mk (show (acc.length + 1) * 32 ≤ 140737488355328 by have := HA.out; have := HL.out; omega)
              have hb4 := HI4.out.2.2.1.size
              have hbb := HI4.out.2.2.2.2.1
              clear x1 x2 x3 x4
              go_wp2_with (first
                | (at_builtin; refine Kd.R_append k40 (w0 := w) (W := w4) w.heap.size rfl _ _ 25 40 _ 32 rfl Try.underlying25 info40 rfl (by decide) (by decide) v6 acc ⟨f0, f1, f2, f3⟩ [.int .i64 f0, .bool f1, .int .i64 f2, .int .i64 f3] (fun k => k ≠ wc.heap.size) (fun _ => False) rfl rfl (k40_mkM _ _ _ ⟨f0, f1, f2, f3⟩) (fun _ h => h.elim) (fun k hk => by omega) X4.out HI4.out.2.2.1 hb4 HLa.out ?_; intro v7 w7 hR7 hB7 hg7 hat7; obtain ⟨A7, c7, h7⟩ := Kd.R_slice hR7; rw [List.length_append, List.length_singleton] at h7; subst h7; have HR7' := Aside0.mk hR7; have HG7 := Aside0.mk hg7; have HO7 := Aside0.mk (blk_grown X2.out hg7 (blk_ne_row X2.out (Kd.R_typed X4.out) (by decide))); have HRr7 := Aside0.mk (blk_grown X1.out hg7 (blk_ne_row X1.out (Kd.R_typed X4.out) (by decide))); have ho7 := (blk_cell HO7.out 6).trans rfl; have hf7 := blk_frozen HO7.out 6; clear hR7 hB7 hg7 hat7))
              have hnO : w.heap.size + 1 ≠ w.heap.size + 1 + 1 := by omega
              have hiT : Inv (fun _ => True) w wc wr.heap.size ⟨f0, f1, f2, f3⟩ acc k D none none w7 := Inv.other HI4.out HG7.out (fun e => by have := Kd.R_lt HX.out.2.2.2 _ e.symm; omega) (fun e => X4.out.1 _ e.symm rfl) (fun k hk => ⟨Kd.R_base X4.out k hk, by obtain ⟨cells, hc⟩ := Kd.R_typed X4.out k hk; exact ⟨cells, 40, hc, by decide⟩⟩) (car_true _) trivial
              have HI8 := Aside0.mk (Inv.other (X' := (FX (w.heap.size + 1 + 1) (w.heap.size + 1) F0 F1 F2 F3 F4 v5 p5 wc.heap.size w.heap.size (.slice A7 (acc.length + 1) c7) (acc ++ [⟨f0, f1, f2, f3⟩]))) (W' := w7.setCell ⟨w.heap.size + 1 + 1, 6, none⟩ (.slice A7 (acc.length + 1) c7)) hiT (grown_setC _ _ _ _) (fun e => by injection e with e; have := HS.out; omega) (fun e => by injection e with e; omega) (fun k hk => by injection hk with hk; subst hk; exact ⟨by omega, _, 27, HO7.out, by decide⟩) (HCAR.out _ _) ⟨blk_far HRr7.out hnO _, (blk_set HO7.out 6 _).trans rfl, Kd.R_mono (Kd.R_grown (Kd.R_bound (Kd.R_over' X3.out (Kd.R_typed X4.out) (by decide) HG7.out)) (grown_setC _ _ _ _) (fun k hk e => row_ne HO7.out hk.2.2.2 (by decide) (Option.some.inj e))) (fun k hk => hk.1), Kd.R_mono (Kd.R_grown (Kd.R_bound HR7'.out) (grown_setC _ _ _ _) (fun k hk e => row_ne HO7.out hk.2.2.2 (by decide) (Option.some.inj e))) (fun k hk => hk.1)⟩)
              clear hO6 s0 s1 s2 s3 ho7 hf7 hiT hb4 hbb
              obtain ⟨w8, hw8⟩ : ∃ w8, w8 = w7.setCell ⟨w.heap.size + 1 + 1, 6, none⟩ (.slice A7 (acc.length + 1) c7) := ⟨_, rfl⟩
              rw [← hw8] at HI8 ⊢
              clear hw8
              have hi := Inv.on HI8.out (Below.refl _ _).drew
              have hkp : Kp w8.drew w8.drew := Below.refl _ _
              have hiD := Inv.on (Inv.lit HI8.out) (Below.refl _ _).drew
              have hkpD : Kp w8.drew (w8.alloc (.cells #[.int .i64 f2] 3)).drew := Kp.lit (W0 := w8.drew) (W := w8.drew) (Below.refl _ _) (.cells #[.int .i64 f2] 3)
              have hk0d := Inv.cells hi
              obtain ⟨v, hv⟩ := Inv.looks hi
              have HV := Aside0.mk (show ∀ W' li', Inv (FX (w.heap.size + 1 + 1) (w.heap.size + 1) F0 F1 F2 F3 F4 v5 p5 wc.heap.size w.heap.size (.slice A7 (acc.length + 1) c7) (acc ++ [⟨f0, f1, f2, f3⟩])) w wc wr.heap.size ⟨f0, f1, f2, f3⟩ acc k D li' none W' → Kp w8.drew W' → (Instr.lookup 130 (.map (some wc.heap.size)) (.agg #[.int .i64 f0, .bool f1]) false).run Try.prog W' = .ok v W' ∧ Inv (FX (w.heap.size + 1 + 1) (w.heap.size + 1) F0 F1 F2 F3 F4 v5 p5 wc.heap.size w.heap.size (.slice A7 (acc.length + 1) c7) (acc ++ [⟨f0, f1, f2, f3⟩])) w wc wr.heap.size ⟨f0, f1, f2, f3⟩ acc k D li' (some (W', v, v, grp acc f0 f1)) W' from hv)
              have HGl := Aside0.mk (show ((grp acc f0 f1).length + 1) * 8 ≤ 140737488355328 by have h1 := grp_len acc f0 f1; have h2 := HL.out; have h3 := HA.out; omega)
              have HF2 := Aside0.mk (show (Lit.int .i64 f2).wf = true by have := HMB.out; unfold mayB at this; exact Kx.wf_of_i64 (by simp at this; omega))
              clear hv
              go_wp2_with fail
              go_region_held3 (fun w' => w'.cell? ⟨wr.heap.size, 0, none⟩ = some (.int .i64 f0) ∧ w'.cell? ⟨wr.heap.size, 1, none⟩ = some (.bool f1) ∧ w'.cell? ⟨wr.heap.size, 2, none⟩ = some (.int .i64 f2) ∧ w'.cell? ⟨wr.heap.size, 3, none⟩ = some (.int .i64 f3))
                (first | assumption | exact hk0d | exact Inv.cells (by assumption) | exact Inv2.cells (by assumption) | exact Fin.cells (by assumption) | exact Inv.cells (Inv.lit (X := (FX (w.heap.size + 1 + 1) (w.heap.size + 1) F0 F1 F2 F3 F4 v5 p5 wc.heap.size w.heap.size (.slice A7 (acc.length + 1) c7) (acc ++ [⟨f0, f1, f2, f3⟩]))) (w := w) (w1 := wc) (S := wr.heap.size) (s := ⟨f0, f1, f2, f3⟩) (l := acc) (n := k) (D := D) (look := none) (by assumption)))
                (first
                  | (go_at_call 73; with_reducible refine (budget_Slip_clock.calls f0 f1 f2 f3 f0 f1 _ rfl).mono ?_; rintro e w5 ⟨rfl, hb5⟩; (first
                    | (have hj5 := Inv2.on (X := (FX (w.heap.size + 1 + 1) (w.heap.size + 1) F0 F1 F2 F3 F4 v5 p5 wc.heap.size w.heap.size (.slice A7 (acc.length + 1) c7) (acc ++ [⟨f0, f1, f2, f3⟩]))) (w := w) (w1 := wc) (S := wr.heap.size) (s := ⟨f0, f1, f2, f3⟩) (l := acc) (n := k) (D := D) (by assumption) hb5; have hk5 := Inv2.cells hj5; obtain ⟨wu, hrunu, hfin⟩ := Inv2.update hj5; clear hb5)
                    | (have hi5 := Inv.on (X := (FX (w.heap.size + 1 + 1) (w.heap.size + 1) F0 F1 F2 F3 F4 v5 p5 wc.heap.size w.heap.size (.slice A7 (acc.length + 1) c7) (acc ++ [⟨f0, f1, f2, f3⟩]))) (w := w) (w1 := wc) (S := wr.heap.size) (s := ⟨f0, f1, f2, f3⟩) (l := acc) (n := k) (D := D) (li := none) (look := none) (by assumption) hb5; have hkp5 := Kp.on (W0 := w8.drew) (by assumption) hb5; have hk5 := Inv.cells hi5; have hr5 := (HV.out _ _ hi5 hkp5).1; have hr5' := (HV.out _ _ (Inv.lit hi5) (Kp.lit hkp5 _)).1; clear hb5)
                    | (have hi5 := Inv.on (X := (FX (w.heap.size + 1 + 1) (w.heap.size + 1) F0 F1 F2 F3 F4 v5 p5 wc.heap.size w.heap.size (.slice A7 (acc.length + 1) c7) (acc ++ [⟨f0, f1, f2, f3⟩]))) (w := w) (w1 := wc) (S := wr.heap.size) (s := ⟨f0, f1, f2, f3⟩) (l := acc) (n := k) (D := D) (look := none) (Inv.lit (by assumption)) hb5; have hkp5 := Kp.on (W0 := w8.drew) (Kp.lit (by assumption) _) hb5; have hk5 := Inv.cells hi5; have hr5 := (HV.out _ _ hi5 hkp5).1; clear hb5)
                    | (have hi5 := Inv.on (X := (FX (w.heap.size + 1 + 1) (w.heap.size + 1) F0 F1 F2 F3 F4 v5 p5 wc.heap.size w.heap.size (.slice A7 (acc.length + 1) c7) (acc ++ [⟨f0, f1, f2, f3⟩]))) (w := w) (w1 := wc) (S := wr.heap.size) (s := ⟨f0, f1, f2, f3⟩) (l := acc) (n := k) (D := D) (look := none) (by assumption) hb5; have hkp5 := Kp.on (W0 := w8.drew) (by assumption) hb5; have hk5 := Inv.cells hi5; have hr5 := (HV.out _ _ hi5 hkp5).1; clear hb5)))
                  | (refine step_append_one _ (wc.heap.size + 1) (by rfl) _ _ 43 3 8 (by rfl) Try.underlying43 info3i (by decide) v (grp acc f0 f1) f2 _ (by rfl) (by rfl) (by first | exact Inv.litAt (X := (FX (w.heap.size + 1 + 1) (w.heap.size + 1) F0 F1 F2 F3 F4 v5 p5 wc.heap.size w.heap.size (.slice A7 (acc.length + 1) c7) (acc ++ [⟨f0, f1, f2, f3⟩]))) (w := w) (w1 := wc) (S := wr.heap.size) (s := ⟨f0, f1, f2, f3⟩) (l := acc) (n := k) (D := D) (look := none) (by assumption) | exact Inv.litAt (X := (FX (w.heap.size + 1 + 1) (w.heap.size + 1) F0 F1 F2 F3 F4 v5 p5 wc.heap.size w.heap.size (.slice A7 (acc.length + 1) c7) (acc ++ [⟨f0, f1, f2, f3⟩]))) (w := w) (w1 := wc) (S := wr.heap.size) (s := ⟨f0, f1, f2, f3⟩) (l := acc) (n := k) (D := D) (look := none) (Inv.lit (by assumption))) HF2.out (by first | exact Inv.own (HV.out _ _ (by assumption) (by assumption)).2 | exact Inv.own (HV.out _ _ (Inv.lit (by assumption)) (Kp.lit (by assumption) _)).2) (by first | exact Inv.base (X := (FX (w.heap.size + 1 + 1) (w.heap.size + 1) F0 F1 F2 F3 F4 v5 p5 wc.heap.size w.heap.size (.slice A7 (acc.length + 1) c7) (acc ++ [⟨f0, f1, f2, f3⟩]))) (w := w) (w1 := wc) (S := wr.heap.size) (s := ⟨f0, f1, f2, f3⟩) (l := acc) (n := k) (D := D) (look := none) (by assumption) | exact Inv.base (X := (FX (w.heap.size + 1 + 1) (w.heap.size + 1) F0 F1 F2 F3 F4 v5 p5 wc.heap.size w.heap.size (.slice A7 (acc.length + 1) c7) (acc ++ [⟨f0, f1, f2, f3⟩]))) (w := w) (w1 := wc) (S := wr.heap.size) (s := ⟨f0, f1, f2, f3⟩) (l := acc) (n := k) (D := D) (look := none) (Inv.lit (by assumption))) HGl.out ?_; intro v1 w6 ho6 hg6 hat6; (first
                    | have hj6 := Inv.app (X := (FX (w.heap.size + 1 + 1) (w.heap.size + 1) F0 F1 F2 F3 F4 v5 p5 wc.heap.size w.heap.size (.slice A7 (acc.length + 1) c7) (acc ++ [⟨f0, f1, f2, f3⟩]))) (w := w) (w1 := wc) (S := wr.heap.size) (s := ⟨f0, f1, f2, f3⟩) (l := acc) (n := k) (D := D) (HV.out _ _ (by assumption) (by assumption)).2 ho6 hg6 hat6
                    | have hj6 := Inv.app (X := (FX (w.heap.size + 1 + 1) (w.heap.size + 1) F0 F1 F2 F3 F4 v5 p5 wc.heap.size w.heap.size (.slice A7 (acc.length + 1) c7) (acc ++ [⟨f0, f1, f2, f3⟩]))) (w := w) (w1 := wc) (S := wr.heap.size) (s := ⟨f0, f1, f2, f3⟩) (l := acc) (n := k) (D := D) (HV.out _ _ (Inv.lit (by assumption)) (Kp.lit (by assumption) _)).2 ho6 hg6 hat6); have hk6 := Inv2.cells hj6; obtain ⟨wu, hrunu, hfin⟩ := Inv2.update hj6; clear ho6 hg6 hat6))
              all_goals
                have HFin := Aside0.mk hfin
                have HFt : Aside0 (fits a1 (acc ++ [⟨f0, f1, f2, f3⟩]) (l0_6.drop (k + 1)) = r7) := ⟨by rw [← HI.out, HDr.out, fits_take HMB.out HNb.out]⟩
                clear hfin hi hkp hiD hkpD hk0d
                go_wp2_with fail
                obtain ⟨_, hx', ⟨D', hD', hG'⟩, hB', hS'⟩ := HFin.out
                exact ⟨⟨k + 1, by omega, by go_num, ⟨D', _, _, ⟨hD'⟩, ⟨hG'⟩, ⟨by rw [List.length_append]; have := HA.out; simp; omega⟩, HFt, ⟨hx'⟩⟩, ⟨hB'⟩, ⟨hS'⟩⟩, by simp [intOf]; omega⟩
            · have HFt : Aside0 (fits a1 acc (l0_6.drop (k + 1)) = r7) := ⟨by rw [← HI.out, HDr.out, fits_skip (by rw [HNb.out]; simp)]⟩
              clear HI
              go_wp2_with fail
              obtain ⟨_, hgr, hbl, _, hsl, _⟩ := HI4.out
              exact ⟨⟨k + 1, by omega, by go_num, ⟨D, acc, v6, ⟨groups_more hgr⟩, HG, ⟨by have := HA.out; omega⟩, HFt, ⟨Inv.x HI4.out⟩⟩, ⟨hbl⟩, ⟨hsl⟩⟩, by simp [intOf]; omega⟩
        · obtain rfl : k = l0_6.length := by omega
          have HE : Aside0 (acc = r7) := ⟨by rw [← HI.out, List.drop_length]; rfl⟩
          obtain ⟨x1, x2, x3, x4⟩ := HX.out
          obtain ⟨A5, c5, rfl⟩ := Kd.R_slice x3
          obtain ⟨A6, c6, rfl⟩ := Kd.R_slice x4
          have X1 := Aside0.mk x1
          have X2 := Aside0.mk x2
          have X3 := Aside0.mk x3
          have X4 := Aside0.mk x4
          clear hlt hk x1 x2 x3 x4
          go_wp2_with (first
            | refine wpList_load_row rfl 27 _ rfl (w.heap.size + 1 + 1) rfl 27 _ (0, 0) _ X2.out Try.underlying27 rfl (by kernel_rfl) ?_
            | refine wpList_store_row rfl 27 _ _ rfl (w.heap.size + 1) _ rfl rfl 27 _ X1.out (by kernel_rfl) rfl (by simp [Value.oneCell']) ?_)
          (try simp only [Exit.inBlock, Exit.then])
          refine bodyPost_ret (results_cell_row rfl _ _ (w.heap.size + 1) 27 #[.int .i64 F0, .int .i64 F1, .bool F2, .int .i64 F3, .int .i64 F4, .slice A5 p5.length c5, .slice A6 acc.length c6] (0, 0) _ rfl ?_ Try.underlying27 rfl (by kernel_rfl)) rfl ⟨_, _, rfl, ?_, ?_, ?_⟩
          · exact setRow_heap _ _ _ _ _ _ X1.out
          · exact Kd.R_mono (Kd.R_grown (Kd.R_bound X3.out) (grown_setRow _ _ _) (fun k hk e => row_ne X1.out hk.2.2.2 (by decide) (Option.some.inj e))) (fun _ _ => trivial)
          · rw [← HE.out]
            exact Kd.R_mono (Kd.R_grown (Kd.R_bound X4.out) (grown_setRow _ _ _) (fun k hk e => row_ne X1.out hk.2.2.2 (by decide) (Option.some.inj e))) (fun _ _ => trivial)
          · exact Kx.below_setRow HB.out (by omega)
  · cases h
end Go.Proofs.Ytfmepbpipknblaa.PBu
