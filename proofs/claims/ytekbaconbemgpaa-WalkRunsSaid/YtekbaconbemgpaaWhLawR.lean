/- The document's Run: its walk. Helper text. -/
import Derived.Test.YtekbaconbemgpaaWhRefView
import Derived.Test.YtekbaconbemgpaaWkRefWin
import Derived.Test.YtekbaconbemgpaaWkPlain
import Derived.Test.YtekbaconbemgpaaWhRun
import Derived.Test.YtekbaconbemgpaaWhOwn
import Derived.Test.YtekbaconbemgpaaK5
import Derived.BigQuiet
namespace Go.Proofs.Ytekbaconbemgpaa.PWe
open Go.RowKit Go.Proofs.Ytekbaconbemgpaa.Kx Go.Proofs.YtekbaconbemgpaaW.PrintWords Go.Proofs.YtekbaconbemgpaaW.PrintLast Go.Proofs.YtekbaconbemgpaaW.PrintMore
set_option linter.unusedVariables false
set_option linter.unusedSimpArgs false
theorem mxl_in (l : List Int) : ∀ n : Nat, ∃ j : Nat, j ≤ n ∧ mxl l n = rd l (j : Int)
  | 0 => ⟨0, Nat.le_refl _, rfl⟩
  | n + 1 => by
    rw [mxl]
    obtain ⟨j, hj, e⟩ := mxl_in l n
    split
    · exact ⟨n + 1, Nat.le_refl _, rfl⟩
    · exact ⟨j, by omega, e⟩
theorem mxl_all {l : List Int} {c : Int} (hne : 0 < l.length) (h : ∀ j : Nat, j < l.length → rd l (j : Int) ≤ c) : mxl l (l.length - 1) ≤ c := by
  obtain ⟨j, hj, e⟩ := mxl_in l (l.length - 1)
  rw [e]
  exact h j (by omega)
set_option maxHeartbeats 4000000 in
set_option maxRecDepth 100000 in
theorem runr_calls (a0 : ByteArray) (a1 md v : Int) (l : List S76) (e : Int) (w : World) (hw : busbarref11_Windows.f a0 a1 md = some (l.map s44, e)) (hv0 : 0 ≤ v) (hv1 : v < 2) (hg : e ≠ 0 ∨ (Fit l ∧ ∀ x ∈ l, 0 ≤ x.f0 ∧ x.f0 ≤ 2)) {R : List S47 × Int} (hR : runP md v l e = R) :
    Calls Try.prog 13 #[.string a0, .int .i64 a1, .int .i64 md, .int .i64 v] w fun e' w' => ∃ v0_ : Value, e' = .returned (.tuple #[v0_, .int .i64 R.2]) ∧ Kd.R k48 48 w' w.heap.size (fun _ => True) v0_ (R.1.map s48) ∧ Below w.heap.size w w' := by
  have HW := Aside0.mk hw
  have HRP := Aside0.mk hR
  clear hw hR
  go_enter Try.func13, Try.ntmps13
  go_wp2_with fail
  refine (busbarref11_Windows.calls a0 a1 md (l.map s44) e w HW.out).mono ?_
  rintro e' W1 ⟨vl, rfl, hl, hb⟩
  have HB1 := Aside0.mk hb
  have HL := Aside0.mk (Kd.S_R hl)
  clear hb hl
  by_cases he : e = 0
  · have hk : (e != 0) = false := by simp [he]
    subst he
    obtain ⟨hfit, hx⟩ : Fit l ∧ ∀ x ∈ l, 0 ≤ x.f0 ∧ x.f0 ≤ 2 := by
      rcases hg with h | h
      · exact absurd rfl h
      · exact h
    have HFIT := Aside0.mk hfit
    have HX := Aside0.mk hx
    obtain ⟨Al, cl, el⟩ := Kd.R_slice HL.out
    rw [List.length_map] at el
    subst el
    have hcl := (Kd.R_reads' HL.out).2.1
    have HC := Aside0.mk (Kd.R_reads' HL.out).2.2
    clear hfit hx hg
    go_wp2_with fail
    refine (spansr_calls Al cl l v _ HC.out hcl hv0 hv1 HFIT.out HX.out).mono ?_
    rintro e' W2 ⟨vs, rfl, hs, hb⟩
    have HB2 := Aside0.mk (below_step HB1.out hb)
    have HC2 := Aside0.mk (Kd.C_below HC.out hb)
    obtain ⟨sp, hsp⟩ : ∃ s, spansW (10 + 2 * v) 3 l = s := ⟨_, rfl⟩
    rw [hsp] at hs
    have hne : 0 < sp.length := by rw [← hsp]; exact spansW_ne _ _ _
    obtain ⟨As, cs, es⟩ := Kd.R_slice hs
    subst es
    have hcs := (Kd.R_reads' hs).2.1
    have HCS := Aside0.mk (Kd.R_reads' hs).2.2
    have hrp : runP md v l 0 = if mxl sp (sp.length - 1) > 200 then ([], 16) else (⟨3, 0, 200 + 40 * v, 0, 0, 0, -1, false⟩ :: viewL md (200 + 40 * v) l, 0) := by unfold runP; rw [if_pos rfl, hsp]
    have HRP2 := Aside0.mk (hrp.symm.trans HRP.out)
    have hcm := HCS.out.2.1
    clear hb hs hsp hrp HC HRP HL
    go_wp2_with fail
    go_loopw [13] (fun v13 wr => ∃ i : Nat, i ≤ sp.length ∧ v13 = .int .i64 (i : Int) ∧ (∀ j : Nat, j < i → rd sp (j : Int) ≤ 200) ∧ wr = W2) (fun v13 _ => ((sp.length : Int) - intOf v13).toNat)
    case atStart => exact ⟨0, Nat.zero_le _, rfl, fun j hj => absurd hj (Nat.not_lt_zero _), rfl⟩
    case round =>
      obtain ⟨i, hi, rfl, hall, rfl⟩ := hrel
      have HALL := Aside0.mk hall
      clear hall
      by_cases hlt : i < sp.length
      · have m1 : decide ((i : Int) < (sp.length : Int)) = true := decide_eq_true (by omega)
        have m2 : decide (i < sp.length) = true := decide_eq_true hlt
        have q1 : (0 ≤ (i : Int)) = True := eq_true (by omega)
        have q2 : ((i : Int) < (sp.length : Int)) = True := eq_true (by omega)
        have q3 : (i < sp.length) = True := eq_true hlt
        obtain ⟨ad, hA, u0⟩ := Kd.at_int HCS.out (i : Int) (by omega) (by omega)
        simp only [Int.toNat_natCast] at u0
        subst hA
        obtain ⟨z, hz⟩ : ∃ z, rd sp (i : Int) = z := ⟨_, rfl⟩
        rw [hz] at u0
        have HZ := Aside0.mk hz
        clear hz
        by_cases hbig : 200 < z
        · have d1 : decide (200 < z) = true := decide_eq_true hbig
          have hmx : mxl sp (sp.length - 1) > 200 := by
            have := mxl_ge sp (sp.length - 1) i (by omega)
            rw [HZ.out] at this
            omega
          have hrp := HRP2.out
          rw [if_pos hmx] at hrp
          subst hrp
          clear hbig hmx
          go_wp2_with fail
          go_ret2
          exact ⟨_, rfl, Kd.R_nil _ _ _ _ _, HB2.out⟩
        · have d1 : decide (200 < z) = false := decide_eq_false hbig
          have hall : ∀ j : Nat, j < i + 1 → rd sp (j : Int) ≤ 200 := fun j hj => by
            by_cases h : j < i
            · exact HALL.out j h
            · obtain rfl : j = i := by omega
              rw [HZ.out]; omega
          have HALL2 := Aside0.mk hall
          clear hall hbig
          go_wp2_with fail
          exact ⟨⟨i + 1, by omega, by rw [Int.natCast_add]; rfl, HALL2.out, trivial⟩, by simp [intOf]; omega⟩
      · have m1 : decide ((i : Int) < (sp.length : Int)) = false := decide_eq_false (by omega)
        have m2 : decide (i < sp.length) = false := decide_eq_false hlt
        have hmx : ¬ mxl sp (sp.length - 1) > 200 := by
          have := mxl_all (c := 200) hne (fun j hj => HALL.out j (by omega))
          omega
        have hrp := HRP2.out
        rw [if_neg hmx] at hrp
        subst hrp
        clear hmx hlt
        go_wp2_with fail
        refine (viewr_calls Al cl l v md _ HC2.out hcl hv0 hv1 HFIT.out).mono ?_
        rintro e' W4 ⟨vV, rfl, hV, hb⟩
        have HV := Aside0.mk (Kd.R_lower hV (below_size HB2.out))
        have HB4 := Aside0.mk (below_step HB2.out hb)
        clear hV hb
        go_wp2_with fail
        go_ret2
        exact ⟨_, rfl, HV.out, HB4.out⟩
  · have hk : (e != 0) = true := by simp [he]
    have hrp := HRP.out
    unfold runP at hrp
    rw [if_neg he] at hrp
    subst hrp
    clear he hg
    go_wp2_with fail
    go_ret2
    exact ⟨_, rfl, Kd.R_nil _ _ _ _ _, HB1.out⟩
end Go.Proofs.Ytekbaconbemgpaa.PWe
namespace Go.Proofs.Ytekbaconbemgpaa.PWe
open Go.RowKit Go.Proofs.Ytekbaconbemgpaa.Kx Go.Proofs.YtekbaconbemgpaaW.PrintWords Go.Proofs.YtekbaconbemgpaaW.PrintLast Go.Proofs.YtekbaconbemgpaaW.PrintMore
set_option linter.unusedVariables false
set_option linter.unusedSimpArgs false

section
variable {P : Program} {ops : Array Oper} {Q : Exit → Act → World → Prop} {S : World → Prop} {w wb : World} {K : Act → World → Prop} {l' : Array Bool} {oi : Oper} {a : Act} {fuel : Nat} {N : Option Tmp}
/-- A call in a drawn region whose first result is new: F says what it is. -/
theorem callE (hK : Shut (∀ a' w', S w' → (S w' → wpAnyLast P .any ops Q S [] fuel l' a' w') → K a' w')) (HS : Aside0 (∀ W', Below wb.heap.size wb W' → S W')) (HB : Aside0 (Below wb.heap.size wb w))
    {f : FuncId} {fn : Func} {args : Array Value} (hf : P.funcs[f]? = some fn) {F : Value → World → Prop} {r2 : Value} {a' : Value → Act} (hcall : Calls P f args w fun e w' => ∃ b : Value, e = .returned (.tuple #[b, r2]) ∧ F b w' ∧ Below w.heap.size w w')
    (h : ∀ b W2, F b W2 → Aside0 (Below wb.heap.size wb W2) → Aside0 (Below w.heap.size w W2) → wpAnyLast P .any ops Q S [] fuel l' (a' b) W2)
    {as_ : Array Operand} {ts : Array TypeId} (hop : oi.op = .call { callee := .value (.func f), args := as_, argTypes := ts } := by rfl) (hname : (fn.name == "runtime.NumGoroutine") = false := by rfl) (hb : fn.body.isSome = true := by rfl)
    (hw : Region.wanted oi (yielded ops a.tmps) = true := by rfl) (hN : oi.dst = N := by rfl) (hargs : as_.map a.eval = args := by (simp only [List.map_toArray, List.map_cons, List.map_nil]; first | done | rfl)) (ha : ∀ b : Value, a.put N (.tuple #[b, r2]) = a' b := by (intro b; simp only [Act.put, List.setIfInBounds_toArray, List.set_cons_zero, List.set_cons_succ]; rfl)) :
    if Region.wanted oi (yielded ops a.tmps) = true then Oper.wp P oi a w K Q else K (a.put N undef) w := by
  refine goes_ hf hname hb args hw hN hop hargs (hcall.mono ?_)
  rintro e w2 ⟨b, rfl, hF, hb2⟩
  have hb3 := below_step HB.out hb2
  exact ⟨_, rfl, hK.out _ _ (HS.out _ hb3) fun _ => by rw [ha b]; exact h b w2 hF ⟨hb3⟩ ⟨hb2⟩⟩
end
theorem rslot_at {w W : World} {A : Option Addr} {l : List S47} (h : Kd.C k48 w A (l.map s48).length (l.map s48)) (hb : Below w.heap.size w W) {i : Nat} (hi : i < l.length) {s : S47} (hs : l[i] = s) : ∃ ad, A = some ad ∧ W.cell? (ad.add (i * 8)) = some (.int .i64 s.f0) ∧ W.cell? ⟨(ad.add (i * 8)).block, (ad.add (i * 8)).off + 1, none⟩ = some (.int .i64 s.f1) ∧ W.cell? ⟨(ad.add (i * 8)).block, (ad.add (i * 8)).off + 2, none⟩ = some (.int .i64 s.f2) ∧ W.cell? ⟨(ad.add (i * 8)).block, (ad.add (i * 8)).off + 3, none⟩ = some (.int .i64 s.f3) ∧ W.cell? ⟨(ad.add (i * 8)).block, (ad.add (i * 8)).off + 4, none⟩ = some (.int .i64 s.f4) ∧ W.cell? ⟨(ad.add (i * 8)).block, (ad.add (i * 8)).off + 5, none⟩ = some (.int .i64 s.f5) ∧ W.cell? ⟨(ad.add (i * 8)).block, (ad.add (i * 8)).off + 6, none⟩ = some (.int .i64 s.f6) ∧ W.cell? ⟨(ad.add (i * 8)).block, (ad.add (i * 8)).off + 7, none⟩ = some (.bool s.f7) := by
  subst hs
  have hi2 : i < (l.map s48).length := by rw [List.length_map]; exact hi
  have h := at_T48 h (i : Int) (by omega) (by omega)
  have e : rd_T48 (l.map s48) (i : Int) = s48 l[i] := by
    unfold rd_T48
    rw [Int.toNat_natCast, List.getD_eq_getElem?_getD, List.getElem?_eq_getElem hi2, List.getElem_map]; rfl
  rw [e, Int.toNat_natCast] at h
  obtain ⟨ad, e, x0, x1, x2, x3, x4, x5, x6, x7⟩ := h
  have up : ∀ {p : Addr} {v : Value}, w.cell? p = some v → W.cell? p = some v := fun h => (hb.cell (World.block_lt_of_cell? w _ h)).trans h
  exact ⟨ad, e, up x0, up x1, up x2, up x3, up x4, up x5, up x6, up x7⟩
def runsT7 : Bool × List (List Nat × List Nat) := (true, [([], []), ([0], [0]), ([1], [1]), ([], []), ([], []), ([4, 3], [3, 4]), ([5], [5]), ([], []), ([7], [7]), ([2, 6, 8], [2, 6, 8]), ([9], [9]), ([10], [10]), ([10], [10]), ([11, 9, 0, 1, 2, 3, 4, 5, 6, 7, 8, 9, 10, 11], [11]), ([12, 13, 0, 1, 2, 3, 4, 5, 6, 7, 8, 9, 10, 11, 12, 13], [12])])
theorem runstab7 : rtab .any (opsOf Try.f3 7) = runsT7 := by kernel_rfl
def runsT8 : Bool × List (List Nat × List Nat) := (true, [([], []), ([0], [0]), ([1], [1]), ([], []), ([], []), ([4, 3], [3, 4]), ([5], [5]), ([], []), ([7], [7]), ([], []), ([2, 6, 8, 9], [2, 6, 8, 9]), ([10], [10]), ([11], [11]), ([11], [11]), ([12, 10, 0, 1, 2, 3, 4, 5, 6, 7, 8, 9, 10, 11, 12], [12]), ([13, 14, 0, 1, 2, 3, 4, 5, 6, 7, 8, 9, 10, 11, 12, 13, 14], [13])])
theorem runstab8 : rtab .any (opsOf Try.f3 8) = runsT8 := by kernel_rfl
theorem numbers_quiet {A4 B4 : Option Addr} {c4 b4 : Nat} {l : List Int} (W : World) (n : Nat) (h1 : Kd.C (Kd.int .i64) W A4 l.length l) (k1 : l.length ≤ c4) (h2 : Kd.C (Kd.int .i64) W B4 l.length l) (k2 : l.length ≤ b4) (hl : l.length ≤ 100) :
    Calls Try.prog 15 #[.slice A4 l.length c4, .slice B4 l.length b4] (W.drewN n) fun e w'' => e = .returned (.int .i64 1) ∧ ∃ m, w'' = W.drewN m :=
  Calls.quiet_of ((busbarlaw11_numbers.calls 200 A4 c4 l B4 b4 l 1 (W.drewN n) (Kd.C_below h1 (below_drewN (Below.refl _ _) n)) k1 (Kd.C_below h2 (below_drewN (Below.refl _ _) n)) k2 (numbers_f l hl)).mono fun _ _ h => ⟨h.1, h.2.out⟩)
/-- What both reads of the document's walk look at. -/
def Seen (g : Nat) (v : Int) (v0 v1 v3 : Value) (s : ByteArray) (W' : World) : Prop :=
  W'.cell? ⟨g, 0, none⟩ = some v0 ∧ W'.cell? ⟨g, 1 + v.toNat, none⟩ = some v1 ∧ W'.cell? ⟨g, 3, none⟩ = some v3 ∧ (Go.convert 23 9 v3).run Try.prog W' = .ok (.string s) W' ∧ True ∧ True
set_option maxHeartbeats 4000000 in
set_option maxRecDepth 100000 in
theorem runs_walk (md e0 e1 : Int) (A : Option Addr) (c : Nat) (code : List Int) (v : Int) (w : World) (hr : Kd.C (Kd.int .u8) w A code.length code) (hc : code.length ≤ c) (hb : Bytes code) :
    Calls Try.prog 3 #[.agg #[.int .i64 md, .int .i64 e0, .int .i64 e1, .slice A code.length c], .int .i64 v] w fun e w' => e = .returned (.bool true) ∧ Below w.heap.size w w' := by
  have HB : Aside0 (Below w.heap.size w w) := ⟨Below.refl _ _⟩
  have HR := Aside0.mk hr
  have HBY := Aside0.mk hb
  clear hr hb
  by_cases h1 : 1100 < code.length
  · have d1 : decide (1100 < (code.length : Int)) = true := decide_eq_true (by omega)
    have d2 : decide (1100 < code.length) = true := decide_eq_true h1
    clear h1
    go_enter Try.func3, Try.ntmps3
    go_wp2_with (first | ((with_reducible refine gate_dst (N := 2) rfl ?_); refine boxN (w := w) rfl (N := 2) rfl (cs := #[.int .i64 md, .int .i64 e0, .int .i64 e1, .slice A code.length c]) (t := 25) (by first | (go_simp; done) | (go_simp; rfl)) HB ?_; intro g0 W0 H0 Lg0 HB_W0 K_W0; have z3 : W0.cell? ⟨g0, 3, none⟩ = some (.slice A code.length c) := cell_in H0.out 3))
    go_ret
    exact ⟨rfl, HB_W0.out⟩
  have d1 : decide (1100 < (code.length : Int)) = false := decide_eq_false (by omega)
  have d2 : decide (1100 < code.length) = false := decide_eq_false h1
  obtain ⟨l, e, hw, hh⟩ := windows_ok (md := md) (e0 := e0) (e1 := e1) (v := v) HBY.out
  have hg : RunOK md v l e := by rcases hh with h | h; exact .inl h; exact .inr (by omega)
  have hl32 : l.length ≤ 32 := by rcases hh with h | h; exact h.2.2.2.1; rw [h.1]; exact Nat.zero_le _
  have hfit : e ≠ 0 ∨ (Fit l ∧ ∀ x ∈ l, 0 ≤ x.f0 ∧ x.f0 ≤ 2) := by
    rcases hg with h | h
    · exact .inr (fit_good h.2.2.2.1 h.2.2.2.2)
    · exact .inl h
  obtain ⟨⟨L, er⟩, hR⟩ : ∃ p, runP md v l e = p := ⟨_, rfl⟩
  have HRR := Aside0.mk hR
  have HW := Aside0.mk hw
  have HG := Aside0.mk hg
  have HFIT := Aside0.mk hfit
  have hfl : Fit l := by
    rcases hh with h | h
    · exact (fit_good h.2.2.2.1 h.2.2.2.2).1
    · rw [h.1]; exact ⟨Nat.zero_le _, fun x hx => nomatch hx⟩
  have HFL := Aside0.mk hfl
  have hL2000 : L.length ≤ 2000 := by have h := runP_len md v l e (by omega); rw [hR] at h; exact h
  clear hR hw hg hfit hh h1 hfl
  go_enter Try.func3, Try.ntmps3
  go_wp2_with (first | ((with_reducible refine gate_dst (N := 2) rfl ?_); refine boxN (w := w) rfl (N := 2) rfl (cs := #[.int .i64 md, .int .i64 e0, .int .i64 e1, .slice A code.length c]) (t := 25) (by first | (go_simp; done) | (go_simp; rfl)) HB ?_; intro g0 W0 H0 Lg0 HB_W0 K_W0; have z3 : W0.cell? ⟨g0, 3, none⟩ = some (.slice A code.length c) := cell_in H0.out 3) | ((with_reducible refine gate_dst (N := 21) rfl ?_); refine wpList_load_row rfl 25 _ rfl g0 rfl 25 _ (0, 0) _ H0.out Try.underlying25 rfl (by kernel_rfl) ?_))
  refine (walk_Windows.calls md e0 e1 A c code v l e W0 (Kd.C_below HR.out HB_W0.out) hc HW.out).mono ?_
  rintro e' W1 ⟨vl, rfl, hl, hb⟩
  have HB1 := Aside0.mk (below_step HB_W0.out hb)
  have HL := Aside0.mk (Kd.R_lower (Kd.S_R hl) (below_size HB_W0.out))
  have H1 := Aside0.mk (blk_below H0.out hb)
  clear hb hl H0 HB_W0 K_W0 d1 d2 z3
  obtain ⟨Al, cl, el⟩ := Kd.R_slice HL.out
  subst el
  have hcl := (Kd.R_reads' HL.out).2.1
  have HLC := Aside0.mk (Kd.R_reads' HL.out).2.2
  clear HL
  go_wp2_with (first | ((with_reducible refine gate_dst (N := 27) rfl ?_); refine wpList_load_row rfl 25 _ rfl g0 rfl 25 _ (0, 0) _ H1.out Try.underlying25 rfl (by kernel_rfl) ?_))
  refine (run_calls md e0 e1 A c code v l e W1 (Kd.C_below HR.out HB1.out) hc HW.out HG.out HRR.out).mono ?_
  rintro e' W2 ⟨vL, rfl, hL, hb⟩
  have HB2 := Aside0.mk (below_step HB1.out hb)
  have H2 := Aside0.mk (blk_below H1.out hb)
  have HLC2 := Aside0.mk (Kd.C_below HLC.out hb)
  obtain ⟨AL, cL, eL⟩ := Kd.R_slice hL
  subst eL
  have hcL := (Kd.R_reads' hL).2.1
  have HRC := Aside0.mk (Kd.R_reads' hL).2.2
  clear hb hL H1 HB1 HLC
  dsimp only
  have y0 : W2.cell? ⟨g0, 0, none⟩ = some (.int .i64 md) := cell_in H2.out 0
  have y3 : W2.cell? ⟨g0, 3, none⟩ = some (.slice A code.length c) := cell_in H2.out 3
  obtain ⟨s, hs⟩ : ∃ s, Go.strOfNums code = s := ⟨_, rfl⟩
  have HSS := Aside0.mk hs
  have cv : (Go.convert 23 9 (.slice A code.length c)).run Try.prog W2 = .ok (.string s) W2 := by
    rw [← hs]
    exact Kd.C_string Try.underlying23 Try.underlying5 Try.underlying9 (Kd.C_below HR.out HB2.out)
  clear hs
  go_wp2_with (first | ((with_reducible refine gate_dst (N := 35) rfl ?_); refine wpList_load_cells rfl 22 _ rfl _ rfl [.int .i64 e0, .int .i64 e1] _ (fun j hj => by rcases (by simp at hj; omega : j = 0 ∨ j = 1) with rfl | rfl; exact cell_in H2.out 1; exact cell_in H2.out 2) Try.underlying22 rfl (by kernel_rfl) ?_))
  refine (busbarref10_Right.calls md e0 e1 s (decide (imgOK md e0 e1 code.length)) W2 (by rw [rightr_f, ← HSS.out, Go.strOfNums_size])).mono ?_
  rintro e' W3 ⟨rfl, hb⟩
  have HB3 := Aside0.mk (below_step HB2.out hb)
  have H3 := Aside0.mk (blk_below H2.out hb)
  have HLC3 := Aside0.mk (Kd.C_below HLC2.out hb)
  have HRC3 := Aside0.mk (Kd.C_below HRC.out hb)
  clear hb H2 HB2 HLC2 HRC cv y0 y3
  by_cases hok : imgOK md e0 e1 code.length ∧ 0 ≤ v ∧ v < 2
  · have r0 : decide (imgOK md e0 e1 code.length) = true := decide_eq_true hok.1
    have r1 : decide (v < 0) = false := decide_eq_false (by omega)
    have r2 : decide (1 < v) = false := decide_eq_false (by omega)
    have hv0 := hok.2.1
    have hv1 := hok.2.2
    have HIM := Aside0.mk hok.1
    have p1 : (0 ≤ v) = True := eq_true hv0
    have p2 : (v < 2) = True := eq_true hv1
    clear hok
    rw [r0]
    clear r0
    go_wp2_with fail
    (try simp only [Act.put, List.setIfInBounds_toArray, List.set_cons_zero, List.set_cons_succ])
    have hwp : winP md code 4096 (entry e0 e1 v) [] [] = (l, e) := by
      have h := win_same HBY.out HIM.out hv0 hv1
      rw [HW.out] at h
      exact (Option.some.inj h).symm
    have hwr := winr_same HBY.out HIM.out hwp
    rw [HSS.out] at hwr
    have HWR := Aside0.mk hwr
    have HSE : Aside0 (∀ W', Below W3.heap.size W3 W' → Seen g0 v (.int .i64 md) (.int .i64 (entry e0 e1 v)) (.slice A code.length c) s W') := ⟨fun W' hb => by
      refine ⟨cell_in (blk_below H3.out hb) 0, (cell_in (blk_below H3.out hb) _).trans ?_, cell_in (blk_below H3.out hb) 3, ?_, trivial, trivial⟩
      · rcases (by omega : v = 0 ∨ v = 1) with rfl | rfl <;> rfl
      · rw [← HSS.out]
        exact Kd.C_string Try.underlying23 Try.underlying5 Try.underlying9 (Kd.C_below HR.out (below_step HB3.out hb))⟩
    have K3 : Aside0 (Below W3.heap.size W3 W3) := ⟨Below.refl _ _⟩
    clear hwp hwr
    refine startD 15 runstab7 HSE K3 (fun W4 HT B4 K4 => ?_)
    refine pureD 0 (some 67) (lb 15 0x1) HT ?_
    refine takeD 1 (some 68) (lb 15 0x3) HT HSE B4 ?_
    refine takeD 2 (some 69) (lb 15 0x7) HT HSE B4 ?_
    refine pureD 3 (some 70) (lb 15 0xf) HT ?_
    refine pureD 4 (some 71) (lb 15 0x1f) HT ?_
    refine pureD 5 (some 72) (lb 15 0x3f) HT ?_
    refine takeD 6 (some 73) (lb 15 0x7f) HT HSE B4 ?_
    refine pureD 7 (some 74) (lb 15 0xff) HT ?_
    refine takeD 8 (some 75) (lb 15 0x1ff) HT HSE B4 ?_
    refine oneD 9 (some 76) (lb 15 0x3ff) HT (fun K hK => ?_)
    refine callE hK HSE B4 Try.func12 (r2 := .int .i64 e) (F := fun b w' => ∃ Ax cx, b = .slice Ax l.length cx ∧ l.length ≤ cx ∧ Kd.C k44 w' Ax (l.map s44).length (l.map s44)) ((busbarref11_Windows.calls s (entry e0 e1 v) md (l.map s44) e W4 HWR.out).mono ?_) (fun b W5 hF B5 K5 => ?_)
    · rintro e' W' ⟨vx, rfl, hx, hb⟩
      obtain ⟨Ax, cx, ex⟩ := Kd.R_slice (Kd.S_R hx)
      subst ex
      have h := Kd.R_reads' (Kd.S_R hx)
      exact ⟨_, rfl, ⟨Ax, cx, by rw [List.length_map], by have := h.2.1; rwa [List.length_map] at this, h.2.2⟩, hb⟩
    obtain ⟨Ax, cx, rfl, hcx, hxc⟩ := hF
    have HXC := Aside0.mk hxc
    clear hxc
    refine pureD 10 (some 66) (lb 15 0x7ff) HT ?_
    refine pureD 11 (some 77) (lb 15 0xfff) HT ?_
    refine pureD 12 (some 78) (lb 15 0x1fff) HT ?_
    refine pureD 13 (some 9) (lb 15 0x3fff) HT ?_
    refine pureD 14 (some 10) (lb 15 0x7fff) HT ?_
    refine doneD HT ?_
    clear HT
    go_wp2_with fail
    (try simp only [Act.put, List.setIfInBounds_toArray, List.set_cons_zero, List.set_cons_succ])
    refine startD 16 runstab8 HSE B5 (fun W6 HT B6 K6 => ?_)
    refine pureD 0 (some 80) (lb 16 0x1) HT ?_
    refine takeD 1 (some 81) (lb 16 0x3) HT HSE B6 ?_
    refine takeD 2 (some 82) (lb 16 0x7) HT HSE B6 ?_
    refine pureD 3 (some 83) (lb 16 0xf) HT ?_
    refine pureD 4 (some 84) (lb 16 0x1f) HT ?_
    refine pureD 5 (some 85) (lb 16 0x3f) HT ?_
    refine takeD 6 (some 86) (lb 16 0x7f) HT HSE B6 ?_
    refine pureD 7 (some 87) (lb 16 0xff) HT ?_
    refine takeD 8 (some 88) (lb 16 0x1ff) HT HSE B6 ?_
    refine pureD 9 (some 89) (lb 16 0x3ff) HT ?_
    refine oneD 10 (some 90) (lb 16 0x7ff) HT (fun K hK => ?_)
    refine callE hK HSE B6 Try.func13 (r2 := .int .i64 er) (F := fun b w' => ∃ Ay cy, b = .slice Ay L.length cy ∧ L.length ≤ cy ∧ Kd.C k48 w' Ay (L.map s48).length (L.map s48)) ((runr_calls s (entry e0 e1 v) md v l e W6 HWR.out hv0 hv1 HFIT.out HRR.out).mono ?_) (fun b W7 hF B7 K7 => ?_)
    · rintro e' W' ⟨vx, rfl, hx, hb⟩
      obtain ⟨Ay, cy, ex⟩ := Kd.R_slice hx
      subst ex
      have h := Kd.R_reads' hx
      exact ⟨_, rfl, ⟨Ay, cy, by rw [List.length_map], by have := h.2.1; rwa [List.length_map] at this, h.2.2⟩, hb⟩
    obtain ⟨Ay, cy, rfl, hcy, hyc⟩ := hF
    have HYC := Aside0.mk hyc
    have HXC7 := Aside0.mk (Kd.C_below (Kd.C_below HXC.out K6.out) K7.out)
    have HLC7 := Aside0.mk (Kd.C_below HLC3.out B7.out)
    have HRC7 := Aside0.mk (Kd.C_below HRC3.out B7.out)
    have HB7 := Aside0.mk (below_step HB3.out B7.out)
    clear hyc HXC
    refine pureD 11 (some 79) (lb 16 0xfff) HT ?_
    refine pureD 12 (some 91) (lb 16 0x1fff) HT ?_
    refine pureD 13 (some 92) (lb 16 0x3fff) HT ?_
    refine pureD 14 (some 11) (lb 16 0x7fff) HT ?_
    refine pureD 15 (some 12) (lb 16 0xffff) HT ?_
    refine doneD HT ?_
    clear HT HSE K3 B4 K4 B5 K5 B6 K6 B7 K7 H3 HB3 HLC3 HRC3
    go_wp2_with fail
    refine (own_calls Al cl l W7 HLC7.out hcl (by omega)).mono ?_
    rintro e' W8 ⟨Ao, co, rfl, hco, hoc, hb⟩
    have HOC := Aside0.mk hoc
    have HXC8 := Aside0.mk (Kd.C_below HXC7.out hb)
    have HYC8 := Aside0.mk (Kd.C_below HYC.out hb)
    have HRC8 := Aside0.mk (Kd.C_below HRC7.out hb)
    have HB8 := Aside0.mk (below_step HB7.out hb)
    clear hoc hb HXC7 HYC HRC7 HB7 HLC7 p1 p2 r1 r2
    go_wp2_with fail
    go_loopw [14] (fun v14 wr => ∃ i : Nat, i ≤ l.length ∧ v14 = .int .i64 (i : Int) ∧ Below W8.heap.size W8 wr) (fun v14 _ => ((l.length : Int) - intOf v14).toNat)
    case atStart => exact ⟨0, Nat.zero_le _, rfl, Below.refl _ _⟩
    case round =>
      obtain ⟨i, hi, rfl, hb⟩ := hrel
      have HBr := Aside0.mk hb
      clear hb
      by_cases hlt : i < l.length
      · have m1 : decide ((i : Int) < (l.length : Int)) = true := decide_eq_true (by omega)
        have m2 : decide (i < l.length) = true := decide_eq_true hlt
        have q1 : (0 ≤ (i : Int)) = True := eq_true (by omega)
        have q2 : ((i : Int) < (l.length : Int)) = True := eq_true (by omega)
        have q3 : (i < l.length) = True := eq_true hlt
        obtain ⟨x, hx⟩ : ∃ x, l[i] = x := ⟨_, rfl⟩
        have hxf : x.f4.length ≤ 100 ∧ x.f5.length ≤ 100 := by rw [← hx]; exact HFL.out.2 _ (List.getElem_mem hlt)
        obtain ⟨ao, A4, c4, A5, c5, hA, hcl1, hl4, hr4, hl5, hr5⟩ := rwin_at HOC.out hlt hx
        obtain ⟨ax, B4, b4, B5, b5, hB, hcl2, kl4, kr4, kl5, kr5⟩ := rwin_at HXC8.out hlt hx
        subst hA hB
        obtain ⟨x0, x1, x2, x3, x4, x5⟩ := hcl1 _ HBr.out
        obtain ⟨y0, y1, y2, y3, y4, y5⟩ := hcl2 _ HBr.out
        have HC1 := Aside0.mk hcl1
        have HC2 := Aside0.mk hcl2
        have HR4 := Aside0.mk hr4
        have HR5 := Aside0.mk hr5
        have KR4 := Aside0.mk kr4
        have KR5 := Aside0.mk kr5
        clear hcl1 hcl2 hr4 hr5 kr4 kr5 hx
        go_wp2_with fail
        simp only [List.append]
        go_wp2_with fail
        go_quiet (first | (go_at_call 15; exact numbers_quiet wr _ (Kd.C_below HR4.out HBr.out) hl4 (Kd.C_below KR4.out HBr.out) kl4 hxf.1) | (go_at_call 15; exact numbers_quiet wr _ (Kd.C_below HR5.out HBr.out) hl5 (Kd.C_below KR5.out HBr.out) kl5 hxf.2))
        go_wp2_with fail
        exact ⟨⟨i + 1, by omega, by rw [Int.natCast_add]; rfl, below_drewN HBr.out nq⟩, by simp [intOf]; omega⟩
      · have m1 : decide ((i : Int) < (l.length : Int)) = false := decide_eq_false (by omega)
        have m2 : decide (i < l.length) = false := decide_eq_false hlt
        have HYC9 := Aside0.mk (Kd.C_below HYC8.out HBr.out)
        have HRC9 := Aside0.mk (Kd.C_below HRC8.out HBr.out)
        have HB9 := Aside0.mk (below_step HB8.out HBr.out)
        clear hlt HYC8 HRC8 HB8 HBr HOC HXC8
        go_wp2_with fail
        go_loopw [15] (fun v15 wr2 => ∃ i n : Nat, i ≤ L.length ∧ v15 = .int .i64 (i : Int) ∧ wr2 = wr.drewN n) (fun v15 _ => ((L.length : Int) - intOf v15).toNat)
        case atStart => exact ⟨0, 0, Nat.zero_le _, rfl, rfl⟩
        case round =>
          obtain ⟨j, nd, hj, rfl, rfl⟩ := hrel
          by_cases hlt2 : j < L.length
          · have m1 : decide ((j : Int) < (L.length : Int)) = true := decide_eq_true (by omega)
            have m2 : decide (j < L.length) = true := decide_eq_true hlt2
            have p1 : (0 ≤ (j : Int)) = True := eq_true (by omega)
            have p2 : ((j : Int) < (L.length : Int)) = True := eq_true (by omega)
            have p3 : (j < L.length) = True := eq_true hlt2
            obtain ⟨s, hs⟩ : ∃ s, L[j] = s := ⟨_, rfl⟩
            obtain ⟨adx, ex, x0, x1, x2, x3, x4, x5, x6, x7⟩ := slot_at HRC9.out (Below.refl _ _) hlt2 hs
            obtain ⟨ady, ey, y0, y1, y2, y3, y4, y5, y6, y7⟩ := rslot_at HYC9.out (Below.refl _ _) hlt2 hs
            subst ex ey
            clear hs
            go_wp2_with fail
            go_quiet (fail)
            go_wp2_with fail
            exact ⟨⟨j + 1, nd + nq, by omega, by rw [Int.natCast_add]; rfl, rfl⟩, by simp [intOf]; omega⟩
          · have m1 : decide ((j : Int) < (L.length : Int)) = false := decide_eq_false (by omega)
            have m2 : decide (j < L.length) = false := decide_eq_false hlt2
            clear hlt2
            go_wp2_with fail
            refine (one_calls _).mono ?_
            rintro e W9 ⟨rfl, hb9⟩
            go_wp2
            go_ret
            exact ⟨rfl, below_step (below_drewN HB9.out nd) hb9⟩
  · obtain ⟨rfl, rfl⟩ : l = [] ∧ e = 2 := by
      have h := win_bad hok
      rw [HW.out] at h
      exact Prod.mk.inj (Option.some.inj h)
    obtain ⟨rfl, rfl⟩ : L = [] ∧ er = 2 := by
      have h := HRR.out
      have e : runP md v [] 2 = ([], 2) := rfl
      rw [e] at h
      exact ⟨(Prod.mk.inj h).1.symm, (Prod.mk.inj h).2.symm⟩
    by_cases hi : imgOK md e0 e1 code.length
    · have r0 : decide (imgOK md e0 e1 code.length) = true := decide_eq_true hi
      rw [r0]
      clear r0
      by_cases hv : v < 0
      · have r1 : decide (v < 0) = true := decide_eq_true hv
        clear hok hi hv
        go_wp2_with fail
        refine (one_calls _).mono ?_
        rintro e W9 ⟨rfl, hb9⟩
        go_wp2
        go_ret
        exact ⟨rfl, below_step HB3.out hb9⟩
      · have r1 : decide (v < 0) = false := decide_eq_false hv
        have r2 : decide (1 < v) = true := decide_eq_true (by rcases Decidable.not_and_iff_or_not.1 hok with h | h; exact absurd hi h; omega)
        clear hok hi hv
        go_wp2_with fail
        refine (one_calls _).mono ?_
        rintro e W9 ⟨rfl, hb9⟩
        go_wp2
        go_ret
        exact ⟨rfl, below_step HB3.out hb9⟩
    · have r0 : decide (imgOK md e0 e1 code.length) = false := decide_eq_false hi
      rw [r0]
      clear r0 hok hi
      go_wp2_with fail
      refine (one_calls _).mono ?_
      rintro e W9 ⟨rfl, hb9⟩
      go_wp2
      go_ret
      exact ⟨rfl, below_step HB3.out hb9⟩
end Go.Proofs.Ytekbaconbemgpaa.PWe
namespace Go.Proofs.Ytekbaconbemgpaa.PWe
open Go.RowKit Go.Proofs.Ytekbaconbemgpaa.Kx Go.Proofs.YtekbaconbemgpaaW.PrintWords Go.Proofs.YtekbaconbemgpaaW.PrintLast Go.Proofs.YtekbaconbemgpaaW.PrintMore
set_option linter.unusedVariables false
set_option linter.unusedSimpArgs false
/-- An image, as its cells say. -/
structure Img where
  f0 : Int
  f1 : Int
  f2 : Int
  A3 : Option Addr
  l3 : List Int
  c3 : Nat
def Img.arr (x : Img) : Array Value := #[.int .i64 x.f0, .int .i64 x.f1, .int .i64 x.f2, .slice x.A3 x.l3.length x.c3]
def RImg (w : World) (cs : List Value) (x : Img) : Prop := cs = x.arr.toList ∧ Kd.C (Kd.int .u8) w x.A3 x.l3.length x.l3 ∧ x.l3.length ≤ x.c3 ∧ Bytes x.l3
theorem opn_array1 {t e : TypeId} {n : Nat} (ht : Try.prog.underlying t = some (.array n e)) {H : Type} {enc : TypeId × Value → H} {w : World} {held : Bool} {fuel : Nat} {cs : List Value} {d : DataW H × List MemPlace}
    (h : DataW.trod enc Try.prog w 0 (fun _ => true) held fuel t cs = some d) (k : Nat) (hk : Try.prog.cellsOf e = k) (i : Nat) (hi : i < n) : ∃ m y, DataW.trod enc Try.prog w 0 (fun _ => true) held m e ((cs.drop (i * k)).take k) = some y := by
  subst hk
  exact (opn_array ht h).2 i hi
theorem opn_img : Opn 25 RImg := by
  intro H enc w held fuel cs d h
  have hn : Try.prog.cellsOf 3 = 1 := by kernel_rfl
  have hs : Try.prog.cellsOf 23 = 1 := by kernel_rfl
  have ha : Try.prog.cellsOf 22 = 2 := by kernel_rfl
  have h4 : cs.length = 4 := by rw [(opn_struct Try.underlying25 h).1]; kernel_rfl
  obtain ⟨x0, x1, x2, x3, rfl⟩ := list4 cs h4
  obtain ⟨m0, y0, h0⟩ := opn_field Try.underlying25 h 0 3 0 1 (by kernel_rfl) hn
  obtain ⟨mF, yF, hF⟩ := opn_field Try.underlying25 h 1 22 1 2 (by kernel_rfl) ha
  obtain ⟨m3, y3, h3⟩ := opn_field Try.underlying25 h 2 23 3 1 (by kernel_rfl) hs
  obtain ⟨m1, y1, h1⟩ := opn_array1 Try.underlying22 hF 1 hn 0 (by decide)
  obtain ⟨m2, y2, h2⟩ := opn_array1 Try.underlying22 hF 1 hn 1 (by decide)
  obtain ⟨a0, e0, _⟩ := opn_int Try.underlying3 _ _ _ _ _ _ h0
  obtain ⟨a1, e1, _⟩ := opn_int Try.underlying3 _ _ _ _ _ _ h1
  obtain ⟨a2, e2, _⟩ := opn_int Try.underlying3 _ _ _ _ _ _ h2
  obtain ⟨l3, A3, c3, e3, hl3, hm3, hr3⟩ := opn_slice (n := 1) (R := RInt .u8) Try.underlying23 (by kernel_rfl) (opn_int Try.underlying5) _ _ _ _ _ _ h3
  simp at e0 e1 e2 e3
  exact ⟨⟨a0, a1, a2, A3, l3, c3⟩, by rw [e0, e1, e2, e3]; rfl, rsl_reads (d := Kd.int .u8) hr3 (fun cs x hx => hx.1) (Nat.le_trans hl3 hm3), hl3, fun x hx => wf_u8 (hr3.ints.2 x hx)⟩
theorem runs_row (x : Img) (a1 : Int) (w : World) (hx : Kd.C (Kd.int .u8) w x.A3 x.l3.length x.l3 ∧ x.l3.length ≤ x.c3 ∧ Bytes x.l3) (_ : (Lit.int .i64 a1).wf = true) :
    Calls Try.prog 3 #[.agg x.arr, .int .i64 a1] w fun e w' => e = .returned (.bool true) ∧ Below w.heap.size w w' :=
  runs_walk x.f0 x.f1 x.f2 x.A3 x.c3 x.l3 a1 w hx.1 hx.2.1 hx.2.2
end Go.Proofs.Ytekbaconbemgpaa.PWe
