/- compile.Load: walk. Helper text. -/
import Derived.Test.YtbaapakkdnhcmaaCcFor
namespace Go.Proofs.Ytbaapakkdnhcmaa.PWe
open Go.RowKit Go.Proofs.Ytbaapakkdnhcmaa.Kx Go.Proofs.YtbaapakkdnhcmaaW.PrintWords Go.Proofs.YtbaapakkdnhcmaaW.PrintLast Go.Proofs.YtbaapakkdnhcmaaW.PrintMore
set_option linter.unusedVariables false
set_option linter.unusedSimpArgs false

/-- What an image's walk comes to, in a version. -/
def walkR (md e0 e1 : Int) (code : List Int) (v : Int) : List S47 × Int := match walk_Windows.f md e0 e1 code v with | some (l, e) => runP md v l e | none => ([], 2)
theorem walk_calls (md e0 e1 : Int) (A : Option Addr) (c : Nat) (code : List Int) (v : Int) (w : World) (hr : Kd.C (Kd.int .u8) w A code.length code) (hc : code.length ≤ c) (hb : Byts code) {R : List S47 × Int} (hR : walkR md e0 e1 code v = R) :
    Calls Try.prog 12 #[.agg #[.int .i64 md, .int .i64 e0, .int .i64 e1, .slice A code.length c], .int .i64 v] w fun e' w' => ∃ v0_ : Value, e' = .returned (.tuple #[v0_, .int .i64 R.2]) ∧ Kd.R k47 64 w' w.heap.size (fun _ => True) v0_ R.1 ∧ Below w.heap.size w w' := by
  obtain ⟨l, e, hw, hh⟩ := windows_ok (md := md) (e0 := e0) (e1 := e1) (v := v) (code := code) (fun x hx => by have := hb x hx; omega)
  have hg : RunOK md v l e := by rcases hh with h | h; exact .inl h; exact .inr (by omega)
  refine run_calls md e0 e1 A c code v l e w hr hc hw hg ?_
  rw [← hR, walkR, hw]
/-- What a table's bytes are loaded as, or why not. -/
def loadP (b : List Int) : (Int × List S47 × List S47) × Int :=
  if (tblP b).2 ≠ 0 then ((0, [], []), (tblP b).2) else
  if (walkR (tblP b).1.1 (tblP b).1.2.1 (tblP b).1.2.2.1 (tblP b).1.2.2.2 0).2 ≠ 0 then ((0, [], []), (walkR (tblP b).1.1 (tblP b).1.2.1 (tblP b).1.2.2.1 (tblP b).1.2.2.2 0).2) else
  if (walkR (tblP b).1.1 (tblP b).1.2.1 (tblP b).1.2.2.1 (tblP b).1.2.2.2 1).2 ≠ 0 then ((0, [], []), (walkR (tblP b).1.1 (tblP b).1.2.1 (tblP b).1.2.2.1 (tblP b).1.2.2.2 1).2) else
  (((tblP b).1.1, (walkR (tblP b).1.1 (tblP b).1.2.1 (tblP b).1.2.2.1 (tblP b).1.2.2.2 0).1, (walkR (tblP b).1.1 (tblP b).1.2.1 (tblP b).1.2.2.1 (tblP b).1.2.2.2 1).1), 0)
theorem tbl_byts {b : List Int} (hb : Byts b) : Byts (tblP b).1.2.2.2 := by
  unfold tblP
  repeat' split
  all_goals first | exact (fun c hc => by cases hc) | exact fun c hc => hb c (List.mem_of_mem_take (List.mem_of_mem_drop hc))
def prgCs (md : Int) (A0 : Option Addr) (n0 c0 : Nat) (A1 : Option Addr) (n1 c1 : Nat) : Array Value := #[.int .i64 md, .slice A0 n0 c0, .slice A1 n1 c1]
/-- Slots as they lie, apart from two blocks. -/
def SlotsAt (g2 g6 : Nat) (A : Option Addr) (n c : Nat) (L : List S47) (W : World) : Prop := n = L.length ∧ n ≤ c ∧ Kd.C k47 W A L.length L ∧ ∀ ad, A = some ad → ad.block ≠ g2 ∧ ad.block ≠ g6
theorem C47_same {w W : World} {A : Option Addr} {n : Nat} {xs : List S47} (h : Kd.C k47 w A n xs) (hne : ∀ ad, A = some ad → W.heap[ad.block]? = w.heap[ad.block]?) : Kd.C k47 W A n xs := by
  refine ⟨h.1, h.2.1, fun hn => ?_⟩
  obtain ⟨ad, hA, hc⟩ := h.2.2 hn
  refine ⟨ad, hA, fun j p hj => ?_⟩
  obtain ⟨cs, hl, hK, hcell⟩ := hc j p hj
  obtain rfl := k47_open hK
  exact ⟨_, hl, k47_mk W p, fun i u hu => by rw [← hcell i u hu]; exact cell_same (by rw [add_block]; exact hne ad hA)⟩
theorem C_low {k : IntKind} {w W : World} {A : Option Addr} {n : Nat} {xs : List Int} (h : Kd.C (Kd.int k) w A n xs) (ho : ∀ b, b < w.heap.size → W.heap[b]? = w.heap[b]?) : Kd.C (Kd.int k) W A n xs := by
  refine ⟨h.1, h.2.1, fun hn => ?_⟩
  obtain ⟨ad, hA, hc⟩ := h.2.2 hn
  refine ⟨ad, hA, fun j p hj => ?_⟩
  obtain ⟨cs, hl, hK, hcell⟩ := hc j p hj
  exact ⟨cs, hl, hK, fun i u hu => by rw [← hcell i u hu]; exact cell_same (ho _ (World.block_lt_of_cell? w _ (hcell i u hu)))⟩
theorem SlotsAt.set {g2 g6 : Nat} {A : Option Addr} {n c : Nat} {L : List S47} {w W : World} (h : SlotsAt g2 g6 A n c L w) {g : Nat} (hg : g = g2 ∨ g = g6) (ho : ∀ b, b ≠ g → W.heap[b]? = w.heap[b]?) : SlotsAt g2 g6 A n c L W :=
  ⟨h.1, h.2.1, C47_same h.2.2.1 (fun ad ha => ho _ (by have := h.2.2.2 ad ha; rcases hg with e | e; rw [e]; exact this.1; rw [e]; exact this.2)), h.2.2.2⟩
theorem SlotsAt.below {g2 g6 : Nat} {A : Option Addr} {n c : Nat} {L : List S47} {w W : World} (h : SlotsAt g2 g6 A n c L w) (hb : Below w.heap.size w W) : SlotsAt g2 g6 A n c L W := ⟨h.1, h.2.1, Kd.C_below h.2.2.1 hb, h.2.2.2⟩
theorem slotsAt_R {g2 g6 : Nat} {A : Option Addr} {n c : Nat} {L : List S47} {W : World} {base : Nat} (h : Kd.R k47 64 W base (fun _ => True) (.slice A n c) L) {c2 c6 : Array Value} {t2 t6 : TypeId} (h2 : W.heap[g2]? = some (.cells c2 t2 (0, 0))) (h6 : W.heap[g6]? = some (.cells c6 t6 (0, 0))) (e2 : t2 ≠ 64) (e6 : t6 ≠ 64) : SlotsAt g2 g6 A n c L W := by
  have hr := Kd.R_reads' h
  have n2 := Kd.R_ne h h2 e2.symm
  have n6 := Kd.R_ne h h6 e6.symm
  exact ⟨hr.1, hr.2.1, hr.2.2, fun ad ha => ⟨fun e => n2 (by rw [ha, ← e]; rfl), fun e => n6 (by rw [ha, ← e]; rfl)⟩⟩
set_option maxHeartbeats 4000000 in
set_option maxRecDepth 100000 in
theorem load_calls (A : Option Addr) (c : Nat) (b : List Int) (w : World) (hr : Kd.C (Kd.int .u8) w A b.length b) (hc : b.length ≤ c) (hb : Byts b) (hl : b.length ≤ 100000) {r : (Int × List S47 × List S47) × Int} (hres : loadP b = r) :
    Calls Try.prog 13 #[.slice A b.length c] w fun e w' => ∃ A0 c0 A1 c1, e = .returned (.tuple #[.agg (prgCs r.1.1 A0 r.1.2.1.length c0 A1 r.1.2.2.length c1), .int .i64 r.2]) ∧ (r.1.2.1.length ≤ c0 ∧ Kd.C k47 w' A0 r.1.2.1.length r.1.2.1) ∧ (r.1.2.2.length ≤ c1 ∧ Kd.C k47 w' A1 r.1.2.2.length r.1.2.2) ∧ Below w.heap.size w w' := by
  have HR := Aside0.mk hr
  have HBY := Aside0.mk hb
  have HB : Aside0 (Below w.heap.size w w) := ⟨Below.refl _ _⟩
  obtain ⟨T, hT⟩ : ∃ t, tblP b = t := ⟨_, rfl⟩
  have htb := tbl_byts hb
  unfold loadP at hres
  rw [hT] at hres htb
  have HT := Aside0.mk hT
  obtain ⟨⟨md, e0, e1, code⟩, er⟩ := T
  dsimp only at hres htb
  have HRES := Aside0.mk hres
  have HTB := Aside0.mk htb
  clear hr hb hres hT htb
  go_enter Try.func13, Try.ntmps13
  go_wp2_with (first | ((with_reducible refine gate_dst (N := 2) rfl ?_); refine boxN (w := w) rfl (N := 2) rfl (cs := prgCs 0 none 0 0 none 0 0) (t := 35) (by first | (go_simp; done) | (go_simp; rfl)) HB ?_; intro g2 Wa Ha Lg2 HBa Ka))
  refine (read_calls A c b Wa (Kd.C_below HR.out HBa.out) hc HBY.out hl HT.out).mono ?_
  rintro e w3 ⟨AC, cC, rfl, hcc, hC, hb3⟩
  dsimp only at hcc hC ⊢
  have HB3 := Aside0.mk (below_step HBa.out hb3)
  have Ha3 := Aside0.mk (blk_below Ha.out hb3)
  have HC3 := Aside0.mk hC
  clear hC hb3 Ha HBa Ka
  by_cases her : er = 0
  rotate_left
  · have e0 : ((0, [], []), er) = r := by have h := HRES.out; rw [if_pos her] at h; exact h
    have HE := Aside0.mk e0
    have k0 : (er != 0) = true := by simpa using her
    have k1 : (er == 0) = false := by simpa using her
    clear HRES her e0
    go_wp2_with (first | ((with_reducible refine gate_dst (N := 4) rfl ?_); refine boxN (w := w) rfl (N := 4) rfl (cs := imgCs 0 0 0 none 0 0) (t := 25) (by first | (go_simp; done) | (go_simp; rfl)) HB3 ?_; intro g4 Wb Hb Lg4 HBb Kb) | (refine storeCsN (w := w) rfl 25 (.tmp 4) _ rfl g4 (imgCs md e0 e1 AC code.length cC) rfl rfl 25 _ Hb (by kernel_rfl) rfl (by rw [← Array.all_toList]; rfl) HBb ⟨Lg4.out.1⟩ ?_; intro Wc Hc HBc HOc; have n24 : g2 ≠ g4 := (fun e => by have h1 := lt_of_block Ha3.out; have h2 := Lg4.out.2; omega); have Hac := Aside0.mk ((HOc.out g2 n24).trans (blk_below Ha3.out Kb.out)); have HCc := Aside0.mk (C_low HC3.out (fun q hq => (HOc.out q (fun e => by have h2 := Lg4.out.2; omega)).trans (Kb.out.block q hq))); have y0 : Wc.cell? ⟨g4, 0, none⟩ = some (.int .i64 md) := (cell_in Hc.out 0).trans rfl) | (refine storeCsN (w := w) rfl 35 (.tmp 2) _ rfl g2 (prgCs 0 none 0 0 none 0 0) rfl rfl 35 _ Hac (by kernel_rfl) rfl (by rw [← Array.all_toList]; rfl) HBc ⟨Lg2.out.1⟩ ?_; intro Wz Hz HBz HOz))
    refine bodyPost_ret (results_ct (p := 2) (u1 := 3) rfl _ _ g2 (prgCs 0 none 0 0 none 0 0) rfl (run_loadVar_row _ g2 35 35 (prgCs 0 none 0 0 none 0 0) (0, 0) _ Hz.out Try.underlying35 rfl (by kernel_rfl))) rfl ?_
    obtain rfl := HE.out
    exact ⟨none, 0, none, 0, rfl, ⟨Nat.le_refl _, Kd.C_nil _ _⟩, ⟨Nat.le_refl _, Kd.C_nil _ _⟩, HBz.out⟩
  subst her
  obtain ⟨R0, hR0⟩ : ∃ x, walkR md e0 e1 code 0 = x := ⟨_, rfl⟩
  obtain ⟨R1, hR1⟩ : ∃ x, walkR md e0 e1 code 1 = x := ⟨_, rfl⟩
  have HW0 := Aside0.mk hR0
  have HW1 := Aside0.mk hR1
  have hres := HRES.out
  rw [if_neg (fun h => h rfl), hR0, hR1] at hres
  obtain ⟨L0, q0⟩ := R0
  obtain ⟨L1, q1⟩ := R1
  dsimp only at hres
  have HRES2 := Aside0.mk hres
  clear HRES hres hR0 hR1
  go_wp2_with (first | ((with_reducible refine gate_dst (N := 4) rfl ?_); refine boxN (w := w) rfl (N := 4) rfl (cs := imgCs 0 0 0 none 0 0) (t := 25) (by first | (go_simp; done) | (go_simp; rfl)) HB3 ?_; intro g4 Wb Hb Lg4 HBb Kb) | (refine storeCsN (w := w) rfl 25 (.tmp 4) _ rfl g4 (imgCs md e0 e1 AC code.length cC) rfl rfl 25 _ Hb (by kernel_rfl) rfl (by rw [← Array.all_toList]; rfl) HBb ⟨Lg4.out.1⟩ ?_; intro Wc Hc HBc HOc; have n24 : g2 ≠ g4 := (fun e => by have h1 := lt_of_block Ha3.out; have h2 := Lg4.out.2; omega); have Hac := Aside0.mk ((HOc.out g2 n24).trans (blk_below Ha3.out Kb.out)); have HCc := Aside0.mk (C_low HC3.out (fun q hq => (HOc.out q (fun e => by have h2 := Lg4.out.2; omega)).trans (Kb.out.block q hq))); have y0 : Wc.cell? ⟨g4, 0, none⟩ = some (.int .i64 md) := (cell_in Hc.out 0).trans rfl) | ((with_reducible refine gate_dst (N := 6) rfl ?_); refine boxN (w := Wc) rfl (N := 6) rfl (cs := prgCs 0 none 0 0 none 0 0) (t := 35) (by first | (go_simp; done) | (go_simp; rfl)) ⟨Below.refl _ _⟩ ?_; intro g6 Wd Hd Lg6 HBd Kd_) | (refine storeCsN (w := Wc) rfl 35 (.tmp 6) _ rfl g6 (prgCs md none 0 0 none 0 0) rfl rfl 35 _ Hd (by kernel_rfl) rfl (by rw [← Array.all_toList]; rfl) HBd ⟨Lg6.out.1⟩ ?_; intro We He HBe HOe; have n26 : g2 ≠ g6 := (fun e => by have h1 := lt_of_block Hac.out; have h2 := Lg6.out.2; omega); have n46 : g4 ≠ g6 := (fun e => by have h1 := lt_of_block Hc.out; have h2 := Lg6.out.2; omega); have Hae := Aside0.mk ((HOe.out g2 n26).trans (blk_below Hac.out Kd_.out)); have Hce := Aside0.mk ((HOe.out g4 n46).trans (blk_below Hc.out Kd_.out)); have HCe := Aside0.mk (C_low HCc.out (fun q hq => (HOe.out q (fun e => by have h2 := Lg6.out.2; omega)).trans (Kd_.out.block q hq))); have N26 := Aside0.mk n26; have N46 := Aside0.mk n46))
  clear y0
  go_loopw [7, 8, 9, 22] (fun _ _ _ v22 wr => ∃ (k : Nat) (A0 : Option Addr) (n0 c0 : Nat) (A1 : Option Addr) (n1 c1 : Nat), k ≤ 2 ∧ v22 = .int .i64 (k : Int) ∧ wr.heap[g6]? = some (.cells (prgCs md A0 n0 c0 A1 n1 c1) 35 (0, 0)) ∧ Aside0 (1 ≤ k → q0 = 0 ∧ SlotsAt g2 g6 A0 n0 c0 L0 wr) ∧ Aside0 (2 ≤ k → q1 = 0 ∧ SlotsAt g2 g6 A1 n1 c1 L1 wr) ∧ Below Wc.heap.size Wc wr) (fun _ _ _ v22 _ => ((2 : Int) - intOf v22).toNat)
  case atStart => exact ⟨0, none, 0, 0, none, 0, 0, by omega, rfl, He.out, ⟨fun h => absurd h (by decide)⟩, ⟨fun h => absurd h (by decide)⟩, HBe.out⟩
  case round =>
    obtain ⟨k, A0, n0, c0, A1, n1, c1, hk, rfl, h6, HQ0, HQ1, hb⟩ := hrel
    have HBr := Aside0.mk (below_step HBc.out hb)
    have HKr := Aside0.mk hb
    have H6r := Aside0.mk h6
    have H2r := Aside0.mk (blk_below Hac.out hb)
    have H4r := Aside0.mk (blk_below Hc.out hb)
    have HCr := Aside0.mk (Kd.C_below HCc.out hb)
    clear h6 hb
    rcases (by omega : k = 0 ∨ k = 1 ∨ k = 2) with rfl | rfl | rfl
    · go_wp2_with (first | ((with_reducible refine gate_dst (N := 26) rfl ?_); refine wpList_load_row rfl 25 _ rfl g4 rfl 25 _ (0, 0) _ H4r.out Try.underlying25 rfl (by kernel_rfl) ?_))
      refine (walk_calls md e0 e1 AC cC code 0 wr HCr.out hcc HTB.out HW0.out).mono ?_
      rintro e w5 ⟨vn, rfl, hr5, hb5⟩
      dsimp only at hr5 ⊢
      have HB5 := Aside0.mk (below_step HBr.out hb5)
      have HK5 := Aside0.mk (below_step HKr.out hb5)
      have H65 := Aside0.mk (blk_below H6r.out hb5)
      have H25 := Aside0.mk (blk_below H2r.out hb5)
      obtain ⟨An, cn, en⟩ := Kd.R_slice hr5
      subst en
      have HS5 := Aside0.mk (slotsAt_R hr5 H25.out H65.out (by decide) (by decide))
      clear hb5 hr5
      by_cases hq : q0 = 0
      rotate_left
      · have hrr : ((0, [], []), q0) = r := by
          have h := HRES2.out
          rw [if_pos hq] at h
          exact h
        have HE := Aside0.mk hrr
        have k0 : (q0 != 0) = true := by simpa using hq
        have k1 : (q0 == 0) = false := by simpa using hq
        clear HRES2 hq hrr
        go_wp2_with (first | (refine storeCsN (w := w) rfl 35 (.tmp 2) _ rfl g2 (prgCs 0 none 0 0 none 0 0) rfl rfl 35 _ H25 (by kernel_rfl) rfl (by rw [← Array.all_toList]; rfl) HB5 ⟨Lg2.out.1⟩ ?_; intro Wz Hz HBz HOz))
        refine bodyPost_ret (results_ct (p := 2) (u1 := 3) rfl _ _ g2 (prgCs 0 none 0 0 none 0 0) rfl (run_loadVar_row _ g2 35 35 (prgCs 0 none 0 0 none 0 0) (0, 0) _ Hz.out Try.underlying35 rfl (by kernel_rfl))) rfl ?_
        obtain rfl := HE.out
        exact ⟨none, 0, none, 0, rfl, ⟨Nat.le_refl _, Kd.C_nil _ _⟩, ⟨Nat.le_refl _, Kd.C_nil _ _⟩, HBz.out⟩
      subst hq
      have y1 : w5.cell? ⟨g6, 1, none⟩ = some (.slice A0 n0 c0) := (cell_in H65.out 1).trans rfl
      have f1 : w5.frozen? ⟨g6, 1, none⟩ = false := free_in H65.out 1
      go_wp2_with (first | (refine storeCellN (w := Wc) rfl rfl 30 (.tmp 38) (.tmp 36) rfl g6 1 (.slice An L0.length cn) H65 (by first | (go_simp; done) | (go_simp; rfl)) HK5 ⟨Lg6.out.1⟩ ?_; intro Wf HWf HBf HOf))
      exact ⟨⟨1, An, L0.length, cn, A1, n1, c1, by omega, rfl, HWf.out, ⟨fun _ => ⟨(by first | trivial | exact rfl), HS5.out.set (.inr rfl) HOf.out⟩⟩, ⟨fun h => absurd h (by decide)⟩, HBf.out⟩, by simp [intOf]⟩
    · go_wp2_with (first | ((with_reducible refine gate_dst (N := 26) rfl ?_); refine wpList_load_row rfl 25 _ rfl g4 rfl 25 _ (0, 0) _ H4r.out Try.underlying25 rfl (by kernel_rfl) ?_))
      refine (walk_calls md e0 e1 AC cC code 1 wr HCr.out hcc HTB.out HW1.out).mono ?_
      rintro e w5 ⟨vn, rfl, hr5, hb5⟩
      dsimp only at hr5 ⊢
      have HB5 := Aside0.mk (below_step HBr.out hb5)
      have HK5 := Aside0.mk (below_step HKr.out hb5)
      have H65 := Aside0.mk (blk_below H6r.out hb5)
      have H25 := Aside0.mk (blk_below H2r.out hb5)
      obtain ⟨An, cn, en⟩ := Kd.R_slice hr5
      subst en
      have HS5 := Aside0.mk (slotsAt_R hr5 H25.out H65.out (by decide) (by decide))
      have HP5 := Aside0.mk ((HQ0.out (by decide)).2.below hb5)
      have HQZ := Aside0.mk (HQ0.out (by decide)).1
      clear hb5 hr5
      by_cases hq : q1 = 0
      rotate_left
      · have hrr : ((0, [], []), q1) = r := by
          have h := HRES2.out
          rw [if_neg (fun h => h HQZ.out)] at h
          rw [if_pos hq] at h
          exact h
        have HE := Aside0.mk hrr
        have k0 : (q1 != 0) = true := by simpa using hq
        have k1 : (q1 == 0) = false := by simpa using hq
        clear HRES2 hq hrr
        go_wp2_with (first | (refine storeCsN (w := w) rfl 35 (.tmp 2) _ rfl g2 (prgCs 0 none 0 0 none 0 0) rfl rfl 35 _ H25 (by kernel_rfl) rfl (by rw [← Array.all_toList]; rfl) HB5 ⟨Lg2.out.1⟩ ?_; intro Wz Hz HBz HOz))
        refine bodyPost_ret (results_ct (p := 2) (u1 := 3) rfl _ _ g2 (prgCs 0 none 0 0 none 0 0) rfl (run_loadVar_row _ g2 35 35 (prgCs 0 none 0 0 none 0 0) (0, 0) _ Hz.out Try.underlying35 rfl (by kernel_rfl))) rfl ?_
        obtain rfl := HE.out
        exact ⟨none, 0, none, 0, rfl, ⟨Nat.le_refl _, Kd.C_nil _ _⟩, ⟨Nat.le_refl _, Kd.C_nil _ _⟩, HBz.out⟩
      subst hq
      have y1 : w5.cell? ⟨g6, 2, none⟩ = some (.slice A1 n1 c1) := (cell_in H65.out 2).trans rfl
      have f1 : w5.frozen? ⟨g6, 2, none⟩ = false := free_in H65.out 2
      go_wp2_with (first | (refine storeCellN (w := Wc) rfl rfl 30 (.tmp 38) (.tmp 36) rfl g6 2 (.slice An L1.length cn) H65 (by first | (go_simp; done) | (go_simp; rfl)) HK5 ⟨Lg6.out.1⟩ ?_; intro Wf HWf HBf HOf))
      exact ⟨⟨2, A0, n0, c0, An, L1.length, cn, by omega, rfl, HWf.out, ⟨fun _ => ⟨(by first | trivial | exact HQZ.out), HP5.out.set (.inr rfl) HOf.out⟩⟩, ⟨fun _ => ⟨(by first | trivial | rfl), HS5.out.set (.inr rfl) HOf.out⟩⟩, HBf.out⟩, by simp [intOf]⟩
    · have hrr : ((md, L0, L1), 0) = r := by
        have h := HRES2.out
        rw [if_neg (fun h => h (HQ0.out (by decide)).1), if_neg (fun h => h (HQ1.out (by decide)).1)] at h
        exact h
      have HE := Aside0.mk hrr
      have HS0 := Aside0.mk (HQ0.out (by decide)).2
      have HS1 := Aside0.mk (HQ1.out (by decide)).2
      have hn0 := HS0.out.1
      have hn1 := HS1.out.1
      subst hn0 hn1
      clear HRES2 hrr HQ0 HQ1
      go_wp2_with (first | ((with_reducible refine gate_dst (N := 40) rfl ?_); refine wpList_load_row rfl 35 _ rfl g6 rfl 35 _ (0, 0) _ H6r.out Try.underlying35 rfl (by kernel_rfl) ?_) | (refine storeCsN (w := w) rfl 35 (.tmp 2) _ rfl g2 (prgCs md A0 L0.length c0 A1 L1.length c1) rfl rfl 35 _ H2r (by kernel_rfl) rfl (by rw [← Array.all_toList]; rfl) HBr ⟨Lg2.out.1⟩ ?_; intro Wz Hz HBz HOz))
      refine bodyPost_ret (results_ct (p := 2) (u1 := 3) rfl _ _ g2 (prgCs md A0 L0.length c0 A1 L1.length c1) rfl (run_loadVar_row _ g2 35 35 (prgCs md A0 L0.length c0 A1 L1.length c1) (0, 0) _ Hz.out Try.underlying35 rfl (by kernel_rfl))) rfl ?_
      obtain rfl := HE.out
      have HZ0 := HS0.out.set (.inl rfl) HOz.out
      have HZ1 := HS1.out.set (.inl rfl) HOz.out
      exact ⟨A0, c0, A1, c1, rfl, ⟨HZ0.2.1, HZ0.2.2.1⟩, ⟨HZ1.2.1, HZ1.2.2.1⟩, HBz.out⟩
end Go.Proofs.Ytbaapakkdnhcmaa.PWe
namespace Go.Proofs.Ytbaapakkdnhcmaa.PWe
open Go.RowKit Go.Proofs.Ytbaapakkdnhcmaa.Kx Go.Proofs.YtbaapakkdnhcmaaW.PrintWords Go.Proofs.YtbaapakkdnhcmaaW.PrintLast Go.Proofs.YtbaapakkdnhcmaaW.PrintMore
set_option linter.unusedVariables false
set_option linter.unusedSimpArgs false

def sltCs (x : S47) : Array Value := #[.int .i64 x.f0, .int .i64 x.f1, .int .i64 x.f2, .int .i64 x.f3, .int .i64 x.f4, .int .i64 x.f5, .int .i64 x.f6, .bool x.f7]
/-- How long slots are, together. -/
def sumL : List S47 → Int
  | [] => 0
  | x :: r => x.f2 + sumL r
def longQ (v : Int) (L0 L1 : List S47) : Int := if v = 0 then sumL L0 else if v = 1 then sumL L1 else 0
def SFit (L : List S47) : Prop := L.length ≤ 1000 ∧ ∀ x ∈ L, 0 ≤ x.f2 ∧ x.f2 ≤ 1000000
theorem sumL_bd : ∀ L : List S47, (∀ x ∈ L, 0 ≤ x.f2 ∧ x.f2 ≤ 1000000) → 0 ≤ sumL L ∧ sumL L ≤ 1000000 * L.length
  | [], _ => by simp [sumL]
  | x :: r, h => by
    have h1 := h x List.mem_cons_self
    have h2 := sumL_bd r (fun y hy => h y (List.mem_cons_of_mem _ hy))
    rw [sumL, List.length_cons]
    omega
set_option maxHeartbeats 4000000 in
set_option maxRecDepth 100000 in
theorem long_calls (md : Int) (A0 : Option Addr) (c0 : Nat) (L0 : List S47) (A1 : Option Addr) (c1 : Nat) (L1 : List S47) (v : Int) (w : World) (hr0 : Kd.C k47 w A0 L0.length L0) (hr1 : Kd.C k47 w A1 L1.length L1) (hf0 : SFit L0) (hf1 : SFit L1) {r : Int} (hr : longQ v L0 L1 = r) :
    Calls Try.prog 22 #[.agg (prgCs md A0 L0.length c0 A1 L1.length c1), .int .i64 v] w fun e w' => e = .returned (.int .i64 r) ∧ Below w.heap.size w w' := by
  have HB : Aside0 (Below w.heap.size w w) := ⟨Below.refl _ _⟩
  have HR := Aside0.mk hr
  have e33 := Try.underlying33
  by_cases hv : v = 0 ∨ v = 1
  rotate_left
  · have e0 : (0 : Int) = r := by rw [← hr, longQ, if_neg (fun h => hv (.inl h)), if_neg (fun h => hv (.inr h))]
    have HE := Aside0.mk e0
    clear hr HR e0 hr0 hr1 hf0 hf1
    by_cases h0 : 0 ≤ v
    · have d0 : decide (0 ≤ v) = true := decide_eq_true h0
      have d1 : decide (v < 2) = false := decide_eq_false (by omega)
      clear hv h0
      unfold prgCs
      go_enter Try.func22, Try.ntmps22
      go_wp2_with (first | ((with_reducible refine gate_dst (N := 2) rfl ?_); refine boxN (w := w) rfl (N := 2) rfl (cs := prgCs md A0 L0.length c0 A1 L1.length c1) (t := 35) (by first | (go_simp; done) | (go_simp; rfl)) HB ?_; intro g2 Wa Ha Lg2 HBa Ka))
      go_ret
      exact ⟨by rw [← HE.out]; rfl, HBa.out⟩
    · have d0 : decide (0 ≤ v) = false := decide_eq_false h0
      clear hv h0
      unfold prgCs
      go_enter Try.func22, Try.ntmps22
      go_wp2_with (first | ((with_reducible refine gate_dst (N := 2) rfl ?_); refine boxN (w := w) rfl (N := 2) rfl (cs := prgCs md A0 L0.length c0 A1 L1.length c1) (t := 35) (by first | (go_simp; done) | (go_simp; rfl)) HB ?_; intro g2 Wa Ha Lg2 HBa Ka))
      go_ret
      exact ⟨by rw [← HE.out]; rfl, HBa.out⟩
  obtain ⟨A, c, L, hLC, hfL, hcx, hL⟩ : ∃ A c L, Kd.C k47 w A L.length L ∧ SFit L ∧ (prgCs md A0 L0.length c0 A1 L1.length c1)[1 + v.toNat]? = some (.slice A L.length c) ∧ sumL L = r := by
    rcases hv with rfl | rfl
    · exact ⟨A0, c0, L0, hr0, hf0, rfl, by rw [← hr]; rfl⟩
    · exact ⟨A1, c1, L1, hr1, hf1, rfl, by rw [← hr]; rfl⟩
  have HLC := Aside0.mk hLC
  have HFL := Aside0.mk hfL
  have HCX := Aside0.mk hcx
  have HL := Aside0.mk hL
  have hl1000 := hfL.1
  have hv0 : 0 ≤ v := by omega
  have hv1 : v < 2 := by omega
  have d0 : decide (0 ≤ v) = true := decide_eq_true hv0
  have d1 : decide (v < 2) = true := decide_eq_true hv1
  have p1 := eq_true hv0
  have p2 := eq_true hv1
  clear hr HR hr0 hr1 hf0 hf1 hLC hfL hcx hL hv
  unfold prgCs
  go_enter Try.func22, Try.ntmps22
  go_wp2_with (first | ((with_reducible refine gate_dst (N := 2) rfl ?_); refine boxN (w := w) rfl (N := 2) rfl (cs := prgCs md A0 L0.length c0 A1 L1.length c1) (t := 35) (by first | (go_simp; done) | (go_simp; rfl)) HB ?_; intro g2 Wa Ha Lg2 HBa Ka; have y0 : Wa.cell? ⟨g2, 1 + v.toNat, none⟩ = some (.slice A L.length c) := (cell_in Ha.out _).trans HCX.out))
  go_loopw [5, 7, 19] (fun v5 _ v19 wr => ∃ (i : Nat) (acc : Int), i ≤ L.length ∧ v19 = .int .i64 (i : Int) ∧ v5 = .int .i64 acc ∧ (0 ≤ acc ∧ acc ≤ 1000000 * (i : Int)) ∧ Aside0 (acc + sumL (L.drop i) = r) ∧ Below w.heap.size w wr) (fun _ _ v19 _ => ((L.length : Int) - intOf v19).toNat)
  case atStart => exact ⟨0, 0, Nat.zero_le _, rfl, rfl, by omega, ⟨by rw [List.drop_zero, Int.zero_add]; exact HL.out⟩, HBa.out⟩
  case round =>
    obtain ⟨i, acc, hi, rfl, rfl, hac, HS, hb⟩ := hrel
    have HBr := Aside0.mk hb
    clear hb
    by_cases hlt : i < L.length
    · have m1 : decide ((i : Int) < (L.length : Int)) = true := decide_eq_true (by omega)
      have m2 : decide (i < L.length) = true := decide_eq_true hlt
      have q1 : (0 ≤ (i : Int)) = True := eq_true (by omega)
      have q2 : ((i : Int) < (L.length : Int)) = True := eq_true (by omega)
      have q3 : (i < L.length) = True := eq_true hlt
      obtain ⟨x, hx⟩ : ∃ x, L[i] = x := ⟨_, rfl⟩
      have hxf : 0 ≤ x.f2 ∧ x.f2 ≤ 1000000 := by rw [← hx]; exact HFL.out.2 _ (List.getElem_mem hlt)
      obtain ⟨ad, hA, x0, x1, x2, x3, x4, x5, x6, x7⟩ := slot_at HLC.out HBr.out hlt hx
      subst hA
      have HNEW : Aside0 ((acc + x.f2) + sumL (L.drop (i + 1)) = r) := ⟨by have h := HS.out; rw [List.drop_eq_getElem_cons hlt, hx, sumL] at h; omega⟩
      have HLT := Aside0.mk hlt
      have w0 : wrap64 (acc + x.f2) = acc + x.f2 := by unfold wrap64; omega
      clear hx HS hlt
      go_wp2_with (first | ((with_reducible refine gate_dst (N := 7) rfl ?_); refine boxN (w := w) rfl (N := 7) rfl (cs := #[.int .i64 0, .int .i64 0, .int .i64 0, .int .i64 0, .int .i64 0, .int .i64 0, .int .i64 0, .bool false]) (t := 64) (by first | (go_simp; done) | (go_simp; rfl)) HBr ?_; intro ga Wb Hb Lga HBb Kb) | (refine storeN (w := w) rfl 64 _ _ rfl ga (sltCs x) rfl rfl 64 _ Hb (by kernel_rfl) rfl (by rw [← Array.all_toList]; rfl) HBb Lga Kb ?_; intro Wc Hc HBc Kc; have z2 : Wc.cell? ⟨ga, 2, none⟩ = some (.int .i64 x.f2) := (cell_in Hc.out 2).trans rfl))
      exact ⟨⟨i + 1, acc + x.f2, by have := HLT.out; omega, by simp, rfl, by omega, HNEW, HBc.out⟩, by have := HLT.out; simp [intOf]; omega⟩
    · have m1 : decide ((i : Int) < (L.length : Int)) = false := decide_eq_false (by omega)
      have m2 : decide (i < L.length) = false := decide_eq_false hlt
      have hfin : acc = r := by have h := HS.out; rw [List.drop_eq_nil_of_le (by omega), sumL] at h; omega
      have HFIN := Aside0.mk hfin
      clear HS hlt hfin
      go_wp2_with fail
      go_ret
      exact ⟨by rw [← HFIN.out]; rfl, HBr.out⟩
end Go.Proofs.Ytbaapakkdnhcmaa.PWe
namespace Go.Proofs.Ytbaapakkdnhcmaa.PWe
open Go.RowKit Go.Proofs.Ytbaapakkdnhcmaa.Kx Go.Proofs.YtbaapakkdnhcmaaW.PrintWords Go.Proofs.YtbaapakkdnhcmaaW.PrintLast Go.Proofs.YtbaapakkdnhcmaaW.PrintMore
set_option linter.unusedVariables false
set_option linter.unusedSimpArgs false

def oneC : List Int := [6, 0, 8, 0, 6, 0, 8, 0, 7]
def oneB_ : List Int := [84, 49, 1, 0, 0, 0, 4, 0, 9, 6, 0, 8, 0, 6, 0, 8, 0, 7, 211, 149]
def oneL0 : List S47 := [⟨3, 0, 200, 0, 0, 0, -1, false⟩, ⟨4, 200, 120, 0, 0, 0, -1, false⟩]
def oneL1 : List S47 := [⟨3, 0, 240, 0, 0, 0, -1, false⟩, ⟨4, 240, 120, 0, 0, 0, -1, false⟩]
theorem one_for : forP 2 [] [] 1 = ((1, 0, 4, oneC), 0) := by kernel_rfl
theorem one_put : putP 1 0 4 oneC = oneB_ := by kernel_rfl
theorem one_load : loadP oneB_ = ((1, oneL0, oneL1), 0) := by kernel_rfl
theorem one_l0 : longQ 0 oneL0 oneL1 = 320 := by kernel_rfl
theorem one_l1 : longQ 1 oneL0 oneL1 = 360 := by kernel_rfl
theorem one_l2 : longQ 2 oneL0 oneL1 = 0 := by kernel_rfl
theorem fit_nil : Fit [] := ⟨Nat.zero_le _, fun x hx => by cases hx⟩
theorem one_s0 : SFit oneL0 := ⟨by decide, fun x hx => by
  simp only [oneL0, List.mem_cons, List.not_mem_nil, or_false] at hx
  rcases hx with rfl | rfl <;> decide⟩
theorem one_s1 : SFit oneL1 := ⟨by decide, fun x hx => by
  simp only [oneL1, List.mem_cons, List.not_mem_nil, or_false] at hx
  rcases hx with rfl | rfl <;> decide⟩
theorem C47_low {w W : World} {A : Option Addr} {n : Nat} {xs : List S47} (h : Kd.C k47 w A n xs) (ho : ∀ b, b < w.heap.size → W.heap[b]? = w.heap[b]?) : Kd.C k47 W A n xs := by
  refine ⟨h.1, h.2.1, fun hn => ?_⟩
  obtain ⟨ad, hA, hc⟩ := h.2.2 hn
  refine ⟨ad, hA, fun j p hj => ?_⟩
  obtain ⟨cs, hl, hK, hcell⟩ := hc j p hj
  obtain rfl := k47_open hK
  exact ⟨_, hl, k47_mk W p, fun i u hu => by rw [← hcell i u hu]; exact cell_same (ho _ (World.block_lt_of_cell? w _ (hcell i u hu)))⟩
theorem one_byts : Byts oneC := by unfold Byts oneC; decide
theorem one_bb : Byts oneB_ := by unfold Byts oneB_; decide
theorem one_tok : tokP 1 0 4 oneC.length = true := by decide
theorem one_str : Go.strOfNums oneC = ⟨#[6, 0, 8, 0, 6, 0, 8, 0, 7]⟩ := by rfl
set_option maxHeartbeats 4000000 in
set_option maxRecDepth 100000 in
theorem one_calls (w : World) : Calls Try.prog 10 #[] w fun e w' => e = .returned (.bool true) ∧ Below w.heap.size w w' := by
  have HB : Aside0 (Below w.heap.size w w) := ⟨Below.refl _ _⟩
  have hfor := for_calls 2 none none 0 0 [] [] 1 w (Kd.C_nil _ _) (Nat.le_refl _) (Kd.C_nil _ _) (Nat.le_refl _) fit_nil fit_nil one_for
  have HFOR := Aside0.mk hfor
  clear hfor
  go_enter Try.func10, Try.ntmps10
  go_wp2_with fail
  refine HFOR.out.mono ?_
  rintro e w1 ⟨A, c, rfl, hc, hC, hb⟩
  dsimp only at hc hC ⊢
  have HB1 := Aside0.mk (below_step HB.out hb)
  have HC1 := Aside0.mk hC
  clear hb hC HFOR
  go_wp2_with (first | ((with_reducible refine gate_dst (N := 1) rfl ?_); refine boxN (w := w) rfl (N := 1) rfl (cs := imgCs 0 0 0 none 0 0) (t := 25) (by first | (go_simp; done) | (go_simp; rfl)) HB1 ?_; intro g1 Wb Hb Lg1 HBb Kb) | (refine storeCsN (w := w) rfl 25 (.tmp 1) _ rfl g1 (imgCs 1 0 4 A oneC.length c) rfl rfl 25 _ Hb (by kernel_rfl) rfl (by rw [← Array.all_toList]; rfl) HBb ⟨Lg1.out.1⟩ ?_; intro Wc Hc HBc HOc; have HCc := Aside0.mk (C_low HC1.out (fun q hq => (HOc.out q (fun e => by have h2 := Lg1.out.2; omega)).trans (Kb.out.block q hq)))) | ((with_reducible refine gate_dst (N := 13) rfl ?_); refine wpList_load_row rfl 25 _ rfl g1 rfl 25 _ (0, 0) _ Hc.out Try.underlying25 rfl (by kernel_rfl) ?_))
  refine (put_calls 1 0 4 A c oneC Wc HCc.out hc one_byts one_tok).mono ?_
  rintro e w4 ⟨v4, rfl, h4, hb4⟩
  rw [one_put] at h4
  obtain ⟨A4, c4, e4⟩ := Kd.R_slice h4
  subst e4
  have HP4 := Aside0.mk (Kd.R_reads' h4).2
  have HB4 := Aside0.mk (below_step HBc.out hb4)
  have HC4 := Aside0.mk (Kd.C_below HCc.out hb4)
  have Hc4 := Aside0.mk (blk_below Hc.out hb4)
  clear h4 hb4
  go_wp2_with fail
  refine (load_calls A4 c4 oneB_ w4 HP4.out.2 HP4.out.1 one_bb (by decide) one_load).mono ?_
  rintro e w5 ⟨A0, c0, A1, c1, rfl, ⟨h01, h02⟩, ⟨h11, h12⟩, hb5⟩
  dsimp only at h01 h02 h11 h12 ⊢
  have HB5 := Aside0.mk (below_step HB4.out hb5)
  have HC5 := Aside0.mk (Kd.C_below HC4.out hb5)
  have Hc5 := Aside0.mk (blk_below Hc4.out hb5)
  have HL0 := Aside0.mk h02
  have HL1 := Aside0.mk h12
  clear h01 h02 h11 h12 hb5
  go_wp2_with (first | ((with_reducible refine gate_dst (N := 5) rfl ?_); refine boxN (w := w) rfl (N := 5) rfl (cs := prgCs 0 none 0 0 none 0 0) (t := 35) (by first | (go_simp; done) | (go_simp; rfl)) HB5 ?_; intro g5 Wd Hd Lg5 HBd Kd_) | (refine storeCsN (w := w) rfl 35 (.tmp 5) _ rfl g5 (prgCs 1 A0 oneL0.length c0 A1 oneL1.length c1) rfl rfl 35 _ Hd (by kernel_rfl) rfl (by rw [← Array.all_toList]; rfl) HBd ⟨Lg5.out.1⟩ ?_; intro We He HBe HOe; have hlow : ∀ q, q < w5.heap.size → We.heap[q]? = w5.heap[q]? := (fun q hq => (HOe.out q (fun e => by have h2 := Lg5.out.2; omega)).trans (Kd_.out.block q hq)); have HCe := Aside0.mk (C_low HC5.out hlow); have HL0e := Aside0.mk (C47_low HL0.out hlow); have HL1e := Aside0.mk (C47_low HL1.out hlow); have Hce := Aside0.mk ((hlow g1 (lt_of_block Hc5.out)).trans Hc5.out); have z1 : We.cell? ⟨g1, 2 + 1, none⟩ = some (.slice A oneC.length c) := (cell_in Hce.out 3).trans rfl; have z5 : We.cell? ⟨g5, 0, none⟩ = some (.int .i64 1) := (cell_in He.out 0).trans rfl; have hcv := Kd.C_string Try.underlying23 Try.underlying5 Try.underlying9 (c := c) HCe.out; rw [one_str] at hcv; clear hlow) | ((with_reducible refine gate_dst (N := 44) rfl ?_); refine gate_guard (by rfl) ?_; dsimp only; refine wpList_load_row rfl 35 _ rfl g5 rfl 35 _ (0, 0) _ He.out Try.underlying35 rfl (by kernel_rfl) ?_))
  refine (long_calls 1 A0 c0 oneL0 A1 c1 oneL1 0 We HL0e.out HL1e.out one_s0 one_s1 one_l0).mono ?_
  rintro e w7 ⟨rfl, hb7⟩
  have HB7 := Aside0.mk (below_step HBe.out hb7)
  have He7 := Aside0.mk (blk_below He.out hb7)
  have HL07 := Aside0.mk (Kd.C_below HL0e.out hb7)
  have HL17 := Aside0.mk (Kd.C_below HL1e.out hb7)
  clear hb7 z1 z5 hcv
  go_wp2_with (first | ((with_reducible refine gate_dst (N := 49) rfl ?_); refine gate_guard (by rfl) ?_; dsimp only; refine wpList_load_row rfl 35 _ rfl g5 rfl 35 _ (0, 0) _ He7.out Try.underlying35 rfl (by kernel_rfl) ?_))
  refine (long_calls 1 A0 c0 oneL0 A1 c1 oneL1 1 w7 HL07.out HL17.out one_s0 one_s1 one_l1).mono ?_
  rintro e w8 ⟨rfl, hb8⟩
  have HB8 := Aside0.mk (below_step HB7.out hb8)
  have He8 := Aside0.mk (blk_below He7.out hb8)
  have HL08 := Aside0.mk (Kd.C_below HL07.out hb8)
  have HL18 := Aside0.mk (Kd.C_below HL17.out hb8)
  clear hb8
  go_wp2_with (first | ((with_reducible refine gate_dst (N := 54) rfl ?_); refine gate_guard (by rfl) ?_; dsimp only; refine wpList_load_row rfl 35 _ rfl g5 rfl 35 _ (0, 0) _ He8.out Try.underlying35 rfl (by kernel_rfl) ?_))
  refine (long_calls 1 A0 c0 oneL0 A1 c1 oneL1 2 w8 HL08.out HL18.out one_s0 one_s1 one_l2).mono ?_
  rintro e w9 ⟨rfl, hb9⟩
  have HB9 := Aside0.mk (below_step HB8.out hb9)
  clear hb9
  go_wp2_with fail
  go_ret
  exact ⟨rfl, HB9.out⟩
end Go.Proofs.Ytbaapakkdnhcmaa.PWe
