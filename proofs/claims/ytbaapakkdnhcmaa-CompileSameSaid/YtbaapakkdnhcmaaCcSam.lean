/- The law CompileSame: walk. Helper text. -/
import Derived.Test.YtbaapakkdnhcmaaCcLT
import Derived.BigQuiet
namespace Go.Proofs.Ytbaapakkdnhcmaa.PWe
open Go.RowKit Go.Proofs.Ytbaapakkdnhcmaa.Kx Go.Proofs.YtbaapakkdnhcmaaW.PrintWords Go.Proofs.YtbaapakkdnhcmaaW.PrintLast Go.Proofs.YtbaapakkdnhcmaaW.PrintMore
set_option linter.unusedVariables false
set_option linter.unusedSimpArgs false

theorem sameT : rtab .any (opsOf Try.f6 27) = (true, [([], []), ([], []), ([], []), ([0, 1, 2], [0, 1, 2]), ([], []), ([4], [4]), ([5], [5]), ([3, 6], [3, 6]), ([7, 3], [7]), ([8], [8]), ([8], [8]), ([8], [8]), ([9, 10, 11, 8, 8], [8, 9, 10, 11]), ([8], [8]), ([13, 8], [8, 13]), ([14, 8], [8, 14]), ([12, 15, 8], [8, 12, 15]), ([8, 16], [8, 16])]) := by kernel_rfl
def SmS (g9 g11 g18 : Nat) (pc qc : Array Value) (y : Nat) (V : Value) (W : World) : Prop := W.cell? ⟨g18, y, none⟩ = some V ∧ W.heap[g9]? = some (.cells pc 35 (0, 0)) ∧ W.heap[g11]? = some (.cells qc 35 (0, 0))
/-- One module's table, loaded: what the walk needs of it. -/
structure LdP (m : Int) (l1 l2 : List S76) (X : Nat) (P0 P1 : List S47) : Prop where
  e0 : (viewV (X : Int) 0 l1).map fixA = P0
  e1 : (viewV (X : Int) 1 l2).map fixA = P1
  n0 : P0.length ≤ 1000
  n1 : P1.length ≤ 1000
theorem ldp_mk {m : Int} {l1 l2 : List S76} {X : Nat} (h1 : l1.length ≤ 32) (h2 : l2.length ≤ 32) : LdP m l1 l2 X ((viewV (X : Int) 0 l1).map fixA) ((viewV (X : Int) 1 l2).map fixA) :=
  ⟨rfl, rfl, (view_fit h1 (by omega)).1, (view_fit h2 (by omega)).1⟩
theorem tab_load {m : Int} {l1 l2 : List S76} {Es : List El8} {w W : World} {A : Option Addr} {M : Nat} (hm : m = (M : Int)) (hck : (checkP m l1 l2).2.2 = 0) (hxs : Es.map El8.xs = (List.range M).map (tabP l1 l2)) (hC : Kd.C dE w A Es.length Es) (hat : ∀ x ∈ Es, x.At w) (hb : Below w.heap.size w W) {X : Nat} (hX : X < M) :
    ∃ (x : El8) (ad : Addr), A = some ad ∧ W.cell? (ad.add X) = some (.slice (some ⟨x.g, 0, none⟩) x.xs.length x.c) ∧ x.At W ∧ Byts x.xs ∧ x.xs.length ≤ 100000 ∧ loadP x.xs = (((X : Int), (viewV (X : Int) 0 l1).map fixA, (viewV (X : Int) 1 l2).map fixA), 0) := by
  subst hm
  have hl : Es.length = M := by have h := congrArg List.length hxs; rw [List.length_map, List.length_map, List.length_range] at h; exact h
  have hi : X < Es.length := by omega
  obtain ⟨x, hx⟩ : ∃ x, Es[X] = x := ⟨_, rfl⟩
  obtain ⟨ad, hA, hce⟩ := el8_at hC hb hi hi hx
  have hxx : x.xs = tabP l1 l2 X := by
    have h := congrArg (fun l => l[X]?) hxs
    simp only [List.getElem?_map, List.getElem?_eq_getElem hi, Option.map_some, hx, List.getElem?_range hX] at h
    exact Option.some.inj h
  obtain ⟨_, htb, htl⟩ := tab_ok hck (show 0 ≤ (X : Int) by omega) (show (X : Int) < (M : Int) by omega)
  exact ⟨x, ad, hA, hce, (hat x (by rw [← hx]; exact List.getElem_mem hi)).below hb, by rw [hxx]; exact put_byts htb, by rw [hxx]; unfold tabP; rw [put_length]; omega, by rw [hxx, load_tab hck (by omega)]⟩
theorem sm_shut {g9 g11 g18 : Nat} {pc qc cs : Array Value} {t5 : TypeId} {k : Nat} {v : Value} {wi wk : World} (h18 : Aside0 (wi.heap[g18]? = some (.cells cs t5 (0, 0)))) (hn : Aside0 (cs[k]? = some v)) (h9 : Aside0 (wi.heap[g9]? = some (.cells pc 35 (0, 0)))) (h11 : Aside0 (wi.heap[g11]? = some (.cells qc 35 (0, 0)))) (hb : Aside0 (Below wi.heap.size wi wk)) : Aside0 (∀ W', Below wk.heap.size wk W' → SmS g9 g11 g18 pc qc k v W') :=
  ⟨fun W' h => ⟨(cell_in (blk_below (blk_below h18.out hb.out) h) k).trans hn.out, blk_below (blk_below h9.out hb.out) h, blk_below (blk_below h11.out hb.out) h⟩⟩
theorem does_all {md : Int} {A0 A1 : Option Addr} {c0 c1 : Nat} {L0 L1 : List S47} {v k r : Int} {wi wk : World} (h0 : Aside0 (Kd.C k47 wi A0 L0.length L0)) (h1 : Aside0 (Kd.C k47 wi A1 L1.length L1)) (hb : Aside0 (Below wi.heap.size wi wk)) (n0 : L0.length ≤ 1000) (n1 : L1.length ≤ 1000) (hr : Aside0 (doesQ v k L0 L1 = r)) :
    Aside0 (∀ W, Below wk.heap.size wk W → Calls Try.prog 26 #[.agg (prgCs md A0 L0.length c0 A1 L1.length c1), .int .i64 v, .int .i64 k] W fun e w' => e = .returned (.int .i64 r) ∧ Below W.heap.size W w') :=
  ⟨fun W h => does_calls md A0 c0 L0 A1 c1 L1 v k W (Kd.C_below (Kd.C_below h0.out hb.out) h) (Kd.C_below (Kd.C_below h1.out hb.out) h) n0 n1 hr.out⟩
set_option maxHeartbeats 4000000 in
set_option maxRecDepth 100000 in
/-- The law CompileSame: true of every schedule and every two numbers. -/
theorem sames_calls (m : Int) (A1 A2 : Option Addr) (c1 c2 : Nat) (l1 l2 : List S76) (i0 i1 : Int) (w : World) (hr1 : Kd.C k76 w A1 l1.length l1) (hc1 : l1.length ≤ c1) (hr2 : Kd.C k76 w A2 l2.length l2) (hc2 : l2.length ≤ c2) :
    Calls Try.prog 6 #[.agg #[.int .i64 m, .slice A1 l1.length c1, .slice A2 l2.length c2], .agg #[.int .i64 i0, .int .i64 i1]] w fun e w' => e = .returned (.bool true) ∧ Below w.heap.size w w' := by
  have H1 := Aside0.mk hr1
  have H2 := Aside0.mk hr2
  have HB : Aside0 (Below w.heap.size w w) := ⟨Below.refl _ _⟩
  obtain ⟨fw, hfw⟩ : ∃ k, fewP l1 l2 = k := ⟨_, rfl⟩
  have HFW := Aside0.mk hfw
  have hfo := few_or l1 l2
  rw [hfw] at hfo
  clear hr1 hr2 hfw
  go_enter Try.func6, Try.ntmps6
  go_wp2_with (first | ((with_reducible refine gate_dst (N := 2) rfl ?_); refine boxN (w := w) rfl (N := 2) rfl (cs := #[.int .i64 m, .slice A1 l1.length c1, .slice A2 l2.length c2]) (t := 43) (by first | (go_simp; done) | (go_simp; rfl)) HB ?_; intro g2 Wa Ha Lg2 HBa Ka) | ((with_reducible refine gate_dst (N := 3) rfl ?_); refine boxN (w := w) rfl (N := 3) rfl (cs := #[.int .i64 i0, .int .i64 i1]) (t := 22) (by first | (go_simp; done) | (go_simp; rfl)) HBa ?_; intro g3 Wb Hb Lg3 HBb Kb; have Hab := Aside0.mk (blk_below Ha.out Kb.out)) | ((with_reducible refine gate_dst (N := 22) rfl ?_); refine wpList_load_row rfl 43 _ rfl g2 rfl 43 _ (0, 0) _ Hab.out Try.underlying43 rfl (by kernel_rfl) ?_))
  refine (few_calls m A1 A2 c1 c2 l1 l2 Wb (Kd.C_below H1.out HBb.out) (Kd.C_below H2.out HBb.out) HFW.out).mono ?_
  rintro e w1 ⟨rfl, hb1⟩
  have HB1 := Aside0.mk (below_step HBb.out hb1)
  have Hs1 := Aside0.mk (blk_below Hab.out hb1)
  have Hi1 := Aside0.mk (blk_below Hb.out hb1)
  clear hb1 Ha HBa Ka Hb HBb Kb Hab
  rcases hfo with rfl | rfl
  · go_wp2_with fail
    refine (one_calls _).mono ?_
    rintro e w2 ⟨rfl, hb2⟩
    have HB2 := Aside0.mk (below_step HB1.out hb2)
    clear hb2
    go_wp2_with fail
    go_ret
    exact ⟨rfl, HB2.out⟩
  obtain ⟨hf1, hf2⟩ := few_fit HFW.out
  have HF1 := Aside0.mk hf1
  have HF2 := Aside0.mk hf2
  obtain ⟨ck, hck⟩ : ∃ k, checkP m l1 l2 = k := ⟨_, rfl⟩
  have HCK := Aside0.mk hck
  obtain ⟨cv, cw, bad⟩ := ck
  clear hf1 hf2 hck
  go_wp2_with (first | ((with_reducible refine gate_dst (N := 26) rfl ?_); refine gate_guard (by rfl) ?_; dsimp only; refine wpList_load_row rfl 43 _ rfl g2 rfl 43 _ (0, 0) _ Hs1.out Try.underlying43 rfl (by kernel_rfl) ?_))
  refine (check_calls m A1 A2 c1 c2 l1 l2 w1 (Kd.C_below H1.out HB1.out) hc1 (Kd.C_below H2.out HB1.out) hc2 HF1.out HF2.out HCK.out).mono ?_
  rintro e w3 ⟨rfl, hb3⟩
  have HB3 := Aside0.mk (below_step HB1.out hb3)
  have Hs3 := Aside0.mk (blk_below Hs1.out hb3)
  have Hi3 := Aside0.mk (blk_below Hi1.out hb3)
  clear hb3 Hs1 Hi1 HB1
  unfold fltCs
  have hfld : (Instr.field 58 (.agg #[.int .i64 cv, .int .i64 cw, .int .i64 bad]) 2).run Try.prog w3 = .ok (.int .i64 bad) w3 := by rfl
  by_cases hbad : bad = 0
  rotate_left
  · have k0 : (bad != 0) = true := by simpa using hbad
    have k1 : (bad == 0) = false := by simpa using hbad
    clear hbad
    go_wp2_with fail
    refine (one_calls _).mono ?_
    rintro e w4 ⟨rfl, hb4⟩
    have HB4 := Aside0.mk (below_step HB3.out hb4)
    clear hb4
    go_wp2_with fail
    go_ret
    exact ⟨rfl, HB4.out⟩
  subst hbad
  have HC0 : Aside0 ((checkP m l1 l2).2.2 = 0) := ⟨by rw [HCK.out]⟩
  obtain ⟨⟨hm2, hm16⟩, ⟨hn1, hw1⟩, ⟨hn2, hw2⟩⟩ := check_ok HC0.out
  clear hw1 hw2
  go_wp2_with (first | ((with_reducible refine gate_dst (N := 33) rfl ?_); refine wpList_load_row rfl 43 _ rfl g2 rfl 43 _ (0, 0) _ Hs3.out Try.underlying43 rfl (by kernel_rfl) ?_))
  refine (all_calls m A1 A2 c1 c2 l1 l2 w3 (Kd.C_below H1.out HB3.out) hc1 (Kd.C_below H2.out HB3.out) hc2 HF1.out HF2.out HC0.out).mono ?_
  rintro e wA ⟨AE, cE, Es, rfl, hxs, hEs, hAt, hbA⟩
  have HEC := Aside0.mk (Kd.R_reads' hEs).2.2
  have HAT := Aside0.mk hAt
  have HBA := Aside0.mk (below_step HB3.out hbA)
  have HsA := Aside0.mk (blk_below Hs3.out hbA)
  have HiA := Aside0.mk (blk_below Hi3.out hbA)
  obtain ⟨M, rfl⟩ := Int.eq_ofNat_of_zero_le (show 0 ≤ m by omega)
  rw [Int.toNat_natCast] at hxs
  have HXS := Aside0.mk hxs
  have hEM : Es.length = M := by have h := congrArg List.length hxs; rw [List.length_map, List.length_map, List.length_range] at h; exact h
  have y0 : wA.cell? ⟨g2, 0, none⟩ = some (.int .i64 (M : Int)) := (cell_in HsA.out 0).trans rfl
  have u0 : wA.cell? ⟨g3, 0, none⟩ = some (.int .i64 i0) := (cell_in HiA.out 0).trans rfl
  have u1 : wA.cell? ⟨g3, 1, none⟩ = some (.int .i64 i1) := (cell_in HiA.out 1).trans rfl
  obtain ⟨X, hX, hXM⟩ := mod_nums i0 M (by omega)
  obtain ⟨Y, hY, hYM⟩ := mod_nums i1 M (by omega)
  have mz : ((M : Int) == 0) = false := by rw [beq_eq_false_iff_ne]; omega
  have mz2 : ¬ (M : Int) = 0 := by omega
  have mz3 : (M == 0) = false := by rw [beq_eq_false_iff_ne]; omega
  have mz4 : ¬ M = 0 := by omega
  have HEM := Aside0.mk hEM
  have HXM := Aside0.mk hXM
  have HYM := Aside0.mk hYM
  rw [hEM]
  clear hEs hxs hAt hbA hEM hfld Hs3 Hi3 hXM hYM
  go_wp2_with fail
  go_quiet (fail)
  have HBq := Aside0.mk (below_drewN HBA.out nq)
  have HKq := Aside0.mk (below_drewN (Below.refl wA.heap.size wA) nq)
  obtain ⟨wq, hwq⟩ : ∃ W, wA.drewN nq = W := ⟨_, rfl⟩
  rw [hwq] at HBq HKq ⊢
  obtain ⟨xp, adp, hA, cp, atp, byp, lnp, ldp⟩ := tab_load rfl HC0.out HXS.out HEC.out HAT.out HKq.out HXM.out
  subst hA
  obtain ⟨P0, hP0⟩ : ∃ P, (viewV (X : Int) 0 l1).map fixA = P := ⟨_, rfl⟩
  obtain ⟨P1, hP1⟩ : ∃ P, (viewV (X : Int) 1 l2).map fixA = P := ⟨_, rfl⟩
  obtain ⟨Q0, hQ0⟩ : ∃ P, (viewV (Y : Int) 0 l1).map fixA = P := ⟨_, rfl⟩
  obtain ⟨Q1, hQ1⟩ : ∃ P, (viewV (Y : Int) 1 l2).map fixA = P := ⟨_, rfl⟩
  rw [hP0, hP1] at ldp
  have HATP := Aside0.mk atp
  have HBYP := Aside0.mk byp
  have HLNP := Aside0.mk lnp
  have HLDP := Aside0.mk ldp
  have HP0 := Aside0.mk hP0
  have HP1 := Aside0.mk hP1
  have HQ0 := Aside0.mk hQ0
  have HQ1 := Aside0.mk hQ1
  have hp0 : P0.length ≤ 1000 := by rw [← hP0]; exact (view_fit hn1 (by omega)).1
  have hp1 : P1.length ≤ 1000 := by rw [← hP1]; exact (view_fit hn2 (by omega)).1
  have hq0 : Q0.length ≤ 1000 := by rw [← hQ0]; exact (view_fit hn1 (by omega)).1
  have hq1 : Q1.length ≤ 1000 := by rw [← hQ1]; exact (view_fit hn2 (by omega)).1
  have b1 : (0 ≤ (X : Int)) = True := eq_true (by omega)
  have b2 : ((X : Int) < (M : Int)) = True := eq_true (by have := HXM.out; omega)
  have b3 : (X < M) = True := eq_true HXM.out
  have b4 : (0 ≤ (Y : Int)) = True := eq_true (by omega)
  have b5 : ((Y : Int) < (M : Int)) = True := eq_true (by have := HYM.out; omega)
  have b6 : (Y < M) = True := eq_true HYM.out
  clear hwq atp byp lnp ldp hP0 hP1 hQ0 hQ1 y0 u0 u1 hX hY mz mz2 mz3 mz4
  go_wp2_with fail
  refine (load_calls (some ⟨xp.g, 0, none⟩) xp.c xp.xs wq (HATP.out.C (by have := HLNP.out; omega)) HATP.out.1 HBYP.out HLNP.out HLDP.out).mono ?_
  rintro e w5 ⟨D0, e0, D1, e1, rfl, ⟨p01, p02⟩, ⟨p11, p12⟩, hb5⟩
  dsimp only at p01 p02 p11 p12 ⊢
  have HP02 := Aside0.mk p02
  have HP12 := Aside0.mk p12
  have HB5 := Aside0.mk (below_step HKq.out hb5)
  clear p02 p12 hb5 cp
  go_wp2_with (first | ((with_reducible refine gate_dst (N := 9) rfl ?_); refine boxN (w := wA) rfl (N := 9) rfl (cs := prgCs 0 none 0 0 none 0 0) (t := 35) (by first | (go_simp; done) | (go_simp; rfl)) HB5 ?_; intro g9 Wb Hb Lg9 HBb Kb) | ((with_reducible refine gate_ (.store 35 (.tmp 9) (.tmp 64)) rfl ?_); refine storeN (w := wA) rfl 35 (.tmp 9) _ rfl g9 (prgCs (X : Int) D0 P0.length e0 D1 P1.length e1) rfl rfl 35 _ Hb (by kernel_rfl) rfl (by rw [← Array.all_toList]; rfl) HBb Lg9 Kb ?_; intro Wc Hc HBc Kc; obtain ⟨xq, adq, hAq, cq, atq, byq, lnq, ldq⟩ := tab_load rfl HC0.out HXS.out HEC.out HAT.out HBc.out HYM.out; have hq := Option.some.inj hAq; subst hq; rw [HQ0.out, HQ1.out] at ldq; have HATQ := Aside0.mk atq; have HBYQ := Aside0.mk byq; have HLNQ := Aside0.mk lnq; have HLDQ := Aside0.mk ldq; clear atq byq lnq ldq))
  refine (load_calls (some ⟨xq.g, 0, none⟩) xq.c xq.xs Wc (HATQ.out.C (by have := HLNQ.out; omega)) HATQ.out.1 HBYQ.out HLNQ.out HLDQ.out).mono ?_
  rintro e w6 ⟨F0, f0, F1, f1, rfl, ⟨r01, r02⟩, ⟨r11, r12⟩, hb6⟩
  dsimp only at r01 r02 r11 r12 ⊢
  have HQ02 := Aside0.mk r02
  have HQ12 := Aside0.mk r12
  have HP06 := Aside0.mk (Kd.C_below (Kd.C_below HP02.out Kc.out) hb6)
  have HP16 := Aside0.mk (Kd.C_below (Kd.C_below HP12.out Kc.out) hb6)
  have Hc6 := Aside0.mk (blk_below Hc.out hb6)
  have HB6 := Aside0.mk (below_step HBc.out hb6)
  clear r02 r12 hb6 cq HP02 HP12 Hb HBb Kb
  go_wp2_with (first | ((with_reducible refine gate_dst (N := 11) rfl ?_); refine boxN (w := wA) rfl (N := 11) rfl (cs := prgCs 0 none 0 0 none 0 0) (t := 35) (by first | (go_simp; done) | (go_simp; rfl)) HB6 ?_; intro g11 Wd Hd Lg11 HBd Kd_) | ((with_reducible refine gate_ (.store 35 (.tmp 11) (.tmp 72)) rfl ?_); refine storeN (w := wA) rfl 35 (.tmp 11) _ rfl g11 (prgCs (Y : Int) F0 Q0.length f0 F1 Q1.length f1) rfl rfl 35 _ Hd (by kernel_rfl) rfl (by rw [← Array.all_toList]; rfl) HBd Lg11 Kd_ ?_; intro We He HBe Ke; have Hce := Aside0.mk (blk_below Hc6.out Ke.out)) | ((with_reducible refine gate_dst (N := 81) rfl ?_); refine gate_guard (by rfl) ?_; dsimp only; refine wpList_load_row rfl 35 _ rfl g9 rfl 35 _ (0, 0) _ Hce.out Try.underlying35 rfl (by kernel_rfl) ?_) | ((with_reducible refine gate_dst (N := 82) rfl ?_); refine gate_guard (by rfl) ?_; dsimp only; refine wpList_load_row rfl 35 _ rfl g11 rfl 35 _ (0, 0) _ He.out Try.underlying35 rfl (by kernel_rfl) ?_))
  have HPa := Aside0.mk (Kd.C_below HP06.out Ke.out)
  have HPb := Aside0.mk (Kd.C_below HP16.out Ke.out)
  have HQa := Aside0.mk (Kd.C_below HQ02.out Ke.out)
  have HQb := Aside0.mk (Kd.C_below HQ12.out Ke.out)
  obtain ⟨bb, hbb⟩ : ∃ b, decide (X = Y) = b := ⟨_, rfl⟩
  have hsame : Calls Try.prog 24 #[.agg (prgCs (X : Int) D0 P0.length e0 D1 P1.length e1), .agg (prgCs (Y : Int) F0 Q0.length f0 F1 Q1.length f1)] We fun e w' => e = .returned (.bool bb) ∧ Below We.heap.size We w' := by
    by_cases hxy : X = Y
    · subst hxy
      obtain rfl : P0 = Q0 := by rw [← HP0.out, HQ0.out]
      obtain rfl : P1 = Q1 := by rw [← HP1.out, HQ1.out]
      obtain rfl : true = bb := by rw [← hbb]; simp
      exact psame_eq (X : Int) D0 D1 F0 F1 e0 e1 f0 f1 P0 P1 We HPa.out HPb.out HQa.out HQb.out hp0 hp1
    · obtain rfl : false = bb := by rw [← hbb]; simp [hxy]
      exact psame_ne (X : Int) (Y : Int) D0 D1 F0 F1 P0.length e0 P1.length e1 Q0.length f0 Q1.length f1 We (by omega)
  have s1 : ((X : Int) == (Y : Int)) = bb := by
    rw [← hbb]
    by_cases h : X = Y
    · rw [decide_eq_true h]; rw [h]; exact beq_self_eq_true _
    · rw [decide_eq_false h]; rw [beq_eq_false_iff_ne]; omega
  have s2 : decide ((X : Int) = (Y : Int)) = bb := by
    rw [← hbb]
    by_cases h : X = Y
    · rw [decide_eq_true h]; exact decide_eq_true (by omega)
    · rw [decide_eq_false h]; exact decide_eq_false (by omega)
  have s3 : (X == Y) = bb := by
    rw [← hbb]
    by_cases h : X = Y
    · rw [decide_eq_true h]; rw [h]; exact beq_self_eq_true _
    · rw [decide_eq_false h]; rw [beq_eq_false_iff_ne]; exact h
  have s4 := hbb
  clear Hd HBd Kd_ HP06 HP16 HQ02 HQ12 hbb
  refine hsame.mono ?_
  rintro e w7 ⟨rfl, hb7⟩
  have HB7 := Aside0.mk (below_step HBe.out hb7)
  have Hc7 := Aside0.mk (blk_below Hce.out hb7)
  have He7 := Aside0.mk (blk_below He.out hb7)
  have HP7 := Aside0.mk (Kd.C_below HPa.out hb7)
  have HP17 := Aside0.mk (Kd.C_below HPb.out hb7)
  have HQ7 := Aside0.mk (Kd.C_below HQa.out hb7)
  have HQ17 := Aside0.mk (Kd.C_below HQb.out hb7)
  clear hb7 hsame HPa HPb HQa HQb
  go_wp2_with (first | ((with_reducible refine gate_dst (N := 90) rfl ?_); refine gate_guard (by rfl) ?_; dsimp only; refine wpList_load_row rfl 35 _ rfl g9 rfl 35 _ (0, 0) _ Hc7.out Try.underlying35 rfl (by kernel_rfl) ?_) | ((with_reducible refine gate_dst (N := 91) rfl ?_); refine gate_guard (by rfl) ?_; dsimp only; refine wpList_load_row rfl 35 _ rfl g9 rfl 35 _ (0, 0) _ Hc7.out Try.underlying35 rfl (by kernel_rfl) ?_))
  refine (psame_eq (X : Int) D0 D1 D0 D1 e0 e1 e0 e1 P0 P1 w7 HP7.out HP17.out HP7.out HP17.out hp0 hp1).mono ?_
  rintro e w8 ⟨rfl, hb8⟩
  have HB8 := Aside0.mk (below_step HB7.out hb8)
  have Hc8 := Aside0.mk (blk_below Hc7.out hb8)
  have He8 := Aside0.mk (blk_below He7.out hb8)
  have HP8 := Aside0.mk (Kd.C_below HP7.out hb8)
  have HP18 := Aside0.mk (Kd.C_below HP17.out hb8)
  have HQ8 := Aside0.mk (Kd.C_below HQ7.out hb8)
  have HQ18 := Aside0.mk (Kd.C_below HQ17.out hb8)
  obtain ⟨V0, hV0⟩ : ∃ V, viewV (X : Int) 0 l1 = V := ⟨_, rfl⟩
  obtain ⟨V1, hV1⟩ : ∃ V, viewV (X : Int) 1 l2 = V := ⟨_, rfl⟩
  have hts : (P0 ++ P1).any sndX = accB sndV V0 V1 2 := by rw [List.any_append, ← HP0.out, ← HP1.out, snd_fix, snd_fix, hV0, hV1]; rfl
  have htu : (P0 ++ P1).any tkeX = accB tkeV V0 V1 2 := by rw [List.any_append, ← HP0.out, ← HP1.out, tke_fix, tke_fix, hV0, hV1]; rfl
  have HV0 := Aside0.mk hV0
  have HV1 := Aside0.mk hV1
  have HTS := Aside0.mk hts
  have HTU := Aside0.mk htu
  obtain ⟨sT, hsT⟩ : ∃ b, accB sndV V0 V1 2 = b := ⟨_, rfl⟩
  obtain ⟨uT, huT⟩ : ∃ b, accB tkeV V0 V1 2 = b := ⟨_, rfl⟩
  rw [hsT] at HTS
  rw [huT] at HTU
  have HST := Aside0.mk hsT
  have HUT := Aside0.mk huT
  clear hb8 hV0 hV1 hts htu hsT huT s1 s2 s3 s4 HP7 HP17 HQ7 HQ17 Hc7 He7
  go_wp2_with (first | ((with_reducible refine gate_dst (N := 96) rfl ?_); refine wpList_load_row rfl 35 _ rfl g9 rfl 35 _ (0, 0) _ Hc8.out Try.underlying35 rfl (by kernel_rfl) ?_))
  refine (talks_calls (X : Int) D0 e0 P0 D1 e1 P1 w8 HP8.out HP18.out hp0 hp1 HTS.out HTU.out).mono ?_
  rintro e wT ⟨rfl, hbT⟩
  have HBT := Aside0.mk (below_step HB8.out hbT)
  have HcT := Aside0.mk (blk_below Hc8.out hbT)
  have HeT := Aside0.mk (blk_below He8.out hbT)
  have HPT := Aside0.mk (Kd.C_below HP8.out hbT)
  have HP1T := Aside0.mk (Kd.C_below HP18.out hbT)
  have HQT := Aside0.mk (Kd.C_below HQ8.out hbT)
  have HQ1T := Aside0.mk (Kd.C_below HQ18.out hbT)
  have HsT := Aside0.mk (blk_below HsA.out HBT.out)
  clear hbT
  go_wp2_with fail
  go_loopw [15, 16, 17, 18, 19, 20, 21] (fun v15 v16 v17 _ _ _ _ wr => ∃ (v : Int) (s u : Bool), (0 ≤ v ∧ v ≤ 2) ∧ v17 = .int .i64 v ∧ v15 = .bool s ∧ v16 = .bool u ∧ Aside0 (accB sndV V0 V1 v = s) ∧ Aside0 (accB tkeV V0 V1 v = u) ∧ Below wT.heap.size wT wr) (fun _ _ v17 _ _ _ _ _ => (2 - intOf v17).toNat)
  case atStart => exact ⟨0, false, false, by omega, rfl, rfl, rfl, ⟨rfl⟩, ⟨rfl⟩, Below.refl _ _⟩
  case round =>
    obtain ⟨v, s, u, hv02, rfl, rfl, rfl, HS, HU, hb⟩ := hrel
    have HKr := Aside0.mk hb
    have HBr := Aside0.mk (below_step HBT.out hb)
    have Hcr := Aside0.mk (blk_below HcT.out hb)
    have Her := Aside0.mk (blk_below HeT.out hb)
    have Hsr := Aside0.mk (blk_below HsT.out hb)
    have HPr := Aside0.mk (Kd.C_below HPT.out hb)
    have HP1r := Aside0.mk (Kd.C_below HP1T.out hb)
    have HQr := Aside0.mk (Kd.C_below HQT.out hb)
    have HQ1r := Aside0.mk (Kd.C_below HQ1T.out hb)
    clear hb
    by_cases hv2 : v < 2
    rotate_left
    · have d3 : decide (v < 2) = false := decide_eq_false hv2
      obtain rfl : v = 2 := by omega
      have es : sT = s := by rw [← HST.out, HS.out]
      have eu : uT = u := by rw [← HUT.out, HU.out]
      subst es eu
      clear hv2
      have t1 : (sT == sT) = true := beq_self_eq_true _
      have t2 : (uT == uT) = true := beq_self_eq_true _
      go_wp2_with (first | ((with_reducible refine gate_dst (N := 185) rfl ?_); refine gate_guard (by rfl) ?_; dsimp only; refine wpList_load_row rfl 35 _ rfl g9 rfl 35 _ (0, 0) _ Hcr.out Try.underlying35 rfl (by kernel_rfl) ?_))
      refine (does_calls (X : Int) D0 e0 P0 D1 e1 P1 2 0 wr HPr.out HP1r.out hp0 hp1 rfl).mono ?_
      rintro e w9 ⟨rfl, hb9⟩
      have HB9 := Aside0.mk (below_step HBA.out (below_step HBr.out hb9))
      have dz : doesQ 2 0 P0 P1 = 0 := rfl
      rw [dz]
      clear hb9 dz
      go_wp2_with fail
      refine (one_calls _).mono ?_
      rintro e w10 ⟨rfl, hb10⟩
      have HB10 := Aside0.mk (below_step HB9.out hb10)
      clear hb10
      go_wp2_with fail
      go_ret
      exact ⟨rfl, HB10.out⟩
    have hv0 : 0 ≤ v := hv02.1
    have d3 : decide (v < 2) = true := decide_eq_true hv2
    obtain ⟨V, L, hVV, hL, hLf, hll, hdp, hdq, hns, hnu⟩ : ∃ V L, viewV (X : Int) v L = V ∧ (if v = 0 then l1 else l2) = L ∧ Fit L ∧ L.length ≤ 32 ∧ (∀ k, doesQ v k P0 P1 = cntL k V) ∧ (∀ k, doesQ v k Q0 Q1 = cntL k V) ∧ accB sndV V0 V1 (v + 1) = (s || V.any sndV) ∧ accB tkeV V0 V1 (v + 1) = (u || V.any tkeV) := by
      rcases (by omega : v = 0 ∨ v = 1) with rfl | rfl
      · exact ⟨V0, l1, HV0.out, rfl, HF1.out, hn1, fun k => by show cntL k P0 = _; rw [← HP0.out, cnt_fix, HV0.out], fun k => by show cntL k Q0 = _; rw [← HQ0.out, cnt_fix, ← HV0.out]; exact cnt_view k _ _ _ _, by rw [← HS.out]; rfl, by rw [← HU.out]; rfl⟩
      · exact ⟨V1, l2, HV1.out, rfl, HF2.out, hn2, fun k => by show cntL k P1 = _; rw [← HP1.out, cnt_fix, HV1.out], fun k => by show cntL k Q1 = _; rw [← HQ1.out, cnt_fix, ← HV1.out]; exact cnt_view k _ _ _ _, by rw [← HS.out]; rfl, by rw [← HU.out]; rfl⟩
    obtain ⟨sN, hsN⟩ : ∃ b, accB sndV V0 V1 (v + 1) = b := ⟨_, rfl⟩
    obtain ⟨uN, huN⟩ : ∃ b, accB tkeV V0 V1 (v + 1) = b := ⟨_, rfl⟩
    rw [hsN] at hns
    rw [huN] at hnu
    have hVk : ∀ x ∈ V, (0 ≤ x.f0 ∧ x.f0 ≤ 4) := fun x hx => (view_kind (X : Int) v L x (by rw [hVV]; exact hx)).1
    have hVm : V.length ≤ 40 := by rw [← hVV]; unfold viewV; rw [List.length_cons]; have := viewL_len (X : Int) L (200 + 40 * v); omega
    have HVV := Aside0.mk hVV
    have HL := Aside0.mk hL
    have HLF := Aside0.mk hLf
    have HDP := Aside0.mk hdp
    have HDQ := Aside0.mk hdq
    have HNS := Aside0.mk hns
    have HNU := Aside0.mk hnu
    have HSN := Aside0.mk hsN
    have HUN := Aside0.mk huN
    have HVK := Aside0.mk hVk
    clear hVV hL hLf hdp hdq hns hnu hsN huN hVk
    go_wp2_with (first | ((with_reducible refine gate_dst (N := 18) rfl ?_); refine boxN (w := wT) rfl (N := 18) rfl (cs := #[.int .i64 0, .int .i64 0, .int .i64 0, .int .i64 0, .int .i64 0]) (t := 69) (by first | (go_simp; done) | (go_simp; rfl)) HKr ?_; intro g18 Wf Hf Lg18 HKf Kf; have Hsf := Aside0.mk (blk_below Hsr.out Kf.out)) | ((with_reducible refine gate_dst (N := 104) rfl ?_); refine wpList_load_row rfl 43 _ rfl g2 rfl 43 _ (0, 0) _ Hsf.out Try.underlying43 rfl (by kernel_rfl) ?_))
    refine (view_calls (M : Int) A1 A2 c1 c2 l1 l2 L v (X : Int) Wf (Kd.C_below H1.out (below_step HBA.out (below_step HBT.out HKf.out))) hc1 (Kd.C_below H2.out (below_step HBA.out (below_step HBT.out HKf.out))) hc2 hv0 hv2 HL.out HLF.out).mono ?_
    rintro e w9 ⟨v9, rfl, h9, hb9⟩
    have h9' : Kd.R k47 64 w9 Wf.heap.size (fun _ => True) v9 V := by rw [← HVV.out]; exact h9
    obtain ⟨AW, cW, e9⟩ := Kd.R_slice h9'
    subst e9
    have Hf9 := Aside0.mk (blk_below Hf.out hb9)
    have HNB := Aside0.mk (Kd.R_ne h9' Hf9.out (by decide))
    have HC9 := Aside0.mk (Kd.R_reads' h9').2.2
    have HK9 := Aside0.mk (below_step HKf.out hb9)
    have HR9 := Aside0.mk (below_step Kf.out hb9)
    clear h9 h9' hb9
    go_wp2_with fail
    go_loopw [15, 16, 20] (fun v15 v16 v20 wi => ∃ (i : Nat) (s' u' : Bool), i ≤ V.length ∧ v20 = .int .i64 (i : Int) ∧ v15 = .bool s' ∧ v16 = .bool u' ∧ Aside0 ((s' || (V.drop i).any sndV) = sN) ∧ Aside0 ((u' || (V.drop i).any tkeV) = uN) ∧ wi.heap[g18]? = some (.cells (cnts (V.take i)) 69 (0, 0)) ∧ Aside0 (∀ b, b ≠ g18 → wi.heap[b]? = w9.heap[b]?) ∧ Below wr.heap.size wr wi) (fun _ _ v20 _ => ((V.length : Int) - intOf v20).toNat)
    case atStart => exact ⟨0, s, u, Nat.zero_le _, rfl, rfl, rfl, ⟨by rw [List.drop_zero]; exact HNS.out.symm⟩, ⟨by rw [List.drop_zero]; exact HNU.out.symm⟩, Hf9.out, ⟨fun b _ => rfl⟩, HR9.out⟩
    case round =>
      obtain ⟨i, s', u', hi, rfl, rfl, rfl, HSi, HUi, hgi, HOi, hbi⟩ := hrel
      have HGI := Aside0.mk hgi
      have HBI := Aside0.mk hbi
      clear hgi hbi
      by_cases hlt : i < V.length
      rotate_left
      · have m1 : decide ((i : Int) < (V.length : Int)) = false := decide_eq_false (by omega)
        have m2 : decide (i < V.length) = false := decide_eq_false hlt
        have hti : V.take i = V := List.take_of_length_le (by omega)
        rw [hti] at HGI
        have HSE : Aside0 (s' = sN) := ⟨by have h := HSi.out; rw [List.drop_eq_nil_of_le (by omega)] at h; simpa using h⟩
        have HUE : Aside0 (u' = uN) := ⟨by have h := HUi.out; rw [List.drop_eq_nil_of_le (by omega)] at h; simpa using h⟩
        have hse := HSE.out
        have hue := HUE.out
        subst hse hue
        have Hck := Aside0.mk (blk_below Hcr.out HBI.out)
        have Hek := Aside0.mk (blk_below Her.out HBI.out)
        have HPk := Aside0.mk (Kd.C_below HPr.out HBI.out)
        have HP1k := Aside0.mk (Kd.C_below HP1r.out HBI.out)
        have HQk := Aside0.mk (Kd.C_below HQr.out HBI.out)
        have HQ1k := Aside0.mk (Kd.C_below HQ1r.out HBI.out)
        have HKk := Aside0.mk (below_step HKr.out HBI.out)
        clear hlt hti HSE HUE
        go_wp2_with fail
        go_loopw [21] (fun v21 wk => ∃ k : Nat, k ≤ 5 ∧ v21 = .int .i64 (k : Int) ∧ Below wr.heap.size wr wk) (fun v21 _ => ((5 : Int) - intOf v21).toNat)
        case atStart => exact ⟨0, by omega, rfl, Below.refl _ _⟩
        case round =>
          obtain ⟨k, hk, rfl, hbk⟩ := hrel
          have HBK := Aside0.mk hbk
          clear hbk
          by_cases hk5 : k < 5
          rotate_left
          · have d5 : decide ((k : Int) < 5) = false := decide_eq_false (by omega)
            have d6 : decide (k < 5) = false := decide_eq_false hk5
            clear hk5
            go_wp2_with fail
            exact ⟨⟨v + 1, _, _, by omega, by (first | rfl | simp), rfl, rfl, HSN, HUN, below_step HKk.out HBK.out⟩, by simp [intOf]; omega⟩
          have d5 : decide ((k : Int) < 5) = true := decide_eq_true (by omega)
          have d6 : decide (k < 5) = true := decide_eq_true hk5
          obtain ⟨T, hT⟩ : ∃ T, cntL (k : Int) V = T := ⟨_, rfl⟩
          have hn := cnts_get V hk5
          rw [hT] at hn
          have HN0 := Aside0.mk hn
          have HDPk := Aside0.mk (HDP.out (k : Int))
          have HDQk := Aside0.mk (HDQ.out (k : Int))
          rw [hT] at HDPk HDQk
          clear hT hn
          have HS27 := sm_shut HGI HN0 Hck Hek HBK
          have B1 := does_all (md := (X : Int)) (c0 := e0) (c1 := e1) (v := v) (k := (k : Int)) HPk HP1k HBK hp0 hp1 HDPk
          have B2 := does_all (md := (Y : Int)) (c0 := f0) (c1 := f1) (v := v) (k := (k : Int)) HQk HQ1k HBK hq0 hq1 HDQk
          have e69 := Try.underlying69
          have hnil : (⟨g18, 0, none⟩ : Addr).add k = ⟨g18, k, none⟩ := by rw [Addr.add_lit, Nat.zero_add]
          have k3 : (0 ≤ (k : Int)) = True := eq_true (by omega)
          have k4 : ((k : Int) < 5) = True := eq_true (by omega)
          have k5 : (k < 5) = True := eq_true hk5
          have HK5 := Aside0.mk hk5
          clear hk5
          go_wp2_with fail
          refine startD 18 sameT HS27 ⟨Below.refl _ _⟩ (fun W4 HT B4 K4 => ?_)
          refine takeD 0 (some 158) (lb 18 0x1) HT HS27 B4 ?_ (hy := Or.inl ⟨by rfl, by intro w' hs; unfold SmS at hs; obtain ⟨s0, s1, s2⟩ := hs; exact exec_row 35 _ rfl g9 rfl 35 (prgCs (X : Int) D0 P0.length e0 D1 P1.length e1) _ s1 Try.underlying35 rfl (by kernel_rfl)⟩)
          refine pureD 1 (some 159) (lb 18 0x3) HT ?_
          refine pureD 2 (some 160) (lb 18 0x7) HT ?_
          refine pureD 4 (some 162) (lb 18 0x17) HT ?_
          refine pureD 5 (some 163) (lb 18 0x37) HT ?_
          refine takeD 6 (some 164) (lb 18 0x77) HT HS27 B4 ?_ (hy := Or.inl ⟨by rfl, by intro w' hs; unfold SmS at hs; obtain ⟨s0, s1, s2⟩ := hs; go_simp; with_reducible rfl⟩)
          refine oneD 3 (some 161) (lb 18 0x7f) HT (fun K hK => ?_)
          refine callK hK HS27 B4 Try.func26 (B1.out _ B4.out) (fun W5 B5 K5 => ?_)
          refine pureD 7 (some 165) (lb 18 0xff) HT (v := .bool false) ?_ (hy := Or.inl ⟨by rfl, by intro w'; go_simp⟩)
          refine pureD 8 (some 166) (lb 18 0x1ff) HT ?_
          refine takeD 9 (some 167) (lb 18 0x3ff) HT HS27 B5 ?_ (hy := Or.inl ⟨by rfl, by intro w' hs; unfold SmS at hs; obtain ⟨s0, s1, s2⟩ := hs; exact exec_row 35 _ rfl g11 rfl 35 (prgCs (Y : Int) F0 Q0.length f0 F1 Q1.length f1) _ s2 Try.underlying35 rfl (by kernel_rfl)⟩)
          refine pureD 10 (some 168) (lb 18 0x7ff) HT ?_
          refine pureD 11 (some 169) (lb 18 0xfff) HT ?_
          refine pureD 13 (some 171) (lb 18 0x2fff) HT ?_
          refine pureD 14 (some 172) (lb 18 0x6fff) HT ?_
          refine takeD 15 (some 173) (lb 18 0xefff) HT HS27 B5 ?_ (hy := Or.inl ⟨by rfl, by intro w' hs; unfold SmS at hs; obtain ⟨s0, s1, s2⟩ := hs; go_simp; with_reducible rfl⟩)
          refine oneD 12 (some 170) (lb 18 0xffff) HT (fun K hK => ?_)
          refine callK hK HS27 B5 Try.func26 (B2.out _ B5.out) (fun W6 B6 K6 => ?_)
          refine pureD 16 (some 174) (lb 18 0x1ffff) HT (v := .bool false) ?_ (hy := Or.inl ⟨by rfl, by intro w'; go_simp⟩)
          refine pureD 17 (some 175) (lb 18 0x3ffff) HT (v := .bool false) ?_ (hy := Or.inl ⟨by rfl, by intro w'; go_simp⟩)
          refine doneD HT ?_
          clear HT
          go_wp2_with fail
          exact ⟨⟨k + 1, by have := HK5.out; omega, by simp, below_step HBK.out B6.out⟩, by have := HK5.out; simp [intOf]; omega⟩
      have m1 : decide ((i : Int) < (V.length : Int)) = true := decide_eq_true (by omega)
      have m2 : decide (i < V.length) = true := decide_eq_true hlt
      have q1 : (0 ≤ (i : Int)) = True := eq_true (by omega)
      have q2 : ((i : Int) < (V.length : Int)) = True := eq_true (by omega)
      have q3 : (i < V.length) = True := eq_true hlt
      obtain ⟨x, hx⟩ : ∃ x, V[i] = x := ⟨_, rfl⟩
      have hCi := C47_same HC9.out (fun ad ha => HOi.out _ (fun e => HNB.out (by rw [ha, ← e]; rfl)))
      obtain ⟨ad, hA, x0, x1, x2, x3, x4, x5, x6, x7⟩ := slot_at hCi (Below.refl _ _) hlt hx
      obtain ⟨K, hK⟩ : ∃ K : Nat, x.f0 = (K : Int) := ⟨x.f0.toNat, by have := (HVK.out x (by rw [← hx]; exact List.getElem_mem hlt)).1; omega⟩
      have hK5 : K < 5 := by have := (HVK.out x (by rw [← hx]; exact List.getElem_mem hlt)).2; omega
      have htk : V.take (i + 1) = V.take i ++ [x] := by rw [List.take_add_one, List.getElem?_eq_getElem hlt, hx]; rfl
      have hcb := cntL_bd (K : Int) (V.take i)
      have hcl : (V.take i).length ≤ V.length := by rw [List.length_take]; omega
      obtain ⟨C, hC⟩ : ∃ C, cntL (K : Int) (V.take i) = C := ⟨_, rfl⟩
      rw [hC] at hcb
      have n0 := (cell_in HGI.out K).trans (cnts_get (V.take i) hK5)
      have hst := cnts_step (V.take i) x hK5 hK
      rw [hC] at n0 hst
      rw [← htk] at hst
      have HST2 := Aside0.mk hst
      have w0 : wrap64 (C + 1) = C + 1 := by unfold wrap64; omega
      have fz := free_in HGI.out K
      have hnil : (⟨g18, 0, none⟩ : Addr).add K = ⟨g18, K, none⟩ := by rw [Addr.add_lit, Nat.zero_add]
      rw [hK] at x0
      have k1 : decide (0 ≤ (K : Int)) = true := decide_eq_true (by omega)
      have k2 : decide ((K : Int) < 5) = true := decide_eq_true (by omega)
      have k3 : (0 ≤ (K : Int)) = True := eq_true (by omega)
      have k4 : ((K : Int) < 5) = True := eq_true (by omega)
      have k5 : (K < 5) = True := eq_true hK5
      have e69 := Try.underlying69
      obtain ⟨d6, hd6⟩ : ∃ b, decide (0 ≤ x.f6) = b := ⟨_, rfl⟩
      obtain ⟨d7, hd7⟩ : ∃ b, x.f7 = b := ⟨_, rfl⟩
      rw [hd7] at x7
      have HN1 : Aside0 (((s' || d6) || (V.drop (i + 1)).any sndV) = sN) := ⟨by have h := HSi.out; rw [List.drop_eq_getElem_cons hlt, hx, List.any_cons, ← Bool.or_assoc, show sndV x = d6 from hd6] at h; exact h⟩
      have HN2 : Aside0 (((u' || d7) || (V.drop (i + 1)).any tkeV) = uN) := ⟨by have h := HUi.out; rw [List.drop_eq_getElem_cons hlt, hx, List.any_cons, ← Bool.or_assoc, show tkeV x = d7 from hd7] at h; exact h⟩
      have HX := Aside0.mk hx
      have HLT := Aside0.mk hlt
      have HK5 := Aside0.mk hK5
      have HLE := Aside0.mk Lg18.out.2
      subst hA
      clear hx hCi hK htk hcb hcl hC hst HSi HUi hK5
      go_wp2_with (first | ((with_reducible refine gate_ (.store 3 (.tmp 136) (.tmp 135)) rfl ?_); go_loud (refine storeCellN rfl rfl 3 (.tmp 136) (.tmp 135) rfl g18 K (.int .i64 (C + 1)) HGI (by first | (go_simp; done) | (go_simp; rfl)) HBI HLE ?_; intro W3 HG3 HB3 HO3; rw [HST2.out] at HG3; have HO4 : Aside0 (∀ b, b ≠ g18 → W3.heap[b]? = w9.heap[b]?) := ⟨fun b hb => (HO3.out b hb).trans (HOi.out b hb)⟩; have hC3 := C47_same HC9.out (fun ad ha => HO4.out _ (fun e => HNB.out (by rw [ha, ← e]; rfl))); have HC3 := Aside0.mk hC3; clear x0 x1 x2 x3 x4 x5 x6 x7 n0 fz hnil hC3)))
      obtain ⟨ae, hE, z0, z1, z2, z3, z4, z5, z6, z7⟩ := slot_at HC3.out (Below.refl _ _) HLT.out HX.out
      have hE2 := Option.some.inj hE
      subst hE2
      rw [hd7] at z7
      clear hE hd7 k1 k2 e69 k3 k4 k5 w0
      have HP1 : Aside0 (∀ W, Below W3.heap.size W3 W → W.heap[g18]? = some (.cells (cnts (V.take (i + 1))) 69 (0, 0))) := ⟨fun W h => blk_below HG3.out h⟩
      have HDec : (((V.length : Int) - ((i : Int) + 1)).toNat < ((V.length : Int) - (i : Int)).toNat) := by have := HLT.out; omega
      have HLe : i + 1 ≤ V.length := HLT.out
      cases s' <;> cases u' <;> (simp only [Bool.false_or, Bool.true_or] at HN1 HN2; go_quiet (fail); go_wp2_with fail; exact ⟨⟨i + 1, _, _, HLe, by rw [Int.natCast_add]; rfl, rfl, rfl, HN1, HN2, HP1.out _ (below_drewN (Below.refl _ _) nq), ⟨fun b hb => HO4.out b hb⟩, below_drewN HB3.out nq⟩, HDec⟩)
end Go.Proofs.Ytbaapakkdnhcmaa.PWe
