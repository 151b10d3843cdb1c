/- All flaws: walk. Helper text. -/
import Derived.Test.YtekbaconbemgpaaAuWro
import Derived.Test.YtekbaconbemgpaaAuStr
namespace Go.Proofs.Ytekbaconbemgpaa.PWe
open Go.RowKit Go.Proofs.Ytekbaconbemgpaa.Kx Go.Proofs.YtekbaconbemgpaaW.PrintWords Go.Proofs.YtekbaconbemgpaaW.PrintLast Go.Proofs.YtekbaconbemgpaaW.PrintMore
set_option linter.unusedVariables false
set_option linter.unusedSimpArgs false

section
variable {P : Program} {ops : Array Oper} {Q : Exit → Act → World → Prop} {S : World → Prop} {w wb : World} {K : Act → World → Prop} {l' : Array Bool} {oi : Oper} {a : Act} {fuel : Nat}
/-- A list made in a drawn region. -/
theorem litB (hK : Shut (∀ a' w', S w' → (S w' → wpAnyLast P .any ops Q S [] fuel l' a' w') → K a' w')) (HS : Aside0 (∀ W', Below wb.heap.size wb W' → S W')) (HB : Aside0 (Below wb.heap.size wb w)) {M : Tmp} (cs : Array Value) (e : TypeId) (n : Nat) {a' : Nat → Act}
    (hrun : (execOp a.eval oi).run P w = .ok (.value (.slice (some ⟨w.heap.size, 0, none⟩) n n)) (w.alloc (.cells cs e)))
    (h : ∀ g W2, Aside0 (W2.heap[g]? = some (.cells cs e (0, 0))) → Aside0 (wb.heap.size ≤ g) → Aside0 (Below wb.heap.size wb W2) → wpAnyLast P .any ops Q S [] fuel l' (a' g) W2)
    (hw : Region.wanted oi (yielded ops a.tmps) = true := by rfl) (hd : oi.dst = some M := by rfl) (ha : ∀ g : Nat, a.put (some M) (.slice (some ⟨g, 0, none⟩) n n) = a' g := by (intro g; simp only [Act.put, List.setIfInBounds_toArray, List.set_cons_zero, List.set_cons_succ]; rfl)) :
    if Region.wanted oi (yielded ops a.tmps) = true then Oper.wp P oi a w K Q else K (a.put (some M) undef) w := by
  rw [← hd]
  refine event_step hw hrun ?_
  have hb3 := below_step HB.out (below_alloc (Below.refl _ _) (.cells cs e))
  rw [hd, ha]
  exact hK.out _ _ (HS.out _ hb3) fun _ => h _ _ ⟨blk_new w _⟩ ⟨below_size HB.out⟩ ⟨hb3⟩
end
def WinV.cells (v : WinV) (p : Addr) (W : World) : Prop :=
  W.cell? p = some (.int .i64 v.x.f0) ∧ W.cell? ⟨p.block, p.off + 1, none⟩ = some (.int .i64 v.x.f1) ∧ W.cell? ⟨p.block, p.off + 2, none⟩ = some (.int .i64 v.x.f2) ∧ W.cell? ⟨p.block, p.off + 3, none⟩ = some (.slice v.A3 v.x.f3.length v.c3) ∧ W.cell? ⟨p.block, p.off + 4, none⟩ = some (.slice v.A4 v.x.f4.length v.c4) ∧ W.cell? ⟨p.block, p.off + 5, none⟩ = some (.slice v.A5 v.x.f5.length v.c5) ∧ W.cell? ⟨p.block, p.off + 6, none⟩ = some (.int .i64 v.x.f6) ∧ W.cell? ⟨p.block, p.off + 7, none⟩ = some (.slice v.A7 v.x.f7.length v.c7)
theorem w101_at {w : World} {A : Option Addr} {l : List S101} (h : Kd.C k101 w A l.length l) {i : Nat} (hi : i < l.length) {x : S101} (hx : l[i] = x) : ∃ ad, ∃ v : WinV, A = some ad ∧ v.x = x ∧ v.ok w ∧ v.cells (ad.add (i * 8)) w := by
  subst hx
  have h := at_T101 h (i : Int) (by omega) (by omega)
  have e : rd_T101 l (i : Int) = l[i] := by
    unfold rd_T101
    rw [Int.toNat_natCast, List.getD_eq_getElem?_getD, List.getElem?_eq_getElem hi]; rfl
  rw [e, Int.toNat_natCast] at h
  obtain ⟨ad, A3, c3, A4, c4, A5, c5, A7, c7, e, x0, x1, x2, x3, x4, x5, x6, x7, k3, r3, k4, r4, k5, r5, k7, r7⟩ := h
  exact ⟨ad, ⟨l[i], A3, c3, A4, c4, A5, c5, A7, c7⟩, e, rfl, ⟨r3, r4, r5, k3, k4, k5⟩, x0, x1, x2, x3, x4, x5, x6, x7⟩
/-- The flaws of one window. -/
def flL (at_ : Int) : Nat → List Bool → List S68
  | _, [] => []
  | i, b :: r => if b = true then ⟨(i : Int) + 1, at_⟩ :: flL at_ (i + 1) r else flL at_ (i + 1) r
def flagsP (l0 l1 : List S76) (L : List S95) (G : List Int) (x : S101) : List Bool := [!agreedP x G, unlikeP L G x, wrongP l0 l1 L G x, strayP l0 l1 G x, twiceP G x]
/-- All flaws. -/
def chkL (l0 l1 : List S76) (L : List S95) (G : List Int) : Nat → List S101 → List S68
  | _, [] => []
  | k, x :: r => flL (k : Int) 0 (flagsP l0 l1 L G x) ++ chkL l0 l1 L G (k + 1) r
theorem flL_len (at_ : Int) : ∀ (bs : List Bool) (i : Nat), (flL at_ i bs).length ≤ bs.length
  | [], _ => Nat.le_refl _
  | b :: r, i => by
    have := flL_len at_ r (i + 1)
    rw [flL]
    split <;> simp only [List.length_cons] <;> omega
def chT : Bool × List (List Nat × List Nat) := (true, [([], []), ([], []), ([0, 1], [0, 1]), ([2], [2]), ([], []), ([], []), ([4, 5, 2], [4, 5]), ([], []), ([], []), ([7, 8, 6], [7, 8]), ([], []), ([], []), ([10, 11, 9], [10, 11]), ([], []), ([], []), ([13, 14, 12], [13, 14]), ([3, 6, 9, 12, 15], [3, 6, 9, 12, 15]), ([16], [16]), ([], [])])
theorem chtab : rtab .any (opsOf Try.f20 6) = chT := by kernel_rfl
def Both13 (g7 g10 : Nat) (a : AudV) (v : WinV) (W : World) : Prop :=
  W.cell? ⟨g7, 0, none⟩ = some (.int .i64 a.md) ∧ W.cell? ⟨g7, 1, none⟩ = some (.slice a.A0 a.l0.length a.c0) ∧ W.cell? ⟨g7, 2, none⟩ = some (.slice a.A1 a.l1.length a.c1) ∧ W.cell? ⟨g7, 3, none⟩ = some (.slice a.AL a.L.length a.cL) ∧ W.cell? ⟨g7, 4, none⟩ = some (.slice a.AG a.G.length a.cG) ∧
  W.cell? ⟨g10, 0, none⟩ = some (.int .i64 v.x.f0) ∧ W.cell? ⟨g10, 1, none⟩ = some (.int .i64 v.x.f1) ∧ W.cell? ⟨g10, 2, none⟩ = some (.int .i64 v.x.f2) ∧ W.cell? ⟨g10, 3, none⟩ = some (.slice v.A3 v.x.f3.length v.c3) ∧ W.cell? ⟨g10, 4, none⟩ = some (.slice v.A4 v.x.f4.length v.c4) ∧ W.cell? ⟨g10, 5, none⟩ = some (.slice v.A5 v.x.f5.length v.c5) ∧ W.cell? ⟨g10, 6, none⟩ = some (.int .i64 v.x.f6) ∧ W.cell? ⟨g10, 7, none⟩ = some (.slice v.A7 v.x.f7.length v.c7)
set_option maxHeartbeats 4000000 in
set_option maxRecDepth 100000 in
theorem check_callsF (a : AudV) (Ws : List S101) (w : World) (ha : a.ok w) (hL64 : a.L.length ≤ 1000000) (hWl : Ws.length ≤ 1000000)
    (hwin : ∀ W, Below w.heap.size w W → Calls Try.prog 36 #[.slice a.AL a.L.length a.cL] W fun e w' => ∃ A' c', e = .returned (.slice A' Ws.length c') ∧ Ws.length ≤ c' ∧ Kd.C k101 w' A' Ws.length Ws ∧ Below W.heap.size W w') :
    Calls Try.prog 20 #[.agg #[.int .i64 a.md, .slice a.A0 a.l0.length a.c0, .slice a.A1 a.l1.length a.c1], .slice a.AL a.L.length a.cL, .slice a.AG a.G.length a.cG] w fun e w' => ∃ A' c', e = .returned (.slice A' (chkL a.l0 a.l1 a.L a.G 0 Ws).length c') ∧ (chkL a.l0 a.l1 a.L a.G 0 Ws).length ≤ c' ∧ Kd.C k68 w' A' (chkL a.l0 a.l1 a.L a.G 0 Ws).length (chkL a.l0 a.l1 a.L a.G 0 Ws) ∧ (∀ ad, A' = some ad → w.heap.size ≤ ad.block) ∧ Below w.heap.size w w' := by
  have HA := Aside0.mk ha
  have HWN := Aside0.mk hwin
  have HB : Aside0 (Below w.heap.size w w) := ⟨Below.refl _ _⟩
  obtain ⟨R, hR⟩ : ∃ R, chkL a.l0 a.l1 a.L a.G 0 Ws = R := ⟨_, rfl⟩
  rw [hR]
  have HRR := Aside0.mk hR
  clear ha hwin hR
  go_enter Try.func20, Try.ntmps20
  go_wp2_with (first | ((with_reducible refine gate_dst (N := 3) rfl ?_); refine boxN (w := w) rfl (N := 3) rfl (cs := #[.int .i64 a.md, .slice a.A0 a.l0.length a.c0, .slice a.A1 a.l1.length a.c1]) (t := 62) (by first | (go_simp; done) | (go_simp; rfl)) HB ?_; intro g3 Wa Ha Lg3 HB_Wa K_Wa) | ((with_reducible refine gate_dst (N := 13) rfl ?_); refine wpList_load_row rfl 62 _ rfl g3 rfl 62 _ (0, 0) _ Ha.out Try.underlying62 rfl (by kernel_rfl) ?_) | ((with_reducible refine gate_dst (N := 7) rfl ?_); refine boxN (w := w) rfl (N := 7) rfl (cs := #[.int .i64 0, .slice none 0 0, .slice none 0 0, .slice none 0 0, .slice none 0 0]) (t := 97) (by first | (go_simp; done) | (go_simp; rfl)) HB_Wa ?_; intro g7 Wb Hb Lg7 HB_Wb K_Wb) | (refine storeN (w := w) rfl 97 _ _ rfl g7 a.arr rfl rfl 97 _ Hb (by kernel_rfl) rfl (by rw [← Array.all_toList]; rfl) HB_Wb Lg7 K_Wb ?_; clear Hb; intro Wc Hb HB_Wc K_Wc; have Hc := Hb))
  refine (HWN.out Wc HB_Wc.out).mono ?_
  rintro e w1 ⟨AW, cW, rfl, hcW, hWC, hb⟩
  have HB1 := Aside0.mk (below_step HB_Wc.out hb)
  have HG7 := Aside0.mk (blk_below Hc.out hb)
  have HWC := Aside0.mk hWC
  clear hb hWC Ha Hc HB_Wa HB_Wc K_Wa K_Wc HB_Wb K_Wb
  go_wp2_with fail
  go_loopw [8, 9, 10, 11, 12, 20] (fun v8 _ _ _ _ v20 wr => ∃ (i : Nat) (out : List S68), i ≤ Ws.length ∧ v20 = .int .i64 (i : Int) ∧ out.length ≤ 5 * i ∧ out ++ chkL a.l0 a.l1 a.L a.G i (Ws.drop i) = R ∧ Kd.R k68 68 wr w1.heap.size (fun _ => True) v8 out ∧ wr.heap[g7]? = some (.cells a.arr 97 (0, 0)) ∧ Below w1.heap.size w1 wr) (fun _ _ _ _ _ v20 _ => ((Ws.length : Int) - intOf v20).toNat)
  case atStart => exact ⟨0, [], Nat.zero_le _, rfl, Nat.zero_le _, by simpa using HRR.out, Kd.R_nil _ _ _ _ _, HG7.out, Below.refl _ _⟩
  case round =>
    clear HG7
    obtain ⟨i, out, hi, rfl, hol, hs, ho, hg7, hb1⟩ := hrel
    have HS := Aside0.mk hs
    have HO := Aside0.mk ho
    have HG7 := Aside0.mk hg7
    have HR1 := Aside0.mk hb1
    have HBr := Aside0.mk (below_step HB1.out hb1)
    clear hs ho hg7 hb1
    by_cases hlt : i < Ws.length
    · have m1 : decide ((i : Int) < (Ws.length : Int)) = true := decide_eq_true (by omega)
      have m2 : decide (i < Ws.length) = true := decide_eq_true hlt
      have q1 : (0 ≤ (i : Int)) = True := eq_true (by omega)
      have q2 : ((i : Int) < (Ws.length : Int)) = True := eq_true (by omega)
      have q3 : (i < Ws.length) = True := eq_true hlt
      obtain ⟨x, hx⟩ : ∃ x, Ws[i] = x := ⟨_, rfl⟩
      obtain ⟨ad, v, hA, hvx, hv, x0, x1, x2, x3, x4, x5, x6, x7⟩ := w101_at (Kd.C_below HWC.out HR1.out) hlt hx
      have hs := HS.out
      rw [List.drop_eq_getElem_cons hlt, hx, chkL, ← List.append_assoc, ← hvx] at hs
      have HV := Aside0.mk hv
      have HS2 := Aside0.mk hs
      rw [hA]
      rw [hA] at HWC
      clear hA hx hvx hv hs HS
      go_wp2_with (first | ((with_reducible refine gate_dst (N := 10) rfl ?_); refine boxN (w := w) rfl (N := 10) rfl (cs := #[.int .i64 0, .int .i64 0, .int .i64 0, .slice none 0 0, .slice none 0 0, .slice none 0 0, .int .i64 0, .slice none 0 0]) (t := 101) (by first | (go_simp; done) | (go_simp; rfl)) HBr ?_; intro g10 We He Lg10 HB_We K_We) | (refine storeN (w := w) rfl 101 _ _ rfl g10 v.arr rfl rfl 101 _ He (by kernel_rfl) rfl (by rw [← Array.all_toList]; rfl) HB_We Lg10 K_We ?_; clear He; intro Wf He HB_Wf K_Wf; have Hf := He; have HG7f := Aside0.mk (blk_below HG7.out K_Wf.out)))
      (try simp only [Act.put, List.setIfInBounds_toArray, List.set_cons_zero, List.set_cons_succ])
      have HSE : Aside0 (∀ W', Below Wf.heap.size Wf W' → Both13 g7 g10 a v W') := ⟨fun W' hb => by
        have h7 := blk_below HG7f.out hb
        have h10 := blk_below Hf.out hb
        exact ⟨(cell_in h7 0).trans rfl, (cell_in h7 1).trans rfl, (cell_in h7 2).trans rfl, (cell_in h7 3).trans rfl, (cell_in h7 4).trans rfl, (cell_in h10 0).trans rfl, (cell_in h10 1).trans rfl, (cell_in h10 2).trans rfl, (cell_in h10 3).trans rfl, (cell_in h10 4).trans rfl, (cell_in h10 5).trans rfl, (cell_in h10 6).trans rfl, (cell_in h10 7).trans rfl⟩⟩
      have KF : Aside0 (Below Wf.heap.size Wf Wf) := ⟨Below.refl _ _⟩
      have HVf := Aside0.mk (HV.out.below K_Wf.out)
      have HAf := Aside0.mk (HA.out.below HB_Wf.out)
      refine startD 19 chtab HSE KF (fun W4 HT B4 K4 => ?_)
      refine takeD 0 (some 25) (lb 19 0x1) HT HSE B4 ?_ (hy := Or.inl ⟨by rfl, by intro w' hs; obtain ⟨s0, s1, s2, s3, s4, s5, s6, s7, s8, s9, s10, s11, s12⟩ := hs; go_simp; with_reducible rfl⟩)
      refine pureD 1 (some 26) (lb 19 0x3) HT ?_
      refine takeD 4 (some 29) (lb 19 0x13) HT HSE B4 ?_ (hy := Or.inl ⟨by rfl, by intro w' hs; obtain ⟨s0, s1, s2, s3, s4, s5, s6, s7, s8, s9, s10, s11, s12⟩ := hs; go_simp; with_reducible rfl⟩)
      refine takeD 5 (some 30) (lb 19 0x33) HT HSE B4 ?_ (hy := Or.inl ⟨by rfl, by intro w' hs; obtain ⟨s0, s1, s2, s3, s4, s5, s6, s7, s8, s9, s10, s11, s12⟩ := hs; go_simp; with_reducible rfl⟩)
      refine takeD 7 (some 32) (lb 19 0xb3) HT HSE B4 ?_ (hy := Or.inl ⟨by rfl, by intro w' hs; obtain ⟨s0, s1, s2, s3, s4, s5, s6, s7, s8, s9, s10, s11, s12⟩ := hs; go_simp; with_reducible rfl⟩)
      refine takeD 8 (some 33) (lb 19 0x1b3) HT HSE B4 ?_ (hy := Or.inl ⟨by rfl, by intro w' hs; obtain ⟨s0, s1, s2, s3, s4, s5, s6, s7, s8, s9, s10, s11, s12⟩ := hs; go_simp; with_reducible rfl⟩)
      refine takeD 10 (some 35) (lb 19 0x5b3) HT HSE B4 ?_ (hy := Or.inl ⟨by rfl, by intro w' hs; obtain ⟨s0, s1, s2, s3, s4, s5, s6, s7, s8, s9, s10, s11, s12⟩ := hs; go_simp; with_reducible rfl⟩)
      refine takeD 11 (some 36) (lb 19 0xdb3) HT HSE B4 ?_ (hy := Or.inl ⟨by rfl, by intro w' hs; obtain ⟨s0, s1, s2, s3, s4, s5, s6, s7, s8, s9, s10, s11, s12⟩ := hs; go_simp; with_reducible rfl⟩)
      refine takeD 13 (some 38) (lb 19 0x2db3) HT HSE B4 ?_ (hy := Or.inl ⟨by rfl, by intro w' hs; obtain ⟨s0, s1, s2, s3, s4, s5, s6, s7, s8, s9, s10, s11, s12⟩ := hs; go_simp; with_reducible rfl⟩)
      refine takeD 14 (some 39) (lb 19 0x6db3) HT HSE B4 ?_ (hy := Or.inl ⟨by rfl, by intro w' hs; obtain ⟨s0, s1, s2, s3, s4, s5, s6, s7, s8, s9, s10, s11, s12⟩ := hs; go_simp; with_reducible rfl⟩)
      refine pureD 18 (some 43) (lb 19 0x46db3) HT ?_
      refine oneD 2 (some 27) (lb 19 0x46db7) HT (fun K hK => ?_)
      refine callK hK HSE B4 Try.func37 (agreed_calls v a.AG a.cG a.G W4 (HVf.out.below B4.out) (HAf.out.below B4.out).hG) (fun W5 B5 K5 => ?_)
      refine pureD 3 (some 28) (lb 19 0x46dbf) HT ?_
      refine oneD 6 (some 31) (lb 19 0x46dff) HT (fun K hK => ?_)
      refine callK hK HSE B5 Try.func38 (unlike_calls a v W5 (HAf.out.below B5.out) hL64) (fun W6 B6 K6 => ?_)
      refine oneD 9 (some 34) (lb 19 0x46fff) HT (fun K hK => ?_)
      refine callK hK HSE B6 Try.func39 (wrong_calls a v W6 (HAf.out.below B6.out) hL64) (fun W7 B7 K7 => ?_)
      refine oneD 12 (some 37) (lb 19 0x47fff) HT (fun K hK => ?_)
      refine callK hK HSE B7 Try.func40 (stray_calls a v W7 (HAf.out.below B7.out) (HVf.out.below B7.out)) (fun W8 B8 K8 => ?_)
      refine oneD 15 (some 40) (lb 19 0x4ffff) HT (fun K hK => ?_)
      refine callK hK HSE B8 Try.func41 (twice_calls a v W8 (HAf.out.below B8.out) (HVf.out.below B8.out)) (fun W9 B9 K9 => ?_)
      refine oneD 16 (some 41) (lb 19 0x5ffff) HT (fun K hK => ?_)
      refine litB hK HSE B9 #[.bool (!agreedP v.x a.G), .bool (unlikeP a.L a.G v.x), .bool (wrongP a.l0 a.l1 a.L a.G v.x), .bool (strayP a.l0 a.l1 a.G v.x), .bool (twiceP a.G v.x)] 4 5 (by first | (go_simp; done) | (go_simp; rfl)) (fun gB WB HGB HGBL BB => ?_)
      refine pureD 17 (some 42) (lb 19 0x7ffff) HT ?_
      refine doneD HT ?_
      clear HT
      obtain ⟨bs, hbs⟩ : ∃ bs, flagsP a.l0 a.l1 a.L a.G v.x = bs := ⟨_, rfl⟩
      have hbl : bs.length = 5 := by rw [← hbs]; rfl
      have HGB' : Aside0 (WB.heap[gB]? = some (.cells (bs.map Value.bool).toArray 4 (0, 0))) := ⟨by rw [← hbs]; exact HGB.out⟩
      have hs := HS2.out
      rw [hbs] at hs
      have HS3 := Aside0.mk hs
      have HOB := Aside0.mk (Kd.R_below HO.out (below_step K_Wf.out BB.out))
      have HG7B := Aside0.mk (blk_below HG7f.out BB.out)
      have HR1B := Aside0.mk (below_step HR1.out (below_step K_Wf.out BB.out))
      clear hbs HGB hs HS2 HO HG7 HG7f HR1 HBr HB_We HB_Wf K_We K_Wf B4 K4 B5 K5 B6 K6 B7 K7 B8 K8 B9 K9 HSE KF HVf HAf Hf He HGBL HV BB x0 x1 x2 x3 x4 x5 x6 x7 m1 m2 q1 q2 q3
      go_wp2_with fail
      go_loopw [8, 11, 12, 43] (fun v8 _ _ v43 wr2 => ∃ (j : Nat) (o : List S68), j ≤ 5 ∧ v43 = .int .i64 (j : Int) ∧ o.length ≤ 5 * i + j ∧ o ++ flL (i : Int) j (bs.drop j) = out ++ flL (i : Int) 0 bs ∧ Kd.R k68 68 wr2 w1.heap.size (fun _ => True) v8 o ∧ wr2.heap[g7]? = some (.cells a.arr 97 (0, 0)) ∧ wr2.heap[gB]? = some (.cells (bs.map Value.bool).toArray 4 (0, 0)) ∧ Below w1.heap.size w1 wr2) (fun _ _ _ v43 _ => (5 - intOf v43).toNat)
      case atStart => exact ⟨0, out, Nat.zero_le _, rfl, by omega, by simp, HOB.out, HG7B.out, HGB'.out, HR1B.out⟩
      case round =>
        clear HOB HG7B HGB' HR1B
        rename World => wr2
        obtain ⟨j, o, hj, rfl, hjl, hjs, ho, hg7, hgB, hb1⟩ := hrel
        have HJS := Aside0.mk hjs
        have HO := Aside0.mk ho
        have HG7 := Aside0.mk hg7
        have HGB := Aside0.mk hgB
        have HR1 := Aside0.mk hb1
        clear hjs ho hg7 hgB hb1
        by_cases hj5 : j < 5
        · have m1 : decide ((j : Int) < 5) = true := decide_eq_true (by omega)
          have m2 : decide (j < 5) = true := decide_eq_true hj5
          have q1 : (0 ≤ (j : Int)) = True := eq_true (by omega)
          have q2 : ((j : Int) < 5) = True := eq_true (by omega)
          have q3 : (j < 5) = True := eq_true hj5
          have hjb : j < bs.length := by omega
          obtain ⟨b, hbj⟩ : ∃ b, bs[j] = b := ⟨_, rfl⟩
          have u0 : wr2.cell? ⟨gB, j, none⟩ = some (.bool b) := (cell_in HGB.out j).trans (by simp [List.getElem?_eq_getElem hjb, hbj])
          have hjs := HJS.out
          rw [List.drop_eq_getElem_cons hjb, hbj, flL] at hjs
          clear hbj HJS
          cases b
          · rw [if_neg (by decide)] at hjs
            have HJS := Aside0.mk hjs
            clear hjs
            go_wp2_with fail
            exact ⟨⟨j + 1, o, by omega, by rw [Int.natCast_add]; rfl, by omega, HJS.out, HO.out, HG7.out, HGB.out, HR1.out⟩, by simp [intOf]; omega⟩
          · rw [if_pos rfl] at hjs
            have HJS : Aside0 ((o ++ [⟨(j : Int) + 1, (i : Int)⟩]) ++ flL (i : Int) (j + 1) (bs.drop (j + 1)) = out ++ flL (i : Int) 0 bs) := ⟨by rw [List.append_assoc]; exact hjs⟩
            clear hjs
            go_wp2_with (first | ((with_reducible refine gate_builtin (b := .append) (xs := #[.tmp 49, .tmp 54]) rfl ?_); at_builtin; refine appN (w := w1) k68 68 rfl (.tmp 49) (.tmp 54) 65 ((.agg #[.int .i64 0, .int .i64 0])) 16 rfl Try.underlying65 info68 rfl (by decide) (by omega) (⟨(j : Int) + 1, (i : Int)⟩ : S68) [.int .i64 ((j : Int) + 1), .int .i64 (i : Int)] rfl rfl (k68_mkM _ _ _ (⟨(j : Int) + 1, (i : Int)⟩ : S68)) HO HR1 (by omega) ?_; intro vA W6 HO6 HB_W6 K_W6))
            exact ⟨⟨j + 1, o ++ [⟨(j : Int) + 1, (i : Int)⟩], by omega, by rw [Int.natCast_add]; rfl, by rw [List.length_append, List.length_singleton]; omega, HJS.out, HO6.out, blk_grown HG7.out K_W6.out (Kd.R_ne HO.out HG7.out (by decide)), blk_grown HGB.out K_W6.out (Kd.R_ne HO.out HGB.out (by decide)), HB_W6.out⟩, by simp [intOf]; omega⟩
        · have m1 : decide ((j : Int) < 5) = false := decide_eq_false (by omega)
          have m2 : decide (j < 5) = false := decide_eq_false hj5
          have hnew : o ++ chkL a.l0 a.l1 a.L a.G (i + 1) (Ws.drop (i + 1)) = R := by
            have h := HJS.out
            rw [List.drop_eq_nil_of_le (by omega), flL, List.append_nil] at h
            rw [h]
            exact HS3.out
          have HNEW := Aside0.mk hnew
          clear hnew HJS hj5
          go_wp2_with fail
          exact ⟨⟨i + 1, o, by omega, by rw [Int.natCast_add]; rfl, by omega, HNEW.out, HO.out, HG7.out, HR1.out⟩, by simp [intOf]; omega⟩
    · have m1 : decide ((i : Int) < (Ws.length : Int)) = false := decide_eq_false (by omega)
      have m2 : decide (i < Ws.length) = false := decide_eq_false hlt
      have hout : out = R := by
        have h := HS.out
        rw [List.drop_eq_nil_of_le (by omega), chkL, List.append_nil] at h
        exact h
      subst hout
      obtain ⟨A', c', ev⟩ := Kd.R_slice HO.out
      subst ev
      have h := Kd.R_reads' HO.out
      have hle := h.2.1
      have HC := Aside0.mk h.2.2
      have HF : Aside0 (∀ ad, A' = some ad → w.heap.size ≤ ad.block) := ⟨fun ad e => Nat.le_trans (below_size HB1.out) (Kd.R_base HO.out _ (by rw [e]; rfl))⟩
      clear h hlt HO
      go_wp2_with fail
      go_ret
      exact ⟨A', c', rfl, hle, HC.out, HF.out, HBr.out⟩
theorem check_calls (a : AudV) (Ws : List S101) (w : World) (ha : a.ok w) (hL64 : a.L.length ≤ 1000000) (hWl : Ws.length ≤ 1000000)
    (hwin : ∀ W, Below w.heap.size w W → Calls Try.prog 36 #[.slice a.AL a.L.length a.cL] W fun e w' => ∃ A' c', e = .returned (.slice A' Ws.length c') ∧ Ws.length ≤ c' ∧ Kd.C k101 w' A' Ws.length Ws ∧ Below W.heap.size W w') :
    Calls Try.prog 20 #[.agg #[.int .i64 a.md, .slice a.A0 a.l0.length a.c0, .slice a.A1 a.l1.length a.c1], .slice a.AL a.L.length a.cL, .slice a.AG a.G.length a.cG] w fun e w' => ∃ A' c', e = .returned (.slice A' (chkL a.l0 a.l1 a.L a.G 0 Ws).length c') ∧ (chkL a.l0 a.l1 a.L a.G 0 Ws).length ≤ c' ∧ Kd.C k68 w' A' (chkL a.l0 a.l1 a.L a.G 0 Ws).length (chkL a.l0 a.l1 a.L a.G 0 Ws) ∧ Below w.heap.size w w' :=
  (check_callsF a Ws w ha hL64 hWl hwin).mono fun e w' ⟨A', c', h1, h2, h3, _, h5⟩ => ⟨A', c', h1, h2, h3, h5⟩
end Go.Proofs.Ytekbaconbemgpaa.PWe
