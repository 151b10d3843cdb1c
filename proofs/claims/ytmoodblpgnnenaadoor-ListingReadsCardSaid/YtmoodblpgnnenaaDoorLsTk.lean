/- listing.Parse$1: a piece taken: walk. Helper text. -/
import Derived.Test.YtmoodblpgnnenaaDoorLsMap
import Derived.RangeFuncBox
namespace Go.Proofs.YtmoodblpgnnenaaDoor.PLs
open Go.RowKit Go.Proofs.YtmoodblpgnnenaaDoor.Kx Go.Proofs.YtmoodblpgnnenaaDoor.PWe Go.Proofs.YtmoodblpgnnenaaDoorW.PrintWords Go.Proofs.YtmoodblpgnnenaaDoorW.PrintLast Go.Proofs.YtmoodblpgnnenaaDoorW.PrintMore
set_option linter.unusedVariables false
set_option linter.unusedSimpArgs false
/-- Pieces, where they lie. -/
def PcR (W : World) (A : Option Addr) (l : List (List UInt8)) : Prop :=
  l = [] ∨ ∃ g o cs fz, A = some ⟨g, o, none⟩ ∧ W.heap[g]? = some (.cells cs 9 fz) ∧ ∀ (j : Nat) (p : List UInt8), l[j]? = some p → cs[o + j]? = some (.string (strB p))
/-- Every row of strings is kept. -/
def KS (W W' : World) : Prop := ∀ (g : Nat) (cs : Array Value) (fz : Nat × Nat), W.heap[g]? = some (.cells cs 9 fz) → W'.heap[g]? = some (.cells cs 9 fz)
theorem KS.refl (W : World) : KS W W := fun _ _ _ h => h
theorem KS.trans {A B C : World} (h : KS A B) (k : KS B C) : KS A C := fun g cs fz hg => k g cs fz (h g cs fz hg)
theorem ks_below {W W' : World} (h : Below W.heap.size W W') : KS W W' := fun g cs fz hg => (h.block g (Array.getElem?_eq_some_iff.1 hg).1).trans hg
theorem ks_set {W : World} {B j : Nat} {t : TypeId} {cs : Array Value} {fz : Nat × Nat} (v : Value) (h : W.heap[B]? = some (.cells cs t fz)) (ht : t ≠ 9) : KS W (W.setCell ⟨B, j, none⟩ v) := fun g cs' fz' hg =>
  (Below.heap_setCell W ⟨B, j, none⟩ v g fun e => by
    have e' : g = B := e
    rw [e', h] at hg
    cases hg
    exact ht rfl).trans hg
theorem PcR.kept {W W' : World} {A : Option Addr} {l : List (List UInt8)} (h : PcR W A l) (k : KS W W') : PcR W' A l := by
  rcases h with h | ⟨g, o, cs, fz, h1, h2, h3⟩
  · exact .inl h
  · exact .inr ⟨g, o, cs, fz, h1, k _ _ _ h2, h3⟩
theorem PcR.at_ {W : World} {A : Option Addr} {l : List (List UInt8)} (h : PcR W A l) {j : Nat} {p : List UInt8} (hj : l[j]? = some p) : ∃ g o, A = some ⟨g, o, none⟩ ∧ W.cell? ⟨g, o + j, none⟩ = some (.string (strB p)) := by
  rcases h with h | ⟨g, o, cs, fz, h1, h2, h3⟩
  · rw [h] at hj; cases hj
  · exact ⟨g, o, h1, (cell_in h2 (o + j)).trans (h3 j p hj)⟩
theorem PcR.tail {W : World} {A : Option Addr} {p : List UInt8} {q : List (List UInt8)} (h : PcR W A (p :: q)) : PcR W (A.map fun a => a.add 1) q := by
  rcases h with h | ⟨g, o, cs, fz, h1, h2, h3⟩
  · cases h
  · subst h1
    refine .inr ⟨g, o + 1, cs, fz, by cases o <;> rfl, h2, fun j x hj => ?_⟩
    have := h3 (j + 1) x (by simpa using hj)
    rw [← this]; congr 1; omega
theorem PcR.one {W : World} {g : Nat} {fz : Nat × Nat} {s : List UInt8} (h : W.heap[g]? = some (.cells #[.string (strB s)] 9 fz)) : PcR W (some ⟨g, 0, none⟩) [s] :=
  .inr ⟨g, 0, _, fz, rfl, h, fun j p hj => by
    match j, hj with
    | 0, hj => obtain rfl := Option.some.inj hj; rfl
    | j + 1, hj => cases hj⟩
theorem ks_others {W W1 : World} {g : Nat} {t : TypeId} {cs : Array Value} {fz : Nat × Nat} (hO : ∀ b, b ≠ g → W1.heap[b]? = W.heap[b]?) (h : W.heap[g]? = some (.cells cs t fz)) (ht : t ≠ 9) : KS W W1 := fun k cs' fz' hk =>
  (hO k fun e => by
    rw [e, h] at hk
    cases hk
    exact ht rfl).trans hk
theorem pcr_head {W : World} {g o : Nat} {p : List UInt8} {q : List (List UInt8)} (h : PcR W (some ⟨g, o, none⟩) (p :: q)) : W.cell? ⟨g, o, none⟩ = some (.string (strB p)) := by
  obtain ⟨g', o', e, hc⟩ := h.at_ (j := 0) rfl
  cases e
  exact hc
section
variable {P : Program} {ops : Array Oper} {rest : List Oper} {o : Oper} {a : Act} {Q : Exit → Act → World → Prop} {W : World}
/-- A cell is written: what becomes of the world. -/
theorem storeBx (hgd : o.guard = none) (hd : o.dst = none) (ty : TypeId) (x y : Operand) (ho : o.op = .store ty x y) (g j : Nat) (V : Value) {t : TypeId} {cs : Array Value} (hg : Aside0 (W.heap[g]? = some (.cells cs t (0, 0))))
    (hrun : (execOp a.eval o).run P W = .ok .skip (W.setCell ⟨g, j, none⟩ V))
    (h : ∀ W3, Aside0 (W3.heap[g]? = some (.cells (cs.setIfInBounds j V) t (0, 0))) → Aside0 (∀ (B : Nat) (w0 : World), B ≤ g → Below B w0 W → Below B w0 W3) → Aside0 (∀ b, b ≠ g → W3.heap[b]? = W.heap[b]?) → wpList P ops Q rest (a.put o.dst undef) W3) : wpList P ops Q (o :: rest) a W := by
  refine wpList_plain hgd fun K hK => ?_
  unfold Oper.wp
  rw [hrun]
  exact hK _ _ (h _ ⟨set_in hg.out j V⟩ ⟨fun B w0 hB hb => hb.setCell (p := ⟨g, j, none⟩) hB V⟩ ⟨fun b hb => set_ne j V (fun e => hb e.symm)⟩)
end
theorem below_mid {B : Nat} {w0 W W' : World} (h : Below B w0 W) (k : Below W.heap.size W W') (hB : B ≤ w0.heap.size) : Below B w0 W' := h.trans (k.mono (Nat.le_trans hB h.size))
set_option maxHeartbeats 4000000 in
set_option maxRecDepth 100000 in
theorem take_calls (gl gf B : Nat) (A : Option Addr) (c : Nat) (p0 : List UInt8) (q0 : List (List UInt8)) (f : Bool) (w : World) (hgl : w.heap[gl]? = some (.cells #[.slice A (q0.length + 1) c] 69 (0, 0))) (hgf : w.heap[gf]? = some (.cells #[.bool f] 4 (0, 0))) (hP : PcR w A (p0 :: q0)) (hc : q0.length + 1 ≤ c)
    (hBl : B ≤ gl) (hBf : B ≤ gf) (hsz : B ≤ w.heap.size) (hsm : ∀ p ∈ q0, p.length ≤ 1000000) (hlen : q0.length ≤ 1000000) {l' : List (List UInt8)} {f' : Bool} {x : Int} (hT : takeP (p0 :: q0) f = (l', f', x)) :
    Calls Tryd.prog 41 #[.pointer (some ⟨gl, 0, none⟩), .pointer (some ⟨gf, 0, none⟩)] w fun e w' => e = .returned (.int .i64 x) ∧ ∃ A' c', w'.heap[gl]? = some (.cells #[.slice A' l'.length c'] 69 (0, 0)) ∧ w'.heap[gf]? = some (.cells #[.bool f'] 4 (0, 0)) ∧ PcR w' A' l' ∧ l'.length ≤ c' ∧ (∀ k, k < w.heap.size → k ≠ gl → k ≠ gf → w'.heap[k]? = w.heap[k]?) ∧ Below B w w' := by
  have bl : Boxed w gl 69 (.slice A (q0.length + 1) c) := hgl
  have bf : Boxed w gf 4 (.bool f) := hgf
  have hne : gl ≠ gf := fun e => by rw [e, hgf] at hgl; cases hgl
  have hcl := bl.cell
  have hfl := bl.frozen
  obtain ⟨g, o, rfl, hc0⟩ := hP.at_ (j := 0) (p := p0) rfl
  cases q0 with
  | nil =>
    obtain ⟨rfl, rfl, rfl⟩ : [[]] = l' ∧ false = f' ∧ (0 : Int) = x := by
      unfold takeP at hT
      simp only [List.tail_cons, Prod.mk.injEq] at hT
      exact hT
    have HP := Aside0.mk hP
    have HBL : Aside0 (w.heap[gl]? = some (.cells #[.slice (some ⟨g, o, none⟩) 1 c] 69 (0, 0))) := ⟨hgl⟩
    have HBF := Aside0.mk hgf
    have HN := Aside0.mk hne
    obtain ⟨c', rfl | rfl⟩ : ∃ c', c = 1 ∨ c = c' + 2 := ⟨c - 2, by simp at hc; omega⟩
    all_goals
      clear hT hP bl bf hgl hgf hsm hlen hne hc
      have q1 : (1 ≤ c' + 2) = True := eq_true (by omega)
      go_enter Tryd.func41, Tryd.ntmps41
      go_wp2_with (first | ((with_reducible refine gate_ (.store 69 (.tmp 0) (.tmp 6)) rfl ?_); refine storeBx rfl rfl 69 _ _ rfl gl 0 _ HBL (by first | (go_simp; done) | (go_simp; rfl)) ?_; intro W1 G1 B1 O1; have gf1 : Aside0 (W1.heap[gf]? = some (.cells #[.bool f] 4 (0, 0))) := ⟨(O1.out gf (fun e => HN.out e.symm)).trans HBF.out⟩; have hcl1 := (cell_in G1.out 0).trans rfl; clear hcl hfl) | ((with_reducible refine gate_dst (N := 10) rfl ?_); refine litW (w := W1) rfl (N := 10) rfl #[.string (strB [])] 9 1 (by first | (go_simp; done) | (go_simp; rfl)) ⟨Below.refl _ _⟩ ?_; intro gz W2 GZ LZ B2 K2; have gl2 := Aside0.mk (blk_below G1.out K2.out); have gf2 := Aside0.mk (blk_below gf1.out K2.out); clear hcl1; have hcl2 := (cell_in gl2.out 0).trans rfl; have hfl2 := free_in gl2.out 0) | ((with_reducible refine gate_ (.store 69 (.tmp 0) (.tmp 10)) rfl ?_); refine storeBx rfl rfl 69 _ _ rfl gl 0 _ gl2 (by first | (go_simp; done) | (go_simp; rfl)) ?_; intro W3 G3 B3 O3; have gf3 : Aside0 (W3.heap[gf]? = some (.cells #[.bool f] 4 (0, 0))) := ⟨(O3.out gf (fun e => HN.out e.symm)).trans gf2.out⟩; clear hcl2 hfl2; have hcf3 := (cell_in gf3.out 0).trans rfl; have hff3 := free_in gf3.out 0) | ((with_reducible refine gate_ (.store 4 (.tmp 1) (.const (.bool false))) rfl ?_); refine storeBx rfl rfl 4 _ _ rfl gf 0 _ gf3 (by first | (go_simp; done) | (go_simp; rfl)) ?_; intro W4 G4 B4 O4; clear hcf3 hff3))
      go_ret
      have hz1 : gz ≠ gl := fun e => by have h1 := GZ.out; rw [e, gl2.out] at h1; cases h1
      have hz2 : gz ≠ gf := fun e => by have h1 := GZ.out; rw [e, gf2.out] at h1; cases h1
      refine ⟨rfl, some ⟨gz, 0, none⟩, 1, ?_, ?_, ?_, Nat.le_refl _, ?_, ?_⟩
      · exact (O4.out gl HN.out).trans G3.out
      · exact G4.out
      · exact PcR.one ((O4.out gz hz2).trans ((O3.out gz hz1).trans GZ.out))
      · intro k hk h1 h2
        have hk1 : k < W1.heap.size := Nat.lt_of_lt_of_le hk (B1.out 0 w (Nat.zero_le _) (Below.refl _ _)).size
        rw [O4.out k h2, O3.out k h1, K2.out.block k hk1, O1.out k h1]
      · exact B4.out B w hBf (B3.out B w hBl (below_mid (B1.out B w hBl (Below.refl _ _)) K2.out hsz))
  | cons p1 q =>
    obtain ⟨c', rfl⟩ : ∃ c', c = c' + 2 := ⟨c - 2, by simp at hc; omega⟩
    obtain ⟨rfl, hf', hx'⟩ : p1 :: q = l' ∧ (f && (numP p1).isSome) = f' ∧ numV (numP p1) = x := by
      unfold takeP at hT
      simp only [List.tail_cons, Prod.mk.injEq] at hT
      exact hT
    have hP2 := hP.tail
    obtain ⟨g2, o2, hA2, hs1⟩ := hP2.at_ (j := 0) (p := p1) rfl
    have hA3 : g2 = g ∧ o2 = o + 1 := by
      have h := Option.some.inj hA2
      cases o with
      | zero => exact ⟨(congrArg Addr.block h).symm, (congrArg Addr.off h).symm⟩
      | succ o => exact ⟨(congrArg Addr.block h).symm, (congrArg Addr.off h).symm⟩
    obtain ⟨rfl, rfl⟩ := hA3
    have HS1 := Aside0.mk hs1
    have HP2 : Aside0 (PcR w (some ⟨g2, o + 1, none⟩) (p1 :: q)) := ⟨by rw [← hA2]; exact hP2⟩
    have HC : Aside0 (q.length + 1 ≤ c' + 1) := ⟨by simp at hc; omega⟩
    have HBL : Aside0 (w.heap[gl]? = some (.cells #[.slice (some ⟨g2, o, none⟩) (q.length + 1 + 1) (c' + 2)] 69 (0, 0))) := ⟨hgl⟩
    have HBF := Aside0.mk hgf
    have HN := Aside0.mk hne
    have HSM : Aside0 ((strB p1).size ≤ 4000000000) := ⟨by rw [strB_size]; have := hsm p1 (by simp); omega⟩
    have HQL : Aside0 (q.length ≤ 1000000) := ⟨by simp at hlen; omega⟩
    have hcl : w.cell? ⟨gl, 0, none⟩ = some (.slice (some ⟨g2, o, none⟩) (q.length + 1 + 1) (c' + 2)) := (cell_in HBL.out 0).trans rfl
    have q1 : (1 ≤ q.length + 1 + 1) = True := eq_true (by omega)
    have q2 : (q.length + 1 + 1 ≤ c' + 2) = True := eq_true (by have := HC.out; omega)
    have HNB : Aside0 (numP (strB p1).data.toList = numP p1) := ⟨by rw [strB_data]⟩
    have HF := Aside0.mk hf'
    have HX := Aside0.mk hx'
    obtain ⟨N, hNN⟩ : ∃ N, numP p1 = N := ⟨_, rfl⟩
    rw [hNN] at HNB HF HX
    obtain ⟨s1, hs1'⟩ : ∃ s, strB p1 = s := ⟨_, rfl⟩
    rw [hs1'] at HNB HSM
    have HSE := Aside0.mk hs1'
    have z1 : ((q.length : Int) + 1 == 0) = false := beq_eq_false_iff_ne.2 (by omega)
    have z2 : decide ((q.length : Int) + 1 = 0) = false := decide_eq_false (by omega)
    have q3 : ((0 : Int) < (q.length : Int) + 1) = True := eq_true (by omega)
    have q4 : (0 < q.length + 1) = True := eq_true (by omega)
    clear hT hP bl bf hgl hgf hsm hlen hne hc hP2 hA2 hs1 hc0 hf' hx' hNN hs1' HS1
    go_enter Tryd.func41, Tryd.ntmps41
    go_wp2_with (first | ((with_reducible refine gate_ (.store 69 (.tmp 0) (.tmp 6)) rfl ?_); refine storeBx rfl rfl 69 _ _ rfl gl 0 _ HBL (by first | (go_simp; done) | (go_simp; rfl)) ?_; intro W1 G1 B1 O1; have gf1 : Aside0 (W1.heap[gf]? = some (.cells #[.bool f] 4 (0, 0))) := ⟨(O1.out gf (fun e => HN.out e.symm)).trans HBF.out⟩; have hcl1 := (cell_in G1.out 0).trans rfl; have HP1 := Aside0.mk (HP2.out.kept (ks_others O1.out HBL.out (by decide))); have hs1 := pcr_head HP1.out; rw [HSE.out] at hs1; clear hcl hfl))
    refine (number_calls s1 HSM.out W1 HNB.out).mono ?_
    rintro e W2 ⟨rfl, hb2⟩
    have HB2 := Aside0.mk hb2
    have gf2 := Aside0.mk (blk_below gf1.out hb2)
    have gl2 := Aside0.mk (blk_below G1.out hb2)
    have HP2' := Aside0.mk (HP1.out.kept (ks_below hb2))
    clear hb2 hs1 hcl1
    have hcf2 : W2.cell? ⟨gf, 0, none⟩ = some (.bool f) := (cell_in gf2.out 0).trans rfl
    have hff2 := free_in gf2.out 0
    cases f
    all_goals
      go_wp2_with (first | ((with_reducible refine gate_ (.store 4 (.tmp 1) (.tmp 21)) rfl ?_); refine storeBx rfl rfl 4 _ _ rfl gf 0 _ gf2 (by first | (go_simp; done) | (go_simp; rfl)) ?_; intro W3 G3 B3 O3; clear hcf2 hff2))
      go_ret
      refine ⟨by rw [← HX.out]; rfl, some ⟨g2, o + 1, none⟩, c' + 1, ?_, ?_, ?_, HC.out, ?_, ?_⟩
      · exact (O3.out gl HN.out).trans gl2.out
      · rw [← HF.out]; exact G3.out
      · exact HP2'.out.kept (ks_others O3.out gf2.out (by decide))
      · intro k hk h1 h2
        have hk1 : k < W1.heap.size := Nat.lt_of_lt_of_le hk (B1.out 0 w (Nat.zero_le _) (Below.refl _ _)).size
        rw [O3.out k h2, HB2.out.block k hk1, O1.out k h1]
      · exact B3.out B w hBf (below_mid (B1.out B w hBl (Below.refl _ _)) HB2.out hsz)
end Go.Proofs.YtmoodblpgnnenaaDoor.PLs
