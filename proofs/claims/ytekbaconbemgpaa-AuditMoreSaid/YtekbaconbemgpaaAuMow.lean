/- AuditMore: its walk. Helper text. -/
import Derived.Test.YtekbaconbemgpaaAuMor
import Derived.Test.YtekbaconbemgpaaAuOpn
namespace Go.Proofs.Ytekbaconbemgpaa.PWe
open Go.RowKit Go.Proofs.Ytekbaconbemgpaa.Kx Go.Proofs.YtekbaconbemgpaaW.PrintWords Go.Proofs.YtekbaconbemgpaaW.PrintLast Go.Proofs.YtekbaconbemgpaaW.PrintMore
set_option linter.unusedVariables false
set_option linter.unusedSimpArgs false

section
variable {P : Program} {ops : Array Oper} {rest : List Oper} {o : Oper} {a : Act} {Q : Exit → Act → World → Prop} {w W : World}
/-- One cell of a block is written. -/
theorem storeCellN (hgd : o.guard = none) (hd : o.dst = none) (ty : TypeId) (x y : Operand) (ho : o.op = .store ty x y) (g j : Nat) (V : Value) {t : TypeId} {cs : Array Value} (hg : Aside0 (W.heap[g]? = some (.cells cs t (0, 0))))
    (hrun : (execOp a.eval o).run P W = .ok .skip (W.setCell ⟨g, j, none⟩ V)) (HB : Aside0 (Below w.heap.size w W)) (hle : Aside0 (w.heap.size ≤ g))
    (h : ∀ W3, Aside0 (W3.heap[g]? = some (.cells (cs.setIfInBounds j V) t (0, 0))) → Aside0 (Below w.heap.size w W3) → Aside0 (∀ b, b ≠ g → W3.heap[b]? = W.heap[b]?) → wpList P ops Q rest (a.put o.dst undef) W3) : wpList P ops Q (o :: rest) a W := by
  refine wpList_plain hgd fun K hK => ?_
  unfold Oper.wp
  rw [hrun]
  exact hK _ _ (h _ ⟨set_in hg.out j V⟩ ⟨below_set HB.out hle.out⟩ ⟨fun b hb => set_ne j V (fun e => hb e.symm)⟩)
/-- A whole block is written; the other blocks stay. -/
theorem storeCsN (hgd : o.guard = none) (ty : TypeId) (x y : Operand) (ho : o.op = .store ty x y)
    (g : Nat) (cells : Array Value) (hx : a.eval x = .pointer (some ⟨g, 0, none⟩)) (hy : a.eval y = .agg cells)
    (t : TypeId) (old : Array Value) (hg : Aside0 (W.heap[g]? = some (.cells old t (0, 0)))) (hi : (P.info? ty).map (·.size) = some cells.size)
    (hold : old.size = cells.size) (h1 : cells.all (·.oneCell') = true) (HB : Aside0 (Below w.heap.size w W)) (hle : Aside0 (w.heap.size ≤ g))
    (h : ∀ W3, Aside0 (W3.heap[g]? = some (.cells cells t (0, 0))) → Aside0 (Below w.heap.size w W3) → Aside0 (∀ b, b ≠ g → W3.heap[b]? = W.heap[b]?) → wpList P ops Q rest (a.put o.dst undef) W3) : wpList P ops Q (o :: rest) a W :=
  wpList_store_row hgd ty x y ho g cells hx hy t old hg.out hi hold h1 (h _ ⟨setRow_heap _ _ _ _ _ _ hg.out⟩ ⟨Kx.below_setRow HB.out hle.out⟩ ⟨fun b hb => setRow_other W g b cells hb⟩)
end
section
variable {P : Program} {ops : Array Oper} {Q : Exit → Act → World → Prop} {S : World → Prop} {w wb : World} {K : Act → World → Prop} {l' : Array Bool} {oi : Oper} {a : Act} {fuel : Nat} {N : Option Tmp}
/-- A call that answers a list. -/
theorem callS {n : Nat} {Φ : Option Addr → Nat → World → Prop} {a' : Option Addr → Nat → Act} (hK : Shut (∀ a' w', S w' → (S w' → wpAnyLast P .any ops Q S [] fuel l' a' w') → K a' w')) (HS : Aside0 (∀ W', Below wb.heap.size wb W' → S W')) (HB : Aside0 (Below wb.heap.size wb w))
    {f : FuncId} {fn : Func} {args : Array Value} (hf : P.funcs[f]? = some fn) (hcall : Calls P f args w fun e w' => ∃ A c, e = .returned (.slice A n c) ∧ Φ A c w' ∧ Below w.heap.size w w') (h : ∀ A c W2, Aside0 (Φ A c W2) → Aside0 (Below wb.heap.size wb W2) → Aside0 (Below w.heap.size w W2) → wpAnyLast P .any ops Q S [] fuel l' (a' A c) W2)
    {as_ : Array Operand} {ts : Array TypeId} (hop : oi.op = .call { callee := .value (.func f), args := as_, argTypes := ts } := by rfl) (hname : (fn.name == "runtime.NumGoroutine") = false := by rfl) (hb : fn.body.isSome = true := by rfl)
    (hw : Region.wanted oi (yielded ops a.tmps) = true := by rfl) (hN : oi.dst = N := by rfl) (hargs : as_.map a.eval = args := by (simp only [List.map_toArray, List.map_cons, List.map_nil]; first | done | rfl)) (ha : ∀ A c, a.put N (.slice A n c) = a' A c := by (intro A c; simp only [Act.put, List.setIfInBounds_toArray, List.set_cons_zero, List.set_cons_succ, i64_w, i32_w]; rfl)) :
    if Region.wanted oi (yielded ops a.tmps) = true then Oper.wp P oi a w K Q else K (a.put N undef) w := by
  refine goes_ hf hname hb args hw hN hop hargs (hcall.mono ?_)
  rintro e w2 ⟨A, c, rfl, hp, hb2⟩
  have hb3 := below_step HB.out hb2
  exact ⟨_, rfl, hK.out _ _ (HS.out _ hb3) fun _ => (ha A c).symm ▸ h A c w2 ⟨hp⟩ ⟨hb3⟩ ⟨hb2⟩⟩
end
theorem w68_at {w : World} {A : Option Addr} {l : List S68} (h : Kd.C k68 w A l.length l) {i : Nat} (hi : i < l.length) {x : S68} (hx : l[i] = x) : ∃ ad, A = some ad ∧ w.cell? (ad.add (i * 2)) = some (.int .i64 x.f0) := by
  subst hx
  have h := at_T68 h (i : Int) (by omega) (by omega)
  have e : rd_T68 l (i : Int) = l[i] := by
    unfold rd_T68
    rw [Int.toNat_natCast, List.getD_eq_getElem?_getD, List.getElem?_eq_getElem hi]; rfl
  rw [e, Int.toNat_natCast] at h
  obtain ⟨ad, e, x0, _⟩ := h
  exact ⟨ad, e, x0⟩
theorem cell_same {w W : World} {p : Addr} (h : W.heap[p.block]? = w.heap[p.block]?) : W.cell? p = w.cell? p := by
  unfold World.cell?
  rw [h]
theorem add_block (ad : Addr) (k : Nat) : (ad.add k).block = ad.block := by
  unfold Addr.add
  split <;> rfl
/-- The kinds of flaws, as they lie. -/
def FlAt (g : Nat) (A : Option Addr) (fl : List S68) (w : World) : Prop := ∀ i (h : i < fl.length), ∃ ad, A = some ad ∧ g < ad.block ∧ w.cell? (ad.add (i * 2)) = some (.int .i64 (fl[i]).f0)
theorem FlAt.same {g : Nat} {A : Option Addr} {fl : List S68} {w W : World} (h : FlAt g A fl w) (hw : ∀ b, b ≠ g → W.heap[b]? = w.heap[b]?) : FlAt g A fl W := fun i hi => by
  obtain ⟨ad, e, hg, hc⟩ := h i hi
  refine ⟨ad, e, hg, ?_⟩
  rw [cell_same (hw _ (by rw [add_block]; omega))]
  exact hc
theorem cnt_le (fl : List S68) (i q : Nat) : cntN (fl.take i) q ≤ fl.length := by
  unfold cntN cntF
  refine Nat.le_trans List.countP_le_length ?_
  rw [List.length_take]
  omega
/-- The schedule in its box. -/
def SchC (g : Nat) (a : AudV) (W : World) : Prop := W.cell? ⟨g, 0, none⟩ = some (.int .i64 a.md) ∧ W.cell? ⟨g, 1, none⟩ = some (.slice a.A0 a.l0.length a.c0) ∧ W.cell? ⟨g, 2, none⟩ = some (.slice a.A1 a.l1.length a.c1)
def schCs (a : AudV) : Array Value := #[.int .i64 a.md, .slice a.A0 a.l0.length a.c0, .slice a.A1 a.l1.length a.c1]
theorem schC_of {g : Nat} {a : AudV} {W : World} {t : TypeId} (h : W.heap[g]? = some (.cells (schCs a) t (0, 0))) : SchC g a W := ⟨(cell_in h 0).trans rfl, (cell_in h 1).trans rfl, (cell_in h 2).trans rfl⟩
def moT : Bool × List (List Nat × List Nat) := (true, [([], []), ([], []), ([], []), ([], []), ([2, 3], [2, 3]), ([0, 1, 4], [0, 1, 4]), ([5, 5, 0, 1, 2, 3, 4, 5], [5])])
theorem motab : rtab .any (opsOf Try.f7 8) = moT := by kernel_rfl
set_option maxHeartbeats 4000000 in
set_option maxRecDepth 100000 in
theorem more_walk (a : AudV) (w : World) (ha : a.ok w) (hwl : ∀ x ∈ a.L, x.f7.length ≤ reachBytes) :
    Calls Try.prog 7 #[.agg #[.int .i64 a.md, .slice a.A0 a.l0.length a.c0, .slice a.A1 a.l1.length a.c1], .slice a.AL a.L.length a.cL, .slice a.AG a.G.length a.cG] w fun e w' => e = .returned (.bool true) ∧ Below w.heap.size w w' := by
  have HA := Aside0.mk ha
  have HWL := Aside0.mk hwl
  have HB : Aside0 (Below w.heap.size w w) := ⟨Below.refl _ _⟩
  clear ha hwl
  obtain ⟨b1, h1⟩ : ∃ b, decide (30 < (a.L.length : Int)) = b := ⟨_, rfl⟩
  have m1 : decide (30 < a.L.length) = b1 := by rw [← h1]; exact decide_eq_decide.2 (by omega)
  obtain ⟨b2, h2⟩ : ∃ b, decide (20 < (a.G.length : Int)) = b := ⟨_, rfl⟩
  have m2 : decide (20 < a.G.length) = b2 := by rw [← h2]; exact decide_eq_decide.2 (by omega)
  obtain ⟨b3, h3⟩ : ∃ b, decide (20 < (a.l0.length : Int)) = b := ⟨_, rfl⟩
  have m3 : decide (20 < a.l0.length) = b3 := by rw [← h3]; exact decide_eq_decide.2 (by omega)
  obtain ⟨b4, h4⟩ : ∃ b, decide (20 < (a.l1.length : Int)) = b := ⟨_, rfl⟩
  have m4 : decide (20 < a.l1.length) = b4 := by rw [← h4]; exact decide_eq_decide.2 (by omega)
  cases b1
  rotate_left
  · go_enter Try.func7, Try.ntmps7
    go_wp2_with (((with_reducible refine gate_dst (N := 3) rfl ?_); refine boxN (w := w) rfl (N := 3) rfl (cs := schCs a) (t := 62) (by first | (go_simp; done) | (go_simp; rfl)) HB ?_; intro g3 Wa Ha Lg3 HB_Wa K_Wa; obtain ⟨s0, s1, s2⟩ := schC_of Ha.out))
    go_ret
    exact ⟨rfl, HB_Wa.out⟩
  cases b2
  rotate_left
  · go_enter Try.func7, Try.ntmps7
    go_wp2_with (((with_reducible refine gate_dst (N := 3) rfl ?_); refine boxN (w := w) rfl (N := 3) rfl (cs := schCs a) (t := 62) (by first | (go_simp; done) | (go_simp; rfl)) HB ?_; intro g3 Wa Ha Lg3 HB_Wa K_Wa; obtain ⟨s0, s1, s2⟩ := schC_of Ha.out))
    go_ret
    exact ⟨rfl, HB_Wa.out⟩
  cases b3
  rotate_left
  · go_enter Try.func7, Try.ntmps7
    go_wp2_with (((with_reducible refine gate_dst (N := 3) rfl ?_); refine boxN (w := w) rfl (N := 3) rfl (cs := schCs a) (t := 62) (by first | (go_simp; done) | (go_simp; rfl)) HB ?_; intro g3 Wa Ha Lg3 HB_Wa K_Wa; obtain ⟨s0, s1, s2⟩ := schC_of Ha.out))
    go_ret
    exact ⟨rfl, HB_Wa.out⟩
  cases b4
  rotate_left
  · go_enter Try.func7, Try.ntmps7
    go_wp2_with (((with_reducible refine gate_dst (N := 3) rfl ?_); refine boxN (w := w) rfl (N := 3) rfl (cs := schCs a) (t := 62) (by first | (go_simp; done) | (go_simp; rfl)) HB ?_; intro g3 Wa Ha Lg3 HB_Wa K_Wa; obtain ⟨s0, s1, s2⟩ := schC_of Ha.out))
    go_ret
    exact ⟨rfl, HB_Wa.out⟩
  have hL30 : a.L.length ≤ 30 := by have := of_decide_eq_false m1; omega
  have hG20 : a.G.length ≤ 20 := by have := of_decide_eq_false m2; omega
  obtain ⟨Ws, hWs⟩ : ∃ x, winsL a.L = x := ⟨_, rfl⟩
  have hWl : Ws.length ≤ 30 := by rw [← hWs]; exact Nat.le_trans (wins_length _) hL30
  have HWN : Aside0 (∀ W, Below w.heap.size w W → Calls Try.prog 36 #[.slice a.AL a.L.length a.cL] W fun e w' => ∃ A' c', e = .returned (.slice A' Ws.length c') ∧ Ws.length ≤ c' ∧ Kd.C k101 w' A' Ws.length Ws ∧ Below W.heap.size W w') := ⟨fun W hb => by
    rw [← hWs]
    exact windows_calls a.AL a.cL a.L W (Kd.C_below HA.out.hL hb) (by omega) (fun x hx => Nat.le_trans (HWL.out x hx) (by decide))⟩
  have HWS := Aside0.mk hWl
  clear hWs hWl HWL
  go_enter Try.func7, Try.ntmps7
  go_wp2_with (first | ((with_reducible refine gate_dst (N := 3) rfl ?_); refine boxN (w := w) rfl (N := 3) rfl (cs := schCs a) (t := 62) (by first | (go_simp; done) | (go_simp; rfl)) HB ?_; intro g3 Wa Ha Lg3 HB_Wa K_Wa; obtain ⟨s0, s1, s2⟩ := schC_of Ha.out) | ((with_reducible refine gate_dst (N := 7) rfl ?_); refine boxN (w := w) rfl (N := 7) rfl (cs := #[.int .i64 0, .int .i64 0, .int .i64 0, .int .i64 0, .int .i64 0, .int .i64 0]) (t := 64) (by first | (go_simp; done) | (go_simp; rfl)) HB_Wa ?_; intro g7 Wb Hb Lg7 HB_Wb K_Wb))
  clear s0 s1 s2
  have HZ : Aside0 (Wb.heap[g7]? = some (.cells (cntCells fun _ => 0) 64 (0, 0))) := ⟨Hb.out⟩
  have HG3 := Aside0.mk (blk_below Ha.out K_Wb.out)
  go_loopw [8, 9, 10, 11, 12] (fun v8 _ _ _ _ wr => ∃ (n : Nat) (N : Nat → Nat), n ≤ a.G.length + 1 ∧ v8 = .int .i64 (n : Int) ∧ (∀ k, N k ≤ cntN (chkL a.l0 a.l1 a.L (a.G.take n) 0 Ws) k) ∧ (n = 0 → ∀ k, N k = 0) ∧ wr.heap[g7]? = some (.cells (cntCells N) 64 (0, 0)) ∧ wr.heap[g3]? = some (.cells (schCs a) 62 (0, 0)) ∧ Below w.heap.size w wr) (fun v8 _ _ _ _ _ => ((a.G.length : Int) + 1 - intOf v8).toNat)
  case atStart => exact ⟨0, fun _ => 0, Nat.zero_le _, rfl, fun _ => Nat.zero_le _, fun _ _ => rfl, HZ.out, HG3.out, HB_Wb.out⟩
  case round =>
    clear HZ HG3
    obtain ⟨n, N, hn, rfl, hN, hN0, hg7, hg3, hb⟩ := hrel
    have HN := Aside0.mk hN
    have HN0 := Aside0.mk hN0
    have HG7 := Aside0.mk hg7
    have HG3 := Aside0.mk hg3
    have HBr := Aside0.mk hb
    clear hN hN0 hg7 hg3 hb
    by_cases hlt : n ≤ a.G.length
    · have m5 : decide ((n : Int) ≤ (a.G.length : Int)) = true := decide_eq_true (by omega)
      have m6 : decide (n ≤ a.G.length) = true := decide_eq_true hlt
      have hcG := HA.out.kG
      have q1 : (0 ≤ (n : Int)) = True := eq_true (by omega)
      have q2 : ((n : Int) ≤ (a.cG : Int)) = True := eq_true (by omega)
      have q3 : (n ≤ a.cG) = True := eq_true (by omega)
      go_wp2_with (((with_reducible refine gate_dst (N := 9) rfl ?_); refine boxN (w := w) rfl (N := 9) rfl (cs := #[.int .i64 0, .int .i64 0, .int .i64 0, .int .i64 0, .int .i64 0, .int .i64 0]) (t := 64) (by first | (go_simp; done) | (go_simp; rfl)) HBr ?_; intro g9 Wc Hc Lg9 HB_Wc K_Wc))
      (try simp only [Act.put, List.setIfInBounds_toArray, List.set_cons_zero, List.set_cons_succ])
      have HG3c := Aside0.mk (blk_below HG3.out K_Wc.out)
      have HG7c := Aside0.mk (blk_below HG7.out K_Wc.out)
      have HSE : Aside0 (∀ W', Below Wc.heap.size Wc W' → SchC g3 a W') := ⟨fun W' hb => schC_of (blk_below HG3c.out hb)⟩
      have KF : Aside0 (Below Wc.heap.size Wc Wc) := ⟨Below.refl _ _⟩
      obtain ⟨FL, hFL⟩ : ∃ x, chkL a.l0 a.l1 a.L (a.G.take n) 0 Ws = x := ⟨_, rfl⟩
      have hFl : FL.length ≤ 150 := by
        rw [← hFL]
        exact Nat.le_trans (chk_length _ _ _ _ _ _) (by have := HWS.out; omega)
      have HFk : Aside0 (∀ f ∈ FL, 1 ≤ f.f0 ∧ f.f0 ≤ 5) := ⟨fun f hf => by rw [← hFL] at hf; exact chk_kinds _ _ _ _ _ _ _ hf⟩
      have HNF : Aside0 (∀ k, N k ≤ cntN FL k) := ⟨fun k => by rw [← hFL]; exact HN.out k⟩
      have HF0 : Aside0 (n = 0 → ∀ k, cntN FL k = 0) := ⟨fun h0 k => by
        rw [← hFL, h0, List.take_zero, chk_nil]
        rfl⟩
      have HNX : Aside0 (∀ k, cntN FL k ≤ cntN (chkL a.l0 a.l1 a.L (a.G.take (n + 1)) 0 Ws) k) := ⟨fun k => by
        rw [← hFL]
        refine chk_mono (fun m hm => ?_) _ _ _ _ _ _
        rw [List.take_add_one]
        exact List.mem_append_left _ hm⟩
      have hgl : (a.G.take n).length = n := by rw [List.length_take]; omega
      have HCK : Aside0 (∀ W, Below Wc.heap.size Wc W → Calls Try.prog 20 #[.agg (schCs a), .slice a.AL a.L.length a.cL, .slice a.AG n a.cG] W fun e w' => ∃ A c, e = .returned (.slice A FL.length c) ∧ (FlAt g9 A FL w' ∧ FL.length ≤ c) ∧ Below W.heap.size W w') := ⟨fun W hb => by
        have hB := below_step HB_Wc.out hb
        have hA := HA.out.below hB
        have h := check_callsF ⟨a.md, a.A0, a.c0, a.l0, a.A1, a.c1, a.l1, a.AL, a.cL, a.L, a.AG, a.cG, a.G.take n⟩ Ws W ⟨hA.h0, hA.h1, hA.hL, Kd.C_take hA.hG (by omega), hA.k0, hA.k1, hA.kL, by show (a.G.take n).length ≤ a.cG; rw [hgl]; omega⟩ (by dsimp only; omega) (by have := HWS.out; omega) (fun W2 hb2 => HWN.out W2 (below_step hB hb2))
        dsimp only at h
        rw [hgl, hFL] at h
        refine h.mono ?_
        rintro e w' ⟨A, c, rfl, hl, hC, hf, hb2⟩
        refine ⟨A, c, rfl, ⟨fun i hi => ?_, hl⟩, hb2⟩
        obtain ⟨ad, hA, hc⟩ := w68_at hC hi rfl
        have h1 := hf ad hA
        have h2 := lt_of_block Hc.out
        have h3 := below_size hb
        exact ⟨ad, hA, by omega, hc⟩⟩
      clear hFL HN HN0 hgl hcG
      refine startD 7 motab HSE KF (fun W4 HT B4 K4 => ?_)
      refine takeD 0 (some 41) (lb 7 0x1) HT HSE B4 ?_ (hy := Or.inl ⟨by rfl, by intro w' hs; obtain ⟨s0, s1, s2⟩ := hs; go_simp; with_reducible rfl⟩)
      refine pureD 1 (some 42) (lb 7 0x3) HT ?_
      refine pureD 2 (some 43) (lb 7 0x7) HT ?_
      refine pureD 3 (some 44) (lb 7 0xf) HT ?_
      refine pureD 4 (some 45) (lb 7 0x1f) HT ?_
      refine oneD 5 (some 46) (lb 7 0x3f) HT (fun K hK => ?_)
      refine callS hK HSE B4 Try.func20 (HCK.out W4 B4.out) (fun AF cF W5 HF B5 K5 => ?_)
      refine pureD 6 (some 10) (lb 7 0x7f) HT ?_
      refine doneD HT ?_
      clear HT
      have HG9 := Aside0.mk (blk_below Hc.out B5.out)
      have HG35 := Aside0.mk (blk_below HG3c.out B5.out)
      have HG75 := Aside0.mk (blk_below HG7c.out B5.out)
      have HB5 := Aside0.mk (below_step HB_Wc.out B5.out)
      have HFA := Aside0.mk HF.out.1
      have HL73 : Aside0 (g3 ≠ g7) := ⟨fun e => by have h1 := HG7.out; have h2 := HG3.out; rw [e, h1] at h2; injection h2 with h2; injection h2 with _ h2 _; exact absurd h2 (by decide)⟩
      have HGN : Aside0 (w.heap.size ≤ g9 ∧ g9 ≠ g7 ∧ g9 ≠ g3) := ⟨Lg9.out.1, by have := lt_of_block HG7.out; have := Lg9.out.2; omega, by have := lt_of_block HG3.out; have := Lg9.out.2; omega⟩
      clear HF HSE KF B4 K4 B5 K5 HCK HG3c HG7c HG3 HG7 HB_Wc K_Wc Hc Lg9 q1 q2 q3 m5 m6
      go_wp2_with fail
      go_loopw [11] (fun v11 wr2 => ∃ i : Nat, i ≤ FL.length ∧ v11 = .int .i64 (i : Int) ∧ wr2.heap[g9]? = some (.cells (cntCells (cntN (FL.take i))) 64 (0, 0)) ∧ wr2.heap[g7]? = some (.cells (cntCells N) 64 (0, 0)) ∧ wr2.heap[g3]? = some (.cells (schCs a) 62 (0, 0)) ∧ FlAt g9 AF FL wr2 ∧ Below w.heap.size w wr2) (fun v11 _ => ((FL.length : Int) - intOf v11).toNat)
      case atStart => exact ⟨0, Nat.zero_le _, rfl, HG9.out, HG75.out, HG35.out, HFA.out, HB5.out⟩
      case round =>
        clear HG9 HG75 HG35 HFA HB5 HBr
        rename World => wr2
        obtain ⟨i, hi, rfl, hg9, hg7, hg3, hfa, hb⟩ := hrel
        have HG9 := Aside0.mk hg9
        have HG7 := Aside0.mk hg7
        have HG3 := Aside0.mk hg3
        have HFA := Aside0.mk hfa
        have HB2 := Aside0.mk hb
        clear hg9 hg7 hg3 hfa hb
        by_cases hlt2 : i < FL.length
        · have m1 : decide ((i : Int) < (FL.length : Int)) = true := decide_eq_true (by omega)
          have m2 : decide (i < FL.length) = true := decide_eq_true hlt2
          have q1 : (0 ≤ (i : Int)) = True := eq_true (by omega)
          have q2 : ((i : Int) < (FL.length : Int)) = True := eq_true (by omega)
          have q3 : (i < FL.length) = True := eq_true hlt2
          obtain ⟨x, hx⟩ : ∃ x, FL[i] = x := ⟨_, rfl⟩
          obtain ⟨ad, hA, _, x0⟩ := HFA.out i hlt2
          have hk := HFk.out x (by rw [← hx]; exact List.getElem_mem hlt2)
          obtain ⟨q, hq⟩ := Int.eq_ofNat_of_zero_le (show 0 ≤ x.f0 by omega)
          rw [hx, hq] at x0
          rw [hq] at hk
          have d1 : decide ((q : Int) < 1) = false := decide_eq_false (by omega)
          have d2 : decide (5 < (q : Int)) = false := decide_eq_false (by omega)
          have d3 : decide (5 < q) = false := decide_eq_false (by omega)
          have d4 : decide (q < 1) = false := decide_eq_false (by omega)
          have r1 : (0 ≤ (q : Int)) = True := eq_true (by omega)
          have r2 : ((q : Int) < 6) = True := eq_true (by omega)
          have r3 : (q < 6) = True := eq_true (by omega)
          have u0 : wr2.cell? ⟨g9, q, none⟩ = some (.int .i64 (cntN (FL.take i) q : Int)) := (cell_in HG9.out q).trans (cnt_at _ (by omega))
          have f0 : wr2.frozen? ⟨g9, q, none⟩ = false := free_in HG9.out q
          have hbn := cnt_le FL i q
          obtain ⟨c, hc⟩ : ∃ c, cntN (FL.take i) q = c := ⟨_, rfl⟩
          rw [hc] at u0 hbn
          obtain ⟨hs1, hs2⟩ := cnt_take FL hlt2 hx hq
          have HST : Aside0 ((cntCells (cntN (FL.take i))).setIfInBounds q (.int .i64 ((c : Int) + 1)) = cntCells (cntN (FL.take (i + 1)))) := ⟨by rw [← hc]; exact cnt_set _ _ (by omega) hs1 hs2⟩
          have HFA2 := HFA
          subst hA
          clear hx hq hc hs1 hs2
          go_wp2_with (refine storeCellN (w := w) rfl rfl 3 _ _ rfl g9 q (.int .i64 ((c : Int) + 1)) HG9 (by first | (go_simp; done) | (go_simp; rfl)) HB2 ⟨HGN.out.1⟩ ?_; intro W6 H9 HB6 HO6)
          rw [HST.out] at H9
          exact ⟨⟨i + 1, by omega, by rw [Int.natCast_add]; rfl, H9.out, by rw [HO6.out _ (fun e => HGN.out.2.1 e.symm)]; exact HG7.out, by rw [HO6.out _ (fun e => HGN.out.2.2 e.symm)]; exact HG3.out, FlAt.same HFA.out HO6.out, HB6.out⟩, by simp [intOf]; omega⟩
        · have m1 : decide ((i : Int) < (FL.length : Int)) = false := decide_eq_false (by omega)
          have m2 : decide (i < FL.length) = false := decide_eq_false hlt2
          have hM : FL.take i = FL := List.take_of_length_le (by omega)
          rw [hM] at HG9
          clear hM hlt2
          go_wp2_with fail
          go_loopw [12] (fun v12 wr3 => ∃ k nd : Nat, k ≤ 6 ∧ v12 = .int .i64 (k : Int) ∧ wr3 = wr2.drewN nd) (fun v12 _ => (6 - intOf v12).toNat)
          case atStart => exact ⟨0, 0, by omega, rfl, rfl⟩
          case round =>
            obtain ⟨k, nd, hk, rfl, rfl⟩ := hrel
            by_cases hk6 : k < 6
            · have m3 : decide ((k : Int) < 6) = true := decide_eq_true (by omega)
              have m4 : decide (k < 6) = true := decide_eq_true hk6
              have r1 : (0 ≤ (k : Int)) = True := eq_true (by omega)
              have r2 : ((k : Int) < 6) = True := eq_true (by omega)
              have r3 : (k < 6) = True := eq_true hk6
              obtain ⟨c, hc⟩ : ∃ c, cntN FL k = c := ⟨_, rfl⟩
              obtain ⟨b, hb⟩ : ∃ b, N k = b := ⟨_, rfl⟩
              have hle := HNF.out k
              have hz := fun h0 => HF0.out h0 k
              rw [hc] at hle hz
              rw [hb] at hle
              have u0 : wr2.cell? ⟨g9, k, none⟩ = some (.int .i64 (c : Int)) := by rw [← hc]; exact (cell_in HG9.out k).trans (cnt_at _ hk6)
              have u1 : wr2.cell? ⟨g7, k, none⟩ = some (.int .i64 (b : Int)) := by rw [← hb]; exact (cell_in HG7.out k).trans (cnt_at _ hk6)
              have d1 : decide ((c : Int) < (b : Int)) = false := decide_eq_false (by omega)
              have d2 : decide (c < b) = false := decide_eq_false (by omega)
              clear hle hc hb
              rcases Nat.eq_zero_or_pos n with h0 | h0
              · obtain rfl := hz h0
                have e1 : ((n : Int) == 0) = true := by rw [h0]; rfl
                have e2 : decide ((n : Int) = 0) = true := decide_eq_true (by omega)
                have e3 : decide (n = 0) = true := decide_eq_true h0
                have e4 : ((n : Int) = 0) = True := eq_true (by omega)
                have e5 : (n = 0) = True := eq_true h0
                clear hz h0
                go_wp2_with fail
                go_quiet (fail)
                go_wp2_with fail
                exact ⟨⟨k + 1, nd + nq, by omega, by rw [Int.natCast_add]; rfl, rfl⟩, by simp [intOf]; omega⟩
              · have e1 : ((n : Int) == 0) = false := by rw [beq_eq_false_iff_ne]; omega
                have e2 : decide ((n : Int) = 0) = false := decide_eq_false (by omega)
                have e3 : decide (n = 0) = false := decide_eq_false (by omega)
                have e4 : ((n : Int) = 0) = False := eq_false (by omega)
                have e5 : (n = 0) = False := eq_false (by omega)
                clear hz h0
                go_wp2_with fail
                go_quiet (fail)
                go_wp2_with fail
                exact ⟨⟨k + 1, nd + nq, by omega, by rw [Int.natCast_add]; rfl, rfl⟩, by simp [intOf]; omega⟩
            · have m3 : decide ((k : Int) < 6) = false := decide_eq_false (by omega)
              have m4 : decide (k < 6) = false := decide_eq_false hk6
              have HG9d := Aside0.mk (blk_below HG9.out (below_drewN (Below.refl _ _) nd))
              have HG7d := Aside0.mk (blk_below HG7.out (below_drewN (Below.refl _ _) nd))
              have HG3d := Aside0.mk (blk_below HG3.out (below_drewN (Below.refl _ _) nd))
              have HBd := Aside0.mk (below_drewN HB2.out nd)
              have HL7 : Aside0 (w.heap.size ≤ g7 ∧ w.heap.size ≤ g7) := ⟨Lg7.out.1, Lg7.out.1⟩
              clear hk6 HG9 HG7 HG3
              go_wp2_with (first | ((with_reducible refine gate_dst (N := 97) rfl ?_); refine wpList_load_row rfl 64 _ rfl g9 rfl 64 _ (0, 0) _ HG9d.out Try.underlying64 rfl (by kernel_rfl) ?_) | (refine storeCsN (w := w) rfl 64 _ _ rfl g7 (cntCells (cntN FL)) rfl rfl 64 _ HG7d (by kernel_rfl) rfl (by rw [← Array.all_toList]; rfl) HBd ⟨HL7.out.1⟩ ?_; intro W7 H7 HB7 HO7))
              exact ⟨⟨n + 1, cntN FL, by omega, by rw [Int.natCast_add]; rfl, HNX.out, fun h => absurd h (Nat.succ_ne_zero n), H7.out, by rw [HO7.out _ HL73.out]; exact HG3d.out, HB7.out⟩, by simp [intOf]; omega⟩
    · have m5 : decide ((n : Int) ≤ (a.G.length : Int)) = false := decide_eq_false (by omega)
      have m6 : decide (n ≤ a.G.length) = false := decide_eq_false hlt
      go_wp2_with fail
      refine (one30_calls _).mono ?_
      rintro e W9 ⟨rfl, hb9⟩
      go_wp2_with fail
      go_ret
      exact ⟨rfl, below_step HBr.out hb9⟩
/-- Whole numbers, as they came in. -/
def RIns (w : World) (cs : List Value) (xs : List Int) : Prop := ∃ A c, cs = [.slice A xs.length c] ∧ xs.length ≤ c ∧ Kd.C (Kd.int .i64) w A xs.length xs
theorem opn_ins : Opn 42 RIns := fun enc w held fuel cs d h => by
  obtain ⟨l, A, c, e, hl, hm, hr⟩ := opn_slice (n := 1) (R := RInt .i64) Try.underlying42 (by kernel_rfl) (opn_int Try.underlying3) enc w held fuel cs d h
  exact ⟨l, A, c, e, hl, rsl_reads (d := Kd.int .i64) hr (fun cs x hx => hx.1) (Nat.le_trans hl hm)⟩
theorem more_row (x : Sch) (L : List S95) (AL : Option Addr) (cL : Nat) (G : List Int) (AG : Option Addr) (cG : Nat) (w : World) (hx : Kd.C k76 w x.A0 x.l0.length x.l0 ∧ Kd.C k76 w x.A1 x.l1.length x.l1 ∧ x.l0.length ≤ x.c0 ∧ x.l1.length ≤ x.c1)
    (kL : L.length ≤ cL) (hL : Kd.C k95 w AL L.length L ∧ ∀ x ∈ L, x.f7.length ≤ reachBytes) (kG : G.length ≤ cG) (hG : Kd.C (Kd.int .i64) w AG G.length G) :
    Calls Try.prog 7 #[.agg x.arr, .slice AL L.length cL, .slice AG G.length cG] w fun e w' => e = .returned (.bool true) ∧ Below w.heap.size w w' :=
  more_walk ⟨x.md, x.A0, x.c0, x.l0, x.A1, x.c1, x.l1, AL, cL, L, AG, cG, G⟩ w ⟨hx.1, hx.2.1, hL.1, hG, hx.2.2.1, hx.2.2.2, kL, kG⟩ hL.2
end Go.Proofs.Ytekbaconbemgpaa.PWe
