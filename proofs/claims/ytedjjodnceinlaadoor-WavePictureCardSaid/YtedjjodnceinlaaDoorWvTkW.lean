/- The iterator (wave.Wave).Ticks: its closure, walked. Helper text. -/
import Derived.Test.YtedjjodnceinlaaDoorWvTks
namespace Go.Proofs.YtedjjodnceinlaaDoor.PWv
open Go.RowKit Go.Shelf Go.Proofs.YtedjjodnceinlaaDoor.Kx Go.Proofs.YtedjjodnceinlaaDoor.PWe Go.Proofs.YtedjjodnceinlaaDoorW.PrintWords Go.Proofs.YtedjjodnceinlaaDoorW.PrintLast Go.Proofs.YtedjjodnceinlaaDoorW.PrintMore
set_option linter.unusedVariables false
set_option linter.unusedSimpArgs false
attribute [local go_sem] Oper.semAt_some
theorem clean_calls (k : Nat) (A : Option Addr) (c : Nat) (l cl : List S46) (w : World) (hr : Kd.C k46 w A l.length l) (hc : l.length ≤ c) (h : wave_Wave_Clean.f k l = some cl) :
    Calls Tryd.prog 20 #[.slice A l.length c] w fun e w' => ∃ v, e = .returned v ∧ (∃ A1 c1, v = .slice A1 cl.length c1 ∧ (0 < cl.length → ∃ g cur, A1 = some ⟨g, 0, none⟩ ∧ w.heap.size ≤ g ∧ w'.heap[g]? = some (.cells cur 46 (0, 0)) ∧ ∀ j (hj : j < cl.length), cur[2 * j]? = some (.int .u8 cl[j].f0) ∧ cur[2 * j + 1]? = some (.int .i64 cl[j].f1))) ∧ Below w.heap.size w w' :=
  (wave_Wave_Clean.calls k (fun k_ => k_ < w.heap.size) A c l cl w (Kd.V_mk hc (Kd.C_F k46_heap hr)) h).mono fun e w' ⟨v, he, hR, hb⟩ => ⟨v, he, rows_of2 hR, hb⟩
theorem sum_take {cl : List S46} (h : WOK cl) {i : Nat} (hi : i < cl.length) : (0 ≤ sumT (cl.take i) ∧ sumT (cl.take i) + cl[i].f1 ≤ 1048576) ∧ sumT (cl.take (i + 1)) = sumT (cl.take i) + cl[i].f1 := by
  have e : sumT (cl.take (i + 1)) = sumT (cl.take i) + cl[i].f1 := by
    rw [List.take_succ_eq_append_getElem hi, sumT_app]
    simp [sumT]
  have h0 := sumT_len (cl.take i) (fun x hx => h.each x (List.mem_of_mem_take hx))
  have h1 := sumT_len (cl.drop (i + 1)) (fun x hx => h.each x (List.mem_of_mem_drop hx))
  have h2 : sumT cl = sumT (cl.take (i + 1)) + sumT (cl.drop (i + 1)) := by rw [← sumT_app, List.take_append_drop]
  have := h.hi
  exact ⟨⟨by omega, by omega⟩, e⟩
set_option maxHeartbeats 4000000 in
set_option maxRecDepth 100000 in
theorem tks_in (n : Nat) (hn : 1 ≤ n) (l Bs n0 k : Nat) (A : Option Addr) (c : Nat) (wv cl : List S46) (hcl : wave_Wave_Clean.f k wv = some cl) (hok : WOK cl) (J Jx : List (Int × Int) → World → Prop) (W : World) (hJ : AbidesFrom W.heap.size J)
    (hY : ∀ pre x W1, J pre W1 → pre.length < (tks cl 0).length → YieldAt Fence.wide (n - 1) Tryd.prog l #[.int .i64 x.1, .int .u8 x.2] W1 fun e W' =>
      (e = .returned (.bool true) ∧ J (pre ++ [x]) W' ∧ KpB n0 W1 W') ∨ (e = .returned (.bool false) ∧ Jx (pre ++ [x]) W'))
    (hn0 : n0 ≤ W.heap.size) (hBs : W.cell? ⟨Bs, 0, none⟩ = some (.slice A wv.length c)) (hC : Kd.C k46 W A wv.length wv) (hc : wv.length ≤ c) (h0 : J [] W) :
    CallsIn Fence.wide n Tryd.prog 23 #[.func (.yield l) #[] #[], .pointer (some ⟨Bs, 0, none⟩)] W fun e W' => (∃ v, e = .returned v) ∧
      ((∃ ys, ys = tks cl 0 ∧ J ys W') ∨ (∃ pre, pre <+: tks cl 0 ∧ Jx pre W')) := by
  have HCL := Aside0.mk hcl
  have HC := Aside0.mk hC
  have HY := Aside0.mk hY
  have HJ := Aside0.mk hJ
  clear hcl hC hY hJ
  refine callsIn_of_wp Tryd.func23 rfl trivial ?_ rfl
  simp only [Tryd.ntmps23, List.size_toArray, List.length_cons, List.length_nil, Nat.reduceAdd, Nat.reduceSub, Array.replicate_succ, Array.replicate_zero, List.push_toArray, List.append_toArray, List.nil_append, List.cons_append]
  gi_wp2_with (fail)
  refine ⟨trivial, (callsIn_wide.2 (clean_calls k A c wv cl W HC.out hc HCL.out)).mono ?_⟩
  rintro e W1 ⟨v, rfl, ⟨A1, c1, rfl, hrows⟩, hb1⟩
  have HRW := Aside0.mk hrows
  have HB1 := Aside0.mk hb1
  clear hrows hb1
  gi_wp2_with (fail)
  have HJ1 : Aside0 (J [] W1) := ⟨HJ.out _ _ _ none h0 (grown_of HB1.out) (fun _ h => by cases h)⟩
  gi_loopw [3, 9] (fun v3 v9 wr => ∃ i : Nat, i ≤ cl.length ∧ v9 = .int .i64 (i : Int) ∧ v3 = .int .i64 (sumT (cl.take i)) ∧ Aside0 (J (tks (cl.take i) 0) wr) ∧ Aside0 (KpB n0 W1 wr) ∧ Aside0 (W1.heap.size ≤ wr.heap.size)) (fun _ v9 _ => ((cl.length : Int) - intOf v9).toNat)
  case atStart => exact ⟨0, Nat.zero_le _, rfl, rfl, HJ1, ⟨⟨Below.refl _ _, fun _ _ _ h => h⟩⟩, ⟨Nat.le_refl _⟩⟩
  case round =>
    obtain ⟨i, hi, rfl, rfl, HJr, HKr, HSz⟩ := hrel
    by_cases hlt : i < cl.length
    · have m1 : decide ((i : Int) < (cl.length : Int)) = true := decide_eq_true (by omega)
      have q1 : (0 ≤ (i : Int)) = True := eq_true (by omega)
      have q2 : ((i : Int) < (cl.length : Int)) = True := eq_true (by omega)
      have q3 : (i < cl.length) = True := eq_true hlt
      obtain ⟨g, cur, rfl, hgb, hgh, hcells⟩ := HRW.out (by omega)
      obtain ⟨e0, e1⟩ := hcells i hlt
      obtain ⟨hL, hT⟩ := hok.each cl[i] (List.getElem_mem hlt)
      have HNX := Aside0.mk (tks_next hlt)
      have HPR := Aside0.mk (fun j (hj : j ≤ cl[i].f1.toNat) => tks_pre hlt hj)
      obtain ⟨hs0, hsn⟩ := sum_take hok hlt
      obtain ⟨L, T, hr⟩ : ∃ L T, cl[i] = ⟨L, T⟩ := ⟨_, _, rfl⟩
      rw [hr] at e0 e1 hL hT HNX HPR hs0 hsn
      obtain ⟨s0, hse⟩ : ∃ s, sumT (cl.take i) = s := ⟨_, rfl⟩
      rw [hse] at HNX HPR hs0 hsn ⊢
      have HSN := Aside0.mk hsn
      have hgr := HKr.out.runs g cur _ hgh
      have y0 : wr.cell? ⟨g, i * 2, none⟩ = some (.int .u8 L) := (cell_in hgr (i * 2)).trans (by rw [Nat.mul_comm i 2]; exact e0)
      have y1 : wr.cell? ⟨g, i * 2 + 1, none⟩ = some (.int .i64 T) := (cell_in hgr (i * 2 + 1)).trans (by rw [Nat.mul_comm i 2]; exact e1)
      have HLT := Aside0.mk hlt
      clear hr hlt hcells e0 e1 hse hsn
      gi_wp2_with (fail)
      have hn1 : n0 ≤ wr.heap.size := Nat.le_trans (Nat.le_trans hn0 (below_size HB1.out)) HKr.out.below.size
      have hba : Below wr.heap.size wr (wr.alloc (.cells #[.int .u8 L, .int .i64 T] 46 (0, 0))) := below_alloc (Below.refl _ _) _
      have HJa : Aside0 (J (tks (cl.take i) 0 ++ tkR L s0 0) (wr.alloc (.cells #[.int .u8 L, .int .i64 T] 46 (0, 0)))) := ⟨by
        rw [show tkR L s0 0 = [] from rfl, List.append_nil]
        exact HJ.out _ _ _ none HJr.out (grown_of hba) (fun _ h => by cases h)⟩
      have HKa : Aside0 (KpB n0 W1 (wr.alloc (.cells #[.int .u8 L, .int .i64 T] 46 (0, 0)))) := ⟨kpB_t HKr.out (kpB_of hba hn1)⟩
      have HGa : Aside0 ((wr.alloc (.cells #[.int .u8 L, .int .i64 T] 46 (0, 0))).heap[wr.heap.size]? = some (.cells #[.int .u8 L, .int .i64 T] 46 (0, 0))) := ⟨blk_new wr _⟩
      obtain ⟨gq, hgq⟩ : ∃ g, wr.heap.size = g := ⟨_, rfl⟩
      rw [hgq] at HGa ⊢
      clear hba hn1 hgq y0 y1 hgr HJr HKr HSz
      gi_loopw [3, 15] (fun v3 v15 wq => ∃ j : Nat, j ≤ T.toNat ∧ v15 = .int .i64 (j : Int) ∧ v3 = .int .i64 (s0 + (j : Int)) ∧ Aside0 (J (tks (cl.take i) 0 ++ tkR L s0 j) wq) ∧ Aside0 (KpB n0 W1 wq) ∧ Aside0 (wq.heap[gq]? = some (.cells #[.int .u8 L, .int .i64 T] 46 (0, 0)))) (fun _ v15 _ => (T - intOf v15).toNat)
      case atStart => exact ⟨0, Nat.zero_le _, rfl, by simp, HJa, HKa, HGa⟩
      case round =>
        obtain ⟨j, hj, rfl, rfl, HJq, HKq, HGq⟩ := hrel
        by_cases hjt : (j : Int) < T
        · have r1 : decide ((j : Int) < T) = true := decide_eq_true hjt
          have y2 : wr.cell? ⟨gq, 0, none⟩ = some (.int .u8 L) := (cell_in HGq.out 0).trans rfl
          have hlen : (tks (cl.take i) 0 ++ tkR L s0 j).length < (tks cl 0).length := by
            have h := (HPR.out (j + 1) (by omega)).length_le
            rw [tkR_succ] at h
            simp only [List.length_append, List.length_cons, List.length_nil] at h ⊢
            omega
          obtain ⟨fn, tmps, assign, body, hy, hR⟩ := HY.out _ (s0 + (j : Int), L) wr HJq.out hlen
          dsimp only at hy
          have HRr := Aside0.mk hR
          have HJ64 : Aside0 (wrap64 ((j : Int) + 1) = (j : Int) + 1) := ⟨w64 (by omega) (by omega)⟩
          have HS65 : Aside0 (wrap64 (s0 + (j : Int) + 1) = s0 + (j : Int) + 1) := ⟨w64 (by omega) (by omega)⟩
          have HS64 : Aside0 (wrap64 (s0 + (j : Int) + 1) = s0 + ((j : Int) + 1)) := ⟨HS65.out.trans (Int.add_assoc _ _ _)⟩
          have HJ1 : Aside0 (j + 1 ≤ T.toNat) := ⟨by omega⟩
          have HME : Aside0 ((T - ((j : Int) + 1)).toNat < (T - (j : Int)).toNat) := ⟨by omega⟩
          clear hlen hR
          gi_wp2_with (fail)
          refine HRr.out.mono ?_
          rintro e W3 (⟨rfl, hJ3, hk3⟩ | ⟨rfl, hJx3⟩)
          · have HJ3 := Aside0.mk hJ3
            have HK3 := Aside0.mk hk3
            clear hJ3 hk3 HRr hy y2
            gi_wp2_with (fail)
            refine ⟨⟨j + 1, HJ1.out, by rw [Int.natCast_add]; rfl, by rw [Int.natCast_add, Int.add_assoc]; rfl, ⟨by rw [tkR_succ, ← List.append_assoc]; exact HJ3.out⟩, ⟨kpB_t HKq.out HK3.out⟩, ⟨HK3.out.runs _ _ _ HGq.out⟩⟩, HME.out⟩
          · have HJ3 := Aside0.mk hJx3
            clear hJx3 HRr hy y2
            gi_wp2_with (fail)
            refine bodyPost_ret (results_none rfl _ _ _) rfl ?_
            exact ⟨⟨_, rfl⟩, .inr ⟨_, by have h := HPR.out (j + 1) HJ1.out; rwa [tkR_succ, ← List.append_assoc] at h, HJ3.out⟩⟩
        · have r1 : decide ((j : Int) < T) = false := decide_eq_false hjt
          have hjT : T.toNat = j := by omega
          have hil : (cl.length : Int) ≤ 1048576 := Int.le_trans (sumT_len cl hok.each) hok.hi
          have HI64 : Aside0 (wrap64 ((i : Int) + 1) = (i : Int) + 1) := ⟨w64 (by omega) (by omega)⟩
          have HME : Aside0 (((cl.length : Int) - ((i : Int) + 1)).toNat < ((cl.length : Int) - (i : Int)).toNat) := ⟨by have := HLT.out; omega⟩
          have HSJ : Aside0 (s0 + (j : Int) = s0 + T) := ⟨by omega⟩
          gi_wp2_with (fail)
          have hl := HLT.out
          refine ⟨⟨i + 1, hl, by rw [Int.natCast_add]; rfl, by rw [HSN.out, HSJ.out], ⟨by rw [HNX.out, hjT]; exact HJq.out⟩, HKq, ⟨HKq.out.below.size⟩⟩, HME.out⟩
    · have m1 : decide ((i : Int) < (cl.length : Int)) = false := decide_eq_false (by omega)
      gi_wp2_with (fail)
      go_end0
      obtain rfl : i = cl.length := by omega
      exact ⟨⟨_, rfl⟩, .inl ⟨_, rfl, by have h := HJr.out; rwa [List.take_length] at h⟩⟩
end Go.Proofs.YtedjjodnceinlaaDoor.PWv
