/- What became of all messages that were noted: walk. Helper text. -/
import Derived.Test.YtekbaconbemgpaaAuInv
import Derived.Test.YtekbaconbemgpaaAuOf
namespace Go.Proofs.Ytekbaconbemgpaa.PWe
open Go.RowKit Go.Proofs.Ytekbaconbemgpaa.Kx Go.Proofs.YtekbaconbemgpaaW.PrintWords Go.Proofs.YtekbaconbemgpaaW.PrintLast Go.Proofs.YtekbaconbemgpaaW.PrintMore
set_option linter.unusedVariables false
set_option linter.unusedSimpArgs false

def zx : S101 := ⟨0, 0, 0, [], [], [], 0, []⟩
/-- The last of the first m windows that an event is of, from 1 on; 0: none. -/
def lastOf (out : List S101) (e : S95) : Nat → Nat
  | 0 => 0
  | m + 1 => if ofP (out.getD m zx) e = true then m + 1 else lastOf out e m
theorem lastOf_le (out : List S101) (e : S95) : ∀ m, lastOf out e m ≤ m
  | 0 => Nat.le_refl _
  | m + 1 => by
    rw [lastOf]
    split
    · exact Nat.le_refl _
    · have := lastOf_le out e m
      omega
def kindOf (e : S95) : Nat := if e.f2 = 1 then 0 else if e.f2 = 2 then 1 else 2
def firstP (x : S101) (e : S95) : Bool := (kindOf e == 1) && ((x.f4.length : Int) == 0)
def noteP (x : S101) (e : S95) : S101 := if firstP x e = true then { setLst x (kindOf e) (putL (lst x (kindOf e)) e.f1) with f6 := e.f6, f7 := e.f7 } else setLst x (kindOf e) (putL (lst x (kindOf e)) e.f1)
def newW (e : S95) : S101 := ⟨e.f3, e.f4, e.f5, [], [], [], -1, []⟩
def stepP (out : List S101) (e : S95) : List S101 :=
  if msgP e = true then (if lastOf out e out.length = 0 then (out ++ [newW e]).set out.length (noteP (newW e) e) else out.set (lastOf out e out.length - 1) (noteP (out.getD (lastOf out e out.length - 1) zx) e)) else out
/-- What became of all messages. -/
def winsL (l : List S95) : List S101 := l.foldl stepP []
/-- Lists that rise, not too long. -/
def Tidy (n : Nat) (x : S101) : Prop := ∀ c, c < 3 → (lst x c).Pairwise (· < ·) ∧ (lst x c).length ≤ n
theorem tidy_note {n : Nat} {x : S101} (h : Tidy n x) (e : S95) : Tidy (n + 1) (noteP x e) := by
  have h1 : Tidy (n + 1) (setLst x (kindOf e) (putL (lst x (kindOf e)) e.f1)) := by
    intro c hc
    have hk : kindOf e < 3 := by unfold kindOf; repeat' split
                                 all_goals omega
    by_cases e1 : c = kindOf e
    · have e2 : lst (setLst x (kindOf e) (putL (lst x (kindOf e)) e.f1)) c = putL (lst x c) e.f1 := by
        rw [← e1]
        rcases (by omega : c = 0 ∨ c = 1 ∨ c = 2) with rfl | rfl | rfl <;> rfl
      rw [e2]
      have := putL_len (lst x c) e.f1
      have h3 := h c hc
      exact ⟨putL_sorted h3.1, by omega⟩
    · have e2 : lst (setLst x (kindOf e) (putL (lst x (kindOf e)) e.f1)) c = lst x c := by
        generalize kindOf e = q at *
        rcases (by omega : q = 0 ∨ q = 1 ∨ q = 2) with rfl | rfl | rfl <;> rcases (by omega : c = 0 ∨ c = 1 ∨ c = 2) with rfl | rfl | rfl <;> first | rfl | exact absurd rfl e1
      rw [e2]
      have h3 := h c hc
      exact ⟨h3.1, by omega⟩
  unfold noteP
  split
  · intro c hc
    exact h1 c hc
  · exact h1
theorem EInv.at {w wr : World} {lab : Nat → Nat} {es : List El} {g cap : Nat} {cs : Array Value} (h : EInv w wr lab (.slice (some ⟨g, 0, none⟩) es.length cap) es) (hg : wr.heap[g]? = some (.cells cs 101 (0, 0))) {j : Nat} (hj : j < es.length) {t : Nat} (ht : t < 8) : cs[j * 8 + t]? = (es[j]).cells[t]? := by
  obtain ⟨_, inner, ⟨hlen, hor⟩, hrl, hrep⟩ := h.own
  rcases hor with ⟨hv, _⟩ | ⟨g', cap', cur, hv, hb, hcur, hnc, hcm, hsz, htk⟩
  · cases hv
  injection hv with hv1 _ hv3
  injection hv1 with hv1
  injection hv1 with hv1
  subst hv1 hv3
  have hcc : cur = cs := by
    rw [hg] at hcur
    injection hcur with hcur
    injection hcur with hcur
    exact hcur.symm
  subst hcc
  have h1 := (hrep j es[j] (List.getElem?_eq_getElem hj)).1
  have hsz8 : kEl.sz = 8 := rfl
  rw [hsz8] at h1 htk
  rw [← h1, List.getElem?_take, if_pos ht, List.getElem?_drop, ← htk, List.getElem?_take, if_pos (by omega), Array.getElem?_toList]
theorem EInv.row {w wr : World} {lab : Nat → Nat} {es : List El} {v5 : Value} (h : EInv w wr lab v5 es) (hne : 0 < es.length) : ∃ g cap, v5 = .slice (some ⟨g, 0, none⟩) es.length cap := by
  obtain ⟨_, inner, ⟨hlen, hor⟩, hrl, hrep⟩ := h.own
  rcases hor with ⟨hv, h0⟩ | ⟨g', cap', cur, hv, hb, hcur, hnc, hcm, hsz, htk⟩
  · omega
  · exact ⟨g', cap', hv⟩
section
variable (e : S95) (A7 : Option Addr) (c7 g o base : Nat) (cs : Array Value) (ok : Nat → Prop) (vo : Value) (x : S101) (w : World) (hg : w.heap[g]? = some (.cells cs 101 (0, 0))) (hbase : base ≤ w.heap.size) (hfresh : ∀ k, w.heap.size ≤ k → ok k) (hokg : ¬ ok g)
include hg hbase hfresh hokg
/-- Any event of a message. -/
theorem add_any (hR : Kd.R (Kd.int .i64) 3 w base ok vo (lst x (kindOf e))) (hl : (lst x (kindOf e)).length ≤ 999999) (hs : (lst x (kindOf e)).Pairwise (· < ·)) (hm : msgP e = true) (hc : cs[o + (3 + kindOf e)]? = some vo) :
    Calls Try.prog 76 #[.pointer (some ⟨g, o, none⟩), .agg (evc e A7 c7)] w (Added w g (o + (3 + kindOf e)) cs base ok vo (lst x (kindOf e)) e.f1 (firstP x e)) := by
  have h13 : 1 ≤ e.f2 ∧ e.f2 ≤ 3 := by
    unfold msgP at hm
    simpa using hm
  rcases (by omega : e.f2 = 1 ∨ e.f2 = 2 ∨ e.f2 = 3) with h | h | h
  · have k : kindOf e = 0 := by unfold kindOf; rw [if_pos h]
    have f : firstP x e = false := by unfold firstP; rw [k]; rfl
    rw [k] at hR hl hs hc ⊢
    rw [f]
    exact add1_calls e A7 c7 g o base cs ok vo _ w hg hbase hfresh hokg hR hl hs h hc
  · have k : kindOf e = 1 := by unfold kindOf; rw [if_neg (by omega), if_pos h]
    have f : firstP x e = (((lst x 1).length : Int) == 0) := by unfold firstP; rw [k]; rfl
    rw [k] at hR hl hs hc ⊢
    rw [f]
    exact add2_calls e A7 c7 g o base cs ok vo _ w hg hbase hfresh hokg hR hl hs h hc
  · have k : kindOf e = 2 := by unfold kindOf; rw [if_neg (by omega), if_neg (by omega)]
    have f : firstP x e = false := by unfold firstP; rw [k]; rfl
    rw [k] at hR hl hs hc ⊢
    rw [f]
    exact add3_calls e A7 c7 g o base cs ok vo _ w hg hbase hfresh hokg hR hl hs h hc
end
def eachT7 : Bool × List (List Nat × List Nat) := (true, [([], []), ([0], [0]), ([1], [1]), ([2], [2]), ([2], [2]), ([3, 4, 2], [2, 3, 4]), ([5, 2], [2, 5]), ([2], [2]), ([6, 7, 2, 2], [2, 6, 7]), ([8, 2], [2, 8]), ([2, 9], [2, 9])])
theorem eachtab7 : rtab .any (opsOf Try.f55 7) = eachT7 := by kernel_rfl
def eachT12 : Bool × List (List Nat × List Nat) := (true, [([], []), ([], []), ([0, 1], [0, 1]), ([], []), ([2, 3], [2, 3])])
theorem eachtab12 : rtab .any (opsOf Try.f55 12) = eachT12 := by kernel_rfl
def eachT13 : Bool × List (List Nat × List Nat) := (true, [([], []), ([], []), ([], []), ([], []), ([], []), ([4], [4]), ([], []), ([6], [6]), ([7], [7]), ([0, 1, 0, 1, 4, 5, 8], [0, 1]), ([9, 0, 1, 4, 5, 8], [9]), ([10, 5, 8, 0, 1, 4, 5, 8], [5, 10]), ([2, 3, 0, 1, 2, 3, 4, 5, 6, 7, 8, 9, 10, 11], [2, 3]), ([12, 0, 1, 2, 3, 4, 5, 6, 7, 8, 9, 10, 11], [12]), ([13, 8, 11, 0, 1, 2, 3, 4, 5, 6, 7, 8, 9, 10, 11], [8, 13])])
theorem eachtab13 : rtab .any (opsOf Try.f55 13) = eachT13 := by kernel_rfl
def Ev8 (g7 : Nat) (e : S95) (A7 : Option Addr) (c7 : Nat) (W : World) : Prop :=
  W.cell? ⟨g7, 0, none⟩ = some (.int .i64 e.f0) ∧ W.cell? ⟨g7, 1, none⟩ = some (.int .i64 e.f1) ∧ W.cell? ⟨g7, 2, none⟩ = some (.int .i64 e.f2) ∧ W.cell? ⟨g7, 3, none⟩ = some (.int .i64 e.f3) ∧ W.cell? ⟨g7, 4, none⟩ = some (.int .i64 e.f4) ∧ W.cell? ⟨g7, 5, none⟩ = some (.int .i64 e.f5) ∧ W.cell? ⟨g7, 6, none⟩ = some (.int .i64 e.f6) ∧ W.cell? ⟨g7, 7, none⟩ = some (.slice A7 e.f7.length c7)
theorem ev8_of {g7 : Nat} {e : S95} {A7 : Option Addr} {c7 : Nat} {W : World} (h : W.heap[g7]? = some (.cells (evc e A7 c7) 95 (0, 0))) : Ev8 g7 e A7 c7 W :=
  ⟨(cell_in h 0).trans rfl, (cell_in h 1).trans rfl, (cell_in h 2).trans rfl, (cell_in h 3).trans rfl, (cell_in h 4).trans rfl, (cell_in h 5).trans rfl, (cell_in h 6).trans rfl, (cell_in h 7).trans rfl⟩
def Wn8 (g o : Nat) (x : S101) (v0 v1 v2 v3 : Value) (W : World) : Prop :=
  W.cell? ⟨g, o, none⟩ = some (.int .i64 x.f0) ∧ W.cell? ⟨g, o + 1, none⟩ = some (.int .i64 x.f1) ∧ W.cell? ⟨g, o + 2, none⟩ = some (.int .i64 x.f2) ∧ W.cell? ⟨g, o + 3, none⟩ = some v0 ∧ W.cell? ⟨g, o + 4, none⟩ = some v1 ∧ W.cell? ⟨g, o + 5, none⟩ = some v2 ∧ W.cell? ⟨g, o + 6, none⟩ = some (.int .i64 x.f6) ∧ W.cell? ⟨g, o + 7, none⟩ = some v3
set_option maxHeartbeats 8000000 in
set_option maxRecDepth 100000 in
theorem each_calls (A : Option Addr) (c : Nat) (l : List S95) (w : World) (hr : Kd.C k95 w A l.length l) (hl : l.length ≤ 900000) (hwl : ∀ x ∈ l, x.f7.length ≤ 140737488355328) :
    Calls Try.prog 55 #[.slice A l.length c, .func (.func 56) #[] #[]] w fun e w' => ∃ v5 es lab, e = .returned v5 ∧ EInv w w' lab v5 es ∧ es.map (·.x) = winsL l := by
  have HR := Aside0.mk hr
  have HWL := Aside0.mk hwl
  have hl63 : l.length ≤ 9223372036854775807 := by omega
  clear hr hwl
  go_enter Try.func55, Try.ntmps55
  go_wp2_with fail
  go_loopw [5, 7, 8, 11] (fun v5 _ _ v11 wr => ∃ (i : Nat) (es : List El) (lab : Nat → Nat), i ≤ l.length ∧ v11 = .int .i64 (i : Int) ∧ EInv w wr lab v5 es ∧ es.map (·.x) = winsL (l.take i) ∧ es.length ≤ i ∧ (∀ j (h : j < es.length), Tidy i (es[j]).x)) (fun _ _ _ v11 _ => ((l.length : Int) - intOf v11).toNat)
  case atStart => exact ⟨0, [], fun _ => 0, Nat.zero_le _, rfl, EInv.nil w _, rfl, Nat.le_refl _, fun j h => absurd h (Nat.not_lt_zero _)⟩
  case round =>
    obtain ⟨i, es, lab, hi, rfl, hinv, hmap, hlen, htidy⟩ := hrel
    have HI := Aside0.mk hinv
    have HM := Aside0.mk hmap
    have HT := Aside0.mk htidy
    obtain ⟨A5, cap5, e5⟩ := Kd.R_slice hinv.own
    subst e5
    clear hinv hmap htidy
    by_cases hlt : i < l.length
    · have m1 : decide ((i : Int) < (l.length : Int)) = true := decide_eq_true (by omega)
      have m2 : decide (i < l.length) = true := decide_eq_true hlt
      have q1 : (0 ≤ (i : Int)) = True := eq_true (by omega)
      have q2 : ((i : Int) < (l.length : Int)) = True := eq_true (by omega)
      have q3 : (i < l.length) = True := eq_true hlt
      obtain ⟨e, he⟩ : ∃ e, l[i] = e := ⟨_, rfl⟩
      have hstep : winsL (l.take (i + 1)) = stepP (winsL (l.take i)) e := by
        unfold winsL
        rw [List.take_succ_eq_append_getElem hlt, he, List.foldl_append]; rfl
      rw [← HM.out] at hstep
      have HSTEP := Aside0.mk hstep
      obtain ⟨ad, A7, c7, hA, x0, x1, x2, x3, x4, x5, x6, x7, l7, r7⟩ := ev_at HR.out (Below.refl _ _) hlt he
      have up : ∀ {p : Addr} {v : Value}, w.cell? p = some v → wr.cell? p = some v := fun h => (HI.out.b.cell (World.block_lt_of_cell? w _ h)).trans h
      replace x0 := up x0
      replace x1 := up x1
      replace x2 := up x2
      replace x3 := up x3
      replace x4 := up x4
      replace x5 := up x5
      replace x6 := up x6
      replace x7 := up x7
      have HR7 := Aside0.mk r7
      have HL7 : Aside0 (e.f7.length ≤ 140737488355328) := ⟨HWL.out e (by rw [← he]; exact List.getElem_mem hlt)⟩
      have HW : Aside0 (Below wr.heap.size wr wr) := ⟨Below.refl _ _⟩
      rw [hA]
      rw [hA] at HR
      clear hA he r7 hstep up
      go_wp2_with (first | ((with_reducible refine gate_dst (N := 7) rfl ?_); refine boxN (w := wr) rfl (N := 7) rfl (cs := #[.int .i64 0, .int .i64 0, .int .i64 0, .int .i64 0, .int .i64 0, .int .i64 0, .int .i64 0, .slice none 0 0]) (t := 95) (by first | (go_simp; done) | (go_simp; rfl)) HW ?_; intro g7 Wa Ha Lg7 HB_Wa K_Wa) | (refine storeN (w := wr) rfl 95 _ _ rfl g7 (evc e A7 c7) rfl rfl 95 _ Ha (by kernel_rfl) rfl (by rw [← Array.all_toList]; rfl) HB_Wa Lg7 K_Wa ?_; clear Ha; intro Wb Ha HB_Wb K_Wb; have Hb := Ha) | ((with_reducible refine gate_dst (N := 15) rfl ?_); refine wpList_load_row rfl 95 _ rfl g7 rfl 95 _ (0, 0) _ Hb.out Try.underlying95 rfl (by kernel_rfl) ?_))
      refine (message_calls e A7 c7 Wb).mono ?_
      rintro e' w2 ⟨rfl, hb⟩
      have K2 := Aside0.mk (below_step K_Wb.out hb)
      have H7 := Aside0.mk (blk_below Hb.out hb)
      have HI2 := Aside0.mk (HI.out.below K2.out)
      clear hb HI x0 x1 x2 x3 x4 x5 x6 x7
      cases hmsg : msgP e
      · have hs2 : winsL (l.take (i + 1)) = es.map (·.x) := by rw [HSTEP.out, stepP, hmsg, if_neg (by decide)]
        have HS2 := Aside0.mk hs2
        clear hmsg hs2
        go_wp2_with fail
        exact ⟨⟨i + 1, es, lab, by omega, by rw [Int.natCast_add]; rfl, HI2.out, HS2.out.symm, by omega, fun j hj c hc => ⟨(HT.out j hj c hc).1, by have := (HT.out j hj c hc).2; omega⟩⟩, by simp [intOf]; omega⟩
      have HMSG := Aside0.mk hmsg
      rw [stepP, hmsg, if_pos rfl] at HSTEP
      clear hmsg
      have hel : es.length ≤ 900000 := by omega
      go_wp2_with fail
      go_loopw [8] (fun v8 wr2 => ∃ m : Nat, m ≤ es.length ∧ v8 = .int .i64 ((m : Int) - 1) ∧ lastOf (es.map (·.x)) e es.length = lastOf (es.map (·.x)) e m ∧ Below w2.heap.size w2 wr2) (fun v8 _ => (intOf v8 + 1).toNat)
      case atStart => exact ⟨es.length, Nat.le_refl _, rfl, rfl, Below.refl _ _⟩
      case round =>
        obtain ⟨m, hm, rfl, hlast, hb2⟩ := hrel
        have HLA := Aside0.mk hlast
        have H73 := Aside0.mk (blk_below H7.out hb2)
        have HI3 := Aside0.mk (HI2.out.below hb2)
        have HK3 := Aside0.mk (below_step K2.out hb2)
        have HB23 := Aside0.mk hb2
        clear hlast hb2
        rename World => w3
        rcases m with _ | k
        · have hz : (((0 : Nat) : Int) - 1) = -1 := rfl
          rw [hz]
          have hnew : winsL (l.take (i + 1)) = (es.map (·.x) ++ [newW e]).set es.length (noteP (newW e) e) := by
            have h := HSTEP.out
            rw [List.length_map, HLA.out, lastOf, if_pos rfl] at h
            exact h
          have HNEW := Aside0.mk hnew
          have HO3 := Aside0.mk HI3.out.own
          have HB3 := Aside0.mk HI3.out.b
          have hE3 := ev8_of H73.out
          obtain ⟨f0, f1, f2, f3, f4, f5, f6, f7⟩ := hE3
          have d1 : decide ((0 : Int) ≤ -1) = false := rfl
          have d2 : decide ((-1 : Int) < 0) = true := rfl
          have d3 : ((0 : Int) ≤ -1) = False := eq_false (by decide)
          have d4 : ((-1 : Int) < 0) = True := eq_true (by decide)
          clear hz hnew
          go_wp2_with fail
          go_quiet (fail)
          have HO4 := Aside0.mk (Kd.R_below HO3.out (below_drewN (Below.refl _ _) nq))
          have HB4 := Aside0.mk (below_drewN HB3.out nq)
          have H74 := Aside0.mk (blk_below H73.out (below_drewN (Below.refl _ _) nq))
          have HI4 := Aside0.mk (HI3.out.below (below_drewN (Below.refl _ _) nq))
          have HK4 := Aside0.mk (below_step HK3.out (below_drewN (Below.refl _ _) nq))
          go_wp2_with (first | ((with_reducible refine gate_builtin (b := .append) (xs := #[.tmp 38, .tmp 46]) rfl ?_); at_builtin; refine appN (w := w) kEl 101 rfl (.tmp 38) (.tmp 46) 98 ((.agg #[.int .i64 0, .int .i64 0, .int .i64 0, .slice none 0 0, .slice none 0 0, .slice none 0 0, .int .i64 0, .slice none 0 0])) 128 rfl Try.underlying98 info101 rfl (show 0 < 8 by decide) (by omega) (⟨newW e, fun _ => .slice none 0 0⟩ : El) [.int .i64 e.f3, .int .i64 e.f4, .int .i64 e.f5, .slice none 0 0, .slice none 0 0, .slice none 0 0, .int .i64 (-1), .slice none 0 0] rfl rfl (⟨rfl, fun _ _ => rfl⟩) HO4 HB4 (by omega) ?_; intro vA W6 HO6 HB_W6 K_W6; have H76 := Aside0.mk (blk_grown H74.out K_W6.out (Kd.R_ne HO4.out H74.out (by decide))); have HK6 : Aside0 True := ⟨trivial⟩))
          have HEA := Aside0.mk (HI4.out.append (newW e) ⟨rfl, rfl, rfl, rfl⟩ HO6.out K_W6.out HB_W6.out)
          obtain ⟨EE, hEE⟩ : ∃ E, es ++ [(⟨newW e, fun _ => .slice none 0 0⟩ : El)] = E := ⟨_, rfl⟩
          have hEl : EE.length = es.length + 1 := by rw [← hEE]; simp
          have hEm : EE.map (·.x) = es.map (·.x) ++ [newW e] := by rw [← hEE]; simp
          have hEj : ∀ h : es.length < EE.length, (EE[es.length]).x = newW e := fun h => by simp [← hEE]
          have hEt : ∀ q (h : q < EE.length), Tidy i (EE[q]).x := fun q h => by
            by_cases hq : q < es.length
            · have e1 : EE[q] = es[q] := by simp [← hEE, List.getElem_append_left hq]
              rw [e1]; exact HT.out q hq
            · obtain rfl : q = es.length := by omega
              rw [hEj h]
              intro c hc
              have e1 : lst (newW e) c = [] := by rcases (by omega : c = 0 ∨ c = 1 ∨ c = 2) with rfl | rfl | rfl <;> rfl
              rw [e1]
              exact ⟨List.Pairwise.nil, Nat.zero_le _⟩
          rw [hEE] at HEA
          obtain ⟨g, cap, hv5⟩ := HEA.out.row (by omega)
          subst hv5
          obtain ⟨j, hjj⟩ : ∃ j, es.length = j := ⟨_, rfl⟩
          have hj : j < EE.length := by omega
          have hnew : winsL (l.take (i + 1)) = (EE.map (·.x)).set j (noteP (EE[j]).x e) := by
            have h1 := hEj (by omega)
            rw [HNEW.out, hEm]
            subst hjj
            rw [h1]
          have HN := Aside0.mk hnew
          have HTD := Aside0.mk hEt
          have hEl2 : EE.length ≤ i + 1 := by omega
          rw [hjj]
          clear hEl hjj hEE hEm hEj hEt hnew HNEW HO6 HO3 HO4 HI4 HI3 HI2 H74 H73 HB3 HB4 HB_W6 K_W6 HM HT HLA HSTEP HK3 HK4 HK6 f0 f1 f2 f3 f4 f5 f6 f7 d1 d2 d3 d4
          (try simp only [Act.put, List.setIfInBounds_toArray, List.set_cons_zero, List.set_cons_succ])
          have q7 : (0 ≤ (j : Int)) = True := eq_true (by omega)
          have q8 : ((j : Int) < (EE.length : Int)) = True := eq_true (by omega)
          have q9 : (j < EE.length) = True := eq_true hj
          obtain ⟨hbg, cs, hcs⟩ := HEA.out.block
          have HCS := Aside0.mk hcs
          have hk3 : kindOf e < 3 := by unfold kindOf; repeat' split
                                        all_goals omega
          have HTJ := Aside0.mk (HTD.out j hj (kindOf e) hk3)
          clear hcs
          refine startE 5 [] eachtab12 (S := Ev8 g7 e A7 c7) (ev8_of (W := (W6).drew) H76.out) (fun HT' => ?_)
          have HEB := Aside0.mk (HEA.out.below (below_drew1 (Below.refl (W6).heap.size (W6))))
          have H77 : Aside0 ((W6).drew.heap[g7]? = some (.cells (evc e A7 c7) 95 (0, 0))) := ⟨H76.out⟩
          have HC7 : Aside0 ((W6).drew.heap[g]? = some (.cells cs 101 (0, 0))) := ⟨HCS.out⟩
          obtain ⟨W8, hW8⟩ : ∃ W, (W6).drew = W := ⟨_, rfl⟩
          rw [hW8] at HEB H77 HC7 ⊢
          clear hW8 HEA H76 HCS
          refine pureE 0 (some 48) (lb 5 0x1) HT' ?_
          refine pureE 1 (some 49) (lb 5 0x3) HT' ?_
          refine pureE 2 (some 50) (lb 5 0x7) HT' ?_
          refine takeE 3 (some 51) (lb 5 0xf) HT' (ev8_of H77.out) ?_ (hy := Or.inl ⟨by rfl, by intro w' hs; obtain ⟨s0, s1, s2, s3, s4, s5, s6, s7⟩ := hs; go_simp; with_reducible rfl⟩)
          have hbw := HEB.out.b.size
          have hgs := blk_lt HC7.out
          refine callG 4 (some 52) (lb 5 0x1f) HT' Try.func76 (F := fun b W2 => b = .bool (firstP (EE[j]).x e) ∧ ∃ v1, Kd.R (Kd.int .i64) 3 W2 w.heap.size (fun q => (if q < W8.heap.size then (if q = g then 4 * j + kindOf e + 1 else lab q) else 4 * j + kindOf e) = 4 * j + kindOf e) v1 (putL (lst (EE[j]).x (kindOf e)) e.f1) ∧ W2.heap[g]? = some (.cells (cs.setIfInBounds (j * 8 + (3 + kindOf e)) v1) 101 (0, 0)) ∧ Chg g ((EE[j]).v (kindOf e)).ownBlock W8 W2) ((add_any e A7 c7 g (j * 8) w.heap.size cs (fun q => (if q < W8.heap.size then (if q = g then 4 * j + kindOf e + 1 else lab q) else 4 * j + kindOf e) = 4 * j + kindOf e) ((EE[j]).v (kindOf e)) (EE[j]).x W8 HC7.out hbw (fun q hq => by rw [if_neg (by omega)]) (by rw [if_pos hgs, if_pos rfl]; omega) (by
              refine Kd.R_mono (Kd.R_bound (HEB.out.l j hj (kindOf e) hk3)) (fun q hq => ?_)
              have hne : q ≠ g := fun e1 => by
                obtain ⟨-, -, -, q', hq', cells, hcell⟩ := hq
                rw [e1, HC7.out] at hcell
                injection hcell with hcell
                injection hcell with _ hcell
                rw [← hcell] at hq'
                simp [Kd.int, Kd.scalar] at hq'
              rw [if_pos hq.2.2.1, if_neg hne]
              exact hq.1) (by have := HTJ.out.2; omega) HTJ.out.1 HMSG.out (by
              rw [HEB.out.at HC7.out hj (by omega)]
              generalize kindOf e = q at hk3
              rcases (by omega : q = 0 ∨ q = 1 ∨ q = 2) with rfl | rfl | rfl <;> rfl)).mono (fun e' W2 h => by
              obtain ⟨v1, rfl, h1, h2, h3, h4⟩ := h
              exact ⟨_, rfl, rfl, v1, h1, h2, h3⟩)) ?_ ?_
          · rintro b W2 ⟨-, v1, -, -, h3⟩
            exact ev8_of ((h3.block g7 (blk_lt H77.out) (fun e1 => by
              have h5 := H77.out
              rw [e1, HC7.out] at h5
              injection h5 with h5
              injection h5 with _ h5
              revert h5; decide) (Kd.R_ne (HEB.out.l j hj (kindOf e) hk3) H77.out (by decide))).trans H77.out)
          rintro b W9 ⟨rfl, v1, hR1, hg2, hchg⟩
          refine doneE HT' ?_
          clear HT'
          have H79 := Aside0.mk ((hchg.block g7 (blk_lt H77.out) (fun e1 => by
              have h5 := H77.out
              rw [e1, HC7.out] at h5
              injection h5 with h5
              injection h5 with _ h5
              revert h5; decide) (Kd.R_ne (HEB.out.l j hj (kindOf e) hk3) H77.out (by decide))).trans H77.out)
          have hE9 := HEB.out.set HC7.out hj hk3 (Kd.R_mono hR1 (fun q hq => by
            by_cases h1 : q < W8.heap.size
            · rw [if_pos h1] at hq ⊢
              by_cases h2 : q = g
              · rw [if_pos h2] at hq; omega
              · rw [if_neg h2] at hq; exact hq
            · rw [if_neg h1])) hg2 hchg
          obtain ⟨lab9, hlab⟩ : ∃ f, (fun q => if q < W8.heap.size then lab q else 4 * j + kindOf e) = f := ⟨_, rfl⟩
          rw [hlab] at hE9
          obtain ⟨X, hX⟩ : ∃ X, (EE[j]).x = X := ⟨_, rfl⟩
          obtain ⟨E2, hE2⟩ : ∃ E, EE.set j ⟨setLst (EE[j]).x (kindOf e) (putL (lst (EE[j]).x (kindOf e)) e.f1), fun c' => if c' = kindOf e then v1 else (EE[j]).v c'⟩ = E := ⟨_, rfl⟩
          rw [hE2] at hE9
          have hE2l : E2.length = EE.length := by rw [← hE2, List.length_set]
          have hE2j : ∀ h : j < E2.length, (E2[j]).x = setLst X (kindOf e) (putL (lst X (kindOf e)) e.f1) := fun h => by simp [← hE2, hX]
          have hE2n : ∀ q (h : q < E2.length), q ≠ j → (E2[q]).x = (EE[q]'(by omega)).x := fun q h hq => by
            have e1 : E2[q] = EE[q]'(by omega) := by simp [← hE2, List.getElem_set_ne (Ne.symm hq)]
            rw [e1]
          have hE2m : E2.map (·.x) = (EE.map (·.x)).set j (setLst X (kindOf e) (putL (lst X (kindOf e)) e.f1)) := by rw [← hE2, List.map_set, hX]
          have HXT : Aside0 (Tidy i X) := ⟨by rw [← hX]; exact HTD.out j hj⟩
          rw [hX] at HN
          rw [hX]
          have HE9 := Aside0.mk hE9
          have HE2J := Aside0.mk hE2j
          have HE2N := Aside0.mk hE2n
          have HE2M := Aside0.mk hE2m
          clear hE9 hlab hE2 hE2j hE2n hE2m hX hR1 hg2 hchg HTJ HC7 hgs hbw H77 HEB
          cases hfb : firstP X e
          · have hmapn : E2.map (·.x) = winsL (l.take (i + 1)) := by rw [HN.out, HE2M.out, noteP, hfb, if_neg (by decide)]
            have hnt : noteP X e = setLst X (kindOf e) (putL (lst X (kindOf e)) e.f1) := by rw [noteP, hfb, if_neg (by decide)]
            have htid : ∀ q (h : q < E2.length), Tidy (i + 1) (E2[q]).x := fun q h => by
              by_cases hq : q = j
              · subst hq
                rw [HE2J.out h, ← hnt]
                exact tidy_note HXT.out e
              · rw [HE2N.out q h hq]
                exact fun c hc => ⟨(HTD.out q (by omega) c hc).1, by have := (HTD.out q (by omega) c hc).2; omega⟩
            have HMAPN := Aside0.mk hmapn
            have HTID := Aside0.mk htid
            clear hfb hmapn hnt htid
            go_wp2_with (first | ((with_reducible refine gate_dst (N := 68) rfl ?_); refine wpList_load_row rfl 95 _ rfl g7 rfl 95 _ (0, 0) _ H79.out Try.underlying95 rfl (by kernel_rfl) ?_))
            refine (nothing_calls (j : Int) e A7 c7 W9).mono ?_
            rintro e' wA ⟨rfl, hb⟩
            have HEF := Aside0.mk (HE9.out.below hb)
            clear hb
            go_wp2_with fail
            exact ⟨⟨i + 1, E2, lab9, by omega, by rw [Int.natCast_add]; rfl, HEF.out, HMAPN.out, by omega, HTID.out⟩, by simp [intOf]; omega⟩
          · have HFB := Aside0.mk hfb
            clear hfb
            go_wp2_with fail
            (try simp only [Act.put, List.setIfInBounds_toArray, List.set_cons_zero, List.set_cons_succ])
            refine startE 15 [11, 14] eachtab13 (S := Ev8 g7 e A7 c7) (ev8_of (W := W9.drew) H79.out) (fun HT' => ?_)
            have HEB := Aside0.mk (HE9.out.below (below_drew1 (Below.refl W9.heap.size W9)))
            have H7A : Aside0 (W9.drew.heap[g7]? = some (.cells (evc e A7 c7) 95 (0, 0))) := ⟨H79.out⟩
            obtain ⟨WA, hWA⟩ : ∃ W, W9.drew = W := ⟨_, rfl⟩
            rw [hWA] at HEB H7A ⊢
            clear hWA HE9 H79
            refine pureE 0 (some 53) (lb 15 0x1) HT' ?_
            refine pureE 1 (some 54) (lb 15 0x3) HT' ?_
            refine pureE 2 (some 55) (lb 15 0x7) HT' ?_
            refine pureE 3 (some 56) (lb 15 0xf) HT' ?_
            refine pureE 4 (some 57) (lb 15 0x1f) HT' ?_
            refine takeE 5 (some 58) (lb 15 0x3f) HT' (ev8_of H7A.out) ?_ (hy := Or.inl ⟨by rfl, by intro w' hs; obtain ⟨s0, s1, s2, s3, s4, s5, s6, s7⟩ := hs; go_simp; with_reducible rfl⟩)
            refine pureE 6 (some 59) (lb 15 0x7f) HT' ?_
            refine takeE 7 (some 60) (lb 15 0xff) HT' (ev8_of H7A.out) ?_ (hy := Or.inl ⟨by rfl, by intro w' hs; obtain ⟨s0, s1, s2, s3, s4, s5, s6, s7⟩ := hs; go_simp; with_reducible rfl⟩)
            have hcw := Kd.C_below HR7.out HEB.out.b
            refine callG 8 (some 61) (lb 15 0x1ff) HT' Try.func77 (F := fun b W2 => Kd.R (Kd.int .u8) 5 W2 WA.heap.size (fun _ => True) b e.f7 ∧ Below WA.heap.size WA W2) (clone_calls A7 c7 e.f7 WA hcw (by have := l7; have := HL7.out; omega)) (fun b W2 hF => ev8_of (blk_below H7A.out hF.2)) ?_
            rintro b WB ⟨hRb, hbB⟩
            obtain ⟨AB, cB, rfl⟩ := Kd.R_slice hRb
            have hEBl := HEB.out
            rw [← hE2l] at hEBl
            have hj2 : j < E2.length := by omega
            obtain ⟨-, cs2, hcs2⟩ := (hEBl.below hbB).block
            have d0 : WB.cell? ⟨g, j * 8 + 6, none⟩ = some (.int .i64 (E2[j]).x.f6) := (cell_in hcs2 _).trans ((hEBl.below hbB).at hcs2 hj2 (t := 6) (by decide))
            have d1 := free_in hcs2 (j * 8 + 6)
            have hset := set_in hcs2 (j * 8 + 6) (.int .i64 e.f6)
            have d2 : (WB.setCell ⟨g, j * 8 + 6, none⟩ (.int .i64 e.f6)).cell? ⟨g, j * 8 + 7, none⟩ = some ((E2[j]).v 3) := (cell_in hset _).trans (by
              rw [Array.getElem?_setIfInBounds_ne (by omega)]
              exact (hEBl.below hbB).at hcs2 hj2 (t := 7) (by decide))
            have d3 := free_in hset (j * 8 + 7)
            have d4 : WB.cell? ⟨g, j * 8 + 7, none⟩ = some ((E2[j]).v 3) := (cell_in hcs2 _).trans ((hEBl.below hbB).at hcs2 hj2 (t := 7) (by decide))
            have d5 := free_in hcs2 (j * 8 + 7)
            have hfin := hEBl.words (cd := e.f6) hj2 hbB hRb
            rw [hE2l] at hfin
            have HFIN := Aside0.mk hfin
            have H7B := Aside0.mk (blk_below H7A.out hbB)
            have HHS := Aside0.mk hset
            have hne7 : g7 ≠ g := fun e1 => by
              have h5 := H7B.out
              rw [e1, hcs2] at h5
              injection h5 with h5
              injection h5 with _ h5
              revert h5; decide
            have H7C : Aside0 (((WB.setCell ⟨g, j * 8 + 6, none⟩ (.int .i64 e.f6)).setCell ⟨g, j * 8 + 7, none⟩ (.slice AB e.f7.length cB)).heap[g7]? = some (.cells (evc e A7 c7) 95 (0, 0))) := ⟨(set_ne _ _ (Ne.symm hne7)).trans ((set_ne _ _ (Ne.symm hne7)).trans H7B.out)⟩
            clear hEBl hcs2 hset hfin hRb hcw HEB H7A HHS hne7
            refine pureE 9 (some 62) (lb 15 0x3ff) HT' ?_
            refine pureE 10 (some 63) (lb 15 0x7ff) HT' ?_
            refine storeL 11 (lb 15 0xfff) HT' g (j * 8 + 6) (.int .i64 e.f6) ?_
            refine pureE 12 (some 64) (lb 15 0x1fff) HT' ?_
            refine pureE 13 (some 65) (lb 15 0x3fff) HT' ?_
            refine storeL 14 (lb 15 0x7fff) HT' g (j * 8 + 7) (.slice AB e.f7.length cB) ?_
            refine doneE HT' ?_
            clear HT' d0 d1 d2 d3 d4 d5
            obtain ⟨WD, hWD⟩ : ∃ W, (WB.setCell ⟨g, j * 8 + 6, none⟩ (.int .i64 e.f6)).setCell ⟨g, j * 8 + 7, none⟩ (.slice AB e.f7.length cB) = W := ⟨_, rfl⟩
            rw [hWD] at HFIN H7C ⊢
            obtain ⟨E3, hE3⟩ : ∃ E, E2.set j ⟨{ (E2[j]).x with f6 := e.f6, f7 := e.f7 }, fun c' => if c' = 3 then .slice AB e.f7.length cB else (E2[j]).v c'⟩ = E := ⟨_, rfl⟩
            rw [hE3] at HFIN
            obtain ⟨lab3, hlab3⟩ : ∃ f, (fun q => if q < WA.heap.size then lab9 q else 4 * j + 3) = f := ⟨_, rfl⟩
            rw [hlab3] at HFIN
            have hE3l : E3.length = EE.length := by rw [← hE3, List.length_set, hE2l]
            have hnt : noteP X e = { setLst X (kindOf e) (putL (lst X (kindOf e)) e.f1) with f6 := e.f6, f7 := e.f7 } := by rw [noteP, HFB.out, if_pos rfl]
            have hmapn : E3.map (·.x) = winsL (l.take (i + 1)) := by rw [HN.out, ← hE3, List.map_set, HE2M.out, List.set_set, HE2J.out hj2, hnt]
            have htid : ∀ q (h : q < E3.length), Tidy (i + 1) (E3[q]).x := fun q h => by
              by_cases hq : q = j
              · subst hq
                have e1 : (E3[q]).x = noteP X e := by rw [hnt, ← HE2J.out hj2]; simp [← hE3]
                rw [e1]
                exact tidy_note HXT.out e
              · have hq2 : q < E2.length := by rw [← hE3, List.length_set] at h; exact h
                have e1 : (E3[q]).x = (E2[q]).x := by simp [← hE3, List.getElem_set_ne (Ne.symm hq)]
                rw [e1, HE2N.out q hq2 hq]
                exact fun c hc => ⟨(HTD.out q (by omega) c hc).1, by have := (HTD.out q (by omega) c hc).2; omega⟩
            have HMAPN := Aside0.mk hmapn
            have HTID := Aside0.mk htid
            clear hWD hE3 hlab3 hnt hmapn htid
            go_wp2_with (first | ((with_reducible refine gate_dst (N := 68) rfl ?_); refine wpList_load_row rfl 95 _ rfl g7 rfl 95 _ (0, 0) _ H7C.out Try.underlying95 rfl (by kernel_rfl) ?_))
            refine (nothing_calls (j : Int) e A7 c7 WD).mono ?_
            rintro e' wA ⟨rfl, hb⟩
            have HEF := Aside0.mk (HFIN.out.below hb)
            clear hb
            go_wp2_with fail
            exact ⟨⟨i + 1, E3, lab3, by omega, by rw [Int.natCast_add]; rfl, HEF.out, HMAPN.out, by omega, HTID.out⟩, by simp [intOf]; omega⟩
        · have hz : (((k + 1 : Nat) : Int) - 1) = (k : Int) := by omega
          rw [hz]
          have hk : k < es.length := by omega
          obtain ⟨g, cap, hv5⟩ := HI3.out.row (by omega)
          injection hv5 with hA5 _ hcap
          subst hA5 hcap
          obtain ⟨hbg, cs, hcs⟩ := HI3.out.block
          have HCS := Aside0.mk hcs
          have hgetx : (es.map (·.x)).getD k zx = (es[k]).x := by rw [List.getD_eq_getElem?_getD, List.getElem?_map, List.getElem?_eq_getElem hk]; rfl
          have HGX := Aside0.mk hgetx
          obtain ⟨E, hE⟩ : ∃ E, es[k] = E := ⟨_, rfl⟩
          have hcell : ∀ t, t < 8 → cs[k * 8 + t]? = E.cells[t]? := fun t ht => by rw [← hE]; exact HI3.out.at hcs hk ht
          have HCELL := Aside0.mk hcell
          have HEK := Aside0.mk hE
          have HSE : Aside0 (∀ W', Below w3.heap.size w3 W' → Ev8 g7 e A7 c7 W' ∧ Wn8 g (k * 8) E.x (E.v 0) (E.v 1) (E.v 2) (E.v 3) W') := ⟨fun W' hb => by
            have hg' := blk_below HCS.out hb
            exact ⟨ev8_of (blk_below H73.out hb), (cell_in hg' _).trans (HCELL.out 0 (by decide)), (cell_in hg' _).trans (HCELL.out 1 (by decide)), (cell_in hg' _).trans (HCELL.out 2 (by decide)), (cell_in hg' _).trans (HCELL.out 3 (by decide)), (cell_in hg' _).trans (HCELL.out 4 (by decide)), (cell_in hg' _).trans (HCELL.out 5 (by decide)), (cell_in hg' _).trans (HCELL.out 6 (by decide)), (cell_in hg' _).trans (HCELL.out 7 (by decide))⟩⟩
          have m1' : decide (0 ≤ (k : Int)) = true := decide_eq_true (by omega)
          have m3' : decide ((k : Int) < 0) = false := decide_eq_false (by omega)
          have q4 : (0 ≤ (k : Int)) = True := eq_true (by omega)
          have q5 : ((k : Int) < (es.length : Int)) = True := eq_true (by omega)
          have q6 : (k < es.length) = True := eq_true hk
          have KW : Aside0 (Below w3.heap.size w3 w3) := ⟨Below.refl _ _⟩
          clear hz hcs hgetx hE hcell
          go_wp2_with fail
          (try simp only [Act.put, List.setIfInBounds_toArray, List.set_cons_zero, List.set_cons_succ])
          refine startD 11 eachtab7 HSE KW (fun W4 HT' B4 K4 => ?_)
          refine pureD 0 (some 21) (lb 11 0x1) HT' ?_
          refine pureD 1 (some 22) (lb 11 0x3) HT' ?_
          refine pureD 2 (some 23) (lb 11 0x7) HT' ?_
          refine pureD 3 (some 24) (lb 11 0xf) HT' ?_
          refine pureD 4 (some 25) (lb 11 0x1f) HT' ?_
          refine pureD 5 (some 26) (lb 11 0x3f) HT' ?_
          refine takeD 6 (some 27) (lb 11 0x7f) HT' HSE B4 ?_ (hy := Or.inl ⟨by rfl, by intro w' hs; obtain ⟨⟨s0, s1, s2, s3, s4, s5, s6, s7⟩, t0, t1, t2, t3, t4, t5, t6, t7⟩ := hs; go_simp; with_reducible rfl⟩)
          refine takeD 7 (some 28) (lb 11 0xff) HT' HSE B4 ?_ (hy := Or.inl ⟨by rfl, by intro w' hs; obtain ⟨⟨s0, s1, s2, s3, s4, s5, s6, s7⟩, t0, t1, t2, t3, t4, t5, t6, t7⟩ := hs; go_simp; with_reducible rfl⟩)
          refine oneD 8 (some 29) (lb 11 0x1ff) HT' (fun K hK => ?_)
          refine callK hK HSE B4 Try.func75 (of_calls E.x (E.v 0) (E.v 1) (E.v 2) (E.v 3) e A7 c7 W4) (fun W5 B5 K5 => ?_)
          obtain ⟨ob, hob⟩ : ∃ b, ofP E.x e = b := ⟨_, rfl⟩
          rw [hob]
          have HOB := Aside0.mk hob
          clear hob
          cases ob
          · refine pureD 9 (some 30) (lb 11 0x3ff) HT' ?_
            refine pureD 10 (some 31) (lb 11 0x7ff) HT' ?_
            refine doneD HT' ?_
            clear HT'
            have hl2 : lastOf (es.map (·.x)) e es.length = lastOf (es.map (·.x)) e k := by
              rw [HLA.out, lastOf, HGX.out, HEK.out, HOB.out, if_neg (by decide)]
            have HL2 := Aside0.mk hl2
            clear hl2
            go_wp2_with fail
            exact ⟨⟨k, by omega, rfl, HL2.out, below_step HB23.out B5.out⟩, by simp [intOf]⟩
          · refine pureD 9 (some 30) (lb 11 0x3ff) HT' ?_
            refine pureD 10 (some 31) (lb 11 0x7ff) HT' ?_
            refine doneD HT' ?_
            clear HT'
            have HEA := Aside0.mk (HI3.out.below B5.out)
            have H76 := Aside0.mk (blk_below H73.out B5.out)
            have hl2 : lastOf (es.map (·.x)) e es.length = k + 1 := by
              rw [HLA.out, lastOf, HGX.out, HEK.out, HOB.out, if_pos rfl]
            have hnew : winsL (l.take (i + 1)) = (es.map (·.x)).set k (noteP (es[k]).x e) := by
              have h := HSTEP.out
              rw [List.length_map, hl2, if_neg (by omega), Nat.add_sub_cancel, HGX.out] at h
              exact h
            have HN := Aside0.mk hnew
            have HTD := HT
            have hEl2 : es.length ≤ i + 1 := by omega
            obtain ⟨EE, hEE⟩ : ∃ E, es = E := ⟨_, rfl⟩
            obtain ⟨j, hjj⟩ : ∃ j, k = j := ⟨_, rfl⟩
            subst hEE hjj
            have hj := hk
            obtain ⟨W6, hW6⟩ : ∃ W, W5 = W := ⟨_, rfl⟩
            subst hW6
            clear hl2 hnew HLA HGX HEK HOB HCS HCELL HSE HSTEP HM HI2 HI3 H73 HK3 HB23 KW B4 K4 B5 K5 m1' m3' q4 q5 q6
            go_wp2_with fail
            (try simp only [Act.put, List.setIfInBounds_toArray, List.set_cons_zero, List.set_cons_succ])
            have q7 : (0 ≤ (k : Int)) = True := eq_true (by omega)
            have q8 : ((k : Int) < (es.length : Int)) = True := eq_true (by omega)
            have q9 : (k < es.length) = True := eq_true hj
            obtain ⟨hbg, cs, hcs⟩ := HEA.out.block
            have HCS := Aside0.mk hcs
            have hk3 : kindOf e < 3 := by unfold kindOf; repeat' split
                                          all_goals omega
            have HTJ := Aside0.mk (HTD.out k hj (kindOf e) hk3)
            clear hcs
            refine startE 5 [] eachtab12 (S := Ev8 g7 e A7 c7) (ev8_of (W := (W5).drew) H76.out) (fun HT' => ?_)
            have HEB := Aside0.mk (HEA.out.below (below_drew1 (Below.refl (W5).heap.size (W5))))
            have H77 : Aside0 ((W5).drew.heap[g7]? = some (.cells (evc e A7 c7) 95 (0, 0))) := ⟨H76.out⟩
            have HC7 : Aside0 ((W5).drew.heap[g]? = some (.cells cs 101 (0, 0))) := ⟨HCS.out⟩
            obtain ⟨W8, hW8⟩ : ∃ W, (W5).drew = W := ⟨_, rfl⟩
            rw [hW8] at HEB H77 HC7 ⊢
            clear hW8 HEA H76 HCS
            refine pureE 0 (some 48) (lb 5 0x1) HT' ?_
            refine pureE 1 (some 49) (lb 5 0x3) HT' ?_
            refine pureE 2 (some 50) (lb 5 0x7) HT' ?_
            refine takeE 3 (some 51) (lb 5 0xf) HT' (ev8_of H77.out) ?_ (hy := Or.inl ⟨by rfl, by intro w' hs; obtain ⟨s0, s1, s2, s3, s4, s5, s6, s7⟩ := hs; go_simp; with_reducible rfl⟩)
            have hbw := HEB.out.b.size
            have hgs := blk_lt HC7.out
            refine callG 4 (some 52) (lb 5 0x1f) HT' Try.func76 (F := fun b W2 => b = .bool (firstP (es[k]).x e) ∧ ∃ v1, Kd.R (Kd.int .i64) 3 W2 w.heap.size (fun q => (if q < W8.heap.size then (if q = g then 4 * k + kindOf e + 1 else lab q) else 4 * k + kindOf e) = 4 * k + kindOf e) v1 (putL (lst (es[k]).x (kindOf e)) e.f1) ∧ W2.heap[g]? = some (.cells (cs.setIfInBounds (k * 8 + (3 + kindOf e)) v1) 101 (0, 0)) ∧ Chg g ((es[k]).v (kindOf e)).ownBlock W8 W2) ((add_any e A7 c7 g (k * 8) w.heap.size cs (fun q => (if q < W8.heap.size then (if q = g then 4 * k + kindOf e + 1 else lab q) else 4 * k + kindOf e) = 4 * k + kindOf e) ((es[k]).v (kindOf e)) (es[k]).x W8 HC7.out hbw (fun q hq => by rw [if_neg (by omega)]) (by rw [if_pos hgs, if_pos rfl]; omega) (by
                refine Kd.R_mono (Kd.R_bound (HEB.out.l k hj (kindOf e) hk3)) (fun q hq => ?_)
                have hne : q ≠ g := fun e1 => by
                  obtain ⟨-, -, -, q', hq', cells, hcell⟩ := hq
                  rw [e1, HC7.out] at hcell
                  injection hcell with hcell
                  injection hcell with _ hcell
                  rw [← hcell] at hq'
                  simp [Kd.int, Kd.scalar] at hq'
                rw [if_pos hq.2.2.1, if_neg hne]
                exact hq.1) (by have := HTJ.out.2; omega) HTJ.out.1 HMSG.out (by
                rw [HEB.out.at HC7.out hj (by omega)]
                generalize kindOf e = q at hk3
                rcases (by omega : q = 0 ∨ q = 1 ∨ q = 2) with rfl | rfl | rfl <;> rfl)).mono (fun e' W2 h => by
                obtain ⟨v1, rfl, h1, h2, h3, h4⟩ := h
                exact ⟨_, rfl, rfl, v1, h1, h2, h3⟩)) ?_ ?_
            · rintro b W2 ⟨-, v1, -, -, h3⟩
              exact ev8_of ((h3.block g7 (blk_lt H77.out) (fun e1 => by
                have h5 := H77.out
                rw [e1, HC7.out] at h5
                injection h5 with h5
                injection h5 with _ h5
                revert h5; decide) (Kd.R_ne (HEB.out.l k hj (kindOf e) hk3) H77.out (by decide))).trans H77.out)
            rintro b W9 ⟨rfl, v1, hR1, hg2, hchg⟩
            refine doneE HT' ?_
            clear HT'
            have H79 := Aside0.mk ((hchg.block g7 (blk_lt H77.out) (fun e1 => by
                have h5 := H77.out
                rw [e1, HC7.out] at h5
                injection h5 with h5
                injection h5 with _ h5
                revert h5; decide) (Kd.R_ne (HEB.out.l k hj (kindOf e) hk3) H77.out (by decide))).trans H77.out)
            have hE9 := HEB.out.set HC7.out hj hk3 (Kd.R_mono hR1 (fun q hq => by
              by_cases h1 : q < W8.heap.size
              · rw [if_pos h1] at hq ⊢
                by_cases h2 : q = g
                · rw [if_pos h2] at hq; omega
                · rw [if_neg h2] at hq; exact hq
              · rw [if_neg h1])) hg2 hchg
            obtain ⟨lab9, hlab⟩ : ∃ f, (fun q => if q < W8.heap.size then lab q else 4 * k + kindOf e) = f := ⟨_, rfl⟩
            rw [hlab] at hE9
            obtain ⟨X, hX⟩ : ∃ X, (es[k]).x = X := ⟨_, rfl⟩
            obtain ⟨E2, hE2⟩ : ∃ E, es.set k ⟨setLst (es[k]).x (kindOf e) (putL (lst (es[k]).x (kindOf e)) e.f1), fun c' => if c' = kindOf e then v1 else (es[k]).v c'⟩ = E := ⟨_, rfl⟩
            rw [hE2] at hE9
            have hE2l : E2.length = es.length := by rw [← hE2, List.length_set]
            have hE2j : ∀ h : k < E2.length, (E2[k]).x = setLst X (kindOf e) (putL (lst X (kindOf e)) e.f1) := fun h => by simp [← hE2, hX]
            have hE2n : ∀ q (h : q < E2.length), q ≠ k → (E2[q]).x = (es[q]'(by omega)).x := fun q h hq => by
              have e1 : E2[q] = es[q]'(by omega) := by simp [← hE2, List.getElem_set_ne (Ne.symm hq)]
              rw [e1]
            have hE2m : E2.map (·.x) = (es.map (·.x)).set k (setLst X (kindOf e) (putL (lst X (kindOf e)) e.f1)) := by rw [← hE2, List.map_set, hX]
            have HXT : Aside0 (Tidy i X) := ⟨by rw [← hX]; exact HTD.out k hj⟩
            rw [hX] at HN
            rw [hX]
            have HE9 := Aside0.mk hE9
            have HE2J := Aside0.mk hE2j
            have HE2N := Aside0.mk hE2n
            have HE2M := Aside0.mk hE2m
            clear hE9 hlab hE2 hE2j hE2n hE2m hX hR1 hg2 hchg HTJ HC7 hgs hbw H77 HEB
            cases hfb : firstP X e
            · have hmapn : E2.map (·.x) = winsL (l.take (i + 1)) := by rw [HN.out, HE2M.out, noteP, hfb, if_neg (by decide)]
              have hnt : noteP X e = setLst X (kindOf e) (putL (lst X (kindOf e)) e.f1) := by rw [noteP, hfb, if_neg (by decide)]
              have htid : ∀ q (h : q < E2.length), Tidy (i + 1) (E2[q]).x := fun q h => by
                by_cases hq : q = k
                · subst hq
                  rw [HE2J.out h, ← hnt]
                  exact tidy_note HXT.out e
                · rw [HE2N.out q h hq]
                  exact fun c hc => ⟨(HTD.out q (by omega) c hc).1, by have := (HTD.out q (by omega) c hc).2; omega⟩
              have HMAPN := Aside0.mk hmapn
              have HTID := Aside0.mk htid
              clear hfb hmapn hnt htid
              go_wp2_with (first | ((with_reducible refine gate_dst (N := 68) rfl ?_); refine wpList_load_row rfl 95 _ rfl g7 rfl 95 _ (0, 0) _ H79.out Try.underlying95 rfl (by kernel_rfl) ?_))
              refine (nothing_calls (k : Int) e A7 c7 W9).mono ?_
              rintro e' wA ⟨rfl, hb⟩
              have HEF := Aside0.mk (HE9.out.below hb)
              clear hb
              go_wp2_with fail
              exact ⟨⟨i + 1, E2, lab9, by omega, by rw [Int.natCast_add]; rfl, HEF.out, HMAPN.out, by omega, HTID.out⟩, by simp [intOf]; omega⟩
            · have HFB := Aside0.mk hfb
              clear hfb
              go_wp2_with fail
              (try simp only [Act.put, List.setIfInBounds_toArray, List.set_cons_zero, List.set_cons_succ])
              refine startE 15 [11, 14] eachtab13 (S := Ev8 g7 e A7 c7) (ev8_of (W := W9.drew) H79.out) (fun HT' => ?_)
              have HEB := Aside0.mk (HE9.out.below (below_drew1 (Below.refl W9.heap.size W9)))
              have H7A : Aside0 (W9.drew.heap[g7]? = some (.cells (evc e A7 c7) 95 (0, 0))) := ⟨H79.out⟩
              obtain ⟨WA, hWA⟩ : ∃ W, W9.drew = W := ⟨_, rfl⟩
              rw [hWA] at HEB H7A ⊢
              clear hWA HE9 H79
              refine pureE 0 (some 53) (lb 15 0x1) HT' ?_
              refine pureE 1 (some 54) (lb 15 0x3) HT' ?_
              refine pureE 2 (some 55) (lb 15 0x7) HT' ?_
              refine pureE 3 (some 56) (lb 15 0xf) HT' ?_
              refine pureE 4 (some 57) (lb 15 0x1f) HT' ?_
              refine takeE 5 (some 58) (lb 15 0x3f) HT' (ev8_of H7A.out) ?_ (hy := Or.inl ⟨by rfl, by intro w' hs; obtain ⟨s0, s1, s2, s3, s4, s5, s6, s7⟩ := hs; go_simp; with_reducible rfl⟩)
              refine pureE 6 (some 59) (lb 15 0x7f) HT' ?_
              refine takeE 7 (some 60) (lb 15 0xff) HT' (ev8_of H7A.out) ?_ (hy := Or.inl ⟨by rfl, by intro w' hs; obtain ⟨s0, s1, s2, s3, s4, s5, s6, s7⟩ := hs; go_simp; with_reducible rfl⟩)
              have hcw := Kd.C_below HR7.out HEB.out.b
              refine callG 8 (some 61) (lb 15 0x1ff) HT' Try.func77 (F := fun b W2 => Kd.R (Kd.int .u8) 5 W2 WA.heap.size (fun _ => True) b e.f7 ∧ Below WA.heap.size WA W2) (clone_calls A7 c7 e.f7 WA hcw (by have := l7; have := HL7.out; omega)) (fun b W2 hF => ev8_of (blk_below H7A.out hF.2)) ?_
              rintro b WB ⟨hRb, hbB⟩
              obtain ⟨AB, cB, rfl⟩ := Kd.R_slice hRb
              have hEBl := HEB.out
              rw [← hE2l] at hEBl
              have hj2 : k < E2.length := by omega
              obtain ⟨-, cs2, hcs2⟩ := (hEBl.below hbB).block
              have d0 : WB.cell? ⟨g, k * 8 + 6, none⟩ = some (.int .i64 (E2[k]).x.f6) := (cell_in hcs2 _).trans ((hEBl.below hbB).at hcs2 hj2 (t := 6) (by decide))
              have d1 := free_in hcs2 (k * 8 + 6)
              have hset := set_in hcs2 (k * 8 + 6) (.int .i64 e.f6)
              have d2 : (WB.setCell ⟨g, k * 8 + 6, none⟩ (.int .i64 e.f6)).cell? ⟨g, k * 8 + 7, none⟩ = some ((E2[k]).v 3) := (cell_in hset _).trans (by
                rw [Array.getElem?_setIfInBounds_ne (by omega)]
                exact (hEBl.below hbB).at hcs2 hj2 (t := 7) (by decide))
              have d3 := free_in hset (k * 8 + 7)
              have d4 : WB.cell? ⟨g, k * 8 + 7, none⟩ = some ((E2[k]).v 3) := (cell_in hcs2 _).trans ((hEBl.below hbB).at hcs2 hj2 (t := 7) (by decide))
              have d5 := free_in hcs2 (k * 8 + 7)
              have hfin := hEBl.words (cd := e.f6) hj2 hbB hRb
              rw [hE2l] at hfin
              have HFIN := Aside0.mk hfin
              have H7B := Aside0.mk (blk_below H7A.out hbB)
              have HHS := Aside0.mk hset
              have hne7 : g7 ≠ g := fun e1 => by
                have h5 := H7B.out
                rw [e1, hcs2] at h5
                injection h5 with h5
                injection h5 with _ h5
                revert h5; decide
              have H7C : Aside0 (((WB.setCell ⟨g, k * 8 + 6, none⟩ (.int .i64 e.f6)).setCell ⟨g, k * 8 + 7, none⟩ (.slice AB e.f7.length cB)).heap[g7]? = some (.cells (evc e A7 c7) 95 (0, 0))) := ⟨(set_ne _ _ (Ne.symm hne7)).trans ((set_ne _ _ (Ne.symm hne7)).trans H7B.out)⟩
              clear hEBl hcs2 hset hfin hRb hcw HEB H7A HHS hne7
              refine pureE 9 (some 62) (lb 15 0x3ff) HT' ?_
              refine pureE 10 (some 63) (lb 15 0x7ff) HT' ?_
              refine storeL 11 (lb 15 0xfff) HT' g (k * 8 + 6) (.int .i64 e.f6) ?_
              refine pureE 12 (some 64) (lb 15 0x1fff) HT' ?_
              refine pureE 13 (some 65) (lb 15 0x3fff) HT' ?_
              refine storeL 14 (lb 15 0x7fff) HT' g (k * 8 + 7) (.slice AB e.f7.length cB) ?_
              refine doneE HT' ?_
              clear HT' d0 d1 d2 d3 d4 d5
              obtain ⟨WD, hWD⟩ : ∃ W, (WB.setCell ⟨g, k * 8 + 6, none⟩ (.int .i64 e.f6)).setCell ⟨g, k * 8 + 7, none⟩ (.slice AB e.f7.length cB) = W := ⟨_, rfl⟩
              rw [hWD] at HFIN H7C ⊢
              obtain ⟨E3, hE3⟩ : ∃ E, E2.set k ⟨{ (E2[k]).x with f6 := e.f6, f7 := e.f7 }, fun c' => if c' = 3 then .slice AB e.f7.length cB else (E2[k]).v c'⟩ = E := ⟨_, rfl⟩
              rw [hE3] at HFIN
              obtain ⟨lab3, hlab3⟩ : ∃ f, (fun q => if q < WA.heap.size then lab9 q else 4 * k + 3) = f := ⟨_, rfl⟩
              rw [hlab3] at HFIN
              have hE3l : E3.length = es.length := by rw [← hE3, List.length_set, hE2l]
              have hnt : noteP X e = { setLst X (kindOf e) (putL (lst X (kindOf e)) e.f1) with f6 := e.f6, f7 := e.f7 } := by rw [noteP, HFB.out, if_pos rfl]
              have hmapn : E3.map (·.x) = winsL (l.take (i + 1)) := by rw [HN.out, ← hE3, List.map_set, HE2M.out, List.set_set, HE2J.out hj2, hnt]
              have htid : ∀ q (h : q < E3.length), Tidy (i + 1) (E3[q]).x := fun q h => by
                by_cases hq : q = k
                · subst hq
                  have e1 : (E3[q]).x = noteP X e := by rw [hnt, ← HE2J.out hj2]; simp [← hE3]
                  rw [e1]
                  exact tidy_note HXT.out e
                · have hq2 : q < E2.length := by rw [← hE3, List.length_set] at h; exact h
                  have e1 : (E3[q]).x = (E2[q]).x := by simp [← hE3, List.getElem_set_ne (Ne.symm hq)]
                  rw [e1, HE2N.out q hq2 hq]
                  exact fun c hc => ⟨(HTD.out q (by omega) c hc).1, by have := (HTD.out q (by omega) c hc).2; omega⟩
              have HMAPN := Aside0.mk hmapn
              have HTID := Aside0.mk htid
              clear hWD hE3 hlab3 hnt hmapn htid
              go_wp2_with (first | ((with_reducible refine gate_dst (N := 68) rfl ?_); refine wpList_load_row rfl 95 _ rfl g7 rfl 95 _ (0, 0) _ H7C.out Try.underlying95 rfl (by kernel_rfl) ?_))
              refine (nothing_calls (k : Int) e A7 c7 WD).mono ?_
              rintro e' wA ⟨rfl, hb⟩
              have HEF := Aside0.mk (HFIN.out.below hb)
              clear hb
              go_wp2_with fail
              exact ⟨⟨i + 1, E3, lab3, by omega, by rw [Int.natCast_add]; rfl, HEF.out, HMAPN.out, by omega, HTID.out⟩, by simp [intOf]; omega⟩
    · have m1 : decide ((i : Int) < (l.length : Int)) = false := decide_eq_false (by omega)
      have m2 : decide (i < l.length) = false := decide_eq_false hlt
      have hall : winsL l = es.map (·.x) := by rw [HM.out, List.take_of_length_le (by omega)]
      have HA := Aside0.mk hall
      clear hall hlt
      go_wp2_with fail
      go_ret
      exact ⟨_, es, lab, rfl, HI.out, HA.out.symm⟩
end Go.Proofs.Ytekbaconbemgpaa.PWe
