/- How the windows that are noted lie: each list in a block of its own (by labels); what a step changes. Helper text. -/
import Derived.Test.YtekbaconbemgpaaAuAdd
namespace Go.Proofs.Ytekbaconbemgpaa.PWe
open Go.RowKit Go.Proofs.Ytekbaconbemgpaa.Kx Go.Proofs.YtekbaconbemgpaaW.PrintWords Go.Proofs.YtekbaconbemgpaaW.PrintLast Go.Proofs.YtekbaconbemgpaaW.PrintMore
set_option linter.unusedVariables false
set_option linter.unusedSimpArgs false

/-- A window, and where its lists lie (0: who sent, 1: who took, 2: who missed, 3: the words). -/
structure El where
  x : S101
  v : Nat → Value
def El.cells (e : El) : List Value := [.int .i64 e.x.f0, .int .i64 e.x.f1, .int .i64 e.x.f2, e.v 0, e.v 1, e.v 2, .int .i64 e.x.f6, e.v 3]
def El.one (e : El) : Prop := ∀ c, c < 4 → (e.v c).oneCell' = true
def kEl : Kd El where
  sz := 8
  E := []
  K := fun _ e cs => cs = e.cells ∧ e.one
  M := fun _ _ _ e cs => cs = e.cells ∧ e.one
  K_len := fun h => by rw [h.1]; rfl
  K_one := fun {w e cs} h u hu => by
    rw [h.1] at hu
    simp only [El.cells, List.mem_cons, List.not_mem_nil, or_false] at hu
    rcases hu with rfl | rfl | rfl | rfl | rfl | rfl | rfl | rfl
    · rfl
    · rfl
    · rfl
    · exact h.2 0 (by decide)
    · exact h.2 1 (by decide)
    · exact h.2 2 (by decide)
    · rfl
    · exact h.2 3 (by decide)
  K_below := fun _ h => h
  K_of_M := fun h => h
  M_mono := fun _ h => h
  M_bound := fun h => h
  M_move := fun _ h => h
  M_lower := fun _ h => h
theorem slice_one (A : Option Addr) (n c : Nat) : (Value.slice A n c).oneCell' = true := rfl
theorem R_one {α : Type} {d : Kd α} {e : Nat} {w : World} {N : Nat} {ok : Nat → Prop} {v : Value} {xs : List α} (h : Kd.R d e w N ok v xs) : v.oneCell' = true := by
  obtain ⟨A, c, rfl⟩ := Kd.R_slice h
  rfl
/-- One cell of one element is written. -/
theorem kEl_set {W W2 : World} {N g cap n f j : Nat} {ok : Nat → Prop} {cs : Array Value} {es : List El} {u : Value} (h : Kd.R kEl 101 W N ok (.slice (some ⟨g, 0, none⟩) n cap) es) (hg : W.heap[g]? = some (.cells cs 101 (0, 0)))
    (hg2 : W2.heap[g]? = some (.cells (cs.setIfInBounds (j * 8 + f) u) 101 (0, 0))) (hf : f < 8) (hj : j < es.length) (e' : El) (hc : e'.cells = (es[j]).cells.set f u) (ho : e'.one) : Kd.R kEl 101 W2 N ok (.slice (some ⟨g, 0, none⟩) n cap) (es.set j e') := by
  obtain ⟨h0, inner, ⟨hlen, hor⟩, hrl, hrep⟩ := h
  rcases hor with ⟨hv, _⟩ | ⟨g', cap', cur, hv, hb, hcur, hnc, hcm, hsz, htk⟩
  · cases hv
  injection hv with hv1 hv2 hv3
  injection hv1 with hv1
  injection hv1 with hv1
  subst hv1 hv2 hv3
  have hcc : cur = cs := by
    rw [hg] at hcur
    injection hcur with hcur
    injection hcur with hcur
    exact hcur.symm
  subst hcc
  refine ⟨h0, inner.set (j * 8 + f) u, ⟨by rw [List.length_set, List.length_set]; exact hlen, .inr ⟨g, cap, _, by rw [List.length_set], hb, hg2, by rw [List.length_set]; exact hnc, hcm, by rw [Array.size_setIfInBounds]; exact hsz, ?_⟩⟩, by rw [List.length_set, List.length_set]; exact hrl, fun j' p' hp => ?_⟩
  · rw [Array.toList_setIfInBounds, List.take_set, List.length_set, htk]
  · have hsz8 : kEl.sz = 8 := rfl
    rw [hsz8] at hrep ⊢
    rw [List.getElem?_set] at hp
    by_cases hjj : j = j'
    · subst hjj
      rw [if_pos rfl, if_pos hj] at hp
      obtain rfl := Option.some.inj hp
      have h1 := hrep j es[j] (List.getElem?_eq_getElem hj)
      refine ⟨?_, ho⟩
      rw [List.drop_set, if_neg (by omega), show j * 8 + f - j * 8 = f by omega, List.take_set, h1.1, hc]
    · rw [if_neg hjj] at hp
      have h1 := hrep j' p' hp
      refine ⟨?_, h1.2⟩
      rw [List.drop_set]
      by_cases hlt : j * 8 + f < j' * 8
      · rw [if_pos hlt]; exact h1.1
      · rw [if_neg hlt, List.take_set, List.set_eq_of_length_le (by rw [List.length_take]; omega)]
        exact h1.1
def lst (x : S101) (c : Nat) : List Int := if c = 0 then x.f3 else if c = 1 then x.f4 else x.f5
def setLst (x : S101) (c : Nat) (l : List Int) : S101 := if c = 0 then { x with f3 := l } else if c = 1 then { x with f4 := l } else { x with f5 := l }
/-- How the windows lie. -/
structure EInv (w wr : World) (lab : Nat → Nat) (v5 : Value) (es : List El) : Prop where
  own : Kd.R kEl 101 wr w.heap.size (fun _ => True) v5 es
  l : ∀ j (h : j < es.length) c, c < 3 → Kd.R (Kd.int .i64) 3 wr w.heap.size (fun k => lab k = 4 * j + c) ((es[j]).v c) (lst (es[j]).x c)
  wd : ∀ j (h : j < es.length), Kd.R (Kd.int .u8) 5 wr w.heap.size (fun k => lab k = 4 * j + 3) ((es[j]).v 3) (es[j]).x.f7
  b : Below w.heap.size w wr
section
variable {w wr W2 : World} {lab : Nat → Nat} {v5 : Value} {es : List El}
theorem EInv.below (h : EInv w wr lab v5 es) (hb : Below wr.heap.size wr W2) : EInv w W2 lab v5 es :=
  ⟨Kd.R_below h.own hb, fun j hj c hc => Kd.R_below (h.l j hj c hc) hb, fun j hj => Kd.R_below (h.wd j hj) hb, below_step h.b hb⟩
theorem EInv.nil (w : World) (lab : Nat → Nat) : EInv w w lab (.slice none 0 0) [] := ⟨Kd.R_nil _ _ _ _ _, fun j h => absurd h (Nat.not_lt_zero _), fun j h => absurd h (Nat.not_lt_zero _), Below.refl _ _⟩
/-- A row of another type is not the windows' own. -/
theorem R_far {α : Type} {d : Kd α} {e N g : Nat} {W W2 : World} {ok : Nat → Prop} {v : Value} {xs : List α} {cs : Array Value} {t : TypeId} (h : Kd.R d e W N ok v xs) (hd : d.E = []) (hg : W.heap[g]? = some (.cells cs t (0, 0))) (hne : t ≠ e) (row : Option Nat) (hrow : ∀ k, ok k → row ≠ some k) (hs : ∀ k, k < W.heap.size → k ≠ g → some k ≠ row → W2.heap[k]? = W.heap[k]?) : Kd.R d e W2 N ok v xs := by
  refine Kd.R_mono (Kd.R_step (Kd.R_bound h) (w1 := W2) (fun k hk hlt => ?_)) (fun k hk => hk.1)
  obtain ⟨hok, _, _, q, hq, cells, hcell⟩ := hk
  refine hs k hlt (fun e => ?_) (fun e => hrow k hok e.symm)
  subst e
  rw [hd] at hq
  obtain rfl : q = _ := by simpa using hq
  rw [hg] at hcell
  injection hcell with hcell
  injection hcell with _ hcell
  exact hne hcell
/-- One window more. -/
theorem EInv.append (h : EInv w wr lab v5 es) {v1 : Value} (x : S101) (hx : x.f3 = [] ∧ x.f4 = [] ∧ x.f5 = [] ∧ x.f7 = []) (HO : Kd.R kEl 101 W2 w.heap.size (fun _ => True) v1 (es ++ [⟨x, fun _ => .slice none 0 0⟩])) (hg : wr.grownBy W2 v5.ownBlock) (hb : Below w.heap.size w W2) : EInv w W2 lab v1 (es ++ [⟨x, fun _ => .slice none 0 0⟩]) := by
  have keep : ∀ {k : IntKind} {t : TypeId} {ok : Nat → Prop} {v : Value} {xs : List Int}, t ≠ 101 → Kd.R (Kd.int k) t wr w.heap.size ok v xs → Kd.R (Kd.int k) t W2 w.heap.size ok v xs := by
    intro k t ok v xs ht hR
    rcases h.own with ⟨_, inner, ⟨_, ⟨rfl, _⟩ | ⟨g, cap, cur, rfl, _, hcur, _⟩⟩, _⟩
    · exact Kd.R_grown hR hg (fun k _ e => nomatch e)
    · exact R_far hR rfl hcur (fun e => ht e.symm) none (fun _ _ e => nomatch e) (fun k hk hkg _ => hg.block k hk (fun e => hkg (Option.some.inj e)))
  have hnew : ∀ j (hj : j < (es ++ [(⟨x, fun _ => .slice none 0 0⟩ : El)]).length), ¬ j < es.length → (es ++ [(⟨x, fun _ => .slice none 0 0⟩ : El)])[j]'hj = ⟨x, fun _ => .slice none 0 0⟩ := fun j hj hn => by
    have : j = es.length := by simp at hj; omega
    subst this
    simp
  refine ⟨HO, fun j hj c hc => ?_, fun j hj => ?_, hb⟩
  · by_cases hlt : j < es.length
    · rw [List.getElem_append_left hlt]
      exact keep (by decide) (h.l j hlt c hc)
    · rw [hnew j hj hlt]
      have e : lst x c = [] := by unfold lst; rw [hx.1, hx.2.1, hx.2.2.1]; repeat' split
                                  all_goals rfl
      show Kd.R (Kd.int .i64) 3 W2 w.heap.size _ (.slice none 0 0) (lst x c)
      rw [e]
      exact Kd.R_nil _ _ _ _ _
  · by_cases hlt : j < es.length
    · rw [List.getElem_append_left hlt]
      exact keep (by decide) (h.wd j hlt)
    · rw [hnew j hj hlt]
      show Kd.R (Kd.int .u8) 5 W2 w.heap.size _ (.slice none 0 0) x.f7
      rw [hx.2.2.2]
      exact Kd.R_nil _ _ _ _ _
theorem EInv.block {g cap : Nat} (h : EInv w wr lab (.slice (some ⟨g, 0, none⟩) es.length cap) es) : w.heap.size ≤ g ∧ ∃ cs, wr.heap[g]? = some (.cells cs 101 (0, 0)) := by
  obtain ⟨_, inner, ⟨_, ⟨hv, _⟩ | ⟨g', cap', cur, hv, hb, hcur, _⟩⟩, _⟩ := h.own
  · cases hv
  · injection hv with hv
    injection hv with hv
    injection hv with hv
    subst hv
    exact ⟨hb, cur, hcur⟩
theorem chg_below {g : Nat} {row : Option Nat} (hc : Chg g row wr W2) (hb : Below w.heap.size w wr) (hg : w.heap.size ≤ g) (hr : ∀ k, row = some k → w.heap.size ≤ k) : Below w.heap.size w W2 := by
  have s := hb.size
  have s2 := hc.size
  exact ⟨hc.os.trans hb.os, hc.tape.trans hb.tape, hc.output.trans hb.output, by omega, fun k hk => (hc.block k (by omega) (by omega) (fun e => by have := hr k e.symm; omega)).trans (hb.block k hk)⟩
theorem R_base {α : Type} {d : Kd α} {e N : Nat} {W : World} {ok : Nat → Prop} {v : Value} {xs : List α} (h : Kd.R d e W N ok v xs) : ∀ k, v.ownBlock = some k → N ≤ k := fun k hk => ((Kd.R_bound h).1 k hk).2.1
/-- One list of one window is another one, in its old block or in a new one. -/
theorem EInv.set {g cap j c : Nat} {cs : Array Value} {v1 : Value} {l1 : List Int} (h : EInv w wr lab (.slice (some ⟨g, 0, none⟩) es.length cap) es) (hg : wr.heap[g]? = some (.cells cs 101 (0, 0))) (hj : j < es.length) (hc : c < 3)
    (hR : Kd.R (Kd.int .i64) 3 W2 w.heap.size (fun k => (if k < wr.heap.size then lab k else 4 * j + c) = 4 * j + c) v1 l1) (hg2 : W2.heap[g]? = some (.cells (cs.setIfInBounds (j * 8 + (3 + c)) v1) 101 (0, 0))) (hchg : Chg g ((es[j]).v c).ownBlock wr W2) :
    EInv w W2 (fun k => if k < wr.heap.size then lab k else 4 * j + c) (.slice (some ⟨g, 0, none⟩) es.length cap) (es.set j ⟨setLst (es[j]).x c l1, fun c' => if c' = c then v1 else (es[j]).v c'⟩) := by
  obtain ⟨hbg, -⟩ := h.block
  have hone : ∀ c', c' < 4 → ((es[j]).v c').oneCell' = true := fun c' hc' => by
    by_cases h3 : c' = 3
    · subst h3; exact R_one (h.wd j hj)
    · exact R_one (h.l j hj c' (by omega))
  have hrow : ∀ k, ((es[j]).v c).ownBlock = some k → lab k = 4 * j + c := (h.l j hj c hc).1
  have keep : ∀ {kd : IntKind} {t : TypeId} {m : Nat} {v : Value} {xs : List Int}, t ≠ 101 → m ≠ 4 * j + c → Kd.R (Kd.int kd) t wr w.heap.size (fun k => lab k = m) v xs → Kd.R (Kd.int kd) t W2 w.heap.size (fun k => (if k < wr.heap.size then lab k else 4 * j + c) = m) v xs := by
    intro kd t m v xs ht hm hR'
    have h1 := Kd.R_mono (Kd.R_bound hR') (ok' := fun k => lab k = m ∧ k < wr.heap.size) (fun k hk => ⟨hk.1, hk.2.2.1⟩)
    have h2 := R_far h1 rfl hg (fun e => ht e.symm) ((es[j]).v c).ownBlock (fun k hk e => hm (hk.1.symm.trans (hrow k e))) hchg.block
    exact Kd.R_mono h2 (fun k hk => by rw [if_pos hk.2]; exact hk.1)
  refine ⟨?_, fun j' hj' c' hc' => ?_, fun j' hj' => ?_, chg_below hchg h.b hbg (R_base (h.l j hj c hc))⟩
  · refine kEl_set h.own hg hg2 (by omega) hj _ ?_ ?_
    · rcases (by omega : c = 0 ∨ c = 1 ∨ c = 2) with rfl | rfl | rfl <;> rfl
    · intro c' hc'
      show (if c' = c then v1 else (es[j]).v c').oneCell' = true
      by_cases e : c' = c
      · rw [if_pos e]; exact R_one hR
      · rw [if_neg e]; exact hone c' hc'
  · rw [List.length_set] at hj'
    rw [List.getElem_set]
    by_cases hjj : j = j'
    · subst hjj
      rw [if_pos rfl]
      show Kd.R (Kd.int .i64) 3 W2 w.heap.size _ (if c' = c then v1 else (es[j]).v c') (lst (setLst (es[j]).x c l1) c')
      by_cases e : c' = c
      · subst e
        rw [if_pos rfl]
        have e1 : lst (setLst (es[j]).x c' l1) c' = l1 := by rcases (by omega : c' = 0 ∨ c' = 1 ∨ c' = 2) with rfl | rfl | rfl <;> rfl
        rw [e1]
        exact hR
      · rw [if_neg e]
        have e1 : lst (setLst (es[j]).x c l1) c' = lst (es[j]).x c' := by
          rcases (by omega : c = 0 ∨ c = 1 ∨ c = 2) with rfl | rfl | rfl <;> rcases (by omega : c' = 0 ∨ c' = 1 ∨ c' = 2) with rfl | rfl | rfl <;> first | rfl | exact absurd rfl e
        rw [e1]
        exact keep (by decide) (by omega) (h.l j hj c' hc')
    · rw [if_neg hjj]
      exact keep (by decide) (by omega) (h.l j' hj' c' hc')
  · rw [List.length_set] at hj'
    rw [List.getElem_set]
    by_cases hjj : j = j'
    · subst hjj
      rw [if_pos rfl]
      show Kd.R (Kd.int .u8) 5 W2 w.heap.size _ (if 3 = c then v1 else (es[j]).v 3) (setLst (es[j]).x c l1).f7
      rw [if_neg (by omega)]
      have e1 : (setLst (es[j]).x c l1).f7 = (es[j]).x.f7 := by rcases (by omega : c = 0 ∨ c = 1 ∨ c = 2) with rfl | rfl | rfl <;> rfl
      rw [e1]
      exact keep (by decide) (by omega) (h.wd j hj)
    · rw [if_neg hjj]
      exact keep (by decide) (by omega) (h.wd j' hj')
/-- A window's candidate and words. -/
theorem EInv.words {g cap j : Nat} {cd : Int} {vW : Value} {ws : List Int} {W1 : World} (h : EInv w wr lab (.slice (some ⟨g, 0, none⟩) es.length cap) es) (hj : j < es.length) (hb : Below wr.heap.size wr W1) (hR : Kd.R (Kd.int .u8) 5 W1 wr.heap.size (fun _ => True) vW ws) :
    EInv w ((W1.setCell ⟨g, j * 8 + 6, none⟩ (.int .i64 cd)).setCell ⟨g, j * 8 + 7, none⟩ vW) (fun k => if k < wr.heap.size then lab k else 4 * j + 3) (.slice (some ⟨g, 0, none⟩) es.length cap) (es.set j ⟨{ (es[j]).x with f6 := cd, f7 := ws }, fun c' => if c' = 3 then vW else (es[j]).v c'⟩) := by
  obtain ⟨hbg, cs, hg⟩ := h.block
  have hone : ∀ c', c' < 4 → ((es[j]).v c').oneCell' = true := fun c' hc' => by
    by_cases h3 : c' = 3
    · subst h3; exact R_one (h.wd j hj)
    · exact R_one (h.l j hj c' (by omega))
  have h1 := h.below hb
  have hg1 := blk_below hg hb
  have hs1 : W1.grownBy (W1.setCell ⟨g, j * 8 + 6, none⟩ (.int .i64 cd)) (some g) := setCell_grown _ _ _ _
  have hs2 := setCell_grown (W1.setCell ⟨g, j * 8 + 6, none⟩ (.int .i64 cd)) g (j * 8 + 7) vW
  have hs := grown_trans hs1 hs2
  have hg2 := set_in hg1 (j * 8 + 6) (.int .i64 cd)
  have hg3 := set_in hg2 (j * 8 + 7) vW
  have keepR : ∀ {kd : IntKind} {t : TypeId} {ok : Nat → Prop} {N : Nat} {v : Value} {xs : List Int}, t ≠ 101 → Kd.R (Kd.int kd) t W1 N ok v xs → Kd.R (Kd.int kd) t ((W1.setCell ⟨g, j * 8 + 6, none⟩ (.int .i64 cd)).setCell ⟨g, j * 8 + 7, none⟩ vW) N ok v xs := fun ht hR' => R_far hR' rfl hg1 (fun e => ht e.symm) none (fun _ _ e => nomatch e) (fun k hk hkg _ => hs.block k hk (fun e => hkg (Option.some.inj e)))
  have keep : ∀ {kd : IntKind} {t : TypeId} {m : Nat} {v : Value} {xs : List Int}, t ≠ 101 → Kd.R (Kd.int kd) t wr w.heap.size (fun k => lab k = m) v xs → Kd.R (Kd.int kd) t ((W1.setCell ⟨g, j * 8 + 6, none⟩ (.int .i64 cd)).setCell ⟨g, j * 8 + 7, none⟩ vW) w.heap.size (fun k => (if k < wr.heap.size then lab k else 4 * j + 3) = m) v xs := by
    intro kd t m v xs ht hR'
    have h1 := Kd.R_mono (Kd.R_bound hR') (ok' := fun k => lab k = m ∧ k < wr.heap.size) (fun k hk => ⟨hk.1, hk.2.2.1⟩)
    exact Kd.R_mono (keepR ht (Kd.R_below h1 hb)) (fun k hk => by rw [if_pos hk.2]; exact hk.1)
  have hbw : Below w.heap.size w ((W1.setCell ⟨g, j * 8 + 6, none⟩ (.int .i64 cd)).setCell ⟨g, j * 8 + 7, none⟩ vW) := below_set (below_set h1.b hbg) hbg
  refine ⟨?_, fun j' hj' c' hc' => ?_, fun j' hj' => ?_, hbw⟩
  · have k1 := kEl_set (f := 6) h1.own hg1 hg2 (by decide) hj ⟨{ (es[j]).x with f6 := cd }, (es[j]).v⟩ rfl hone
    rw [show es.length = (es.set j ⟨{ (es[j]).x with f6 := cd }, (es[j]).v⟩).length by rw [List.length_set]] at k1
    have k2 := kEl_set (f := 7) (u := vW) k1 hg2 hg3 (by decide) (by rw [List.length_set]; exact hj) ⟨{ (es[j]).x with f6 := cd, f7 := ws }, fun c' => if c' = 3 then vW else (es[j]).v c'⟩ (by rw [List.getElem_set_self]; rfl) (fun c' hc' => by
      show (if c' = 3 then vW else (es[j]).v c').oneCell' = true
      by_cases e : c' = 3
      · rw [if_pos e]; exact R_one hR
      · rw [if_neg e]; exact hone c' hc')
    rw [List.set_set, List.length_set] at k2
    exact k2
  · rw [List.length_set] at hj'
    rw [List.getElem_set]
    by_cases hjj : j = j'
    · subst hjj
      rw [if_pos rfl]
      show Kd.R (Kd.int .i64) 3 _ w.heap.size _ (if c' = 3 then vW else (es[j]).v c') (lst (es[j]).x c')
      rw [if_neg (by omega)]
      exact keep (by decide) (h.l j hj c' hc')
    · rw [if_neg hjj]
      exact keep (by decide) (h.l j' hj' c' hc')
  · rw [List.length_set] at hj'
    rw [List.getElem_set]
    by_cases hjj : j = j'
    · subst hjj
      rw [if_pos rfl]
      show Kd.R (Kd.int .u8) 5 _ w.heap.size _ vW ws
      have s := h.b.size
      exact Kd.R_lower (Kd.R_mono (Kd.R_bound (keepR (by decide) hR)) (fun k hk => by have := hk.2.1; rw [if_neg (by omega)])) s
    · rw [if_neg hjj]
      exact keep (by decide) (h.wd j' hj')
end
end Go.Proofs.Ytekbaconbemgpaa.PWe
