/- Plain laws on waves: Cut's length; the signs of a picture. -/
import Derived.Test.YtedjjodnceinlaaDoorWvPl3
import Derived.Test.YtedjjodnceinlaaDoorWvHg
namespace Go.Proofs.YtedjjodnceinlaaDoor.PWv
open Go.RowKit Go.Proofs.YtedjjodnceinlaaDoor.Kx Go.Proofs.YtedjjodnceinlaaDoor.PWe Go.Proofs.YtedjjodnceinlaaDoorW.PrintWords Go.Proofs.YtedjjodnceinlaaDoorW.PrintLast Go.Proofs.YtedjjodnceinlaaDoorW.PrintMore
set_option linter.unusedVariables false
set_option linter.unusedSimpArgs false
theorem wS2 {j : Nat} (h : j ≤ 2000000) : wrap64 ((j : Int) + 1) = ((j + 1 : Nat) : Int) := (w64 (by omega) (by omega)).trans (by omega)
theorem cutA {a T from_ to_ S : Int} (hS : S = mx (mn a to_ - from_) 0) (ha : 0 ≤ a) (hT : 1 ≤ T) (hf : 0 ≤ from_) (hto : 0 ≤ to_ ∧ to_ ≤ 1048576) :
    S + mn (mx (mn (a + T) to_ - mx a from_) 0) (1048576 - S) = mx (mn (a + T) to_ - from_) 0 := by
  subst hS
  unfold mn mx
  repeat' split
  all_goals omega
theorem mn_le {a b : Int} : mn a b ≤ a ∧ mn a b ≤ b := by unfold mn; split <;> omega
theorem mx_le {a b : Int} : a ≤ mx a b ∧ b ≤ mx a b := by unfold mx; split <;> omega
theorem mn_or (a b : Int) : mn a b = a ∨ mn a b = b := by unfold mn; split <;> simp
theorem mx_or (a b : Int) : mx a b = a ∨ mx a b = b := by unfold mx; split <;> simp
theorem cut_law (cl : List S46) (hok : WOK cl) (from_ to_ : Int) (hf : 0 ≤ from_ ∧ from_ ≤ 1048576) (hto : 0 ≤ to_ ∧ to_ ≤ 1048576) (n : Nat) : ∀ (k : Nat) (out : List S46) (i : Nat), cl.length - i = n → n + 3 ≤ k → i ≤ cl.length → WOK out → sumT out = mx (mn (sumT (cl.take i)) to_ - from_) 0 →
    ∃ r, wave_Wave_Cut.l0 k from_ to_ out (sumT (cl.take i)) (sumT out) cl (cl.length : Int) (i : Int) = some r ∧ WOK r ∧ sumT r = mx (mn (sumT cl) to_ - from_) 0 ∧ r.length ≤ out.length + n := by
  induction n with
  | zero =>
    intro k out i hn hk hi ho hs
    obtain ⟨k, rfl⟩ : ∃ j, k = j + 1 := ⟨k - 1, by omega⟩
    have e : cl.take i = cl := List.take_of_length_le (by omega)
    rw [wave_Wave_Cut.l0, if_neg (by omega)]
    rw [e] at hs
    exact ⟨out, rfl, ho, hs, Nat.le_refl _⟩
  | succ n ih =>
    intro k out i hn hk hi ho hs
    obtain ⟨k, rfl⟩ : ∃ j, k = j + 1 := ⟨k - 1, by omega⟩
    have hil : i < cl.length := by omega
    have g1 : (i : Int) < (cl.length : Int) := by omega
    have g2 : 0 ≤ (i : Int) := by omega
    obtain ⟨⟨h0, h1⟩, h2⟩ := sum_take hok hil
    have hT := (hok.each cl[i] (List.getElem_mem hil)).2
    have hlen := sumT_len cl hok.each
    have hhi := hok.hi
    have hw1 := w64 (x := sumT (cl.take i) + cl[i].f1) (by omega) (by omega)
    have b1 := @mn_le (sumT (cl.take i) + cl[i].f1) to_
    have b2 := @mx_le (sumT (cl.take i)) from_
    have b3 := mn_or (sumT (cl.take i) + cl[i].f1) to_
    have b4 := mx_or (sumT (cl.take i)) from_
    have hw2 := w64 (x := mn (sumT (cl.take i) + cl[i].f1) to_ - mx (sumT (cl.take i)) from_) (by omega) (by omega)
    obtain ⟨l', p1, p2, p3, p4, _⟩ := put_ok ho cl[i].f0 (mn (sumT (cl.take i) + cl[i].f1) to_ - mx (sumT (cl.take i)) from_)
    have hA := cutA hs h0 hT hf.1 hto
    rw [← p3, ← h2] at hA
    obtain ⟨r, r1, r2, r3, r4⟩ := ih k l' (i + 1) (by omega) (by omega) (by omega) p2 hA
    refine ⟨r, ?_, r2, r3, by omega⟩
    rw [wave_Wave_Cut.l0, if_pos g1, if_pos g2, if_pos g1, rd_at hil, hw1, hw2, p1, Option.bind_some, wS2 (by omega), ← h2]
    exact r1
theorem cut_ok {k : Nat} (l : List S46) (hk : 3000 ≤ k) (hl : l.length ≤ 200) (ht : (rawT l).length ≤ 3000) (a b : Int) (ha : 0 ≤ a ∧ a ≤ 3000) (hb : a ≤ b ∧ b ≤ ((rawT l).length : Int)) :
    ∃ r, wave_Wave_Cut.f k l a b = some r ∧ WOK r ∧ sumT r = b - a ∧ r.length ≤ 200 := by
  obtain ⟨cl, hcl, hok, hcll⟩ := clean_ok (k := k) l (by omega) (by omega)
  have htick := clean_tick (k := k) l (by omega) (by omega) (by omega) hcl
  have hs := tickL_len cl hok.each
  rw [htick] at hs
  have e1 : mx a 0 = a := by unfold mx; split <;> omega
  have e2 : mx b 0 = b := by unfold mx; split <;> omega
  have e3 : mn b ((rawT l).length : Int) = b := by unfold mn; split <;> omega
  obtain ⟨r, r1, r2, r3, r4⟩ := cut_law cl hok a b (by omega) (by omega) cl.length k [] 0 (by omega) (by omega) (by omega) ⟨fun x hx => absurd hx (by simp), by decide⟩ (by
    show (0 : Int) = mx (mn (sumT (cl.take 0)) b - a) 0
    have e : sumT (cl.take 0) = 0 := rfl
    rw [e]; unfold mn mx; repeat' split
    all_goals omega)
  refine ⟨r, ?_, r2, ?_, by simp at r4; omega⟩
  · unfold wave_Wave_Cut.f
    rw [long_raw l (by omega) (by omega) (by omega), Option.bind_some, hcl, Option.bind_some, e1, e2, e3]
    exact r1
  · rw [r3, ← hs]; unfold mn mx; repeat' split
    all_goals omega
theorem rawT_len : ∀ (l : List S46), (∀ x ∈ l, (0 ≤ x.f0 ∧ x.f0 ≤ 15) ∧ 1 ≤ x.f1) → ((rawT l).length : Int) = sumT l
  | [], _ => rfl
  | r :: q, h => by
    have h1 := rawT_len q (fun x hx => h x (List.mem_cons_of_mem _ hx))
    have h2 := (h r (by simp)).2
    rw [rawT_cons, List.length_append, List.length_replicate, sumT_cons]
    omega
/-- For how many ticks a line of a wave is high. -/
def hF (c : List S46) (line : Int) : Int := cntH line (tks ((wave_Wave_Clean.f 5000 c).getD []) 0)
def cutF (wv : List S46) (a b : Int) : List S46 := (wave_Wave_Cut.f 5000 wv a b).getD []
/-- The sign of a line from a tick to ahead of another one. -/
def sgF (wv : List S46) (line a b : Int) : UInt8 := if hF (cutF wv a b) line = 0 then 46 else if hF (cutF wv a b) line = b - a then 35 else 43
/-- The signs of a line, from a tick on. -/
def rowN (wv : List S46) (per long line : Int) : Nat → Int → List UInt8
  | 0, _ => []
  | n + 1, a => if a < long then sgF wv line a (mn per (long - a) + a) :: rowN wv per long line n (mn per (long - a) + a) else []
theorem rowN_more (wv : List S46) (per long line : Int) (hp : 1 ≤ per) : ∀ (n m : Nat) (a : Int), (long - a).toNat ≤ n → (long - a).toNat ≤ m → rowN wv per long line n a = rowN wv per long line m a
  | 0, 0, _, _, _ => rfl
  | 0, m + 1, a, h, _ => by rw [rowN, rowN, if_neg (by omega)]
  | n + 1, 0, a, _, h => by rw [rowN, rowN, if_neg (by omega)]
  | n + 1, m + 1, a, h1, h2 => by
    rw [rowN, rowN]
    by_cases h : a < long
    · rw [if_pos h, if_pos h]
      have hm : 1 ≤ mn per (long - a) := by unfold mn; split <;> omega
      rw [rowN_more wv per long line hp n m _ (by omega) (by omega)]
    · rw [if_neg h, if_neg h]
def rowP (wv : List S46) (per long line a : Int) : List UInt8 := rowN wv per long line (long - a).toNat a
theorem rowP_end {wv : List S46} {per long line a : Int} (h : ¬ a < long) : rowP wv per long line a = [] := by
  unfold rowP
  cases hn : (long - a).toNat with
  | zero => rfl
  | succ n => omega
theorem rowP_step {wv : List S46} {per long line a : Int} (hp : 1 ≤ per) (h : a < long) : rowP wv per long line a = sgF wv line a (mn per (long - a) + a) :: rowP wv per long line (mn per (long - a) + a) := by
  unfold rowP
  have hm : 1 ≤ mn per (long - a) := by unfold mn; split <;> omega
  cases hn : (long - a).toNat with
  | zero => omega
  | succ n =>
    rw [rowN, if_pos h]
    rw [rowN_more wv per long line hp n _ _ (by omega) (Nat.le_refl _)]
/-- The picture from a line on. -/
def picP (wv : List S46) (per long : Int) (line : Nat) : List UInt8 := if line < 4 then rowP wv per long line 0 ++ 10 :: picP wv per long (line + 1) else []
  termination_by 4 - line
theorem picP_step {wv : List S46} {per long : Int} {line : Nat} (h : line < 4) : picP wv per long line = rowP wv per long line 0 ++ 10 :: picP wv per long (line + 1) := by rw [picP, if_pos h]
theorem picP_end {wv : List S46} {per long : Int} {line : Nat} (h : ¬ line < 4) : picP wv per long line = [] := by rw [picP, if_neg h]
theorem cutF_ok (l : List S46) (hl : l.length ≤ 200) (ht : (rawT l).length ≤ 3000) (a b : Int) (ha : 0 ≤ a ∧ a ≤ 3000) (hb : a ≤ b ∧ b ≤ ((rawT l).length : Int)) :
    wave_Wave_Cut.f 5000 l a b = some (cutF l a b) ∧ WOK (cutF l a b) ∧ ((rawT (cutF l a b)).length : Int) = b - a ∧ (cutF l a b).length ≤ 200 := by
  obtain ⟨r, h1, h2, h3, h4⟩ := cut_ok (k := 5000) l (by omega) hl ht a b ha hb
  have e : cutF l a b = r := by unfold cutF; rw [h1]; rfl
  rw [e]
  exact ⟨h1, h2, by rw [rawT_len r h2.each, h3], h4⟩
theorem high_calls (A : Option Addr) (c : Nat) (wv : List S46) (line : Int) (w : World) (hC : Kd.C k46 w A wv.length wv) (hc : wv.length ≤ c) (hl : wv.length ≤ 4000) :
    Calls Tryd.prog 15 #[.slice A wv.length c, .int .i64 line] w fun e w' => e = .returned (.int .i64 (hF wv line)) ∧ Below w.heap.size w w' := by
  obtain ⟨cl, hcl, hok, hcll⟩ := clean_ok (k := 5000) wv (by omega) (by omega)
  have e : hF wv line = cntH line (tks cl 0) := by unfold hF; rw [hcl]; rfl
  rw [e]
  exact callsIn_wide.1 (high_in 5000 A c wv cl line w hC hc hcl hok)
theorem hF_bound (wv : List S46) (hl : wv.length ≤ 4000) (ht : (rawT wv).length ≤ 1048576) (line : Int) : 0 ≤ hF wv line ∧ hF wv line ≤ ((rawT wv).length : Int) := by
  obtain ⟨cl, hcl, hok, hcll⟩ := clean_ok (k := 5000) wv (by omega) (by omega)
  have e : hF wv line = cntH line (tks cl 0) := by unfold hF; rw [hcl]; rfl
  have h1 := tks_len cl hok.each 0
  have h2 := tickL_len cl hok.each
  rw [clean_tick (k := 5000) wv (by omega) (by omega) ht hcl] at h2
  rw [e]
  unfold cntH
  have h3 : (List.filter (fun x => hiB x.2 line) (tks cl 0)).length ≤ (tks cl 0).length := List.length_filter_le _ _
  omega
end Go.Proofs.YtedjjodnceinlaaDoor.PWv
