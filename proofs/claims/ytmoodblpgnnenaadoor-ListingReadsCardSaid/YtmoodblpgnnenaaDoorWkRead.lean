/- cmd.Read: its walk. Helper text. -/
import Derived.Test.YtmoodblpgnnenaaDoorWkBytes
import Derived.Test.YtmoodblpgnnenaaDoorPWex3
import Derived.Test.YtmoodblpgnnenaaDoorK4
namespace Go.Proofs.YtmoodblpgnnenaaDoor.PWe
open Go.RowKit Go.Proofs.YtmoodblpgnnenaaDoor.Kx Go.Proofs.YtmoodblpgnnenaaDoorW.PrintWords Go.Proofs.YtmoodblpgnnenaaDoorW.PrintLast Go.Proofs.YtmoodblpgnnenaaDoorW.PrintMore
set_option linter.unusedVariables false
set_option linter.unusedSimpArgs false

def goesF (op : Int) : Bool := op == 6 || op == 8
theorem goes_any (op : Int) (g : Nat) (cs : Array Value) (w : World) (h : w.heap[g]? = some (.cells cs 37 (0, 0))) (hop : cs[0]? = some (.int .i64 op)) :
    Calls Tryd.prog 44 #[.pointer (some ⟨g, 0, none⟩)] w fun e w' => e = .returned (.bool (goesF op)) ∧ w' = w := by
  have hc0 : w.cell? ⟨g, 0, none⟩ = some (.int .i64 op) := (cell_in h 0).trans hop
  clear h hop
  unfold goesF
  by_cases h1 : op = 6
  · subst h1
    go_enter Tryd.func44, Tryd.ntmps44
    go_wp2
    go_ret
    exact ⟨rfl, rfl⟩
  · have h2 : (op == 6) = false := by simpa using h1
    rw [h2, Bool.false_or]
    go_enter Tryd.func44, Tryd.ntmps44
    go_wp2
    go_ret
    exact ⟨rfl, rfl⟩
/-- The numbers of one byte, as far as they are filled in. -/
def fillK (L : List Nat) (rest : List Int) (x : Int) : Nat → List Int
  | 0 => [x, 0, 0, 0, 0, 0, 0]
  | j + 1 => (fillK L rest x j).set (L.getD j 0) (wrap64 (rd rest (j : Int)))
abbrev cc (C : List Int) : Array Value := (C.map (Value.int .i64)).toArray
theorem fillK_len (L : List Nat) (rest : List Int) (x : Int) : ∀ j, (fillK L rest x j).length = 7
  | 0 => rfl
  | j + 1 => by rw [fillK, List.length_set, fillK_len L rest x j]
theorem ptrs_form {w : World} {v : Value} {g : Nat} {l : List Nat} (h : Ptrs w v g l) : ∃ A, v = .slice A l.length l.length ∧ ∀ j, j < l.length → ∃ hh, A = some ⟨hh, 0, none⟩ ∧ hh ≠ g ∧ w.cell? ⟨hh, j, none⟩ = some (.pointer (some ⟨g, l.getD j 0, none⟩)) := by
  rcases h with ⟨rfl, rfl⟩ | ⟨hh, rfl, hne, hb⟩
  · exact ⟨none, rfl, fun j hj => by simp at hj⟩
  · refine ⟨_, rfl, fun j hj => ⟨hh, rfl, hne, ?_⟩⟩
    rw [cell_in hb j]
    simp [hj]

def needI (x : Int) : Int := if goesF x = true then 2 else ((offs x).length : Int)
def atV (a b : Int) : Int := bits BinOp.or IntKind.i64 (wrap64 (wrap64 a * 256)) (wrap64 b)
def cmdC (rest : List Int) (x : Int) : List Int := if goesF x = true then (fillK (offs x) rest x (offs x).length).set 6 (atV (rd rest 0) (rd rest 1)) else fillK (offs x) rest x (offs x).length
def zero7 : List Int := [0, 0, 0, 0, 0, 0, 0]
/-- What Read answers: a command's numbers, where the next one stands, an error. -/
def readF (k : Nat) (b : List Int) (at_ : Int) : Option (List Int × Int × Int) :=
  if at_ < 0 then some (zero7, 0, 2) else if at_ > (b.length : Int) then some (zero7, 0, 2) else if at_ = (b.length : Int) then some (zero7, 0, 10) else
  if wrap64 (rd b at_) > 8 then some (zero7, 0, 11) else if ((b.drop (at_ + 1).toNat).length : Int) < needI (wrap64 (rd b at_)) then some (zero7, 0, 10) else
  (cmd_Command_Right.f k ((cmdC (b.drop (at_ + 1).toNat) (wrap64 (rd b at_))).getD 0 0) ((cmdC (b.drop (at_ + 1).toNat) (wrap64 (rd b at_))).getD 1 0) ((cmdC (b.drop (at_ + 1).toNat) (wrap64 (rd b at_))).getD 2 0) ((cmdC (b.drop (at_ + 1).toNat) (wrap64 (rd b at_))).getD 3 0) ((cmdC (b.drop (at_ + 1).toNat) (wrap64 (rd b at_))).getD 4 0) ((cmdC (b.drop (at_ + 1).toNat) (wrap64 (rd b at_))).getD 5 0) ((cmdC (b.drop (at_ + 1).toNat) (wrap64 (rd b at_))).getD 6 0)).bind fun r =>
    if r = true then some (cmdC (b.drop (at_ + 1).toNat) (wrap64 (rd b at_)), wrap64 (wrap64 (at_ + 1) + needI (wrap64 (rd b at_))), 0) else some (zero7, 0, 11)
theorem results_ctt {fn : Func} {p u1 u2 : Tmp} {ty : TypeId} (h : fn.results = #[.cell p ty, .tmp u1, .tmp u2]) (tmps : Array Value) (w : World) (g : Nat) (cs : Array Value)
    (hp : tmps.getD p undef = .pointer (some ⟨g, 0, none⟩)) (hl : (loadVar ty ⟨g, 0, none⟩).run Tryd.prog w = .ok (.agg cs) w) :
    (results fn tmps).run Tryd.prog w = .ok (.tuple #[.agg cs, tmps.getD u1 undef, tmps.getD u2 undef]) w := by
  have hp' : tmps[p]?.getD undef = .pointer (some ⟨g, 0, none⟩) := by simpa using hp
  simp [results, h, hp', asAddr, hl]
theorem cc_size (C : List Int) : (cc C).size = C.length := by simp [cc]
theorem cc_one (C : List Int) : (cc C).all (·.oneCell') = true := by
  rw [Array.all_eq_true]
  intro i hi
  simp [cc, Value.oneCell']
theorem cc_set (C : List Int) (o : Nat) (z : Int) : (cc C).setIfInBounds o (.int .i64 z) = cc (C.set o z) := by
  simp [cc, List.map_set]
theorem cc_get {C : List Int} {o : Nat} (h : o < C.length) : (cc C)[o]? = some (.int .i64 (C.getD o 0)) := by
  simp [cc, h]
theorem offs_at (y : Int) {j : Nat} (h : j < (offs y).length) : 1 ≤ (offs y).getD j 0 ∧ (offs y).getD j 0 ≤ 5 := by
  revert h
  unfold offs
  split
  · intro h; match j, h with | 0, _ => decide | 1, _ => decide | 2, _ => decide | 3, _ => decide
  split
  · intro h; match j, h with | 0, _ => decide | 1, _ => decide | 2, _ => decide
  split
  · intro h; match j, h with | 0, _ => decide | 1, _ => decide
  split
  · intro h; match j, h with | 0, _ => decide
  · intro h; simp at h
theorem offs_goes {y : Int} (h : goesF y = true) : offs y = [] := by
  unfold goesF at h
  have : y = 6 ∨ y = 8 := by simpa using h
  rcases this with rfl | rfl <;> rfl
theorem offs_len (y : Int) : (offs y).length ≤ 4 := by
  unfold offs
  split
  · decide
  split
  · decide
  split
  · decide
  split
  · decide
  · decide
theorem fillK_zero (y : Int) (rest : List Int) : ∀ j, j ≤ (offs y).length → (fillK (offs y) rest y j).getD 0 0 = y
  | 0, _ => rfl
  | j + 1, h => by
    have h1 := (offs_at y (j := j) (by omega)).1
    rw [fillK, List.getD_eq_getElem?_getD, List.getElem?_set_ne (by omega), ← List.getD_eq_getElem?_getD]
    exact fillK_zero y rest j (by omega)
theorem list7 : ∀ (l : List Int), l.length = 7 → ∃ a b c d e f g, l = [a, b, c, d, e, f, g]
  | [a, b, c, d, e, f, g], _ => ⟨a, b, c, d, e, f, g, rfl⟩
theorem size5 : ∃ i, Tryd.prog.info? 5 = some i ∧ i.size = 1 := by
  have h := info5
  cases hq : Tryd.prog.info? 5 with
  | none => rw [hq] at h; cases h
  | some i =>
    rw [hq] at h
    simp at h
    exact ⟨i, rfl, h.2.1⟩
theorem cell_ne {w : World} {g h o j : Nat} {v u : Value} (hne : h ≠ g) (hc : w.cell? ⟨h, j, none⟩ = some u) : (w.setCell ⟨g, o, none⟩ v).cell? ⟨h, j, none⟩ = some u := by
  have e := set_ne (w := w) (b := g) (c := h) o v (Ne.symm hne)
  rw [← hc]
  unfold World.cell?
  simp only [e]
theorem fin_ {a : Act} {w W : World} {g : Nat} {C : List Int} {n e : Int} (hp : a.tmps.getD 4 undef = .pointer (some ⟨g, 0, none⟩)) (h5 : a.tmps.getD 5 undef = .int .i64 n) (h6 : a.tmps.getD 6 undef = .int .i64 e) (hd : a.defers = []) (hC : C.length = 7)
    (hg : W.heap[g]? = some (.cells (cc C) 37 (0, 0))) (hB : Below w.heap.size w W) : bodyPost Tryd.prog Tryd.f50 (fun e' w' => e' = .returned (.tuple #[.agg (cc C), .int .i64 n, .int .i64 e]) ∧ Below w.heap.size w w') Exit.ret a W := by
  refine bodyPost_ret (results_ctt (ty := 37) (p := 4) (u1 := 5) (u2 := 6) rfl a.tmps W g (cc C) hp (run_loadVar_row W g 37 37 (cc C) (0, 0) _ hg Tryd.underlying37 rfl (by rw [show (cc C).size = 7 by simp [cc, hC]]; kernel_rfl))) hd ?_
  rw [h5, h6]
  exact ⟨rfl, hB⟩
set_option maxHeartbeats 4000000 in
set_option maxRecDepth 100000 in
theorem read_any (k : Nat) (b : List Int) (at_ : Int) (A : Option Addr) (c : Nat) (r : List Int × Int × Int) (w : World) (hA : Kd.C (Kd.int .u8) w A b.length b) (hc : b.length ≤ c) (h : readF k b at_ = some r) :
    Calls Tryd.prog 50 #[.slice A b.length c, .int .i64 at_] w fun e w' => e = .returned (.tuple #[.agg (cc r.1), .int .i64 r.2.1, .int .i64 r.2.2]) ∧ Below w.heap.size w w' := by
  have HA := Aside0.mk hA
  have hlen := hA.2.1
  clear hA
  have HF := Aside0.mk h
  clear h
  have hz := Tryd.underlying37
  by_cases h1 : at_ < 0
  · have e : r = (zero7, 0, 2) := by
      have := HF.out
      rw [readF, if_pos h1] at this
      exact (Option.some.inj this).symm
    subst e
    have c1 : decide (at_ < 0) = true := decide_eq_true h1
    clear h1
    go_enter Tryd.func50, Tryd.ntmps50
    go_wp2
    exact fin_ rfl rfl rfl rfl rfl (heap_alloc_new _ _) (below_alloc (Below.refl _ _) _)
  by_cases h2 : at_ > (b.length : Int)
  · have e : r = (zero7, 0, 2) := by
      have := HF.out
      rw [readF, if_neg h1, if_pos h2] at this
      exact (Option.some.inj this).symm
    subst e
    have c1 : decide (at_ < 0) = false := decide_eq_false h1
    have c2 : decide ((b.length : Int) < at_) = true := decide_eq_true h2
    clear h1 h2
    go_enter Tryd.func50, Tryd.ntmps50
    go_wp2
    exact fin_ rfl rfl rfl rfl rfl (heap_alloc_new _ _) (below_alloc (Below.refl _ _) _)
  by_cases h3 : at_ = (b.length : Int)
  · have e : r = (zero7, 0, 10) := by
      have := HF.out
      rw [readF, if_neg h1, if_neg h2, if_pos h3] at this
      exact (Option.some.inj this).symm
    subst e
    have c1 : decide (at_ < 0) = false := decide_eq_false h1
    have c2 : decide ((b.length : Int) < at_) = false := decide_eq_false h2
    have c3 : (at_ == (b.length : Int)) = true := beq_iff_eq.mpr h3
    clear h1 h2 h3
    go_enter Tryd.func50, Tryd.ntmps50
    go_wp2
    exact fin_ rfl rfl rfl rfl rfl (heap_alloc_new _ _) (below_alloc (Below.refl _ _) _)
  have hF := HF.out
  clear HF
  rw [readF, if_neg h1, if_neg h2, if_neg h3] at hF
  have HF := Aside0.mk hF
  clear hF
  have c1 : decide (at_ < 0) = false := decide_eq_false h1
  have c2 : decide ((b.length : Int) < at_) = false := decide_eq_false h2
  have c3 : (at_ == (b.length : Int)) = false := beq_eq_false_iff_ne.mpr h3
  have p1 : 0 ≤ at_ := by omega
  have q1 : at_ < (b.length : Int) := by omega
  obtain ⟨ad, rfl, hx⟩ := Kd.at_int HA.out at_ p1 q1
  obtain ⟨x, hxx⟩ : ∃ x, rd b at_ = x := ⟨_, rfl⟩
  rw [hxx] at hx HF
  have HX := Aside0.mk hxx
  clear hxx
  replace p1 := eq_true p1
  replace q1 := eq_true q1
  have hx1 : (w.alloc (.cells #[.int .i64 0, .int .i64 0, .int .i64 0, .int .i64 0, .int .i64 0, .int .i64 0, .int .i64 0] 37)).cell? (ad.add at_.toNat) = some (.int .u8 x) := cell_below' (below_alloc (Below.refl _ _) _) hx
  clear hx
  have HC := Aside0.mk hx1
  by_cases h5 : wrap64 x > 8
  · have e : r = (zero7, 0, 11) := by
      have := HF.out
      rw [if_pos h5] at this
      exact (Option.some.inj this).symm
    subst e
    have c5 : decide (8 < wrap64 x) = true := decide_eq_true h5
    clear h1 h2 h3 h5
    go_enter Tryd.func50, Tryd.ntmps50
    go_wp2
    exact fin_ rfl rfl rfl rfl rfl ((heap_alloc_old _ _ (by simp)).trans (heap_alloc_new _ _)) (below_alloc (below_alloc (Below.refl _ _) _) _)
  have hF := HF.out
  clear HF
  rw [if_neg h5] at hF
  have HF := Aside0.mk hF
  clear hF
  have c5 : decide (8 < wrap64 x) = false := decide_eq_false h5
  have hw1 : wrap64 (at_ + 1) = at_ + 1 := by unfold wrap64; omega
  obtain ⟨rest, hrest⟩ : ∃ rest, b.drop (at_ + 1).toNat = rest := ⟨_, rfl⟩
  have hm : (at_ + 1).toNat ≤ b.length := by omega
  have hrl : b.length - (at_ + 1).toNat = rest.length := by rw [← hrest, List.length_drop]
  have hrl2 : rest.length ≤ b.length := by omega
  obtain ⟨A', hA'⟩ : ∃ A', (if c = (at_ + 1).toNat then some ad else (some ad).map (·.add ((at_ + 1).toNat * 1))) = A' := ⟨_, rfl⟩
  obtain ⟨c', hc'⟩ : ∃ c', c - (at_ + 1).toNat = c' := ⟨_, rfl⟩
  have HR : Aside0 (Kd.C (Kd.int .u8) w A' rest.length rest) := ⟨by
    have := Kd.C_drop HA.out hm hc
    rw [hrest] at this
    rw [← hA']
    exact this⟩
  obtain ⟨i5, hi5, hs5⟩ := size5
  have hcut := cut_from (P := Tryd.prog) 23 5 .i64 Tryd.underlying23 hi5 1 hs5 (some ad) b.length c (at_ + 1) (by omega) (by omega)
  rw [hA', hc', hrl] at hcut
  rw [hrest] at HF
  clear hA' hc' hrl hrest
  clear h5 h1 h2 h3 HA hm
  go_enter Tryd.func50, Tryd.ntmps50
  go_wp2_with fail
  clear hcut hx1 HC p1 q1 c1 c2 c3 c5
  obtain ⟨W, hW⟩ : ∃ W, W = (w.alloc (.cells #[.int .i64 0, .int .i64 0, .int .i64 0, .int .i64 0, .int .i64 0, .int .i64 0, .int .i64 0] 37)).alloc (.cells #[.int .i64 (wrap64 x), .int .i64 0, .int .i64 0, .int .i64 0, .int .i64 0, .int .i64 0, .int .i64 0] 37) := ⟨_, rfl⟩
  have H4 : Aside0 (W.heap[w.heap.size]? = some (.cells (cc zero7) 37 (0, 0))) := ⟨by rw [hW]; exact (heap_alloc_old _ _ (by simp)).trans (heap_alloc_new _ _)⟩
  have H7 : Aside0 (W.heap[w.heap.size + 1]? = some (.cells (cc (fillK (offs (wrap64 x)) rest (wrap64 x) 0)) 37 (0, 0))) := ⟨by rw [hW]; have := heap_alloc_new (w.alloc (.cells #[.int .i64 0, .int .i64 0, .int .i64 0, .int .i64 0, .int .i64 0, .int .i64 0, .int .i64 0] 37)) (.cells #[.int .i64 (wrap64 x), .int .i64 0, .int .i64 0, .int .i64 0, .int .i64 0, .int .i64 0, .int .i64 0] 37); rwa [show (w.alloc (.cells #[.int .i64 0, .int .i64 0, .int .i64 0, .int .i64 0, .int .i64 0, .int .i64 0, .int .i64 0] 37)).heap.size = w.heap.size + 1 by simp] at this⟩
  have HB : Aside0 (Below w.heap.size w W) := ⟨by rw [hW]; exact below_alloc (below_alloc (Below.refl _ _) _) _⟩
  rw [← hW]
  clear hW
  generalize wrap64 x = y at *
  obtain ⟨g4, hg4⟩ : ∃ g, g = w.heap.size := ⟨_, rfl⟩
  obtain ⟨g7, hg7⟩ : ∃ g, g = w.heap.size + 1 := ⟨_, rfl⟩
  rw [← hg7, ← hg4]
  rw [← hg7] at H7
  rw [← hg4] at H4
  have hne : g4 ≠ g7 := by omega
  have hg4' : w.heap.size ≤ g4 := by omega
  have hg7' : w.heap.size ≤ g7 := by omega
  clear hg4 hg7
  obtain ⟨L, hL⟩ : ∃ L, offs y = L := ⟨_, rfl⟩
  have HLE := Aside0.mk hL
  have HLA : Aside0 (∀ j, j < L.length → 1 ≤ L.getD j 0 ∧ L.getD j 0 ≤ 5) := ⟨fun j hj => by rw [← hL] at hj ⊢; exact offs_at y hj⟩
  have hL4 : L.length ≤ 4 := by rw [← hL]; exact offs_len y
  rw [hL] at H7
  clear hL
  refine (bytes_any y g7 _ W H7.out rfl).mono ?_
  rintro e w5 ⟨v5, rfl, hp5, hb5⟩
  rw [HLE.out] at hp5
  obtain ⟨A5, rfl, hr5⟩ := ptrs_form hp5
  replace H4 := Aside0.mk (Kx.below_block hb5 H4.out (lt_of_block H4.out))
  replace H7 := Aside0.mk (Kx.below_block hb5 H7.out (lt_of_block H7.out))
  replace HB := Aside0.mk (below_step HB.out hb5)
  clear hb5 hp5 hr5
  go_wp2_with fail
  refine (goes_any y g7 _ w5 H7.out rfl).mono ?_
  rintro e w6 ⟨rfl, rfl⟩
  by_cases hg : goesF y = true
  · have hn : needI y = 2 := by rw [needI, if_pos hg]
    rw [hn] at HF
    have HG := Aside0.mk hg
    rw [hg]
    clear hg
    by_cases h6 : (rest.length : Int) < 2
    · have e : r = (zero7, 0, 10) := by
        have := HF.out
        rw [if_pos h6] at this
        exact (Option.some.inj this).symm
      subst e
      have c6 : decide ((rest.length : Int) < 2) = true := decide_eq_true h6
      clear h6
      go_wp2_with (refine wpList_store_row rfl 37 _ _ rfl g4 (cc zero7) rfl rfl 37 _ H4.out (by rw [cc_size]; kernel_rfl) rfl (cc_one _) ?_)
      exact fin_ (C := zero7) rfl rfl rfl rfl rfl (setRow_heap _ _ _ _ _ _ H4.out) (Kx.below_setRow HB.out hg4')
    have hF := HF.out
    clear HF
    rw [if_neg h6] at hF
    have HF := Aside0.mk hF
    clear hF
    have c6 : decide ((rest.length : Int) < 2) = false := decide_eq_false h6
    have H6 := Aside0.mk h6
    clear h6
    go_wp2_with fail
    refine (bytes_any y g7 _ w6 H7.out rfl).mono ?_
    rintro e w7 ⟨v7, rfl, hp7, hb7⟩
    rw [HLE.out] at hp7
    obtain ⟨A7, rfl, hr7⟩ := ptrs_form hp7
    replace H4 := Aside0.mk (Kx.below_block hb7 H4.out (lt_of_block H4.out))
    replace H7 := Aside0.mk (Kx.below_block hb7 H7.out (lt_of_block H7.out))
    replace HB := Aside0.mk (below_step HB.out hb7)
    have HP := Aside0.mk hr7
    clear hb7 hp7 hr7 c6
    (try clear c6n)
    go_wp2_with fail
    go_loopw [10, 11, 52] (fun v10 v11 v52 wr => ∃ j : Nat, j ≤ L.length ∧ v52 = .int .i64 j ∧ wr.heap[g4]? = some (.cells (cc zero7) 37 (0, 0)) ∧ wr.heap[g7]? = some (.cells (cc (fillK L rest y j)) 37 (0, 0)) ∧ Below w.heap.size w wr ∧ ∀ j, j < L.length → ∃ hh, A7 = some ⟨hh, 0, none⟩ ∧ hh ≠ g7 ∧ wr.cell? ⟨hh, j, none⟩ = some (.pointer (some ⟨g7, L.getD j 0, none⟩))) (fun v10 v11 v52 _ => L.length - (intOf v52).toNat)
    case atStart => exact ⟨0, by omega, rfl, H4.out, H7.out, HB.out, HP.out⟩
    case round =>
      obtain ⟨j, hj, rfl, h4, h7, hB, hP⟩ := hrel
      clear H4 H7 HB HP
      have H4 := Aside0.mk h4
      have H7 := Aside0.mk h7
      have HB := Aside0.mk hB
      have HP := Aside0.mk hP
      clear h4 h7 hB hP
      by_cases hlt : (j : Int) < (L.length : Int)
      · exact absurd hlt (by rw [← HLE.out, offs_goes HG.out]; simp)
      · obtain rfl : j = L.length := by omega
        have c8 : decide (((L.length : Nat) : Int) < (L.length : Int)) = false := decide_eq_false hlt
        have c8n : decide (L.length < L.length) = false := decide_eq_false (by omega)
        clear hlt hj
        go_wp2_with fail
        have HOP : Aside0 ((fillK L rest y L.length).getD 0 0 = y) := ⟨by rw [← HLE.out]; exact fillK_zero y rest _ (Nat.le_refl _)⟩
        refine (goes_any y g7 _ wr H7.out (by rw [cc_get (by rw [fillK_len]; decide), HOP.out])).mono ?_
        rintro e w8 ⟨rfl, rfl⟩
        rw [HG.out]
        clear HP c8 c8n
        obtain ⟨C, hC⟩ : ∃ C, fillK L rest y L.length = C := ⟨_, rfl⟩
        have HCL : Aside0 (C.length = 7) := ⟨by rw [← hC, fillK_len]⟩
        rw [hC] at H7 HOP
        have HC := Aside0.mk hC
        clear hC
        have hl2 : 2 ≤ rest.length := by have := H6.out; omega
        obtain ⟨ad2, rfl, hz0⟩ := Kd.at_int (Kd.C_below HR.out HB.out) 0 (by omega) (by omega)
        obtain ⟨ad3, e3, hz1⟩ := Kd.at_int (Kd.C_below HR.out HB.out) 1 (by omega) (by omega)
        obtain rfl : ad2 = ad3 := Option.some.inj e3
        clear e3
        have q0 : ((0 : Int) < (rest.length : Int)) = True := eq_true (by omega)
        have q1 : ((1 : Int) < (rest.length : Int)) = True := eq_true (by omega)
        have q0n : (0 < rest.length) = True := eq_true (by omega)
        have q1n : (1 < rest.length) = True := eq_true (by omega)
        replace hz0 : w8.cell? ad2 = some (.int .u8 (rd rest 0)) := hz0
        replace hz1 : w8.cell? ⟨ad2.block, ad2.off + 1, none⟩ = some (.int .u8 (rd rest 1)) := hz1
        clear hl2
        go_wp2_with fail
        refine start_ (n := 12) (S := fun w' => w'.cell? ad2 = some (.int .u8 (rd rest 0)) ∧ w'.cell? ⟨ad2.block, ad2.off + 1, none⟩ = some (.int .u8 (rd rest 1))) (ds := [11]) #[false, false, false, false, false, false, false, false, false, false, false, false] (by kernel_rfl) rfl rfl (⟨hz0, hz1⟩) (fun hHeld => ?_)
        have H4D : Aside0 (w8.drew.heap[g4]? = some (.cells (cc zero7) 37 (0, 0))) := ⟨H4.out⟩
        have H7D : Aside0 (w8.drew.heap[g7]? = some (.cells (cc C) 37 (0, 0))) := ⟨H7.out⟩
        have HBD : Aside0 (Below w.heap.size w w8.drew) := ⟨below_drew HB.out⟩
        clear H4 H7 HB hz0 hz1
        generalize w8.drew = WD at *
        have h9 : WD.cell? ⟨g7, 6, none⟩ = some (.int .i64 (C.getD 6 0)) := (cell_in H7D.out 6).trans (cc_get (by rw [HCL.out]; decide))
        have h10 : WD.frozen? ⟨g7, 6, none⟩ = false := free_in H7D.out 6
        refine pure_ (i := 0) (N := (some 66)) (v := ?_) (a' := ?_) #[true, false, false, false, false, false, false, false, false, false, false, false] rfl rfl (by kernel_rfl) (fun _ _ _ h => h) (Or.inl ⟨by rfl, ?_⟩) ?_ ?_
        rotate_left
        · intro w'
          go_simp
          with_reducible rfl
        rotate_left
        · simp only [Act.put, List.setIfInBounds_toArray, List.set_cons_zero, List.set_cons_succ, i64_w, i32_w]
          rfl
        refine pure_ (i := 1) (N := (some 67)) (v := ?_) (a' := ?_) #[true, true, false, false, false, false, false, false, false, false, false, false] rfl rfl (by kernel_rfl) (fun _ _ _ h => h) (Or.inl ⟨by rfl, ?_⟩) ?_ ?_
        rotate_left
        · intro w'
          go_simp
          with_reducible rfl
        rotate_left
        · simp only [Act.put, List.setIfInBounds_toArray, List.set_cons_zero, List.set_cons_succ, i64_w, i32_w]
          rfl
        refine take_ (i := 2) (N := (some 68)) (v := ?_) (a' := ?_) #[true, true, true, false, false, false, false, false, false, false, false, false] rfl rfl (by kernel_rfl) (fun _ _ _ h => h) (Or.inl ⟨by rfl, ?_⟩) hHeld ?_ ?_
        rotate_left
        · rintro w' ⟨s0, s1⟩
          go_simp
          with_reducible rfl
        rotate_left
        · simp only [Act.put, List.setIfInBounds_toArray, List.set_cons_zero, List.set_cons_succ, i64_w, i32_w]
          rfl
        refine pure_ (i := 3) (N := (some 69)) (v := ?_) (a' := ?_) #[true, true, true, true, false, false, false, false, false, false, false, false] rfl rfl (by kernel_rfl) (fun _ _ _ h => h) (Or.inl ⟨by rfl, ?_⟩) ?_ ?_
        rotate_left
        · intro w'
          go_simp
          with_reducible rfl
        rotate_left
        · simp only [Act.put, List.setIfInBounds_toArray, List.set_cons_zero, List.set_cons_succ, i64_w, i32_w]
          rfl
        refine pure_ (i := 4) (N := (some 70)) (v := ?_) (a' := ?_) #[true, true, true, true, true, false, false, false, false, false, false, false] rfl rfl (by kernel_rfl) (fun _ _ _ h => h) (Or.inl ⟨by rfl, ?_⟩) ?_ ?_
        rotate_left
        · intro w'
          go_simp
          with_reducible rfl
        rotate_left
        · simp only [Act.put, List.setIfInBounds_toArray, List.set_cons_zero, List.set_cons_succ, i64_w, i32_w]
          rfl
        refine pure_ (i := 5) (N := (some 71)) (v := ?_) (a' := ?_) #[true, true, true, true, true, true, false, false, false, false, false, false] rfl rfl (by kernel_rfl) (fun _ _ _ h => h) (Or.inl ⟨by rfl, ?_⟩) ?_ ?_
        rotate_left
        · intro w'
          go_simp
          with_reducible rfl
        rotate_left
        · simp only [Act.put, List.setIfInBounds_toArray, List.set_cons_zero, List.set_cons_succ, i64_w, i32_w]
          rfl
        refine pure_ (i := 6) (N := (some 72)) (v := ?_) (a' := ?_) #[true, true, true, true, true, true, true, false, false, false, false, false] rfl rfl (by kernel_rfl) (fun _ _ _ h => h) (Or.inl ⟨by rfl, ?_⟩) ?_ ?_
        rotate_left
        · intro w'
          go_simp
          with_reducible rfl
        rotate_left
        · simp only [Act.put, List.setIfInBounds_toArray, List.set_cons_zero, List.set_cons_succ, i64_w, i32_w]
          rfl
        refine take_ (i := 7) (N := (some 73)) (v := ?_) (a' := ?_) #[true, true, true, true, true, true, true, true, false, false, false, false] rfl rfl (by kernel_rfl) (fun _ _ _ h => h) (Or.inl ⟨by rfl, ?_⟩) hHeld ?_ ?_
        rotate_left
        · rintro w' ⟨s0, s1⟩
          go_simp
          with_reducible rfl
        rotate_left
        · simp only [Act.put, List.setIfInBounds_toArray, List.set_cons_zero, List.set_cons_succ, i64_w, i32_w]
          rfl
        refine pure_ (i := 8) (N := (some 74)) (v := ?_) (a' := ?_) #[true, true, true, true, true, true, true, true, true, false, false, false] rfl rfl (by kernel_rfl) (fun _ _ _ h => h) (Or.inl ⟨by rfl, ?_⟩) ?_ ?_
        rotate_left
        · intro w'
          go_simp
          with_reducible rfl
        rotate_left
        · simp only [Act.put, List.setIfInBounds_toArray, List.set_cons_zero, List.set_cons_succ, i64_w, i32_w]
          rfl
        refine pure_ (i := 9) (N := (some 75)) (v := ?_) (a' := ?_) #[true, true, true, true, true, true, true, true, true, true, false, false] rfl rfl (by kernel_rfl) (fun _ _ _ h => h) (Or.inl ⟨by rfl, ?_⟩) ?_ ?_
        rotate_left
        · intro w'
          go_simp
          with_reducible rfl
        rotate_left
        · simp only [Act.put, List.setIfInBounds_toArray, List.set_cons_zero, List.set_cons_succ, i64_w, i32_w]
          rfl
        refine pure_ (i := 10) (N := (some 76)) (v := ?_) (a' := ?_) #[true, true, true, true, true, true, true, true, true, true, true, false] rfl rfl (by kernel_rfl) (fun _ _ _ h => h) (Or.inl ⟨by rfl, ?_⟩) ?_ ?_
        rotate_left
        · intro w'
          go_simp
          with_reducible rfl
        rotate_left
        · simp only [Act.put, List.setIfInBounds_toArray, List.set_cons_zero, List.set_cons_succ, i64_w, i32_w]
          rfl
        refine last_ (i := 11) (N := none) #[true, true, true, true, true, true, true, true, true, true, true, true] rfl rfl (by kernel_rfl) (by decide) (fun K hK => ?_)
        refine skip_ (w1 := WD.setCell ⟨g7, 6, none⟩ (.int .i64 (atV (rd rest 0) (rd rest 1)))) (by rfl) rfl ?_ ?_
        · go_simp
          rfl
        refine hK.out _ _ ?_
        clear hK K
        refine done_ (by kernel_rfl) ?_
        obtain ⟨W9, hW9⟩ : ∃ W, W = WD.setCell ⟨g7, 6, none⟩ (.int .i64 (atV (rd rest 0) (rd rest 1))) := ⟨_, rfl⟩
        replace H4 : Aside0 (W9.heap[g4]? = some (.cells (cc zero7) 37 (0, 0))) := ⟨by rw [hW9]; exact (set_ne 6 _ (Ne.symm hne)).trans H4D.out⟩
        have H7' : Aside0 (W9.heap[g7]? = some (.cells (cc (C.set 6 (atV (rd rest 0) (rd rest 1)))) 37 (0, 0))) := ⟨by rw [hW9, ← cc_set]; exact set_in H7D.out 6 _⟩
        replace HB : Aside0 (Below w.heap.size w W9) := ⟨by rw [hW9]; exact HBD.out.setCell hg7' _⟩
        have HE : Aside0 (cmdC rest y = C.set 6 (atV (rd rest 0) (rd rest 1))) := ⟨by rw [cmdC, if_pos HG.out, HLE.out, HC.out]⟩
        have HCL2 : Aside0 ((C.set 6 (atV (rd rest 0) (rd rest 1))).length = 7) := ⟨by rw [List.length_set, HCL.out]⟩
        rw [← hW9]
        clear hW9 H4D H7D HBD h9 h10 hHeld HC HCL HOP
        generalize C.set 6 (atV (rd rest 0) (rd rest 1)) = D at *
        obtain ⟨f0, f1, f2, f3, f4, f5, f6, rfl⟩ := list7 D HCL2.out
        clear HCL2
        have H7 := H7'
        clear H7'
        have hF := HF.out
        clear HF
        rw [HE.out] at hF
        replace hF : (cmd_Command_Right.f k f0 f1 f2 f3 f4 f5 f6).bind (fun r => if r = true then some ([f0, f1, f2, f3, f4, f5, f6], wrap64 (wrap64 (at_ + 1) + 2), 0) else some (zero7, 0, 11)) = some r := hF
        obtain ⟨rb, hr1, hr2⟩ := Option.bind_eq_some_iff.mp hF
        rw [hw1] at hr2
        have HR1 := Aside0.mk hr1
        have HR2 := Aside0.mk hr2
        clear hF hr1 hr2
        go_wp2_with (refine wpList_load_row rfl 37 _ rfl g7 rfl 37 _ (0, 0) _ H7.out Tryd.underlying37 rfl (by rw [cc_size]; kernel_rfl) ?_)
        refine (cmd_Command_Right.calls k f0 f1 f2 f3 f4 f5 f6 rb _ HR1.out).mono ?_
        rintro e W10 ⟨rfl, hb10⟩
        replace H4 := Aside0.mk (Kx.below_block hb10 H4.out (lt_of_block H4.out))
        replace H7 := Aside0.mk (Kx.below_block hb10 H7.out (lt_of_block H7.out))
        replace HB := Aside0.mk (below_step HB.out hb10)
        clear hb10
        cases rb with
        | false =>
          have hr := HR2.out
          rw [if_neg (by decide)] at hr
          obtain rfl := Option.some.inj hr
          clear hr
          go_wp2_with (refine wpList_store_row rfl 37 _ _ rfl g4 (cc zero7) rfl rfl 37 _ H4.out (by rw [cc_size]; kernel_rfl) rfl (cc_one _) ?_)
          exact fin_ (C := zero7) rfl rfl rfl rfl rfl (setRow_heap _ _ _ _ _ _ H4.out) (Kx.below_setRow HB.out hg4')
        | true =>
          have hr := HR2.out
          rw [if_pos rfl] at hr
          obtain rfl := Option.some.inj hr
          clear hr
          go_wp2_with (first | (refine wpList_load_row rfl 37 _ rfl g7 rfl 37 _ (0, 0) _ H7.out Tryd.underlying37 rfl (by rw [cc_size]; kernel_rfl) ?_) | (refine wpList_store_row rfl 37 _ _ rfl g4 (cc [f0, f1, f2, f3, f4, f5, f6]) rfl rfl 37 _ H4.out (by rw [cc_size]; kernel_rfl) rfl (cc_one _) ?_))
          exact fin_ (C := [f0, f1, f2, f3, f4, f5, f6]) rfl rfl rfl rfl rfl (setRow_heap _ _ _ _ _ _ H4.out) (Kx.below_setRow HB.out hg4')
  · have hg : goesF y = false := by simpa using hg
    have hn : needI y = (L.length : Int) := by rw [needI, if_neg (by simp [hg]), HLE.out]
    rw [hn] at HF
    have HG := Aside0.mk hg
    rw [hg]
    clear hg
    by_cases h6 : (rest.length : Int) < (L.length : Int)
    · have e : r = (zero7, 0, 10) := by
        have := HF.out
        rw [if_pos h6] at this
        exact (Option.some.inj this).symm
      subst e
      have c6 : decide ((rest.length : Int) < (L.length : Int)) = true := decide_eq_true h6
      have c6n : decide (rest.length < L.length) = true := decide_eq_true (by omega)
      clear h6
      go_wp2_with (refine wpList_store_row rfl 37 _ _ rfl g4 (cc zero7) rfl rfl 37 _ H4.out (by rw [cc_size]; kernel_rfl) rfl (cc_one _) ?_)
      exact fin_ (C := zero7) rfl rfl rfl rfl rfl (setRow_heap _ _ _ _ _ _ H4.out) (Kx.below_setRow HB.out hg4')
    have hF := HF.out
    clear HF
    rw [if_neg h6] at hF
    have HF := Aside0.mk hF
    clear hF
    have c6 : decide ((rest.length : Int) < (L.length : Int)) = false := decide_eq_false h6
    have c6n : decide (rest.length < L.length) = false := decide_eq_false (by omega)
    have H6 := Aside0.mk h6
    clear h6
    go_wp2_with fail
    refine (bytes_any y g7 _ w6 H7.out rfl).mono ?_
    rintro e w7 ⟨v7, rfl, hp7, hb7⟩
    rw [HLE.out] at hp7
    obtain ⟨A7, rfl, hr7⟩ := ptrs_form hp7
    replace H4 := Aside0.mk (Kx.below_block hb7 H4.out (lt_of_block H4.out))
    replace H7 := Aside0.mk (Kx.below_block hb7 H7.out (lt_of_block H7.out))
    replace HB := Aside0.mk (below_step HB.out hb7)
    have HP := Aside0.mk hr7
    clear hb7 hp7 hr7 c6
    (try clear c6n)
    go_wp2_with fail
    go_loopw [10, 11, 52] (fun v10 v11 v52 wr => ∃ j : Nat, j ≤ L.length ∧ v52 = .int .i64 j ∧ wr.heap[g4]? = some (.cells (cc zero7) 37 (0, 0)) ∧ wr.heap[g7]? = some (.cells (cc (fillK L rest y j)) 37 (0, 0)) ∧ Below w.heap.size w wr ∧ ∀ j, j < L.length → ∃ hh, A7 = some ⟨hh, 0, none⟩ ∧ hh ≠ g7 ∧ wr.cell? ⟨hh, j, none⟩ = some (.pointer (some ⟨g7, L.getD j 0, none⟩))) (fun v10 v11 v52 _ => L.length - (intOf v52).toNat)
    case atStart => exact ⟨0, by omega, rfl, H4.out, H7.out, HB.out, HP.out⟩
    case round =>
      obtain ⟨j, hj, rfl, h4, h7, hB, hP⟩ := hrel
      clear H4 H7 HB HP
      have H4 := Aside0.mk h4
      have H7 := Aside0.mk h7
      have HB := Aside0.mk hB
      have HP := Aside0.mk hP
      clear h4 h7 hB hP
      by_cases hlt : (j : Int) < (L.length : Int)
      · have hjn : j < L.length := by omega
        have c8 : decide ((j : Int) < (L.length : Int)) = true := decide_eq_true hlt
        obtain ⟨hh, rfl, hhne, hp8⟩ := HP.out j hjn
        have ho := HLA.out j hjn
        have HS : Aside0 (fillK L rest y (j + 1) = (fillK L rest y j).set (L.getD j 0) (wrap64 (rd rest (j : Int)))) := ⟨rfl⟩
        obtain ⟨o, hoo⟩ : ∃ o, L.getD j 0 = o := ⟨_, rfl⟩
        rw [hoo] at hp8 ho HS
        have hjr : (j : Int) < (rest.length : Int) := by have := H6.out; omega
        obtain ⟨ad2, rfl, hz2⟩ := Kd.at_int (Kd.C_below HR.out HB.out) (j : Int) (by omega) hjr
        rw [Int.toNat_natCast] at hz2
        obtain ⟨z, hzz⟩ : ∃ z, rd rest (j : Int) = z := ⟨_, rfl⟩
        rw [hzz] at hz2 HS
        obtain ⟨C, hC⟩ : ∃ C, fillK L rest y j = C := ⟨_, rfl⟩
        have hCl : C.length = 7 := by rw [← hC, fillK_len]
        rw [hC] at H7 HS
        have h9 : wr.cell? ⟨g7, o, none⟩ = some (.int .i64 (C.getD o 0)) := (cell_in H7.out o).trans (cc_get (by omega))
        have h10 : wr.frozen? ⟨g7, o, none⟩ = false := free_in H7.out o
        have p8 : ((0 : Int) ≤ (j : Int)) = True := eq_true (by omega)
        have q8 : ((j : Int) < (L.length : Int)) = True := eq_true hlt
        have q9 : ((j : Int) < (rest.length : Int)) = True := eq_true hjr
        have c8n : decide (j < L.length) = true := decide_eq_true hjn
        have p8n : (j < L.length) = True := eq_true hjn
        have q9n : (j < rest.length) = True := eq_true (Int.ofNat_lt.mp hjr)
        have HN := Aside0.mk hjn
        have HO := Aside0.mk ho
        have HCL := Aside0.mk hCl
        clear hlt hj hjn ho hoo hzz hC hCl
        go_wp2_with fail
        have hset := set_in H7.out o (.int .i64 (wrap64 z))
        refine ⟨⟨j + 1, by have := HN.out; omega, by simp, ?_, ?_, ?_, ?_⟩, by have := HN.out; simp [intOf]; omega⟩
        · exact (set_ne o _ (Ne.symm hne)).trans H4.out
        · rw [hset, cc_set, HS.out]
        · exact HB.out.setCell hg7' _
        · intro j' hj'
          obtain ⟨h2, e2, h3, h4⟩ := HP.out j' hj'
          refine ⟨h2, e2, h3, ?_⟩
          exact cell_ne h3 h4
      · obtain rfl : j = L.length := by omega
        have c8 : decide (((L.length : Nat) : Int) < (L.length : Int)) = false := decide_eq_false hlt
        have c8n : decide (L.length < L.length) = false := decide_eq_false (by omega)
        clear hlt hj
        go_wp2_with fail
        have HOP : Aside0 ((fillK L rest y L.length).getD 0 0 = y) := ⟨by rw [← HLE.out]; exact fillK_zero y rest _ (Nat.le_refl _)⟩
        refine (goes_any y g7 _ wr H7.out (by rw [cc_get (by rw [fillK_len]; decide), HOP.out])).mono ?_
        rintro e w8 ⟨rfl, rfl⟩
        rw [HG.out]
        clear HP c8 c8n
        obtain ⟨C, hC⟩ : ∃ C, fillK L rest y L.length = C := ⟨_, rfl⟩
        have HCL : Aside0 (C.length = 7) := ⟨by rw [← hC, fillK_len]⟩
        rw [hC] at H7 HOP
        have HC := Aside0.mk hC
        clear hC
        have HE : Aside0 (cmdC rest y = C) := ⟨by rw [cmdC, if_neg (by rw [HG.out]; decide), HLE.out, HC.out]⟩
        clear HC HOP
        obtain ⟨f0, f1, f2, f3, f4, f5, f6, rfl⟩ := list7 C HCL.out
        clear HCL
        have hF := HF.out
        clear HF
        rw [HE.out] at hF
        replace hF : (cmd_Command_Right.f k f0 f1 f2 f3 f4 f5 f6).bind (fun r => if r = true then some ([f0, f1, f2, f3, f4, f5, f6], wrap64 (wrap64 (at_ + 1) + (L.length : Int)), 0) else some (zero7, 0, 11)) = some r := hF
        obtain ⟨rb, hr1, hr2⟩ := Option.bind_eq_some_iff.mp hF
        rw [hw1] at hr2
        have HR1 := Aside0.mk hr1
        have HR2 := Aside0.mk hr2
        clear hF hr1 hr2
        go_wp2_with (refine wpList_load_row rfl 37 _ rfl g7 rfl 37 _ (0, 0) _ H7.out Tryd.underlying37 rfl (by rw [cc_size]; kernel_rfl) ?_)
        refine (cmd_Command_Right.calls k f0 f1 f2 f3 f4 f5 f6 rb _ HR1.out).mono ?_
        rintro e W10 ⟨rfl, hb10⟩
        replace H4 := Aside0.mk (Kx.below_block hb10 H4.out (lt_of_block H4.out))
        replace H7 := Aside0.mk (Kx.below_block hb10 H7.out (lt_of_block H7.out))
        replace HB := Aside0.mk (below_step HB.out hb10)
        clear hb10
        cases rb with
        | false =>
          have hr := HR2.out
          rw [if_neg (by decide)] at hr
          obtain rfl := Option.some.inj hr
          clear hr
          go_wp2_with (refine wpList_store_row rfl 37 _ _ rfl g4 (cc zero7) rfl rfl 37 _ H4.out (by rw [cc_size]; kernel_rfl) rfl (cc_one _) ?_)
          exact fin_ (C := zero7) rfl rfl rfl rfl rfl (setRow_heap _ _ _ _ _ _ H4.out) (Kx.below_setRow HB.out hg4')
        | true =>
          have hr := HR2.out
          rw [if_pos rfl] at hr
          obtain rfl := Option.some.inj hr
          clear hr
          go_wp2_with (first | (refine wpList_load_row rfl 37 _ rfl g7 rfl 37 _ (0, 0) _ H7.out Tryd.underlying37 rfl (by rw [cc_size]; kernel_rfl) ?_) | (refine wpList_store_row rfl 37 _ _ rfl g4 (cc [f0, f1, f2, f3, f4, f5, f6]) rfl rfl 37 _ H4.out (by rw [cc_size]; kernel_rfl) rfl (cc_one _) ?_))
          exact fin_ (C := [f0, f1, f2, f3, f4, f5, f6]) rfl rfl rfl rfl rfl (setRow_heap _ _ _ _ _ _ H4.out) (Kx.below_setRow HB.out hg4')

end Go.Proofs.YtmoodblpgnnenaaDoor.PWe
