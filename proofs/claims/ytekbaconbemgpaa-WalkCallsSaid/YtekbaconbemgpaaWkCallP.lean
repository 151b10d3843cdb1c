/- WalkCalls, in plain words: a body that is called comes to the same windows. Helper text. -/
import Derived.Test.YtekbaconbemgpaaWkPure4
namespace Go.Proofs.Ytekbaconbemgpaa.PWe
open Go.RowKit Go.Proofs.YtekbaconbemgpaaW.PrintWords Go.Proofs.YtekbaconbemgpaaW.PrintLast Go.Proofs.YtekbaconbemgpaaW.PrintMore
set_option linter.unusedVariables false
set_option linter.unusedSimpArgs false

/-- One command, as it stands in a text's bytes, far enough from its end. -/
theorem readP_in {b : List Int} {i : Nat} {op : Int} (hi : i < b.length) (hop : rd b (i : Int) = op) (h8 : op ≤ 8) (hl : (i : Int) + longP op ≤ (b.length : Int)) : readP b (i : Int) = if rightL (cmdP b (i : Int) op) = true then (cmdP b (i : Int) op, (i : Int) + longP op, 0) else (zero7, 0, 11) := by
  rw [readP, if_neg (by omega), if_neg (by omega), hop, if_neg (by omega), if_neg (by omega)]
/-- The same bytes at two places: the same command. -/
theorem cmdP_same {b c : List Int} {i j : Int} {op : Int} (h : ∀ k : Int, 0 ≤ k → k < longP op → rd b (i + k) = rd c (j + k)) : cmdP b i op = cmdP c j op := by
  have h1 := h 1
  have h2 := h 2
  have h3 := h 3
  have h4 := h 4
  unfold longP at h1 h2 h3 h4
  unfold cmdP
  repeat' split
  all_goals simp_all
  all_goals (try (rename_i hh; rcases hh with hh | hh <;> simp_all))
theorem rd_app1 {a b : List Int} {k : Int} (h0 : 0 ≤ k) (h : k < (a.length : Int)) : rd (a ++ b) k = rd a k := by
  obtain ⟨n, rfl⟩ := Int.eq_ofNat_of_zero_le h0
  unfold rd
  rw [Int.toNat_natCast, List.getD_eq_getElem?_getD, List.getD_eq_getElem?_getD, List.getElem?_append_left (by omega)]
theorem rd_app2 {a b : List Int} {k : Int} (h0 : 0 ≤ k) : rd (a ++ b) ((a.length : Int) + k) = rd b k := by
  obtain ⟨n, rfl⟩ := Int.eq_ofNat_of_zero_le h0
  unfold rd
  rw [show (a.length : Int) + (n : Int) = ((a.length + n : Nat) : Int) by omega, Int.toNat_natCast, Int.toNat_natCast, List.getD_eq_getElem?_getD, List.getD_eq_getElem?_getD, List.getElem?_append_right (by omega), Nat.add_sub_cancel_left]
/-- A chain of plain commands from a place to another one. -/
inductive Chain (b : List Int) : Int → Int → List (List Int) → Prop where
  | here (i : Int) : Chain b i i []
  | next {i j : Int} {op : Int} {l : List (List Int)} (h0 : 0 ≤ i) (hop : rd b i = op) (h1 : 1 ≤ op) (h5 : op ≤ 5) (hl : i + longP op ≤ j) (hr : rightL (cmdP b i op) = true) (h : Chain b (i + longP op) j l) : Chain b i j (cmdP b i op :: l)
theorem longP_bd (op : Int) : 1 ≤ longP op ∧ longP op ≤ 5 := by unfold longP; repeat' split <;> omega
theorem Chain.le {b : List Int} {i j : Int} {l : List (List Int)} (h : Chain b i j l) : i ≤ j := by
  induction h with
  | here i => omega
  | next h0 hop h1 h5 hl hr h ih =>
    rename_i op _
    have := longP_bd op
    omega
theorem Chain.len {b : List Int} {i j : Int} {l : List (List Int)} (h : Chain b i j l) : (l.length : Int) ≤ j - i := by
  induction h with
  | here i => simp
  | next h0 hop h1 h5 hl hr h ih =>
    rename_i op _
    have := (longP_bd op).1
    rw [List.length_cons]
    omega
theorem Chain.snoc {b : List Int} {i j : Int} {op : Int} {l : List (List Int)} (h : Chain b i j l) (h0 : 0 ≤ j) (hop : rd b j = op) (h1 : 1 ≤ op) (h5 : op ≤ 5) (hr : rightL (cmdP b j op) = true) : Chain b i (j + longP op) (l ++ [cmdP b j op]) := by
  induction h with
  | here i => exact Chain.next h0 hop h1 h5 (Int.le_refl _) hr (Chain.here _)
  | next h0' hop' h1' h5' hl' hr' h' ih =>
    have := (longP_bd op).1
    exact Chain.next h0' hop' h1' h5' (by omega) hr' (ih h0 hop hr)
/-- A chain in other bytes. -/
theorem Chain.move {b c : List Int} {i j d : Int} {l : List (List Int)} (h : Chain b i j l) (hd : 0 ≤ i + d) (hs : ∀ k : Int, i ≤ k → k < j → rd c (k + d) = rd b k) : Chain c (i + d) (j + d) l := by
  induction h with
  | here i => exact Chain.here _
  | next h0 hop h1 h5 hl hr h ih =>
    rename_i i j op l
    have hp := (longP_bd op).1
    have hsame : cmdP c (i + d) op = cmdP b i op := cmdP_same fun k hk0 hk1 => by
      rw [show i + d + k = (i + k) + d by omega]
      exact hs (i + k) (by omega) (by omega)
    have ih2 := ih (by omega) fun k h1 h2 => hs k (by omega) h2
    have e := Chain.next (b := c) (i := i + d) (j := j + d) (op := op) (l := l) hd ((hs i (Int.le_refl _) (by omega)).trans hop) h1 h5 (by omega) (by rw [hsame]; exact hr) (by rw [show i + d + longP op = i + longP op + d by omega]; exact ih2)
    rwa [hsame] at e
/-- What a walk comes to by plain commands: the windows, or too many of them. -/
def adds (md : Int) : List (List Int) → List S76 → Option (List S76)
  | [], out => some out
  | C :: l, out => match windowP md (C.getD 0 0) (C.getD 1 0) (C.getD 2 0) (C.getD 3 0) (C.getD 4 0) (C.getD 5 0) with
    | some x => if 32 ≤ (out.length : Int) then none else adds md l (out ++ [x])
    | none => adds md l out
theorem turn_plain {op t nx : Int} {back : List Int} (h1 : 1 ≤ op) (h5 : op ≤ 5) : turnF op t nx back = (0, nx, back) := by
  unfold turnF
  rw [if_neg (by omega), if_neg (by omega), if_neg (by omega)]
theorem cmdP_op (b : List Int) (i op : Int) : (cmdP b i op).getD 0 0 = op := by
  unfold cmdP
  by_cases h1 : op = 1
  · rw [if_pos h1]; rfl
  rw [if_neg h1]
  by_cases h2 : op = 2
  · rw [if_pos h2]; rfl
  rw [if_neg h2]
  by_cases h3 : op = 3
  · rw [if_pos h3]; rfl
  rw [if_neg h3]
  by_cases h4 : op = 4
  · rw [if_pos h4]; rfl
  rw [if_neg h4]
  by_cases h6 : op = 6 ∨ op = 8
  · rw [if_pos h6]; rfl
  rw [if_neg h6]; rfl
theorem win_chain (md : Int) {b : List Int} (hb : Bytes b) (hbl : b.length ≤ 100000) {i j : Int} {l : List (List Int)} (h : Chain b i j l) : ∀ (n : Nat) (back : List Int) (out : List S76), j ≤ (b.length : Int) →
    winL md b (n + l.length) i back out = match adds md l out with | some out' => winL md b n j back out' | none => some ([], 15) := by
  induction h with
  | here i => intro n back out hj; rfl
  | next h0 hop h1 h5 hl hr h ih =>
    rename_i i j op l
    intro n back out hj
    have hp := longP_bd op
    obtain ⟨m, rfl⟩ := Int.eq_ofNat_of_zero_le h0
    have hrd : readP b (m : Int) = (cmdP b (m : Int) op, (m : Int) + longP op, 0) := by rw [readP_in (by omega) hop (by omega) (by omega), if_pos hr]
    rw [List.length_cons, show n + (l.length + 1) = (n + l.length) + 1 by omega, winL, readF_is hb hbl, Option.bind_some, hrd]
    have hC : CmdOK (cmdP b (m : Int) op) := cmd_ok hr
    simp only
    rw [if_pos trivial, cmdP_op, if_neg (by omega), turn_plain h1 h5]
    simp only
    rw [if_pos trivial]
    have hm : 0 ≤ (cmdP b (m : Int) op).getD 4 0 ∧ (cmdP b (m : Int) op).getD 4 0 ≤ 4 := by
      obtain ⟨op', a, w, c, mm, bi, t, e, hrr, hmm, -⟩ := hC
      rw [e]
      have h3 := (rightP_iff _ _ _ _ _ _ _).1 hrr
      show 0 ≤ mm ∧ mm ≤ 4
      by_cases hq : op' = 1 ∨ op' = 2 ∨ op' = 3
      · have := (h3.2.1 hq).2; omega
      · have := hmm hq; omega
    rw [window_f _ _ _ _ _ _ _ _ hm.1 hm.2, Option.bind_some, adds, cmdP_op]
    cases hw : windowP md op ((cmdP b (m : Int) op).getD 1 0) ((cmdP b (m : Int) op).getD 2 0) ((cmdP b (m : Int) op).getD 3 0) ((cmdP b (m : Int) op).getD 4 0) ((cmdP b (m : Int) op).getD 5 0) with
    | none =>
      rw [if_neg (by simp [tup])]
      exact ih n back out hj
    | some x =>
      rw [if_pos (by simp [tup])]
      simp only
      split
      · rfl
      · exact ih n back _ hj
theorem Bytes.append {a b : List Int} (ha : Bytes a) (hb : Bytes b) : Bytes (a ++ b) := fun x hx => by
  rcases List.mem_append.1 hx with h | h
  · exact ha x h
  · exact hb x h
def plainB (a b : List Int) : List Int := (a ++ b) ++ [0]
def calledB (a b : List Int) : List Int := ((a ++ [6, 0, (a.length : Int) + 4, 0]) ++ b) ++ [7]
theorem plain_bytes {a b : List Int} (ha : Bytes a) (hb : Bytes b) : Bytes (plainB a b) := (ha.append hb).append (fun x hx => by obtain rfl := List.mem_singleton.1 hx; decide)
theorem called_bytes {a b : List Int} (ha : Bytes a) (hb : Bytes b) (hl : a.length ≤ 200) : Bytes (calledB a b) := ((ha.append (fun x hx => by
  simp only [List.mem_cons, List.not_mem_nil, or_false] at hx
  omega)).append hb).append (fun x hx => by obtain rfl := List.mem_singleton.1 hx; decide)
theorem rd_called_a {a b : List Int} {k : Int} (h0 : 0 ≤ k) (h : k < (a.length : Int)) : rd (calledB a b) k = rd (a ++ b) k := by
  unfold calledB
  rw [rd_app1 h0 (by simp; omega), rd_app1 h0 (by simp; omega), rd_app1 h0 h, rd_app1 h0 h]
theorem rd_called_b {a b : List Int} {k : Int} (h0 : (a.length : Int) ≤ k) (h : k < (a.length : Int) + (b.length : Int)) : rd (calledB a b) (k + 4) = rd (a ++ b) k := by
  unfold calledB
  obtain ⟨d, rfl⟩ : ∃ d, k = (a.length : Int) + d := ⟨k - a.length, by omega⟩
  rw [rd_app1 (by omega) (by simp; omega), show (a.length : Int) + d + 4 = ((a ++ [6, 0, (a.length : Int) + 4, 0]).length : Int) + d by simp; omega, rd_app2 (by omega), rd_app2 (by omega)]
theorem rd_called_m {a b : List Int} {k : Int} (h0 : 0 ≤ k) (h : k < 4) : rd (calledB a b) ((a.length : Int) + k) = rd [6, 0, (a.length : Int) + 4, 0] k := by
  unfold calledB
  rw [rd_app1 (by omega) (by simp; omega), rd_app1 (by omega) (by simp; omega), rd_app2 h0]
theorem rd_called_e {a b : List Int} : rd (calledB a b) ((a.length : Int) + 4 + (b.length : Int)) = 7 := by
  unfold calledB
  rw [show (a.length : Int) + 4 + (b.length : Int) = (((a ++ [6, 0, (a.length : Int) + 4, 0]) ++ b).length : Int) + 0 by simp; omega, rd_app2 (by omega)]
  rfl
theorem rd_plain {a b : List Int} {k : Int} (h0 : 0 ≤ k) (h : k < (a.length : Int) + (b.length : Int)) : rd (plainB a b) k = rd (a ++ b) k := by
  unfold plainB
  rw [rd_app1 h0 (by simp; omega)]
theorem rd_plain_e {a b : List Int} : rd (plainB a b) ((a.length : Int) + (b.length : Int)) = 0 := by
  unfold plainB
  rw [show (a.length : Int) + (b.length : Int) = ((a ++ b).length : Int) + 0 by simp, rd_app2 (by omega)]
  rfl
theorem plain_len (a b : List Int) : (plainB a b).length = a.length + b.length + 1 := by simp [plainB]; omega
theorem called_len (a b : List Int) : (calledB a b).length = a.length + b.length + 5 := by simp [calledB]; omega
theorem end_step (md : Int) {c : List Int} (hc : Bytes c) (hl : c.length ≤ 100000) {i : Nat} (hi : i < c.length) (h : rd c (i : Int) = 0) (n : Nat) (back : List Int) (out : List S76) : winL md c (n + 1) (i : Int) back out = some (out, 0) := by
  have hr : readP c (i : Int) = ([0, 0, 0, 0, 0, 0, 0], (i : Int) + 1, 0) := by
    rw [readP_in hi h (by decide) (by rw [show longP 0 = 1 from by decide]; omega)]
    rfl
  rw [winL, readF_is hc hl, Option.bind_some, hr]
  rfl
theorem calls_same {a b : List Int} (ha : Bytes a) (hb : Bytes b) (hla : a.length ≤ 200) (hlb : b.length ≤ 200) {la lb : List (List Int)} (h1 : Chain (a ++ b) 0 (a.length : Int) la) (h2 : Chain (a ++ b) (a.length : Int) ((a.length : Int) + (b.length : Int)) lb) {v : Int} (hv0 : 0 ≤ v) (hv1 : v < 2) :
    walk_Windows.f 1 0 0 (calledB a b) v = walk_Windows.f 1 0 0 (plainB a b) v := by
  have hpb := plain_bytes ha hb
  have hcb := called_bytes ha hb hla
  have hpl := plain_len a b
  have hcl := called_len a b
  have n1 := h1.len
  have n2 := h2.len
  have P : ∀ n : Nat, 500 < n → winL 1 (plainB a b) n 0 [] [] = match adds 1 la [] with | some o => (match adds 1 lb o with | some o' => some (o', 0) | none => some ([], 15)) | none => some ([], 15) := by
    intro n hn
    have c1 := h1.move (c := plainB a b) (d := 0) (by omega) (fun k h0 h3 => by rw [Int.add_zero]; exact rd_plain h0 (by omega))
    have c2 := h2.move (c := plainB a b) (d := 0) (by omega) (fun k h0 h3 => by rw [Int.add_zero]; exact rd_plain (by omega) h3)
    rw [Int.add_zero, Int.add_zero] at c1 c2
    obtain ⟨m, rfl⟩ : ∃ m, n = m + 1 + lb.length + la.length := ⟨n - 1 - lb.length - la.length, by omega⟩
    rw [win_chain 1 hpb (by omega) c1 _ _ _ (by omega)]
    cases adds 1 la [] with
    | none => rfl
    | some o =>
      simp only
      rw [win_chain 1 hpb (by omega) c2 _ _ _ (by omega)]
      cases adds 1 lb o with
      | none => rfl
      | some o' =>
        simp only
        have := end_step 1 hpb (by omega) (i := a.length + b.length) (by omega) (by rw [← rd_plain_e (a := a) (b := b)]; congr 1) m [] o'
        rw [← this]
        congr 1
  have C : ∀ n : Nat, 500 < n → winL 1 (calledB a b) n 0 [] [] = match adds 1 la [] with | some o => (match adds 1 lb o with | some o' => some (o', 0) | none => some ([], 15)) | none => some ([], 15) := by
    intro n hn
    have c1 := h1.move (c := calledB a b) (d := 0) (by omega) (fun k h0 h3 => by rw [Int.add_zero]; exact rd_called_a h0 h3)
    have c2 := h2.move (c := calledB a b) (d := 4) (by omega) (fun k h0 h3 => rd_called_b h0 h3)
    rw [Int.add_zero, Int.add_zero] at c1
    obtain ⟨m, rfl⟩ : ∃ m, n = m + 1 + 1 + lb.length + 1 + la.length := ⟨n - 3 - lb.length - la.length, by omega⟩
    rw [win_chain 1 hcb (by omega) c1 _ _ _ (by omega)]
    cases adds 1 la [] with
    | none => rfl
    | some o =>
      simp only
      have q0 : rd (calledB a b) ((a.length : Nat) : Int) = 6 := by
        have := rd_called_m (a := a) (b := b) (k := 0) (by decide) (by decide)
        rw [Int.add_zero] at this
        rw [this]; rfl
      have q1 := rd_called_m (a := a) (b := b) (k := 1) (by decide) (by decide)
      have q2 := rd_called_m (a := a) (b := b) (k := 2) (by decide) (by decide)
      have hr : readP (calledB a b) ((a.length : Nat) : Int) = ([6, 0, 0, 0, 0, 0, (a.length : Int) + 4], (a.length : Int) + 3, 0) := by
        have hc6 : cmdP (calledB a b) ((a.length : Nat) : Int) 6 = [6, 0, 0, 0, 0, 0, (a.length : Int) + 4] := by
          unfold cmdP
          rw [if_neg (by decide), if_neg (by decide), if_neg (by decide), if_neg (by decide), if_pos (by decide), q1, q2]
          show [(6 : Int), 0, 0, 0, 0, 0, 256 * 0 + ((a.length : Int) + 4)] = _
          rw [show (256 : Int) * 0 + ((a.length : Int) + 4) = (a.length : Int) + 4 by omega]
        rw [readP_in (by omega) q0 (by decide) (by rw [show longP 6 = 3 from by decide]; omega), hc6, if_pos (by show rightP 6 0 0 0 0 0 ((a.length : Int) + 4) = true; rw [rightP_iff]; omega)]
        rfl
      rw [winL, readF_is hcb (by omega), Option.bind_some, hr]
      simp only [List.getD_cons_zero, List.getD_cons_succ]
      rw [if_pos trivial, if_neg (by decide)]
      have ht : turnF 6 ((a.length : Int) + 4) ((a.length : Int) + 3) [] = (0, (a.length : Int) + 4, [(a.length : Int) + 3]) := rfl
      rw [ht]
      simp only
      rw [if_pos trivial, window_f _ _ _ _ _ _ _ _ (by decide) (by decide), Option.bind_some]
      show winL 1 (calledB a b) (m + 1 + 1 + lb.length) ((a.length : Int) + 4) [(a.length : Int) + 3] o = _
      rw [win_chain 1 hcb (by omega) c2 _ _ _ (by omega)]
      cases adds 1 lb o with
      | none => rfl
      | some o' =>
        simp only
        have e7 : (a.length : Int) + (b.length : Int) + 4 = ((a.length + b.length + 4 : Nat) : Int) := by omega
        have q7 : rd (calledB a b) ((a.length + b.length + 4 : Nat) : Int) = 7 := by rw [← rd_called_e (a := a) (b := b)]; congr 1; omega
        have hr7 : readP (calledB a b) ((a.length + b.length + 4 : Nat) : Int) = ([7, 0, 0, 0, 0, 0, 0], ((a.length + b.length + 4 : Nat) : Int) + 1, 0) := by
          rw [readP_in (by omega) q7 (by decide) (by rw [show longP 7 = 1 from by decide]; omega)]
          rfl
        rw [e7, winL, readF_is hcb (by omega), Option.bind_some, hr7]
        simp only [List.getD_cons_zero, List.getD_cons_succ]
        rw [if_pos trivial, if_neg (by decide)]
        have ht : turnF 7 0 (((a.length + b.length + 4 : Nat) : Int) + 1) [(a.length : Int) + 3] = (0, (a.length : Int) + 3, []) := rfl
        rw [ht]
        simp only
        rw [if_pos trivial, window_f _ _ _ _ _ _ _ _ (by decide) (by decide), Option.bind_some]
        show winL 1 (calledB a b) (m + 1) ((a.length : Int) + 3) [] o' = _
        have q3 := rd_called_m (a := a) (b := b) (k := 3) (by decide) (by decide)
        have := end_step 1 hcb (by omega) (i := a.length + 3) (by omega) (by rw [show ((a.length + 3 : Nat) : Int) = (a.length : Int) + 3 by omega, q3]; rfl) m [] o'
        rw [← this]
        congr 1
  unfold walk_Windows.f
  have hz : (if v = 0 then (0 : Int) else 0) = 0 := by split <;> rfl
  have r1 : image_Image_Right.f 1 0 0 (calledB a b) = some true := by rw [right_is, decide_eq_true (by omega)]
  have r2 : image_Image_Right.f 1 0 0 (plainB a b) = some true := by rw [right_is, decide_eq_true (by omega)]
  have hv : ∀ x : Option (List S76 × Int), (if v < 0 then some ([], 2) else if 2 ≤ v then some ([], 2) else x) = x := fun x => by rw [if_neg (by omega), if_neg (by omega)]
  rw [r1, r2, Option.bind_some, Option.bind_some, if_pos rfl, if_pos rfl, hz, hv, hv, P 4096 (by decide), C 4096 (by decide)]
end Go.Proofs.Ytekbaconbemgpaa.PWe
