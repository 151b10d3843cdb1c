/- cmd's plain laws: what is right, what is read; cmd.Put, cmd.Clean walked. Helper text. -/
import Derived.Test.YtmoodblpgnnenaaDoorWkRead
import Derived.Test.YtmoodblpgnnenaaDoorWhDraw
import Derived.Test.YtmoodblpgnnenaaDoorCbWrd
namespace Go.Proofs.YtmoodblpgnnenaaDoor.PWe
open Go.RowKit Go.Proofs.YtmoodblpgnnenaaDoor.Kx Go.Proofs.YtmoodblpgnnenaaDoorW.PrintWords Go.Proofs.YtmoodblpgnnenaaDoorW.PrintLast Go.Proofs.YtmoodblpgnnenaaDoorW.PrintMore
set_option linter.unusedVariables false
set_option linter.unusedSimpArgs false
def b2 (n : Int) : List Int := [n / 256 % 256, n % 256]
theorem wr {x : Int} (h0 : -9223372036854775808 ≤ x) (h1 : x < 9223372036854775808) : wrap64 x = x := by unfold wrap64; omega
theorem up {i : Nat} (h : i < 9000000000000000000) : wrap64 ((i : Int) + 1) = ((i + 1 : Nat) : Int) := by unfold wrap64; omega
theorem rd_at {l : List Int} {i : Nat} (h : i < l.length) : rd l (i : Int) = l[i] := by
  unfold rd
  rw [Int.toNat_natCast, List.getD_eq_getElem?_getD, List.getElem?_eq_getElem h]; rfl
def Bytes (b : List Int) : Prop := ∀ x ∈ b, 0 ≤ x ∧ x ≤ 255
theorem Bytes.at {b : List Int} (h : Bytes b) (i : Int) : 0 ≤ rd b i ∧ rd b i ≤ 255 := by
  unfold rd
  rw [List.getD_eq_getElem?_getD]
  cases hq : b[i.toNat]? with
  | none => decide
  | some x => exact h x (List.mem_of_getElem? hq)
theorem or256 (a b : Int) (ha : 0 ≤ a ∧ a ≤ 255) (hb : 0 ≤ b ∧ b ≤ 255) : bits BinOp.or IntKind.i64 (a * 256) b = 256 * a + b := by
  obtain ⟨m, rfl⟩ := Int.eq_ofNat_of_zero_le ha.1
  obtain ⟨n, rfl⟩ := Int.eq_ofNat_of_zero_le hb.1
  have key : (BitVec.ofInt 64 ((m : Int) * 256) ||| BitVec.ofInt 64 (n : Int)).toNat = 256 * m + n := by
    rw [BitVec.toNat_or, BitVec.toNat_ofInt, BitVec.toNat_ofInt]
    have h1 : ((m : Int) * 256 % ((2 ^ 64 : Nat) : Int)).toNat = 2 ^ 8 * m := by omega
    have h2 : ((n : Int) % ((2 ^ 64 : Nat) : Int)).toNat = n := by omega
    rw [h1, h2, ← Nat.two_pow_add_eq_or_of_lt (by omega)]
  show IntKind.i64.wrap ((BitVec.ofInt 64 ((m : Int) * 256) ||| BitVec.ofInt 64 (n : Int)).toNat : Nat) = _
  rw [key, IntKind.wrap_i64]
  omega
/-- May a command be? -/
def rightP (op a w c m bi t : Int) : Bool :=
  if op < 0 ∨ op > 8 then false else if (op = 1 ∨ op = 2 ∨ op = 3) ∧ (w < 1 ∨ w > 8 ∨ m < 1 ∨ m > 4) then false else
  if (op = 1 ∨ op = 2) ∧ (a < 0 ∨ a > 64 - w) then false else if op = 1 ∧ (c < 0 ∨ c ≥ m) then false else if op = 4 ∧ (bi < 1 ∨ bi > 100) then false else decide ((op ≠ 6 ∧ op ≠ 8) ∨ 0 ≤ t ∧ t ≤ 1023)
theorem within_f (a b c : Int) : cmd_within.f a b c = some (decide (b ≤ a ∧ a ≤ c)) := by
  unfold cmd_within.f
  by_cases h : a ≥ b
  · rw [if_pos h]; congr 1; simp [h]
  · rw [if_neg h]; congr 1; simp; omega
theorem rightP_iff (op a w c m bi t : Int) : rightP op a w c m bi t = true ↔ (0 ≤ op ∧ op ≤ 8) ∧ ((op = 1 ∨ op = 2 ∨ op = 3) → (1 ≤ w ∧ w ≤ 8) ∧ 1 ≤ m ∧ m ≤ 4) ∧ ((op = 1 ∨ op = 2) → 0 ≤ a ∧ a ≤ 64 - w) ∧ (op = 1 → 0 ≤ c ∧ c < m) ∧ (op = 4 → 1 ≤ bi ∧ bi ≤ 100) ∧ ((op = 6 ∨ op = 8) → 0 ≤ t ∧ t ≤ 1023) := by
  unfold rightP
  repeat' split
  all_goals simp only [Bool.false_eq_true, false_iff, decide_eq_true_eq]
  all_goals omega
theorem some_iff {a b : Bool} (h : a = true ↔ b = true) : (some a : Option Bool) = some b := congrArg some (Bool.eq_iff_iff.2 h)
theorem message_f {k : Nat} (hk : 0 < k) (op a w c m bi t : Int) (hop : op = 1 ∨ op = 2 ∨ op = 3) (hm : -1000 ≤ m ∧ m ≤ 1000) (hw : -1000 ≤ w ∧ w ≤ 1000) : cmd_Command_message.f k op a w c m bi t = some (rightP op a w c m bi t) := by
  obtain ⟨k, rfl⟩ : ∃ q, k = q + 1 := ⟨k - 1, by omega⟩
  unfold cmd_Command_message.f
  rw [within_f, within_f]
  by_cases h1 : 1 ≤ w ∧ w ≤ 8
  · by_cases h2 : 1 ≤ m ∧ m ≤ 4
    · rw [decide_eq_true h1, decide_eq_true h2]
      show cmd_Command_message.j0 (k + 1) false op a w c m bi t = _
      rw [cmd_Command_message.j0, if_neg (by decide), within_f, within_f, wr (by omega) (by omega), wr (by omega) (by omega)]
      by_cases ha : 0 ≤ a ∧ a ≤ 64 - w
      all_goals by_cases hc : 0 ≤ c ∧ c ≤ m - 1
      all_goals rcases hop with rfl | rfl | rfl
      all_goals simp only [ha, hc, and_self, decide_true, decide_false, Option.bind_some, if_true, if_false, Bool.false_eq_true, Int.reduceEq]
      all_goals refine some_iff ?_
      all_goals rw [rightP_iff]
      all_goals simp
      all_goals omega
    · rw [decide_eq_true h1, decide_eq_false h2]
      show cmd_Command_message.j0 (k + 1) true op a w c m bi t = _
      rw [cmd_Command_message.j0, if_pos rfl]
      refine some_iff ?_
      rw [rightP_iff]
      simp only [Bool.false_eq_true, false_iff]
      omega
  · rw [decide_eq_false h1]
    show cmd_Command_message.j0 (k + 1) true op a w c m bi t = _
    rw [cmd_Command_message.j0, if_pos rfl]
    refine some_iff ?_
    rw [rightP_iff]
    simp only [Bool.false_eq_true, false_iff]
    omega
theorem right_f {k : Nat} (hk : 3 < k) (op a w c m bi t : Int) (h0 : 0 ≤ op) (h8 : op ≤ 8) (hm : -1000 ≤ m ∧ m ≤ 1000) (hw : -1000 ≤ w ∧ w ≤ 1000) : cmd_Command_Right.f k op a w c m bi t = some (rightP op a w c m bi t) := by
  obtain ⟨k, rfl⟩ : ∃ q, k = q + 3 := ⟨k - 3, by omega⟩
  unfold cmd_Command_Right.f
  have hms := fun h => message_f (k := k + 1) (by omega) op a w c m bi t h hm hw
  rcases (by omega : op = 0 ∨ op = 1 ∨ op = 2 ∨ op = 3 ∨ op = 4 ∨ op = 5 ∨ op = 6 ∨ op = 7 ∨ op = 8) with rfl | rfl | rfl | rfl | rfl | rfl | rfl | rfl | rfl
  all_goals simp only [cmd_Command_Right.j0, cmd_Command_Right.j1, within_f, Int.reduceEq, if_true, if_false, beq_self_eq_true, Int.reduceBEq, Bool.false_eq_true, Option.bind_some]
  · exact some_iff (by rw [rightP_iff]; simp)
  · rw [hms (by decide)]; rfl
  · rw [hms (by decide)]; rfl
  · rw [hms (by decide)]; rfl
  · exact some_iff (by rw [rightP_iff]; simp)
  · exact some_iff (by rw [rightP_iff]; simp)
  · exact some_iff (by rw [rightP_iff]; simp)
  · exact some_iff (by rw [rightP_iff]; simp)
  · exact some_iff (by rw [rightP_iff]; simp)
/-- How many bytes a command has. -/
def longP (op : Int) : Int := if op = 1 then 5 else if op = 2 then 4 else if op = 3 then 3 else if op = 4 then 2 else if op = 6 then 3 else if op = 8 then 3 else 1
def cmdP (b : List Int) (at_ : Int) (op : Int) : List Int :=
  if op = 1 then [op, rd b (at_ + 1), rd b (at_ + 2), rd b (at_ + 3), rd b (at_ + 4), 0, 0] else if op = 2 then [op, rd b (at_ + 1), rd b (at_ + 2), 0, rd b (at_ + 3), 0, 0] else
  if op = 3 then [op, 0, rd b (at_ + 1), 0, rd b (at_ + 2), 0, 0] else if op = 4 then [op, 0, 0, 0, 0, rd b (at_ + 1), 0] else
  if op = 6 ∨ op = 8 then [op, 0, 0, 0, 0, 0, 256 * rd b (at_ + 1) + rd b (at_ + 2)] else [op, 0, 0, 0, 0, 0, 0]
def rightL (C : List Int) : Bool := rightP (C.getD 0 0) (C.getD 1 0) (C.getD 2 0) (C.getD 3 0) (C.getD 4 0) (C.getD 5 0) (C.getD 6 0)
def readP (b : List Int) (at_ : Int) : List Int × Int × Int :=
  if at_ < 0 ∨ at_ > (b.length : Int) then (zero7, 0, 2) else if at_ = (b.length : Int) then (zero7, 0, 10) else
  if rd b at_ > 8 then (zero7, 0, 11) else if longP (rd b at_) > (b.length : Int) - at_ then (zero7, 0, 10) else
  if rightL (cmdP b at_ (rd b at_)) = true then (cmdP b at_ (rd b at_), at_ + longP (rd b at_), 0) else (zero7, 0, 11)
theorem rd_drop (b : List Int) (n j : Nat) : rd (b.drop n) (j : Int) = rd b ((n + j : Nat) : Int) := by
  unfold rd
  rw [Int.toNat_natCast, Int.toNat_natCast, List.getD_eq_getElem?_getD, List.getD_eq_getElem?_getD, List.getElem?_drop]
theorem readF_is {b : List Int} (hb : Bytes b) (hl : b.length ≤ 100000) (at_ : Int) : readF 16 b at_ = some (readP b at_) := by
  unfold readF readP
  by_cases h0 : at_ < 0
  · rw [if_pos h0, if_pos (.inl h0)]
  rw [if_neg h0]
  by_cases h1 : at_ > (b.length : Int)
  · rw [if_pos h1, if_pos (.inr h1)]
  rw [if_neg h1, if_neg (show ¬ (at_ < 0 ∨ at_ > (b.length : Int)) by omega)]
  by_cases h2 : at_ = (b.length : Int)
  · rw [if_pos h2, if_pos h2]
  rw [if_neg h2, if_neg h2]
  have hop := hb.at at_
  rw [wr (x := rd b at_) (by omega) (by omega)]
  generalize hO : rd b at_ = op at *
  by_cases h8 : op > 8
  · rw [if_pos h8, if_pos h8]
  rw [if_neg h8, if_neg h8]
  have hlen : ((b.drop (at_ + 1).toNat).length : Int) = b.length - at_ - 1 := by rw [List.length_drop]; omega
  have hneed : needI op = longP op - 1 := by
    rcases (by omega : op = 0 ∨ op = 1 ∨ op = 2 ∨ op = 3 ∨ op = 4 ∨ op = 5 ∨ op = 6 ∨ op = 7 ∨ op = 8) with h | h | h | h | h | h | h | h | h
    all_goals (subst h; decide)
  rw [hlen, hneed]
  have hlp : 1 ≤ longP op ∧ longP op ≤ 5 := by unfold longP; repeat' split <;> omega
  by_cases h3 : (b.length : Int) - at_ - 1 < longP op - 1
  · rw [if_pos h3, if_pos (by omega)]
  rw [if_neg h3, if_neg (by omega)]
  have hr : ∀ j : Nat, rd (b.drop (at_ + 1).toNat) (j : Int) = rd b (at_ + 1 + j) := by
    intro j
    rw [rd_drop]
    congr 1
    omega
  have hby := fun j : Nat => hb.at (at_ + 1 + j)
  have hw := fun j : Nat => wr (x := rd b (at_ + 1 + j)) (by have := hby j; omega) (by have := hby j; omega)
  have hC : cmdC (b.drop (at_ + 1).toNat) op = cmdP b at_ op := by
    have r0 : wrap64 (rd (b.drop (at_ + 1).toNat) ((0 : Nat) : Int)) = rd b (at_ + 1) := by rw [hr, hw, show at_ + 1 + ((0 : Nat) : Int) = at_ + 1 by omega]
    have r1 : wrap64 (rd (b.drop (at_ + 1).toNat) ((1 : Nat) : Int)) = rd b (at_ + 2) := by rw [hr, hw, show at_ + 1 + ((1 : Nat) : Int) = at_ + 2 by omega]
    have r2 : wrap64 (rd (b.drop (at_ + 1).toNat) ((2 : Nat) : Int)) = rd b (at_ + 3) := by rw [hr, hw, show at_ + 1 + ((2 : Nat) : Int) = at_ + 3 by omega]
    have r3 : wrap64 (rd (b.drop (at_ + 1).toNat) ((3 : Nat) : Int)) = rd b (at_ + 4) := by rw [hr, hw, show at_ + 1 + ((3 : Nat) : Int) = at_ + 4 by omega]
    have hat : atV (rd (b.drop (at_ + 1).toNat) 0) (rd (b.drop (at_ + 1).toNat) 1) = 256 * rd b (at_ + 1) + rd b (at_ + 2) := by
      unfold atV
      show bits BinOp.or IntKind.i64 (wrap64 (wrap64 (rd (b.drop (at_ + 1).toNat) ((0 : Nat) : Int)) * 256)) (wrap64 (rd (b.drop (at_ + 1).toNat) ((1 : Nat) : Int))) = _
      rw [r0, r1]
      have b0 := hb.at (at_ + 1)
      rw [wr (by omega) (by omega), or256 _ _ b0 (hb.at (at_ + 2))]
    unfold cmdC cmdP
    rcases (by omega : op = 0 ∨ op = 1 ∨ op = 2 ∨ op = 3 ∨ op = 4 ∨ op = 5 ∨ op = 6 ∨ op = 7 ∨ op = 8) with h | h | h | h | h | h | h | h | h
    all_goals subst h
    · rfl
    · show [(1 : Int), wrap64 (rd _ ((0 : Nat) : Int)), wrap64 (rd _ ((1 : Nat) : Int)), wrap64 (rd _ ((2 : Nat) : Int)), wrap64 (rd _ ((3 : Nat) : Int)), 0, 0] = _
      rw [r0, r1, r2, r3]; rfl
    · show [(2 : Int), wrap64 (rd _ ((0 : Nat) : Int)), wrap64 (rd _ ((1 : Nat) : Int)), 0, wrap64 (rd _ ((2 : Nat) : Int)), 0, 0] = _
      rw [r0, r1, r2]; rfl
    · show [(3 : Int), 0, wrap64 (rd _ ((0 : Nat) : Int)), 0, wrap64 (rd _ ((1 : Nat) : Int)), 0, 0] = _
      rw [r0, r1]; rfl
    · show [(4 : Int), 0, 0, 0, 0, wrap64 (rd _ ((0 : Nat) : Int)), 0] = _
      rw [r0]; rfl
    · rfl
    · rw [if_pos (show goesF 6 = true from rfl), hat]; rfl
    · rfl
    · rw [if_pos (show goesF 8 = true from rfl), hat]; rfl
  rw [hC]
  have hCb : 0 ≤ (cmdP b at_ op).getD 0 0 ∧ (cmdP b at_ op).getD 0 0 ≤ 8 ∧ (0 ≤ (cmdP b at_ op).getD 4 0 ∧ (cmdP b at_ op).getD 4 0 ≤ 255) ∧ (0 ≤ (cmdP b at_ op).getD 2 0 ∧ (cmdP b at_ op).getD 2 0 ≤ 255) := by
    have b1 := hb.at (at_ + 1)
    have b2 := hb.at (at_ + 2)
    have b3 := hb.at (at_ + 3)
    have b4 := hb.at (at_ + 4)
    unfold cmdP
    repeat' split
    all_goals simp
    all_goals omega
  rw [right_f (by decide) _ _ _ _ _ _ _ hCb.1 hCb.2.1 (by omega) (by omega)]
  show (if rightL (cmdP b at_ op) = true then _ else _) = _
  rw [wr (x := at_ + 1) (by omega) (by omega), wr (x := at_ + 1 + (longP op - 1)) (by omega) (by omega), show at_ + 1 + (longP op - 1) = at_ + longP op by omega]
  split <;> rfl
end Go.Proofs.YtmoodblpgnnenaaDoor.PWe
namespace Go.Proofs.YtmoodblpgnnenaaDoor.PWe
open Go.RowKit Go.Proofs.YtmoodblpgnnenaaDoor.Kx Go.Proofs.YtmoodblpgnnenaaDoorW.PrintWords Go.Proofs.YtmoodblpgnnenaaDoorW.PrintLast Go.Proofs.YtmoodblpgnnenaaDoorW.PrintMore
set_option linter.unusedVariables false
set_option linter.unusedSimpArgs false

/-- The bytes that count, of a command's seven numbers. -/
def oneB (L : List Int) (op : Int) : List Int := (offs op).map fun j => L.getD j 0 % 256
def putB (L : List Int) (op : Int) : List Int := [op % 256] ++ oneB L op ++ if goesF op = true then b2 (L.getD 6 0) else []
theorem ptrs_far {w w' : World} {v : Value} {g : Nat} {l : List Nat} (h : Ptrs w v g l) (hk : ∀ (hh : Nat) (cs : Array Value), w.heap[hh]? = some (Obj.cells cs 82 (0, 0)) → w'.heap[hh]? = some (Obj.cells cs 82 (0, 0))) : Ptrs w' v g l := by
  rcases h with h | ⟨hh, e, hne, hb⟩
  · exact .inl h
  · exact .inr ⟨hh, e, hne, hk _ _ hb⟩
theorem oneB_take (L : List Int) (op : Int) (k : Nat) (hk : k < (offs op).length) : (oneB L op).take (k + 1) = (oneB L op).take k ++ [L.getD ((offs op).getD k 0) 0 % 256] := by
  have h1 : k < (oneB L op).length := by unfold oneB; rw [List.length_map]; exact hk
  rw [List.take_add_one, List.getElem?_eq_getElem h1]
  unfold oneB
  simp [hk]
set_option maxHeartbeats 4000000 in
set_option maxRecDepth 100000 in
theorem putc_calls (a0 a1 a2 a3 a4 a5 a6 : Int) (w : World) {ok : Bool} (hok : cmd_Command_Right.f 16 a0 a1 a2 a3 a4 a5 a6 = some ok) {L : List Int} (hL : [a0, a1, a2, a3, a4, a5, a6] = L) {r : List Int} (hr : putB L a0 = r) :
    Calls Tryd.prog 35 #[.agg #[.int .i64 a0, .int .i64 a1, .int .i64 a2, .int .i64 a3, .int .i64 a4, .int .i64 a5, .int .i64 a6]] w fun e w' => ∃ v0_ : Value, e = .returned (.tuple #[v0_, .int .i64 (if ok = true then 0 else 2)]) ∧ Kd.R (Kd.int .u8) 5 w' w.heap.size (fun _ => True) v0_ (if ok = true then r else []) ∧ Below w.heap.size w w' := by
  have HOK := Aside0.mk hok
  have hLl : L.length = 7 := by rw [← hL]; rfl
  have hg0 : L.getD 0 0 = a0 := by rw [← hL]; rfl
  have hcs : (#[.int .i64 a0, .int .i64 a1, .int .i64 a2, .int .i64 a3, .int .i64 a4, .int .i64 a5, .int .i64 a6] : Array Value) = cc L := by rw [← hL]; rfl
  have hg6 : L.getD 6 0 = a6 := by rw [← hL]; rfl
  have HLL := Aside0.mk hLl
  have HG0 := Aside0.mk hg0
  have HG6 := Aside0.mk hg6
  have HR := Aside0.mk hr
  have HCS := Aside0.mk hcs
  have hX : IntKind.u8.wrap a0 = a0 % 256 := Go.IntKind.wrap_u8' _
  obtain ⟨X, hX'⟩ : ∃ x, a0 % 256 = x := ⟨_, rfl⟩
  rw [hX'] at hX
  have HX := Aside0.mk hX'
  have HB : Aside0 (Below w.heap.size w w) := ⟨Below.refl _ _⟩
  clear hok hLl hg0 hg6 hr hL hcs hX'
  go_enter Tryd.func35, Tryd.ntmps35
  go_wp2_with (first | ((with_reducible refine gate_dst (N := 1) rfl ?_); refine boxN (w := w) rfl (N := 1) rfl (cs := #[.int .i64 a0, .int .i64 a1, .int .i64 a2, .int .i64 a3, .int .i64 a4, .int .i64 a5, .int .i64 a6]) (t := 37) (by first | (go_simp; done) | (go_simp; rfl)) HB ?_; intro g1 Wa Ha Lg1 HB_Wa K_Wa) | ((with_reducible refine gate_dst (N := 7) rfl ?_); refine wpList_load_row rfl 37 _ rfl g1 rfl 37 _ (0, 0) _ Ha.out Tryd.underlying37 rfl (by kernel_rfl) ?_))
  refine (cmd_Command_Right.calls 16 a0 a1 a2 a3 a4 a5 a6 ok Wa HOK.out).mono ?_
  rintro e w1 ⟨rfl, hb⟩
  have HB1 := Aside0.mk (below_step HB_Wa.out hb)
  have H1 : Aside0 (w1.heap[g1]? = some (.cells (cc L) 37 (0, 0))) := ⟨by have h := blk_below Ha.out hb; rw [HCS.out] at h; exact h⟩
  clear hb Ha HB_Wa K_Wa
  cases ok
  · go_wp2_with fail
    go_ret2
    exact ⟨_, rfl, Kd.R_nil _ _ _ _ _, HB1.out⟩
  have x0 : w1.cell? ⟨g1, 0, none⟩ = some (.int .i64 a0) := by
    rw [cell_in H1.out 0, cc_get (by have := HLL.out; omega), HG0.out]
  go_wp2_with (first | ((with_reducible refine gate_dst (N := 13) rfl ?_); refine litN (w := w) (Kd.int .u8) 5 rfl (N := 13) rfl (xs := ([X] : List Int)) (inner := [.int .u8 X]) (by first | (go_simp; done) | (go_simp; rfl)) (Reps.one (show Kd.M (Kd.int .u8) _ _ _ X [.int .u8 X] from rfl) (Reps.none _ _)) HB1 (by simp) ?_; intro v4 W2 HO2 HB2 K2; have H2 := Aside0.mk (blk_below H1.out K2.out)))
  have hbc := bytes_any a0 g1 _ W2 H2.out (by rw [cc_get (by have := HLL.out; omega), HG0.out])
  have HBC := Aside0.mk hbc
  clear hbc x0
  refine HBC.out.mono ?_
  rintro e w3 ⟨v, rfl, hp, hb3⟩
  obtain ⟨A, rfl, hq⟩ := ptrs_form hp
  obtain ⟨n, hn⟩ : ∃ n, (offs a0).length = n := ⟨_, rfl⟩
  have hn4 : (offs a0).length ≤ 4 := offs_len a0
  have HO3 := Aside0.mk (Kd.R_below HO2.out hb3)
  have H3 := Aside0.mk (blk_below H2.out hb3)
  have HB3 := Aside0.mk (below_step HB2.out hb3)
  have HP3 : Aside0 (Ptrs w3 (.slice A n n) g1 (offs a0)) := ⟨by rw [← hn]; exact hp⟩
  have HN := Aside0.mk hn
  rw [hn] at hn4 ⊢
  clear hp hb3 hq HO2 H2 HB2 H1 HB1 hn HBC
  go_wp2_with fail
  go_loopw [4, 6, 16] (fun v4 v6 v16 wr => ∃ k : Nat, k ≤ n ∧ v16 = .int .i64 k ∧ Kd.R (Kd.int .u8) 5 wr w.heap.size (fun _ => True) v4 ([X] ++ (oneB L a0).take k) ∧ wr.heap[g1]? = some (.cells (cc L) 37 (0, 0)) ∧ Ptrs wr (.slice A n n) g1 (offs a0) ∧ Below w.heap.size w wr) (fun _ _ v16 _ => ((n : Int) - intOf v16).toNat)
  case atStart => exact ⟨0, by omega, rfl, HO3.out, H3.out, HP3.out, HB3.out⟩
  case round =>
    obtain ⟨k, hk, rfl, hR, hG, hP, hB⟩ := hrel
    clear HO3 H3 HP3 HB3
    obtain ⟨A4, c4, e4⟩ := Kd.R_slice hR
    subst e4
    obtain ⟨ys, hys⟩ : ∃ ys, [X] ++ (oneB L a0).take k = ys := ⟨_, rfl⟩
    rw [hys] at hR
    have hyl : ys.length ≤ 5 := by
      rw [← hys]
      simp [oneB]
      omega
    have HYL := Aside0.mk hyl
    have HYS := Aside0.mk hys
    rw [hys]
    have HRk := Aside0.mk hR
    have HG := Aside0.mk hG
    have HPk := Aside0.mk hP
    have HB := Aside0.mk hB
    rcases (by omega : k < n ∨ k = n) with hkn | rfl
    · have hoff := offs_at a0 (j := k) (by rw [HN.out]; exact hkn)
      obtain ⟨A', hA', hq⟩ := ptrs_form hP
      obtain ⟨hh, hA2, hne, hcell⟩ := hq k (by rw [HN.out]; exact hkn)
      have hA1 : A = some ⟨hh, 0, none⟩ := (Value.slice.inj hA').1.trans hA2
      subst hA1
      clear hA' hA2
      obtain ⟨o, ho⟩ : ∃ o, (offs a0).getD k 0 = o := ⟨_, rfl⟩
      rw [ho] at hcell hoff
      have HO := Aside0.mk ho
      have x0 : wr.cell? ⟨g1, o, none⟩ = some (.int .i64 (L.getD o 0)) := by
        rw [cell_in HG.out o, cc_get (by have := HLL.out; omega)]
      obtain ⟨x, hx⟩ : ∃ x, L.getD o 0 = x := ⟨_, rfl⟩
      rw [hx] at x0
      have HXo := Aside0.mk hx
      have hY : IntKind.u8.wrap x = x % 256 := Go.IntKind.wrap_u8' _
      obtain ⟨Y, hY'⟩ : ∃ y, x % 256 = y := ⟨_, rfl⟩
      rw [hY'] at hY
      have HY := Aside0.mk hY'
      have m1 : decide ((k : Int) < (n : Int)) = true := decide_eq_true (by omega)
      have m2 : decide (k < n) = true := decide_eq_true hkn
      clear hR hG hB hP hys hyl hoff ho hx hY' hq
      go_wp2_with (first | ((with_reducible refine gate_dst (N := 25) rfl ?_); refine litN (w := w) (Kd.int .u8) 5 rfl (N := 25) rfl (xs := ([Y] : List Int)) (inner := [.int .u8 Y]) (by first | (go_simp; done) | (go_simp; rfl)) (Reps.one (show Kd.M (Kd.int .u8) _ _ _ Y [.int .u8 Y] from rfl) (Reps.none _ _)) HB (by simp) ?_; intro va Wa Ha HB_Wa K_Wa; obtain ⟨Aa, ca, ea⟩ := Kd.R_slice Ha.out; subst ea; have Ra := Aside0.mk (Kd.R_reads' Ha.out).2.2; have HOa := Aside0.mk (Kd.R_below HRk.out K_Wa.out); have HGa := Aside0.mk (blk_below HG.out K_Wa.out); have HPa := Aside0.mk (ptrs_far HPk.out (fun _ _ h => blk_below h K_Wa.out))) | ((with_reducible refine gate_builtin (b := .append) (xs := #[.tmp 20, .tmp 25]) rfl ?_); at_builtin; refine Kd.R_append_rows (Kd.int .u8) (w0 := w) w.heap.size rfl (.tmp 20) (.tmp 25) 23 5 (.int .u8 0) 1 rfl Tryd.underlying23 info5 rfl (by decide) (by decide) _ ys [Y] Aa _ ca (fun _ => True) (fun _ => False) rfl rfl HOa.out Ra.out (fun _ _ h => h) (fun _ h => h.elim) (fun _ _ => trivial) HB_Wa.out (below_size HB_Wa.out) (by have := HYL.out; simp; omega) ?_; intro v1 W1 h1 hb1 hg1 _; have HR1 := Aside0.mk h1; have HB1 := Aside0.mk hb1; have HG1 := Aside0.mk (blk_grown HGa.out hg1 (Kd.R_ne HOa.out HGa.out (by decide))); have HP1 := Aside0.mk (ptrs_far HPa.out (fun _ _ h => blk_grown h hg1 (Kd.R_ne HOa.out h (by decide)))); clear h1 hb1 hg1))
      exact ⟨⟨k + 1, by omega, by simp [intOf], by rw [oneB_take L a0 k (by rw [HN.out]; exact hkn), HO.out, HXo.out, HY.out, ← List.append_assoc, HYS.out]; exact HR1.out, HG1.out, HP1.out, HB1.out⟩, by simp [intOf]; omega⟩
    · have m1 : decide ((k : Int) < (k : Int)) = false := decide_eq_false (by omega)
      have m2 : decide (k < k) = false := decide_eq_false (by omega)
      have hall : (oneB L a0).take k = oneB L a0 := List.take_of_length_le (by unfold oneB; rw [List.length_map, HN.out]; omega)
      rw [hall] at hys
      have HYS2 := Aside0.mk hys
      clear hR hG hB hP hys hyl hall HYS
      go_wp2_with fail
      refine (goes_any a0 g1 _ _ HG.out (by rw [cc_get (by have := HLL.out; omega), HG0.out])).mono ?_
      rintro e w4 ⟨rfl, hw4⟩
      obtain rfl := hw4.symm
      cases hgo : goesF a0
      · have hfin : ys = r := by rw [← HR.out, ← HYS2.out]; unfold putB; rw [HX.out, hgo, if_neg (by decide), List.append_nil]
        have HF := Aside0.mk hfin
        clear hfin hgo
        go_wp2_with fail
        go_ret2
        exact ⟨_, rfl, HF.out ▸ HRk.out, HB.out⟩
      · have x6 : wr.cell? ⟨g1, 6, none⟩ = some (.int .i64 a6) := by rw [cell_in HG.out 6, cc_get (by have := HLL.out; omega), HG6.out]
        have hU : IntKind.u8.wrap (a6 / 256) = a6 / 256 % 256 := Go.IntKind.wrap_u8' _
        have hV : IntKind.u8.wrap a6 = a6 % 256 := Go.IntKind.wrap_u8' _
        obtain ⟨U, hU'⟩ : ∃ x, a6 / 256 % 256 = x := ⟨_, rfl⟩
        obtain ⟨V, hV'⟩ : ∃ x, a6 % 256 = x := ⟨_, rfl⟩
        have hfin : ys ++ [U, V] = r := by rw [← HR.out, ← HYS2.out]; unfold putB b2; rw [HX.out, hgo, if_pos rfl, HG6.out, hU', hV']
        rw [hU'] at hU
        rw [hV'] at hV
        have HF := Aside0.mk hfin
        clear hfin hgo hU' hV'
        go_wp2_with (first | ((with_reducible refine gate_dst (N := 37) rfl ?_); refine litN (w := w) (Kd.int .u8) 5 rfl (N := 37) rfl (xs := ([U, V] : List Int)) (inner := [.int .u8 U, .int .u8 V]) (by first | (go_simp; done) | (go_simp; rfl)) (Reps.one (show Kd.M (Kd.int .u8) _ _ _ U [.int .u8 U] from rfl) (Reps.one (show Kd.M (Kd.int .u8) _ _ _ V [.int .u8 V] from rfl) (Reps.none _ _))) HB (by simp) ?_; intro va Wa Ha HB_Wa K_Wa; obtain ⟨Aa, ca, ea⟩ := Kd.R_slice Ha.out; subst ea; have Ra := Aside0.mk (Kd.R_reads' Ha.out).2.2; have HOa := Aside0.mk (Kd.R_below HRk.out K_Wa.out)) | ((with_reducible refine gate_builtin (b := .append) (xs := #[.tmp 29, .tmp 37]) rfl ?_); at_builtin; refine Kd.R_append_rows (Kd.int .u8) (w0 := w) w.heap.size rfl (.tmp 29) (.tmp 37) 23 5 (.int .u8 0) 1 rfl Tryd.underlying23 info5 rfl (by decide) (by decide) _ ys [U, V] Aa _ ca (fun _ => True) (fun _ => False) rfl rfl HOa.out Ra.out (fun _ _ h => h) (fun _ h => h.elim) (fun _ _ => trivial) HB_Wa.out (below_size HB_Wa.out) (by have := HYL.out; simp; omega) ?_; intro v1 W1 h1 hb1 hg1 _; have HR1 := Aside0.mk h1; have HB1 := Aside0.mk hb1; clear h1 hb1 hg1))
        go_ret2
        exact ⟨_, rfl, HF.out ▸ HR1.out, HB1.out⟩
end Go.Proofs.YtmoodblpgnnenaaDoor.PWe
namespace Go.Proofs.YtmoodblpgnnenaaDoor.PWe
open Go.RowKit Go.Proofs.YtmoodblpgnnenaaDoor.Kx Go.Proofs.YtmoodblpgnnenaaDoorW.PrintWords Go.Proofs.YtmoodblpgnnenaaDoorW.PrintLast Go.Proofs.YtmoodblpgnnenaaDoorW.PrintMore
set_option linter.unusedVariables false
set_option linter.unusedSimpArgs false

def cleanK (L : List Int) (op : Int) : Nat → List Int
  | 0 => [op, 0, 0, 0, 0, 0, 0]
  | k + 1 => (cleanK L op k).set ((offs op).getD k 0) (L.getD ((offs op).getD k 0) 0)
/-- A command without what doesn't count. -/
def cleanL (L : List Int) (op : Int) : List Int := if goesF op = true then (cleanK L op (offs op).length).set 6 (L.getD 6 0) else cleanK L op (offs op).length
theorem cleanK_len (L : List Int) (op : Int) : ∀ k, (cleanK L op k).length = 7
  | 0 => rfl
  | k + 1 => by rw [cleanK, List.length_set]; exact cleanK_len L op k
theorem cleanK_zero (L : List Int) (op : Int) : ∀ k, k ≤ (offs op).length → (cleanK L op k).getD 0 0 = op
  | 0, _ => rfl
  | k + 1, h => by
    have ho := (offs_at op (j := k) (by omega)).1
    rw [cleanK, List.getD_eq_getElem?_getD, List.getElem?_set_ne (by omega), ← List.getD_eq_getElem?_getD]
    exact cleanK_zero L op k (by omega)
set_option maxHeartbeats 4000000 in
set_option maxRecDepth 100000 in
theorem clean_calls (a0 a1 a2 a3 a4 a5 a6 : Int) (w : World) {L : List Int} (hL : [a0, a1, a2, a3, a4, a5, a6] = L) {r : List Int} (hr : cleanL L a0 = r) :
    Calls Tryd.prog 17 #[.agg #[.int .i64 a0, .int .i64 a1, .int .i64 a2, .int .i64 a3, .int .i64 a4, .int .i64 a5, .int .i64 a6]] w fun e w' => e = .returned (.agg (cc r)) ∧ Below w.heap.size w w' := by
  have hLl : L.length = 7 := by rw [← hL]; rfl
  have hg0 : L.getD 0 0 = a0 := by rw [← hL]; rfl
  have hcs : (#[.int .i64 a0, .int .i64 a1, .int .i64 a2, .int .i64 a3, .int .i64 a4, .int .i64 a5, .int .i64 a6] : Array Value) = cc L := by rw [← hL]; rfl
  have HLL := Aside0.mk hLl
  have HG0 := Aside0.mk hg0
  have HR := Aside0.mk hr
  have HCS := Aside0.mk hcs
  have HB : Aside0 (Below w.heap.size w w) := ⟨Below.refl _ _⟩
  clear hLl hg0 hr hL hcs
  go_enter Tryd.func17, Tryd.ntmps17
  go_wp2_with (first | ((with_reducible refine gate_dst (N := 1) rfl ?_); refine boxN (w := w) rfl (N := 1) rfl (cs := #[.int .i64 a0, .int .i64 a1, .int .i64 a2, .int .i64 a3, .int .i64 a4, .int .i64 a5, .int .i64 a6]) (t := 37) (by first | (go_simp; done) | (go_simp; rfl)) HB ?_; intro g1 Wa Ha Lg1 HBa Ka; have H1 := Aside0.mk Ha.out; rw [HCS.out] at H1; have x0 : Wa.cell? ⟨g1, 0, none⟩ = some (.int .i64 a0) := (cell_in H1.out 0).trans ((cc_get (by rw [HLL.out]; decide)).trans (by rw [HG0.out]))) | ((with_reducible refine gate_dst (N := 2) rfl ?_); refine boxN (w := w) rfl (N := 2) rfl (cs := cc [0, 0, 0, 0, 0, 0, 0]) (t := 37) (by first | (go_simp; done) | (go_simp; rfl)) HBa ?_; intro g2 Wb Hb Lg2 HBb Kb; have H1b := Aside0.mk (blk_below H1.out Kb.out); have x0 : Wb.cell? ⟨g1, 0, none⟩ = some (.int .i64 a0) := (cell_in H1b.out 0).trans ((cc_get (by rw [HLL.out]; decide)).trans (by rw [HG0.out]))) | ((with_reducible refine gate_dst (N := 3) rfl ?_); refine boxN (w := w) rfl (N := 3) rfl (cs := cc [0, 0, 0, 0, 0, 0, 0]) (t := 37) (by first | (go_simp; done) | (go_simp; rfl)) HBb ?_; intro g3 Wc Hc Lg3 HBc Kc) | (refine storeCsN (w := w) rfl 37 _ _ rfl g3 (cc [a0, 0, 0, 0, 0, 0, 0]) rfl rfl 37 _ Hc (by kernel_rfl) rfl (cc_one _) HBc ⟨Lg3.out.1⟩ ?_; intro Wd Hd HBd HOd))
  have n13 : g1 ≠ g3 := fun e => by have h1 := lt_of_block H1b.out; have h2 := Lg3.out.2; omega
  have n23 : g2 ≠ g3 := fun e => by have h1 := lt_of_block Hb.out; have h2 := Lg3.out.2; omega
  have H1d := Aside0.mk ((HOd.out g1 n13).trans (blk_below H1b.out Kc.out))
  have H2d := Aside0.mk ((HOd.out g2 n23).trans (blk_below Hb.out Kc.out))
  have N13 := Aside0.mk n13
  have N23 := Aside0.mk n23
  clear x0 n13 n23 Ha HBa Ka H1 Hb HBb Kb H1b Hc HBc Kc HOd
  refine (bytes_any a0 g1 _ Wd H1d.out (by rw [cc_get (by have := HLL.out; omega), HG0.out])).mono ?_
  rintro e w4 ⟨v4, rfl, hp4, hb4⟩
  obtain ⟨A4, rfl, _⟩ := ptrs_form hp4
  have H14 := Aside0.mk (blk_below H1d.out hb4)
  have H24 := Aside0.mk (blk_below H2d.out hb4)
  have H34 := Aside0.mk (blk_below Hd.out hb4)
  have HB4 := Aside0.mk (below_step HBd.out hb4)
  have HP4 := Aside0.mk hp4
  obtain ⟨n, hn⟩ : ∃ n, (offs a0).length = n := ⟨_, rfl⟩
  have hn4 : (offs a0).length ≤ 4 := offs_len a0
  have HN := Aside0.mk hn
  rw [hn] at hn4 HP4 ⊢
  clear hp4 hb4 H1d H2d Hd HBd hn
  go_wp2_with fail
  refine (bytes_any a0 g3 _ w4 H34.out rfl).mono ?_
  rintro e w5 ⟨v5, rfl, hp5, hb5⟩
  obtain ⟨A5, rfl, _⟩ := ptrs_form hp5
  have H15 := Aside0.mk (blk_below H14.out hb5)
  have H25 := Aside0.mk (blk_below H24.out hb5)
  have H35 := Aside0.mk (blk_below H34.out hb5)
  have HB5 := Aside0.mk (below_step HB4.out hb5)
  have HP5 := Aside0.mk hp5
  have HP45 := Aside0.mk (ptrs_far HP4.out (fun _ _ h => blk_below h hb5))
  rw [HN.out] at HP5 ⊢
  clear hp5 hb5 H14 H24 H34 HB4 HP4
  go_wp2_with fail
  go_loopw [5, 6, 13] (fun v5 v6 v13 wr => ∃ k : Nat, k ≤ n ∧ v13 = .int .i64 k ∧ wr.heap[g1]? = some (.cells (cc L) 37 (0, 0)) ∧ wr.heap[g2]? = some (.cells (cc [0, 0, 0, 0, 0, 0, 0]) 37 (0, 0)) ∧ wr.heap[g3]? = some (.cells (cc (cleanK L a0 k)) 37 (0, 0)) ∧ Ptrs wr (.slice A4 n n) g1 (offs a0) ∧ Ptrs wr (.slice A5 n n) g3 (offs a0) ∧ Below w.heap.size w wr) (fun _ _ v13 _ => ((n : Int) - intOf v13).toNat)
  case atStart => exact ⟨0, by omega, rfl, H15.out, H25.out, H35.out, HP45.out, HP5.out, HB5.out⟩
  case round =>
    obtain ⟨k, hk, rfl, h1, h2, h3, hp4, hp5, hB⟩ := hrel
    clear H15 H25 H35 HP45 HP5 HB5
    have H1 := Aside0.mk h1
    have H2 := Aside0.mk h2
    have H3 := Aside0.mk h3
    have HP4 := Aside0.mk hp4
    have HP5 := Aside0.mk hp5
    have HB := Aside0.mk hB
    clear h1 h2 h3 hB
    rcases (by omega : k < n ∨ k = n) with hkn | rfl
    · have hoff := offs_at a0 (j := k) (by rw [HN.out]; exact hkn)
      obtain ⟨A', hA', hq⟩ := ptrs_form hp4
      obtain ⟨hh, hA2, hne, hcell⟩ := hq k (by rw [HN.out]; exact hkn)
      have hA1 : A4 = some ⟨hh, 0, none⟩ := (Value.slice.inj hA').1.trans hA2
      subst hA1
      clear hA' hA2
      obtain ⟨A'', hA', hq5⟩ := ptrs_form hp5
      obtain ⟨hh5, hA2, hne5, hcell5⟩ := hq5 k (by rw [HN.out]; exact hkn)
      have hA1 : A5 = some ⟨hh5, 0, none⟩ := (Value.slice.inj hA').1.trans hA2
      subst hA1
      clear hA' hA2
      obtain ⟨o, ho⟩ : ∃ o, (offs a0).getD k 0 = o := ⟨_, rfl⟩
      rw [ho] at hcell hcell5 hoff
      have HO := Aside0.mk ho
      have x0 : wr.cell? ⟨g1, o, none⟩ = some (.int .i64 (L.getD o 0)) := by
        rw [cell_in H1.out o, cc_get (by have := HLL.out; omega)]
      obtain ⟨x, hx⟩ : ∃ x, L.getD o 0 = x := ⟨_, rfl⟩
      rw [hx] at x0
      have HXo := Aside0.mk hx
      have y0 : wr.cell? ⟨g3, o, none⟩ = some (.int .i64 ((cleanK L a0 k).getD o 0)) := by
        rw [cell_in H3.out o, cc_get (by rw [cleanK_len]; omega)]
      have f0 : wr.frozen? ⟨g3, o, none⟩ = false := free_in H3.out o
      have HL3 := Aside0.mk (lt_of_block H3.out)
      have m1 : decide ((k : Int) < (n : Int)) = true := decide_eq_true (by omega)
      have m2 : decide (k < n) = true := decide_eq_true hkn
      have r1 : ((k : Int) < (n : Int)) = True := eq_true (by omega)
      have r2 : (k < n) = True := eq_true hkn
      clear hp4 hp5 hoff ho hx hq hq5
      go_wp2_with (first | (refine storeCellN (w := w) rfl rfl 3 (.tmp 25) (.tmp 24) rfl g3 o (.int .i64 x) H3 (by first | (go_simp; done) | (go_simp; rfl)) HB ⟨Lg3.out.1⟩ ?_; intro W3 HW3 HBW HOW))
      have far : ∀ (hb : Nat) (cs : Array Value), wr.heap[hb]? = some (Obj.cells cs 82 (0, 0)) → W3.heap[hb]? = some (Obj.cells cs 82 (0, 0)) := fun hb cs h => (HOW.out hb (fun e => by rw [e, H3.out] at h; injection h with h; injection h with _ h2; exact absurd h2 (by decide))).trans h
      exact ⟨⟨k + 1, by omega, by simp, (HOW.out g1 N13.out).trans H1.out, (HOW.out g2 N23.out).trans H2.out, by rw [HW3.out, cc_set, cleanK, HO.out, HXo.out], ptrs_far HP4.out far, ptrs_far HP5.out far, HBW.out⟩, by simp [intOf]; omega⟩
    · have m1 : decide ((k : Int) < (k : Int)) = false := decide_eq_false (by omega)
      have m2 : decide (k < k) = false := decide_eq_false (by omega)
      clear hp4 hp5
      go_wp2_with fail
      refine (goes_any a0 g1 _ _ H1.out (by rw [cc_get (by have := HLL.out; omega), HG0.out])).mono ?_
      rintro e w6 ⟨rfl, hw6⟩
      obtain rfl := hw6.symm
      cases hgo : goesF a0
      · have hfin : cleanK L a0 k = r := by rw [← HR.out]; unfold cleanL; rw [hgo, if_neg (by decide), HN.out]
        have hl : r.length = 7 := by rw [← hfin]; exact cleanK_len _ _ _
        have HL := Aside0.mk hl
        rw [hfin] at H3
        clear hfin hgo hl
        go_wp2_with (first | ((with_reducible refine gate_dst (N := 31) rfl ?_); refine wpList_load_row rfl 37 _ rfl g3 rfl 37 _ (0, 0) _ H3.out Tryd.underlying37 rfl (by rw [cc_size, HL.out]; kernel_rfl) ?_) | (refine storeCsN (w := w) rfl 37 (.tmp 2) _ rfl g2 (cc r) rfl rfl 37 _ H2 (by rw [cc_size, HL.out]; kernel_rfl) (by rw [cc_size, cc_size, HL.out]; rfl) (cc_one _) HB ⟨Lg2.out.1⟩ ?_; intro Wz Hz HBz _))
        refine bodyPost_ret (results_cell_row rfl _ _ g2 37 (cc r) (0, 0) _ rfl Hz.out Tryd.underlying37 rfl (by rw [cc_size, HL.out]; kernel_rfl)) rfl ⟨rfl, HBz.out⟩
      · have hfin : (cleanK L a0 k).set 6 (L.getD 6 0) = r := by rw [← HR.out]; unfold cleanL; rw [hgo, if_pos rfl, HN.out]
        have hl : r.length = 7 := by rw [← hfin, List.length_set]; exact cleanK_len _ _ _
        have HL := Aside0.mk hl
        obtain ⟨x, hx⟩ : ∃ x, L.getD 6 0 = x := ⟨_, rfl⟩
        rw [hx] at hfin
        have HF := Aside0.mk hfin
        have x6 : wr.cell? ⟨g1, 6, none⟩ = some (.int .i64 x) := by rw [cell_in H1.out 6, cc_get (by have := HLL.out; omega), hx]
        have y6 : wr.cell? ⟨g3, 6, none⟩ = some (.int .i64 ((cleanK L a0 k).getD 6 0)) := by rw [cell_in H3.out 6, cc_get (by rw [cleanK_len]; omega)]
        have f6 : wr.frozen? ⟨g3, 6, none⟩ = false := free_in H3.out 6
        clear hfin hgo hl hx
        go_wp2_with (first | (refine storeCellN (w := w) rfl rfl 3 (.tmp 30) (.tmp 29) rfl g3 6 (.int .i64 x) H3 (by first | (go_simp; done) | (go_simp; rfl)) HB ⟨Lg3.out.1⟩ ?_; intro W3 HW3 HBW HOW; have H2w := Aside0.mk ((HOW.out g2 N23.out).trans H2.out); rw [cc_set, HF.out] at HW3) | ((with_reducible refine gate_dst (N := 31) rfl ?_); refine wpList_load_row rfl 37 _ rfl g3 rfl 37 _ (0, 0) _ HW3.out Tryd.underlying37 rfl (by rw [cc_size, HL.out]; kernel_rfl) ?_) | (refine storeCsN (w := w) rfl 37 (.tmp 2) _ rfl g2 (cc r) rfl rfl 37 _ H2w (by rw [cc_size, HL.out]; kernel_rfl) (by rw [cc_size, cc_size, HL.out]; rfl) (cc_one _) HBW ⟨Lg2.out.1⟩ ?_; intro Wz Hz HBz _))
        refine bodyPost_ret (results_cell_row rfl _ _ g2 37 (cc r) (0, 0) _ rfl Hz.out Tryd.underlying37 rfl (by rw [cc_size, HL.out]; kernel_rfl)) rfl ⟨rfl, HBz.out⟩
end Go.Proofs.YtmoodblpgnnenaaDoor.PWe
namespace Go.Proofs.YtmoodblpgnnenaaDoor.PWe
open Go.RowKit Go.Proofs.YtmoodblpgnnenaaDoor.Kx Go.Proofs.YtmoodblpgnnenaaDoorW.PrintWords Go.Proofs.YtmoodblpgnnenaaDoorW.PrintLast Go.Proofs.YtmoodblpgnnenaaDoorW.PrintMore
set_option linter.unusedVariables false
set_option linter.unusedSimpArgs false

end Go.Proofs.YtmoodblpgnnenaaDoor.PWe
