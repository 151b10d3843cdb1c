/- A table's bytes: plain. One bit of them that is another one makes them none. Helper text. -/
import Derived.Test.YtbaapakkdnhcmaaKx
namespace Go.Proofs.Ytbaapakkdnhcmaa.PWe
set_option linter.unusedVariables false
set_option linter.unusedSimpArgs false

/-- One bit of a check sum. -/
def crcB (s : Nat) : Nat := if 32768 ≤ s then (s * 2 % 65536) ^^^ 4129 else s * 2 % 65536
def crcN : Nat → Nat → Nat
  | 0, s => s
  | n + 1, s => crcN n (crcB s)
def crcC (s : Nat) (c : Int) : Nat := crcN 8 (s ^^^ (c.toNat * 256))
def crcL (s : Nat) (l : List Int) : Nat := l.foldl crcC s
theorem crcB_lt (s : Nat) : crcB s < 65536 := by
  unfold crcB
  split
  · exact Nat.xor_lt_two_pow (n := 16) (by omega) (by omega)
  · omega
theorem crcN_lt : ∀ (n s : Nat), s < 65536 → crcN n s < 65536
  | 0, s, h => h
  | n + 1, s, _ => crcN_lt n _ (crcB_lt s)
theorem crcC_lt (s : Nat) (c : Int) (hs : s < 65536) (h0 : 0 ≤ c) (h1 : c < 256) : crcC s c < 65536 := crcN_lt 8 _ (Nat.xor_lt_two_pow (n := 16) hs (by omega))
theorem crcL_cons (s : Nat) (c : Int) (r : List Int) : crcL s (c :: r) = crcL (crcC s c) r := by unfold crcL; rw [List.foldl_cons]
theorem crcL_lt : ∀ (l : List Int) (s : Nat), s < 65536 → (∀ c ∈ l, 0 ≤ c ∧ c < 256) → crcL s l < 65536
  | [], s, h, _ => h
  | c :: r, s, h, hl => by
    rw [crcL_cons]
    exact crcL_lt r _ (crcC_lt s c h (hl c List.mem_cons_self).1 (hl c List.mem_cons_self).2) (fun d hd => hl d (List.mem_cons_of_mem _ hd))
theorem xor_back (a c : Nat) : (a ^^^ c) ^^^ c = a := by rw [Nat.xor_assoc, Nat.xor_self, Nat.xor_zero]
theorem xor_inj {a b c : Nat} (h : a ^^^ c = b ^^^ c) : a = b := by rw [← xor_back a c, h, xor_back]
theorem crcB_mod (s : Nat) : crcB s % 2 = if 32768 ≤ s then 1 else 0 := by
  unfold crcB
  split
  · have h := Nat.xor_mod_two_pow (a := s * 2 % 65536) (b := 4129) (n := 1)
    rw [show s * 2 % 65536 % 2 ^ 1 = 0 by omega] at h
    exact h
  · omega
theorem crcB_inj {s t : Nat} (hs : s < 65536) (ht : t < 65536) (h : crcB s = crcB t) : s = t := by
  have h1 := crcB_mod s
  have h2 := crcB_mod t
  rw [h, h2] at h1
  unfold crcB at h
  by_cases a : 32768 ≤ s
  · by_cases b : 32768 ≤ t
    · rw [if_pos a, if_pos b] at h
      have := xor_inj h
      omega
    · rw [if_pos a, if_neg b] at h1
      omega
  · by_cases b : 32768 ≤ t
    · rw [if_neg a, if_pos b] at h1
      omega
    · rw [if_neg a, if_neg b] at h
      omega
theorem crcN_inj : ∀ (n : Nat) {s t : Nat}, s < 65536 → t < 65536 → crcN n s = crcN n t → s = t
  | 0, _, _, _, _, h => h
  | n + 1, s, t, hs, ht, h => crcB_inj hs ht (crcN_inj n (crcB_lt s) (crcB_lt t) h)
theorem crcC_inj {s t : Nat} {c : Int} (hs : s < 65536) (ht : t < 65536) (h0 : 0 ≤ c) (h1 : c < 256) (h : crcC s c = crcC t c) : s = t :=
  xor_inj (crcN_inj 8 (Nat.xor_lt_two_pow (n := 16) hs (by omega)) (Nat.xor_lt_two_pow (n := 16) ht (by omega)) h)
theorem crcC_ne {s : Nat} {c d : Int} (hs : s < 65536) (h0 : 0 ≤ c) (h1 : c < 256) (k0 : 0 ≤ d) (k1 : d < 256) (hne : c ≠ d) : crcC s c ≠ crcC s d := fun h => by
  have h2 := crcN_inj 8 (Nat.xor_lt_two_pow (n := 16) hs (by omega)) (Nat.xor_lt_two_pow (n := 16) hs (by omega)) h
  rw [Nat.xor_comm s, Nat.xor_comm s] at h2
  have := xor_inj h2
  omega
theorem crcL_inj : ∀ (l : List Int) {s t : Nat}, s < 65536 → t < 65536 → (∀ c ∈ l, 0 ≤ c ∧ c < 256) → crcL s l = crcL t l → s = t
  | [], _, _, _, _, _, h => h
  | c :: r, s, t, hs, ht, hl, h => by
    have hc := hl c List.mem_cons_self
    rw [crcL_cons, crcL_cons] at h
    exact crcC_inj hs ht hc.1 hc.2 (crcL_inj r (crcC_lt s c hs hc.1 hc.2) (crcC_lt t c ht hc.1 hc.2) (fun d hd => hl d (List.mem_cons_of_mem _ hd)) h)
/-- One byte is another one: so is the sum. -/
theorem crcL_set {l : List Int} {s k : Nat} {c : Int} (hs : s < 65536) (hl : ∀ c ∈ l, 0 ≤ c ∧ c < 256) (hk : k < l.length) (h0 : 0 ≤ c) (h1 : c < 256) (hne : c ≠ l[k]) : crcL s (l.set k c) ≠ crcL s l := by
  have e1 : l = l.take k ++ l[k] :: l.drop (k + 1) := by rw [← List.drop_eq_getElem_cons hk, List.take_append_drop]
  have e2 : l.set k c = l.take k ++ c :: l.drop (k + 1) := List.set_eq_take_append_cons_drop.trans (if_pos hk)
  have hm : ∀ x ∈ l.drop (k + 1), 0 ≤ x ∧ x < 256 := fun x hx => hl x (List.mem_of_mem_drop hx)
  have ht : ∀ x ∈ l.take k, 0 ≤ x ∧ x < 256 := fun x hx => hl x (List.mem_of_mem_take hx)
  have hk' := hl _ (List.getElem_mem hk)
  intro h
  have hp := crcL_lt (l.take k) s hs ht
  have h2 : crcL s l = crcL (crcC (crcL s (l.take k)) l[k]) (l.drop (k + 1)) := by
    conv => lhs; rw [e1]
    unfold crcL
    rw [List.foldl_append, List.foldl_cons]
  rw [e2, h2] at h
  unfold crcL at h
  rw [List.foldl_append, List.foldl_cons] at h
  have h3 := crcL_inj _ (crcC_lt _ _ hp h0 h1) (crcC_lt _ _ hp hk'.1 hk'.2) hm h
  exact crcC_ne hp h0 h1 hk'.1 hk'.2 hne h3
theorem nat_of {x y : Nat} (h : (x : Int) = (y : Int)) : x = y := by omega
/-- Two bytes. -/
def b2 (n : Int) : List Int := [n / 256 % 256, n % 256]
def headP (md e0 e1 : Int) (code : List Int) : List Int := [84, 49, md % 256] ++ b2 e0 ++ b2 e1 ++ b2 (code.length : Int) ++ code
/-- A table, as bytes. -/
def putP (md e0 e1 : Int) (code : List Int) : List Int := headP md e0 e1 code ++ b2 (crcL 65535 (headP md e0 e1 code) : Int)
def at_ (b : List Int) (i : Nat) : Int := b.getD i 0
def of2 (b : List Int) (i : Nat) : Int := at_ b i * 256 + at_ b (i + 1)
/-- May a table be? -/
def tokP (md e0 e1 : Int) (n : Nat) : Bool := decide ((0 ≤ md ∧ md < 16) ∧ (n : Int) ≤ 1024 ∧ (0 ≤ e0 ∧ e0 < (n : Int)) ∧ (0 ≤ e1 ∧ e1 < (n : Int)))
/-- What bytes are read as: whose, its entries, its code; or why not. -/
def tblP (b : List Int) : (Int × Int × Int × List Int) × Int :=
  if b.length < 11 then ((0, 0, 0, []), 10)
  else if ¬ (at_ b 0 = 84 ∧ at_ b 1 = 49) ∨ (b.length : Int) ≠ 11 + of2 b 7 then ((0, 0, 0, []), 11)
  else if of2 b (b.length - 2) ≠ (crcL 65535 (b.take (b.length - 2)) : Int) then ((0, 0, 0, []), 12)
  else if tokP (at_ b 2) (of2 b 3) (of2 b 5) (b.length - 11) = true then ((at_ b 2, of2 b 3, of2 b 5, (b.take (b.length - 2)).drop 9), 0)
  else ((0, 0, 0, []), 11)
def Byts (l : List Int) : Prop := ∀ c ∈ l, 0 ≤ c ∧ c < 256
theorem b2_byts (n : Int) : Byts (b2 n) := by
  intro c hc
  unfold b2 at hc
  simp only [List.mem_cons, List.not_mem_nil, or_false] at hc
  rcases hc with rfl | rfl <;> omega
theorem app_byts {l m : List Int} (h : Byts l) (k : Byts m) : Byts (l ++ m) := fun c hc => by
  rcases List.mem_append.1 hc with hc | hc
  · exact h c hc
  · exact k c hc
theorem head_byts {md e0 e1 : Int} {code : List Int} (hc : Byts code) : Byts (headP md e0 e1 code) := by
  unfold headP
  refine app_byts (app_byts (app_byts (app_byts (fun c hc => ?_) (b2_byts _)) (b2_byts _)) (b2_byts _)) hc
  simp only [List.mem_cons, List.not_mem_nil, or_false] at hc
  rcases hc with rfl | rfl | rfl <;> omega
theorem put_byts {md e0 e1 : Int} {code : List Int} (hc : Byts code) : Byts (putP md e0 e1 code) := app_byts (head_byts hc) (b2_byts _)
theorem head_length (md e0 e1 : Int) (code : List Int) : (headP md e0 e1 code).length = 9 + code.length := by
  unfold headP b2
  simp only [List.length_append, List.length_cons, List.length_nil]
theorem put_length (md e0 e1 : Int) (code : List Int) : (putP md e0 e1 code).length = 11 + code.length := by
  unfold putP
  rw [List.length_append, head_length]
  unfold b2
  simp only [List.length_cons, List.length_nil]
  omega
theorem put_take (md e0 e1 : Int) (code : List Int) : (putP md e0 e1 code).take (9 + code.length) = headP md e0 e1 code := by
  unfold putP
  rw [← head_length md e0 e1 code]
  exact List.take_left
theorem at_head (md e0 e1 : Int) (code : List Int) {i : Nat} (hi : i < 9) : at_ (putP md e0 e1 code) i = at_ ([84, 49, md % 256] ++ b2 e0 ++ b2 e1 ++ b2 (code.length : Int)) i := by
  unfold putP headP at_
  rw [List.append_assoc, List.getD_eq_getElem?_getD, List.getD_eq_getElem?_getD, List.getElem?_append_left (by unfold b2; simpa using hi)]
theorem at_sum (md e0 e1 : Int) (code : List Int) (i : Nat) : at_ (putP md e0 e1 code) (9 + code.length + i) = at_ (b2 (crcL 65535 (headP md e0 e1 code) : Int)) i := by
  unfold putP at_
  rw [List.getD_eq_getElem?_getD, List.getD_eq_getElem?_getD, ← head_length md e0 e1 code, List.getElem?_append_right (by omega)]
  congr 2
  omega
theorem crc_lt {l : List Int} (h : Byts l) : crcL 65535 l < 65536 := crcL_lt l _ (by omega) h
theorem sum_back (n : Int) (h0 : 0 ≤ n) (h1 : n < 65536) : n / 256 % 256 * 256 + n % 256 = n := by omega
/-- What was laid is read as it was. -/
theorem read_put {md e0 e1 : Int} {code : List Int} (hc : Byts code) (hr : tokP md e0 e1 code.length = true) : tblP (putP md e0 e1 code) = ((md, e0, e1, code), 0) := by
  have hr2 := hr
  unfold tokP at hr2
  have hr2 := of_decide_eq_true hr2
  obtain ⟨⟨a1, a2⟩, a3, ⟨a4, a5⟩, a6, a7⟩ := hr2
  have hl := put_length md e0 e1 code
  have x0 : at_ (putP md e0 e1 code) 0 = 84 := at_head md e0 e1 code (i := 0) (by omega)
  have x1 : at_ (putP md e0 e1 code) 1 = 49 := at_head md e0 e1 code (i := 1) (by omega)
  have x2 : at_ (putP md e0 e1 code) 2 = md := (at_head md e0 e1 code (i := 2) (by omega)).trans (by show md % 256 = md; omega)
  have x3 : of2 (putP md e0 e1 code) 3 = e0 := by
    unfold of2
    rw [at_head md e0 e1 code (i := 3) (by omega), at_head md e0 e1 code (i := 3 + 1) (by omega)]
    exact sum_back e0 (by omega) (by omega)
  have x5 : of2 (putP md e0 e1 code) 5 = e1 := by
    unfold of2
    rw [at_head md e0 e1 code (i := 5) (by omega), at_head md e0 e1 code (i := 5 + 1) (by omega)]
    exact sum_back e1 (by omega) (by omega)
  have x7 : of2 (putP md e0 e1 code) 7 = (code.length : Int) := by
    unfold of2
    rw [at_head md e0 e1 code (i := 7) (by omega), at_head md e0 e1 code (i := 7 + 1) (by omega)]
    exact sum_back _ (by omega) (by omega)
  have xs : of2 (putP md e0 e1 code) (9 + code.length) = (crcL 65535 (headP md e0 e1 code) : Int) := by
    have h1 := at_sum md e0 e1 code 0
    have h2 := at_sum md e0 e1 code 1
    rw [Nat.add_zero] at h1
    unfold of2
    rw [h1, h2]
    have := crc_lt (head_byts (md := md) (e0 := e0) (e1 := e1) hc)
    exact sum_back _ (by omega) (by omega)
  unfold tblP
  rw [hl, show 11 + code.length - 2 = 9 + code.length by omega, put_take, xs, x0, x1, x2, x3, x5, x7, show 11 + code.length - 11 = code.length by omega, hr]
  rw [if_neg (by omega), if_neg (by simp), if_neg (by simp), if_pos rfl]
  congr 4
theorem at_set {l : List Int} {k i : Nat} {c : Int} (hk : k < l.length) : at_ (l.set k c) i = if i = k then c else at_ l i := by
  unfold at_
  rw [List.getD_eq_getElem?_getD, List.getElem?_set]
  by_cases h : k = i
  · subst h
    rw [if_pos rfl, if_pos hk, if_pos rfl]; rfl
  · rw [if_neg h, if_neg (fun e => h e.symm), List.getD_eq_getElem?_getD]
theorem of2_ne {l : List Int} {k i : Nat} {c : Int} (hk : k < l.length) (h0 : 0 ≤ c) (h1 : c < 256) (hb : Byts l) (hne : c ≠ at_ l k) (hi : i + 1 < l.length) (h : i = k ∨ i + 1 = k) : of2 (l.set k c) i ≠ of2 l i := by
  have hm : ∀ j, j < l.length → 0 ≤ at_ l j ∧ at_ l j < 256 := fun j hj => by
    unfold at_
    rw [List.getD_eq_getElem?_getD, List.getElem?_eq_getElem hj]
    exact hb _ (List.getElem_mem hj)
  have h2 := hm i (by omega)
  have h3 := hm (i + 1) hi
  unfold of2
  rw [at_set hk, at_set hk]
  rcases h with rfl | rfl
  · rw [if_pos rfl, if_neg (by omega)]
    omega
  · rw [if_neg (by omega), if_pos rfl]
    omega
/-- Bytes of which one is another one are no table. -/
theorem read_flip {md e0 e1 : Int} {code : List Int} (hc : Byts code) (hr : tokP md e0 e1 code.length = true) {k : Nat} {c : Int} (hk : k < (putP md e0 e1 code).length) (h0 : 0 ≤ c) (h1 : c < 256) (hne : c ≠ at_ (putP md e0 e1 code) k) : (tblP ((putP md e0 e1 code).set k c)).2 ≠ 0 := by
  have hr2 := hr
  unfold tokP at hr2
  have hr2 := of_decide_eq_true hr2
  obtain ⟨⟨a1, a2⟩, a3, ⟨a4, a5⟩, a6, a7⟩ := hr2
  have hl := put_length md e0 e1 code
  have hb := put_byts (md := md) (e0 := e0) (e1 := e1) hc
  have x0 : at_ (putP md e0 e1 code) 0 = 84 := at_head md e0 e1 code (i := 0) (by omega)
  have x1 : at_ (putP md e0 e1 code) 1 = 49 := at_head md e0 e1 code (i := 1) (by omega)
  have x7 : of2 (putP md e0 e1 code) 7 = (code.length : Int) := by
    unfold of2
    rw [at_head md e0 e1 code (i := 7) (by omega), at_head md e0 e1 code (i := 7 + 1) (by omega)]
    exact sum_back _ (by omega) (by omega)
  have hlt := crc_lt (head_byts (md := md) (e0 := e0) (e1 := e1) hc)
  have xs : of2 (putP md e0 e1 code) (9 + code.length) = (crcL 65535 (headP md e0 e1 code) : Int) := by
    have h1 := at_sum md e0 e1 code 0
    have h2 := at_sum md e0 e1 code 1
    rw [Nat.add_zero] at h1
    unfold of2
    rw [h1, h2]
    exact sum_back _ (by omega) (by omega)
  obtain ⟨B, hB⟩ : ∃ B, putP md e0 e1 code = B := ⟨_, rfl⟩
  have hT : B.take (9 + code.length) = headP md e0 e1 code := by rw [← hB]; exact put_take md e0 e1 code
  rw [hB] at hl hb x0 x1 x7 xs hk hne ⊢
  intro he
  unfold tblP at he
  rw [List.length_set, hl, if_neg (by omega), show 11 + code.length - 2 = 9 + code.length by omega] at he
  split at he
  · cases he
  · rename_i hf
    split at he
    · cases he
    · rename_i hs
      have hs := Classical.not_not.1 hs
      obtain ⟨hf1, hf2⟩ := not_or.1 hf
      have hf1 := Classical.not_not.1 hf1
      have hf2 := Classical.not_not.1 hf2
      have k0 : k ≠ 0 := fun e => by
        have h := hf1.1
        rw [at_set hk, if_pos e.symm] at h
        subst e
        exact hne (h.trans x0.symm)
      have k1 : k ≠ 1 := fun e => by
        have h := hf1.2
        rw [at_set hk, if_pos e.symm] at h
        subst e
        exact hne (h.trans x1.symm)
      by_cases h9 : k < 9 + code.length
      · have q1 : of2 (B.set k c) (9 + code.length) = of2 B (9 + code.length) := by
          unfold of2
          rw [at_set hk, at_set hk, if_neg (by omega), if_neg (by omega)]
        have e2 : (B.set k c).take (9 + code.length) = (B.take (9 + code.length)).set k c := List.take_set
        rw [q1, xs, e2, hT] at hs
        have hk2 : k < (headP md e0 e1 code).length := by rw [head_length]; exact h9
        have hne2 : c ≠ (headP md e0 e1 code)[k] := fun e => hne (by
          rw [e]
          unfold at_
          rw [List.getD_eq_getElem?_getD, List.getElem?_eq_getElem hk]
          have h3 : (B.take (9 + code.length))[k]? = B[k]? := by rw [List.getElem?_take, if_pos h9]
          rw [hT, List.getElem?_eq_getElem hk2, List.getElem?_eq_getElem hk] at h3
          exact Option.some.inj h3)
        exact crcL_set (by omega) (head_byts hc) hk2 h0 h1 hne2 (nat_of hs.symm)
      · have e2 : (B.set k c).take (9 + code.length) = B.take (9 + code.length) := List.take_set_of_le (by omega)
        rw [e2, hT, ← xs] at hs
        exact of2_ne hk h0 h1 hb hne (by omega) (by omega) hs
end Go.Proofs.Ytbaapakkdnhcmaa.PWe
