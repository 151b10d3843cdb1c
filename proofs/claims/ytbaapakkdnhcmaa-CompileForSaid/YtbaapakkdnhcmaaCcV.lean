/- Calls of function values; where something is first in a list of whole numbers, and whether there is something: walks. Helper text. -/
import Derived.Test.YtbaapakkdnhcmaaCbWrd
import Derived.Test.YtbaapakkdnhcmaaK3
import Derived.MapKept
import Derived.Maps.OwnOps
import Derived.Test.YtbaapakkdnhcmaaWkPlain
import Derived.Test.YtbaapakkdnhcmaaPWex1
import Derived.Test.YtbaapakkdnhcmaaWhRun
namespace Go.Proofs.Ytbaapakkdnhcmaa.PWe
open Go.RowKit Go.Proofs.Ytbaapakkdnhcmaa.Kx Go.Proofs.YtbaapakkdnhcmaaW.PrintWords Go.Proofs.YtbaapakkdnhcmaaW.PrintLast Go.Proofs.YtbaapakkdnhcmaaW.PrintMore
set_option linter.unusedVariables false
set_option linter.unusedSimpArgs false

section
variable {P : Program} {ops : Array Oper} {rest : List Oper} {oi : Oper} {a : Act} {w : World} {Q : Exit → Act → World → Prop}
/-- A call of a function value in a plain region. -/
theorem goesC_ (N : Option Tmp) (hd : oi.dst = N) (hg : oi.guard = none) {f : FuncId} {fn : Func} {t : Tmp} {as_ : Array Operand} {ts : Array TypeId} {caps : Array Value} (hf : P.funcs[f]? = some fn) (hname : (fn.name == "runtime.NumGoroutine") = false) (hb : fn.body.isSome = true) (args : Array Value)
    (hop : oi.op = .call { callee := .value (.tmp t), args := as_, argTypes := ts }) (hv : a.eval (.tmp t) = .func (.func f) #[] caps) (hargs : as_.map a.eval ++ caps = args)
    (h : Calls P f args w fun e w' => ∃ v, e = .returned v ∧ wpList P ops Q rest (a.put N v) w') : wpList P ops Q (oi :: rest) a w := by
  refine wpList_plain hg fun K hK => ?_
  have he := enters_ hf hname hb args w
  have hrun : (execOp a.eval oi).run P w = .ok (.enter f args) w := by
    unfold execOp
    simp only [hop, resolve, hv, Deferred.ofValue, invoke, Sem.run_bind, Sem.run_pure, Result.andThen_ok, Array.empty_append, hargs, he]
  unfold Oper.wp
  rw [hrun]
  subst hd
  exact h.mono fun e w' ⟨v, he2, hw⟩ => by subst he2; exact hK _ _ hw
end
/-- The first place at which a predicate holds, from k on; -1: none. -/
def idxP {α : Type} (p : α → Bool) : List α → Nat → Int
  | [], _ => -1
  | x :: r, k => if p x = true then (k : Int) else idxP p r (k + 1)
theorem idxP_any {α : Type} (p : α → Bool) : ∀ (l : List α) (k : Nat), decide (0 ≤ idxP p l k) = l.any p
  | [], k => by simp [idxP]
  | x :: r, k => by
    rw [idxP, List.any_cons]
    by_cases h : p x = true
    · rw [if_pos h, h]
      simp
    · rw [if_neg h, idxP_any p r (k + 1)]
      simp [Bool.eq_false_iff.mpr h]
theorem idxP_stay {α : Type} (p : α → Bool) {l : List α} {k : Nat} (hk : k < l.length) (h : p l[k] = false) : idxP p (l.drop k) k = idxP p (l.drop (k + 1)) (k + 1) := by
  rw [List.drop_eq_getElem_cons hk, idxP, if_neg (by rw [h]; simp)]
theorem idxP_hit {α : Type} (p : α → Bool) {l : List α} {k : Nat} (hk : k < l.length) (h : p l[k] = true) : idxP p (l.drop k) k = k := by
  rw [List.drop_eq_getElem_cons hk, idxP, if_pos h]
set_option maxHeartbeats 1000000 in
theorem index_calls (A : Option Addr) (c : Nat) (l : List Int) (m : Int) (w : World) (hr : Kd.C (Kd.int .i64) w A l.length l) :
    Calls Try.prog 97 #[.slice A l.length c, .int .i64 m] w fun e w' => e = .returned (.int .i64 (idxP (fun x => m == x) l 0)) ∧ w' = w := by
  have HR := Aside0.mk hr
  have hm : l.length ≤ 9223372036854775807 := hr.2.1
  clear hr
  go_enter Try.func97, Try.ntmps97
  go_wp2_with fail
  go_loopw [4, 5, 8] (fun _ _ v8 wr => ∃ k : Nat, k ≤ l.length ∧ v8 = .int .i64 (k : Int) ∧ Aside0 (idxP (fun x => m == x) l 0 = idxP (fun x => m == x) (l.drop k) k) ∧ wr = w) (fun _ _ v8 _ => ((l.length : Int) - intOf v8).toNat)
  case atStart => exact ⟨0, Nat.zero_le _, rfl, ⟨by simp⟩, rfl⟩
  case round =>
    obtain ⟨k, hk, rfl, HI, rfl⟩ := hrel
    by_cases hlt : k < l.length
    · have m1 : decide ((k : Int) < (l.length : Int)) = true := decide_eq_true (by omega)
      have m2 : decide (k < l.length) = true := decide_eq_true hlt
      have q1 : (0 ≤ (k : Int)) = True := eq_true (by omega)
      have q2 : ((k : Int) < (l.length : Int)) = True := eq_true (by omega)
      have q3 : (k < l.length) = True := eq_true hlt
      obtain ⟨x, hx⟩ : ∃ x, l[k] = x := ⟨_, rfl⟩
      obtain ⟨ad, hA, x0⟩ := int_at HR.out hlt hlt hx
      subst hA
      by_cases hp : (m == x) = true
      · have HH : Aside0 (idxP (fun x => m == x) l 0 = k) := ⟨by rw [HI.out, idxP_hit _ hlt (by rw [hx]; exact hp)]⟩
        clear hx HI
        go_wp2_with fail
        go_ret
        exact ⟨by rw [HH.out]; rfl, rfl⟩
      · have hq : (m == x) = false := Bool.eq_false_iff.mpr hp
        have HH : Aside0 (idxP (fun x => m == x) l 0 = idxP (fun x => m == x) (l.drop (k + 1)) (k + 1)) := ⟨by rw [HI.out, idxP_stay _ hlt (by rw [hx]; exact hq)]⟩
        clear hp hx HI
        go_wp2_with fail
        exact ⟨⟨k + 1, by omega, by rw [Int.natCast_add]; rfl, HH, trivial⟩, by simp [intOf]; omega⟩
    · have m1 : decide ((k : Int) < (l.length : Int)) = false := decide_eq_false (by omega)
      have m2 : decide (k < l.length) = false := decide_eq_false hlt
      have HH : Aside0 (idxP (fun x => m == x) l 0 = -1) := ⟨by rw [HI.out, List.drop_eq_nil_of_le (by omega)]; rfl⟩
      clear hlt HI
      go_wp2_with fail
      go_ret
      exact ⟨by rw [HH.out]; rfl, rfl⟩
/-- Is it in a list? -/
def has_ (l : List Int) (m : Int) : Bool := l.any fun x => m == x
theorem contains_calls (A : Option Addr) (c : Nat) (l : List Int) (m : Int) (w : World) (hr : Kd.C (Kd.int .i64) w A l.length l) :
    Calls Try.prog 65 #[.slice A l.length c, .int .i64 m] w fun e w' => e = .returned (.bool (has_ l m)) ∧ w' = w := by
  have HI := Aside0.mk (index_calls A c l m w hr)
  have HV := Aside0.mk (idxP_any (fun x => m == x) l 0)
  obtain ⟨v, hv⟩ : ∃ v, idxP (fun x => m == x) l 0 = v := ⟨_, rfl⟩
  rw [hv] at HI HV
  clear hv hr
  go_enter Try.func65, Try.ntmps65
  go_wp2_with fail
  refine HI.out.mono ?_
  rintro e w' ⟨rfl, rfl⟩
  go_wp2_with fail
  go_ret
  exact ⟨by rw [has_, ← HV.out]; rfl, rfl⟩
section
variable {f : FuncId} {fn : Func} {caps : Array Value} (hf : Try.prog.funcs[f]? = some fn) (hname : (fn.name == "runtime.NumGoroutine") = false) (hb : fn.body.isSome = true)
include hf hname hb
set_option maxHeartbeats 1000000 in
theorem indexf_int (p : Int → Bool) (A : Option Addr) (c : Nat) (l : List Int) (w : World) (hr : Kd.C (Kd.int .i64) w A l.length l) (args : Int → Array Value) (hargs : ∀ x, #[.int .i64 x] ++ caps = args x) (hcl : ∀ x ∈ l, ∀ W, Below w.heap.size w W → Calls Try.prog f (args x) W fun e w' => e = .returned (.bool (p x)) ∧ Below W.heap.size W w') :
    Calls Try.prog 142 #[.slice A l.length c, .func (.func f) #[] caps] w fun e w' => e = .returned (.int .i64 (idxP p l 0)) ∧ Below w.heap.size w w' := by
  have HR := Aside0.mk hr
  have HCL := Aside0.mk hcl
  have HARG := Aside0.mk hargs
  have HF := Aside0.mk hf
  have HN := Aside0.mk hname
  have HBO := Aside0.mk hb
  have hm : l.length ≤ 9223372036854775807 := hr.2.1
  clear hr hcl hargs hf hname hb
  go_enter Try.func142, Try.ntmps142
  go_wp2_with fail
  go_loopw [4, 5, 8] (fun _ _ v8 wr => ∃ k : Nat, k ≤ l.length ∧ v8 = .int .i64 (k : Int) ∧ Aside0 (idxP p l 0 = idxP p (l.drop k) k) ∧ Below w.heap.size w wr) (fun _ _ v8 _ => ((l.length : Int) - intOf v8).toNat)
  case atStart => exact ⟨0, Nat.zero_le _, rfl, ⟨by simp⟩, Below.refl _ _⟩
  case round =>
    obtain ⟨k, hk, rfl, HI, hbr⟩ := hrel
    have HBr := Aside0.mk hbr
    clear hbr
    by_cases hlt : k < l.length
    · have m1 : decide ((k : Int) < (l.length : Int)) = true := decide_eq_true (by omega)
      have m2 : decide (k < l.length) = true := decide_eq_true hlt
      have q1 : (0 ≤ (k : Int)) = True := eq_true (by omega)
      have q2 : ((k : Int) < (l.length : Int)) = True := eq_true (by omega)
      have q3 : (k < l.length) = True := eq_true hlt
      obtain ⟨x, hx⟩ : ∃ x, l[k] = x := ⟨_, rfl⟩
      have HM : Aside0 (x ∈ l) := ⟨by rw [← hx]; exact List.getElem_mem hlt⟩
      obtain ⟨ad, hA, x0⟩ := int_at (Kd.C_below HR.out HBr.out) hlt hlt hx
      subst hA
      have hcall := HCL.out x HM.out wr HBr.out
      cases hp : p x
      · have HH : Aside0 (idxP p l 0 = idxP p (l.drop (k + 1)) (k + 1)) := ⟨by rw [HI.out, idxP_stay _ hlt (by rw [hx]; exact hp)]⟩
        rw [hp] at hcall
        have HC := Aside0.mk hcall
        clear hx hcall HI hp
        have hent := enters_ HF.out HN.out HBO.out (#[.int .i64 x] ++ caps) wr
        rw [← HARG.out x] at HC
        go_wp2_with fail
        refine HC.out.mono ?_
        rintro e wq ⟨rfl, hbq⟩
        have HBq := Aside0.mk (below_step HBr.out hbq)
        clear hbq hent
        go_wp2_with fail
        exact ⟨⟨k + 1, by omega, by rw [Int.natCast_add]; rfl, HH, HBq.out⟩, by simp [intOf]; omega⟩
      · have HH : Aside0 (idxP p l 0 = k) := ⟨by rw [HI.out, idxP_hit _ hlt (by rw [hx]; exact hp)]⟩
        rw [hp] at hcall
        have HC := Aside0.mk hcall
        clear hx hcall HI hp
        have hent := enters_ HF.out HN.out HBO.out (#[.int .i64 x] ++ caps) wr
        rw [← HARG.out x] at HC
        go_wp2_with fail
        refine HC.out.mono ?_
        rintro e wq ⟨rfl, hbq⟩
        have HBq := Aside0.mk (below_step HBr.out hbq)
        clear hbq hent
        go_wp2_with fail
        go_ret
        exact ⟨by rw [HH.out]; rfl, HBq.out⟩
    · have m1 : decide ((k : Int) < (l.length : Int)) = false := decide_eq_false (by omega)
      have m2 : decide (k < l.length) = false := decide_eq_false hlt
      have HH : Aside0 (idxP p l 0 = -1) := ⟨by rw [HI.out, List.drop_eq_nil_of_le (by omega)]; rfl⟩
      clear hlt HI
      go_wp2_with fail
      go_ret
      exact ⟨by rw [HH.out]; rfl, HBr.out⟩
theorem containsf_int (p : Int → Bool) (A : Option Addr) (c : Nat) (l : List Int) (w : World) (hr : Kd.C (Kd.int .i64) w A l.length l) (args : Int → Array Value) (hargs : ∀ x, #[.int .i64 x] ++ caps = args x) (hcl : ∀ x ∈ l, ∀ W, Below w.heap.size w W → Calls Try.prog f (args x) W fun e w' => e = .returned (.bool (p x)) ∧ Below W.heap.size W w') :
    Calls Try.prog 139 #[.slice A l.length c, .func (.func f) #[] caps] w fun e w' => e = .returned (.bool (l.any p)) ∧ Below w.heap.size w w' := by
  have HI := Aside0.mk (indexf_int hf hname hb p A c l w hr args hargs hcl)
  have HV := Aside0.mk (idxP_any p l 0)
  obtain ⟨v, hv⟩ : ∃ v, idxP p l 0 = v := ⟨_, rfl⟩
  rw [hv] at HI HV
  clear hv hr hcl hargs hf hname hb
  go_enter Try.func139, Try.ntmps139
  go_wp2_with fail
  refine HI.out.mono ?_
  rintro e w' ⟨rfl, hb⟩
  have HB := Aside0.mk hb
  clear hb
  go_wp2_with fail
  go_ret
  exact ⟨by rw [← HV.out]; rfl, HB.out⟩
end
end Go.Proofs.Ytbaapakkdnhcmaa.PWe
namespace Go.Proofs.Ytbaapakkdnhcmaa.PWe
open Go.RowKit Go.Proofs.Ytbaapakkdnhcmaa.Kx Go.Proofs.YtbaapakkdnhcmaaW.PrintWords Go.Proofs.YtbaapakkdnhcmaaW.PrintLast Go.Proofs.YtbaapakkdnhcmaaW.PrintMore
set_option linter.unusedVariables false
set_option linter.unusedSimpArgs false

def setE : Nat → List Int → List MapEntry
  | _, [] => []
  | i, k :: r => ⟨.int .i64 k, .bool true, i⟩ :: setE (i + 1) r
def MapB (l : List Int) : Obj := .map (setE 0 l).toArray l.length
theorem setE_push : ∀ (l : List Int) (i : Nat) (x : Int), setE i (l ++ [x]) = setE i l ++ [⟨.int .i64 x, .bool true, i + l.length⟩]
  | [], i, x => rfl
  | k :: r, i, x => by
    rw [List.cons_append, setE, setE_push r (i + 1) x, setE, List.cons_append, List.length_cons]
    congr 4
    omega
theorem find_set (q : IntKind) (x : Int) : ∀ (l : List Int) (i j : Nat), (x ∈ l → ∃ n, Instr.findNow (.int q) (.int .i64 x) (setE i l) j = some (some (n, .bool true))) ∧ (x ∉ l → Instr.findNow (.int q) (.int .i64 x) (setE i l) j = some none)
  | [], i, j => ⟨fun h => (by cases h), fun _ => rfl⟩
  | k :: r, i, j => by
    have ih := find_set q x r (i + 1) (j + 1)
    by_cases h : x = k
    · refine ⟨fun _ => ⟨j, ?_⟩, fun hn => absurd (h ▸ List.mem_cons_self) hn⟩
      simp [setE, Instr.findNow, Instr.sameNow, h]
    · have hb : (x == k) = false := by simpa using h
      refine ⟨fun hm => ?_, fun hn => ?_⟩
      · obtain ⟨n, e⟩ := ih.1 (by rcases List.mem_cons.1 hm with e | e; exact absurd e h; exact e)
        exact ⟨n, (by simp only [setE, Instr.findNow, Instr.sameNow, hb, if_true]; exact e)⟩
      · have e := ih.2 (fun hm => hn (List.mem_cons_of_mem _ hm))
        simp only [setE, Instr.findNow, Instr.sameNow, hb, if_true]; exact e
section
variable {P : Program} {w : World} {t kt et : TypeId} {q : IntKind}
theorem checkKey_int (hk : P.underlying kt = some (.int q)) (x : Int) (b : Bool) : (Instr.checkKey b 10000 kt (.int .i64 x)).run P w = .ok () w := by
  rw [show (10000 : Nat) = 9999 + 1 from rfl, Instr.checkKey]
  simp [Sem.run_bind, Sem.run_pure, Result.andThen_ok, run_underlying hk]
theorem run_look_set (ht : P.underlying t = some (.map kt et)) (hk : P.underlying kt = some (.int q)) (hz : ∀ w, (zeroValue et).run P w = .ok (.bool false) w) {g : Nat} {l : List Int} (hg : w.heap[g]? = some (MapB l)) (x : Int) :
    (Instr.lookup t (.map (some g)) (.int .i64 x) false).run P w = .ok (.bool (decide (x ∈ l))) w := by
  have hgo : (getObj g).run P w = .ok (.map (setE 0 l).toArray l.length) w := by simp [getObj, Sem.run, hg, MapB]
  have hck := checkKey_int (P := P) (w := w) hk x
  unfold Instr.lookup
  by_cases hx : x ∈ l
  · obtain ⟨n, e⟩ := (find_set q x l 0 0).1 hx
    simp [Sem.run_bind, Sem.run_pure, Result.andThen_ok, run_underlying ht, hgo, hck, run_underlying hk, Instr.findKey, e, hx]
  · have e := (find_set q x l 0 0).2 hx
    simp [Sem.run_bind, Sem.run_pure, Result.andThen_ok, run_underlying ht, hgo, hck, run_underlying hk, Instr.findKey, e, hx, hz]
theorem run_put_set (ht : P.underlying t = some (.map kt et)) (hk : P.underlying kt = some (.int q)) {g : Nat} {l : List Int} (hg : w.heap[g]? = some (MapB l)) (x : Int) (hx : x ∉ l) :
    (Instr.mapUpdate t (.map (some g)) (.int .i64 x) (.bool true)).run P w = .ok () { w with heap := w.heap.setIfInBounds g (MapB (l ++ [x])) } := by
  have hgo : (getObj g).run P w = .ok (.map (setE 0 l).toArray l.length) w := by simp [getObj, Sem.run, hg, MapB]
  have hck := checkKey_int (P := P) (w := w) hk x
  have hg' : w.heap[g]? = some (.map (setE 0 l).toArray l.length) := hg
  have hso : (setObj g (MapB (l ++ [x]))).run P w = .ok () { w with heap := w.heap.setIfInBounds g (MapB (l ++ [x])) } := by simp [setObj, Sem.run, hg']
  have e := (find_set q x l 0 0).2 hx
  have hm : Obj.map (setE 0 l ++ [({ key := .int .i64 x, val := .bool true, born := l.length } : MapEntry)]).toArray (l.length + 1) = MapB (l ++ [x]) := by
    unfold MapB
    rw [setE_push, Nat.zero_add, List.length_append]
    rfl
  unfold Instr.mapUpdate
  simp [Sem.run_bind, Sem.run_pure, Result.andThen_ok, run_underlying ht, hgo, hck, run_underlying hk, Instr.findKey, e, hso, hm]
variable {ops : Array Oper} {rest : List Oper} {o : Oper} {a : Act} {Q : Exit → Act → World → Prop} {W : World}
theorem lookN (hgd : o.guard = none) (m x : Operand) (hop : o.op = Op.lookup t m x false) (ht : P.underlying t = some (.map kt et)) (hk : P.underlying kt = some (.int q)) (hz : ∀ w, (zeroValue et).run P w = .ok (.bool false) w)
    (g : Nat) (l : List Int) (hg : Aside0 (W.heap[g]? = some (MapB l))) (y : Int) (hm : a.eval m = .map (some g)) (hx : a.eval x = .int .i64 y)
    (bb : Bool) (hbb : decide (y ∈ l) = bb) (h : wpList P ops Q rest (a.put o.dst (.bool bb)) W) : wpList P ops Q (o :: rest) a W := by
  refine wpList_plain hgd fun K hK => ?_
  unfold Oper.wp
  simp only [execOp, hop, hm, hx]
  have hr := run_look_set ht hk hz hg.out y
  rw [hbb] at hr
  simp [hr, Result.andThen]
  exact hK _ _ h
theorem putN (hgd : o.guard = none) (m x v : Operand) (hop : o.op = Op.mapUpdate t m x v) (ht : P.underlying t = some (.map kt et)) (hk : P.underlying kt = some (.int q))
    (g : Nat) (l : List Int) (hg : Aside0 (W.heap[g]? = some (MapB l))) (y : Int) (hy : y ∉ l) (hm : a.eval m = .map (some g)) (hx : a.eval x = .int .i64 y) (hv : a.eval v = .bool true)
    (h : ∀ W2, Aside0 (W2.heap[g]? = some (MapB (l ++ [y]))) → Aside0 (∀ b, b ≠ g → W2.heap[b]? = W.heap[b]?) → Aside0 (∀ B w0, B ≤ g → Below B w0 W → Below B w0 W2) → wpList P ops Q rest (a.put o.dst undef) W2) : wpList P ops Q (o :: rest) a W := by
  refine wpList_plain hgd fun K hK => ?_
  have hlt : g < W.heap.size := (Array.getElem?_eq_some_iff.1 hg.out).1
  unfold Oper.wp
  simp [execOp, hop, hm, hx, hv, run_put_set ht hk hg.out y hy, Result.andThen]
  have hne : ∀ b, b ≠ g → (W.heap.setIfInBounds g (MapB (l ++ [y])))[b]? = W.heap[b]? := fun b hb => Array.getElem?_setIfInBounds_ne (fun e => hb e.symm)
  exact hK _ _ (h _ ⟨by simp [hlt]⟩ ⟨hne⟩ ⟨fun B w0 hB hb => ⟨hb.os, hb.tape, hb.output, by simpa using hb.size, fun k hk => (hne k (by omega)).trans (hb.block k hk)⟩⟩)
theorem mapN (hgd : o.guard = none) {N : Tmp} (hd : o.dst = some N) (hop : o.op = Op.makeMap t none) (ht : P.underlying t = some (.map kt et)) (HB : Aside0 (Below w.heap.size w W))
    (h : ∀ g w1, Aside0 (w1.heap[g]? = some (MapB [])) → Aside0 (W.heap.size ≤ g) → Aside0 (Below w.heap.size w w1) → Aside0 (Below W.heap.size W w1) → wpList P ops Q rest (a.put o.dst (.map (some g))) w1) : wpList P ops Q (o :: rest) a W := by
  refine wpList_plain hgd fun K hK => ?_
  unfold Oper.wp
  simp [execOp, hop, Instr.makeMap, Sem.run_bind, Sem.run_pure, run_underlying ht, newObj, Sem.run, Result.andThen]
  exact hK _ _ (h _ _ ⟨heap_alloc_new _ _⟩ ⟨Nat.le_refl _⟩ ⟨below_step HB.out (below_alloc (Below.refl _ _) _)⟩ ⟨below_alloc (Below.refl _ _) _⟩)
end
end Go.Proofs.Ytbaapakkdnhcmaa.PWe
namespace Go.Proofs.Ytbaapakkdnhcmaa.PWe
open Go.RowKit Go.Proofs.Ytbaapakkdnhcmaa.Kx Go.Proofs.YtbaapakkdnhcmaaW.PrintWords Go.Proofs.YtbaapakkdnhcmaaW.PrintLast Go.Proofs.YtbaapakkdnhcmaaW.PrintMore
set_option linter.unusedVariables false
set_option linter.unusedSimpArgs false

theorem C_map {w W : World} {A : Option Addr} {n : Nat} {xs : List Int} (h : Kd.C (Kd.int .i64) w A n xs) {g : Nat} {es : Array MapEntry} {c : Nat} (hg : w.heap[g]? = some (.map es c)) (hne : ∀ b, b ≠ g → W.heap[b]? = w.heap[b]?) : Kd.C (Kd.int .i64) W A n xs := by
  have hR := Kd.reads_of_C (enc := Value.int .i64) (d := 0) (h1 := fun _ => rfl) h
  refine ⟨h.1, h.2.1, fun hn => ?_⟩
  obtain ⟨ad, hA, hc⟩ := hR.2.2 hn
  refine ⟨ad, hA, fun j p hj => ⟨[.int .i64 p], rfl, rfl, fun i u hu => ?_⟩⟩
  rcases i with _ | i
  · have hu' : Value.int .i64 p = u := Option.some.inj hu
    have hlt : j < n := by rw [← hR.1]; exact (List.getElem?_eq_some_iff.1 hj).1
    have h2 := hc j hlt
    rw [List.getD_eq_getElem?_getD, hj] at h2
    replace h2 : w.cell? (ad.add j) = some (.int .i64 p) := h2
    have e : j * (Kd.int .i64).sz + 0 = j := by show j * 1 + 0 = j; omega
    rw [e, ← hu', ← h2]
    refine cell_same (hne _ fun e => ?_)
    unfold World.cell? at h2
    rw [e, hg] at h2
    cases h2
  · cases hu
def outP (m : Int) (x : Int) : Bool := decide (x < 0) || decide (m ≤ x)
theorem named1_calls (g : Nat) (m x : Int) (w : World) (hg : w.cell? ⟨g, 0, none⟩ = some (.int .i64 m)) :
    Calls Try.prog 140 #[.int .i64 x, .pointer (some ⟨g, 0, none⟩)] w fun e w' => e = .returned (.bool (outP m x)) ∧ Below w.heap.size w w' := by
  by_cases h0 : x < 0
  · have m1 : decide (x < 0) = true := decide_eq_true h0
    have hr : outP m x = true := by unfold outP; rw [m1]; rfl
    rw [hr]
    clear hr
    go_enter Try.func140, Try.ntmps140
    go_wp2
    go_ret
    exact ⟨rfl, Below.refl _ _⟩
  · have m1 : decide (x < 0) = false := decide_eq_false h0
    obtain ⟨r, hr⟩ : ∃ r, decide (m ≤ x) = r := ⟨_, rfl⟩
    have hr' : outP m x = r := by unfold outP; rw [m1, hr]; rfl
    rw [hr']
    clear hr'
    go_enter Try.func140, Try.ntmps140
    go_wp2
    go_ret
    exact ⟨rfl, Below.refl _ _⟩
/-- Why some may not be named. -/
def namedP (l : List Int) (m : Int) : Int := if l.length = 0 then 2 else if l.any (outP m) = true then 2 else 0
set_option maxHeartbeats 1000000 in
theorem named_calls (A : Option Addr) (c : Nat) (l : List Int) (m : Int) (w : World) (hr : Kd.C (Kd.int .i64) w A l.length l) :
    Calls Try.prog 130 #[.slice A l.length c, .int .i64 m] w fun e w' => e = .returned (.int .i64 (namedP l m)) ∧ Below w.heap.size w w' := by
  have HR := Aside0.mk hr
  have HB : Aside0 (Below w.heap.size w w) := ⟨Below.refl _ _⟩
  obtain ⟨r, hr⟩ : ∃ r, namedP l m = r := ⟨_, rfl⟩
  rw [hr]
  by_cases h0 : l.length = 0
  · have e0 : r = 2 := by rw [← hr]; unfold namedP; rw [if_pos h0]
    subst e0
    have m1 : ((l.length : Int) == 0) = true := by simp [h0]
    have m2 : (l.length == 0) = true := by simp [h0]
    clear hr
    go_enter Try.func130, Try.ntmps130
    go_wp2_with (first | ((with_reducible refine gate_dst (N := 3) rfl ?_); refine boxN (w := w) rfl (N := 3) rfl (cs := #[.int .i64 m]) (t := 3) (by first | (go_simp; done) | (go_simp; rfl)) HB ?_; intro g1 Wa Ha Lg1 HBa Ka))
    go_ret
    exact ⟨rfl, HBa.out⟩
  · have m1 : ((l.length : Int) == 0) = false := by simp [h0]
    have m2 : (l.length == 0) = false := by simp [h0]
    have HRR := Aside0.mk (show (if l.any (outP m) = true then (2 : Int) else 0) = r by rw [← hr]; unfold namedP; rw [if_neg h0])
    clear hr
    go_enter Try.func130, Try.ntmps130
    go_wp2_with (first | ((with_reducible refine gate_dst (N := 3) rfl ?_); refine boxN (w := w) rfl (N := 3) rfl (cs := #[.int .i64 m]) (t := 3) (by first | (go_simp; done) | (go_simp; rfl)) HB ?_; intro g1 Wa Ha Lg1 HBa Ka))
    refine (containsf_int (f := 140) (caps := #[.pointer (some ⟨g1, 0, none⟩)]) Try.func140 rfl rfl (outP m) A c l Wa (Kd.C_below HR.out HBa.out) (fun x => #[.int .i64 x, .pointer (some ⟨g1, 0, none⟩)]) (fun _ => by simp) (fun x _ W hb => named1_calls g1 m x W ((cell_in (blk_below Ha.out hb) 0).trans rfl))).mono ?_
    rintro e w2 ⟨rfl, hb2⟩
    have HB2 := Aside0.mk (below_step HBa.out hb2)
    clear hb2
    cases ha : l.any (outP m)
    · have e0 : r = 0 := by rw [← HRR.out, ha]; rfl
      subst e0
      clear ha
      go_wp2_with fail
      go_ret
      exact ⟨rfl, HB2.out⟩
    · have e0 : r = 2 := by rw [← HRR.out, ha]; rfl
      subst e0
      clear ha
      go_wp2_with fail
      go_ret
      exact ⟨rfl, HB2.out⟩
/-- Is one named again? -/
def twiceP : List Int → List Int → Bool
  | _, [] => false
  | had, m :: r => if m ∈ had then true else twiceP (had ++ [m]) r
/-- The map behind the look. -/
def Twc (g : Nat) (l : List Int) (r : Bool) (w w' : World) : Prop := (r = false → w'.heap[g]? = some (MapB l)) ∧ (∀ b, b ≠ g → w'.heap[b]? = w.heap[b]?) ∧ (∀ B w0, B ≤ g → Below B w0 w → Below B w0 w')
set_option maxHeartbeats 1000000 in
set_option maxRecDepth 100000 in
theorem twice_calls (g : Nat) (l0 : List Int) (A : Option Addr) (c : Nat) (l : List Int) (w : World) (hg : w.heap[g]? = some (MapB l0)) (hr : Kd.C (Kd.int .i64) w A l.length l) {r : Bool} (hR : twiceP l0 l = r) :
    Calls Try.prog 131 #[.map (some g), .slice A l.length c] w fun e w' => e = .returned (.bool r) ∧ Twc g (l0 ++ l) r w w' := by
  have HR := Aside0.mk hr
  have HG := Aside0.mk hg
  have HRR := Aside0.mk hR
  have hm : l.length ≤ 9223372036854775807 := hr.2.1
  clear hr hg hR
  go_enter Try.func131, Try.ntmps131
  go_wp2_with fail
  go_loopw [6, 9] (fun _ v9 wr => ∃ k : Nat, k ≤ l.length ∧ v9 = .int .i64 (k : Int) ∧ Aside0 (twiceP (l0 ++ l.take k) (l.drop k) = r) ∧ wr.heap[g]? = some (MapB (l0 ++ l.take k)) ∧ Kd.C (Kd.int .i64) wr A l.length l ∧ Aside0 (∀ b, b ≠ g → wr.heap[b]? = w.heap[b]?) ∧ Aside0 (∀ B w0, B ≤ g → Below B w0 w → Below B w0 wr)) (fun _ v9 _ => ((l.length : Int) - intOf v9).toNat)
  case atStart => exact ⟨0, Nat.zero_le _, rfl, ⟨by rw [List.take_zero, List.append_nil, List.drop_zero]; exact HRR.out⟩, by rw [List.take_zero, List.append_nil]; exact HG.out, HR.out, ⟨fun _ _ => rfl⟩, ⟨fun _ _ _ h => h⟩⟩
  case round =>
    obtain ⟨k, hk, rfl, HI, hgk, hrk, HO, HBk⟩ := hrel
    have HGk := Aside0.mk hgk
    have HRk := Aside0.mk hrk
    clear hgk hrk
    by_cases hlt : k < l.length
    · have m1 : decide ((k : Int) < (l.length : Int)) = true := decide_eq_true (by omega)
      have m2 : decide (k < l.length) = true := decide_eq_true hlt
      have q1 : (0 ≤ (k : Int)) = True := eq_true (by omega)
      have q2 : ((k : Int) < (l.length : Int)) = True := eq_true (by omega)
      have q3 : (k < l.length) = True := eq_true hlt
      obtain ⟨x, hx⟩ : ∃ x, l[k] = x := ⟨_, rfl⟩
      obtain ⟨ad, hA, x0⟩ := int_at HRk.out hlt hlt hx
      subst hA
      have hdr : l.drop k = x :: l.drop (k + 1) := by rw [List.drop_eq_getElem_cons hlt, hx]
      have htk : l0 ++ l.take (k + 1) = l0 ++ l.take k ++ [x] := by rw [List.take_add_one, List.getElem?_eq_getElem hlt, hx, List.append_assoc]; rfl
      have HTK := Aside0.mk htk
      obtain ⟨had, hh⟩ : ∃ h, l0 ++ l.take k = h := ⟨_, rfl⟩
      have HI2 : Aside0 ((if x ∈ had then true else twiceP (had ++ [x]) (l.drop (k + 1))) = r) := ⟨by rw [← HI.out, hdr, twiceP, hh]⟩
      rw [hh] at HGk HTK
      clear hx hdr htk hh HI
      by_cases hin : x ∈ had
      · have e0 : r = true := by rw [← HI2.out, if_pos hin]
        subst e0
        have HD := Aside0.mk (decide_eq_true hin)
        clear hin
        go_wp2_with (first | (at_lookup; refine lookN rfl (.tmp 13) (.tmp 14) rfl Try.underlying177 Try.underlying3 (fun w => by go_simp) g had HGk x rfl rfl true HD.out ?_))
        go_ret
        exact ⟨rfl, by unfold Twc; exact ⟨fun h => (by cases h), HO.out, HBk.out⟩⟩
      · have HD := Aside0.mk (decide_eq_false hin)
        have HNI := Aside0.mk hin
        have HI3 : Aside0 (twiceP (had ++ [x]) (l.drop (k + 1)) = r) := ⟨by rw [← HI2.out, if_neg hin]⟩
        clear hin HI2
        go_wp2_with (first | (at_lookup; refine lookN rfl (.tmp 13) (.tmp 14) rfl Try.underlying177 Try.underlying3 (fun w => by go_simp) g had HGk x rfl rfl false HD.out ?_) | (at_mapUpdate; refine putN rfl (.tmp 16) (.tmp 17) _ rfl Try.underlying177 Try.underlying3 g had HGk x HNI.out rfl rfl rfl ?_; intro W2 HG2 HO2 HB2))
        exact ⟨⟨k + 1, by omega, by simp, ⟨by rw [HTK.out]; exact HI3.out⟩, by rw [HTK.out]; exact HG2.out, C_map HRk.out HGk.out HO2.out, ⟨fun b hb => (HO2.out b hb).trans (HO.out b hb)⟩, ⟨fun B w0 h1 h2 => HB2.out B w0 h1 (HBk.out B w0 h1 h2)⟩⟩, by simp [intOf]; omega⟩
    · have m1 : decide ((k : Int) < (l.length : Int)) = false := decide_eq_false (by omega)
      have m2 : decide (k < l.length) = false := decide_eq_false hlt
      have hkl : k = l.length := by omega
      subst hkl
      have e0 : r = false := by rw [← HI.out, List.drop_length]; rfl
      subst e0
      clear HI hlt
      go_wp2_with fail
      go_ret
      exact ⟨rfl, by unfold Twc; exact ⟨fun _ => (by have h := HGk.out; rw [List.take_length] at h; exact h), HO.out, HBk.out⟩⟩
end Go.Proofs.Ytbaapakkdnhcmaa.PWe
namespace Go.Proofs.Ytbaapakkdnhcmaa.PWe
open Go.RowKit Go.Proofs.Ytbaapakkdnhcmaa.Kx Go.Proofs.YtbaapakkdnhcmaaW.PrintWords Go.Proofs.YtbaapakkdnhcmaaW.PrintLast Go.Proofs.YtbaapakkdnhcmaaW.PrintMore
set_option linter.unusedVariables false
set_option linter.unusedSimpArgs false

/-- Why a message may not be. -/
def dataP (wd ad : Int) (lf lt : List Int) (m : Int) : Int :=
  if wd < 1 then 3 else if 8 < wd then 3 else if ad < 0 then 3 else if 64 - wd < ad then 3
  else if 4 < (lf.length : Int) then 2 else if namedP lf m ≠ 0 then 2 else if twiceP [] lf = true then 17 else if namedP lt m ≠ 0 then 2 else if twiceP lf lt = true then 17 else 0
theorem named_or (l : List Int) (m : Int) : namedP l m = 0 ∨ namedP l m = 2 := by
  unfold namedP
  repeat' split
  all_goals first | exact .inl rfl | exact .inr rfl
def winCs (a0 a1 a2 a3 : Int) (A4 : Option Addr) (n4 c4 : Nat) (A5 : Option Addr) (n5 c5 : Nat) : Array Value := #[.int .i64 a0, .int .i64 a1, .int .i64 a2, .int .i64 a3, .slice A4 n4 c4, .slice A5 n5 c5]
theorem win_cells {w : World} {g : Nat} {a0 a1 a2 a3 : Int} {A4 A5 : Option Addr} {n4 c4 n5 c5 : Nat} {t : TypeId} (h : w.heap[g]? = some (.cells (winCs a0 a1 a2 a3 A4 n4 c4 A5 n5 c5) t (0, 0))) :
    w.cell? ⟨g, 0, none⟩ = some (.int .i64 a0) ∧ w.cell? ⟨g, 1, none⟩ = some (.int .i64 a1) ∧ w.cell? ⟨g, 2, none⟩ = some (.int .i64 a2) ∧ w.cell? ⟨g, 3, none⟩ = some (.int .i64 a3) ∧ w.cell? ⟨g, 4, none⟩ = some (.slice A4 n4 c4) ∧ w.cell? ⟨g, 5, none⟩ = some (.slice A5 n5 c5) :=
  ⟨(cell_in h 0).trans rfl, (cell_in h 1).trans rfl, (cell_in h 2).trans rfl, (cell_in h 3).trans rfl, (cell_in h 4).trans rfl, (cell_in h 5).trans rfl⟩
set_option maxHeartbeats 4000000 in
set_option maxRecDepth 100000 in
theorem data_calls (a0 a1 a2 a3 : Int) (A4 : Option Addr) (c4 : Nat) (l4 : List Int) (A5 : Option Addr) (c5 : Nat) (l5 : List Int) (m : Int) (w : World) (hr4 : Kd.C (Kd.int .i64) w A4 l4.length l4) (hr5 : Kd.C (Kd.int .i64) w A5 l5.length l5) {r : Int} (hr : dataP a2 a3 l4 l5 m = r) :
    Calls Try.prog 115 #[.agg (winCs a0 a1 a2 a3 A4 l4.length c4 A5 l5.length c5), .int .i64 m] w fun e w' => e = .returned (.int .i64 r) ∧ Below w.heap.size w w' := by
  have H4 := Aside0.mk hr4
  have H5 := Aside0.mk hr5
  have HB : Aside0 (Below w.heap.size w w) := ⟨Below.refl _ _⟩
  have HR := Aside0.mk hr
  have hm4 : l4.length ≤ 9223372036854775807 := hr4.2.1
  clear hr4 hr5 hr
  unfold dataP at HR
  by_cases h0 : a2 < 1
  · have hr : (3 : Int) = r := by have h := HR.out; simpa only [if_pos h0] using h
    subst hr
    have m0 : decide (a2 < 1) = true := decide_eq_true h0
    clear HR
    unfold winCs
    go_enter Try.func115, Try.ntmps115
    go_wp2_with (first | ((with_reducible refine gate_dst (N := 2) rfl ?_); refine boxN (w := w) rfl (N := 2) rfl (cs := winCs a0 a1 a2 a3 A4 l4.length c4 A5 l5.length c5) (t := 92) (by first | (go_simp; done) | (go_simp; rfl)) HB ?_; intro g1 Wa Ha Lg1 HBa Ka) | ((with_reducible refine gate_dst (N := 6) rfl ?_); refine mapN (w := w) rfl (N := 6) rfl rfl Try.underlying177 HBa ?_; intro gm Wb Hm Lgm HBb Kb; have Hab := Aside0.mk (blk_below Ha.out Kb.out); obtain ⟨x0, x1, x2, x3, x4, x5⟩ := win_cells Hab.out))
    go_ret
    exact ⟨rfl, HBb.out⟩
  by_cases h1 : 8 < a2
  · have hr : (3 : Int) = r := by have h := HR.out; simpa only [if_neg h0, if_pos h1] using h
    subst hr
    have m0 : decide (a2 < 1) = false := decide_eq_false h0
    have m1 : decide (8 < a2) = true := decide_eq_true h1
    clear HR
    unfold winCs
    go_enter Try.func115, Try.ntmps115
    go_wp2_with (first | ((with_reducible refine gate_dst (N := 2) rfl ?_); refine boxN (w := w) rfl (N := 2) rfl (cs := winCs a0 a1 a2 a3 A4 l4.length c4 A5 l5.length c5) (t := 92) (by first | (go_simp; done) | (go_simp; rfl)) HB ?_; intro g1 Wa Ha Lg1 HBa Ka) | ((with_reducible refine gate_dst (N := 6) rfl ?_); refine mapN (w := w) rfl (N := 6) rfl rfl Try.underlying177 HBa ?_; intro gm Wb Hm Lgm HBb Kb; have Hab := Aside0.mk (blk_below Ha.out Kb.out); obtain ⟨x0, x1, x2, x3, x4, x5⟩ := win_cells Hab.out))
    go_ret
    exact ⟨rfl, HBb.out⟩
  by_cases h2 : a3 < 0
  · have hr : (3 : Int) = r := by have h := HR.out; simpa only [if_neg h0, if_neg h1, if_pos h2] using h
    subst hr
    have m0 : decide (a2 < 1) = false := decide_eq_false h0
    have m1 : decide (8 < a2) = false := decide_eq_false h1
    have m2 : decide (a3 < 0) = true := decide_eq_true h2
    clear HR
    unfold winCs
    go_enter Try.func115, Try.ntmps115
    go_wp2_with (first | ((with_reducible refine gate_dst (N := 2) rfl ?_); refine boxN (w := w) rfl (N := 2) rfl (cs := winCs a0 a1 a2 a3 A4 l4.length c4 A5 l5.length c5) (t := 92) (by first | (go_simp; done) | (go_simp; rfl)) HB ?_; intro g1 Wa Ha Lg1 HBa Ka) | ((with_reducible refine gate_dst (N := 6) rfl ?_); refine mapN (w := w) rfl (N := 6) rfl rfl Try.underlying177 HBa ?_; intro gm Wb Hm Lgm HBb Kb; have Hab := Aside0.mk (blk_below Ha.out Kb.out); obtain ⟨x0, x1, x2, x3, x4, x5⟩ := win_cells Hab.out))
    go_ret
    exact ⟨rfl, HBb.out⟩
  by_cases h3 : 64 - a2 < a3
  · have hr : (3 : Int) = r := by have h := HR.out; simpa only [if_neg h0, if_neg h1, if_neg h2, if_pos h3] using h
    subst hr
    have m0 : decide (a2 < 1) = false := decide_eq_false h0
    have m1 : decide (8 < a2) = false := decide_eq_false h1
    have m2 : decide (a3 < 0) = false := decide_eq_false h2
    have m3 : decide (64 - a2 < a3) = true := decide_eq_true h3
    have w0 : IntKind.i64.wrap (64 - a2) = 64 - a2 := by rw [i64_w]; unfold wrap64; omega
    clear HR
    unfold winCs
    go_enter Try.func115, Try.ntmps115
    go_wp2_with (first | ((with_reducible refine gate_dst (N := 2) rfl ?_); refine boxN (w := w) rfl (N := 2) rfl (cs := winCs a0 a1 a2 a3 A4 l4.length c4 A5 l5.length c5) (t := 92) (by first | (go_simp; done) | (go_simp; rfl)) HB ?_; intro g1 Wa Ha Lg1 HBa Ka) | ((with_reducible refine gate_dst (N := 6) rfl ?_); refine mapN (w := w) rfl (N := 6) rfl rfl Try.underlying177 HBa ?_; intro gm Wb Hm Lgm HBb Kb; have Hab := Aside0.mk (blk_below Ha.out Kb.out); obtain ⟨x0, x1, x2, x3, x4, x5⟩ := win_cells Hab.out))
    go_ret
    exact ⟨rfl, HBb.out⟩
  by_cases h4 : 4 < (l4.length : Int)
  · have hr : (2 : Int) = r := by have h := HR.out; simpa only [if_neg h0, if_neg h1, if_neg h2, if_neg h3, if_pos h4] using h
    subst hr
    have m0 : decide (a2 < 1) = false := decide_eq_false h0
    have m1 : decide (8 < a2) = false := decide_eq_false h1
    have m2 : decide (a3 < 0) = false := decide_eq_false h2
    have m3 : decide (64 - a2 < a3) = false := decide_eq_false h3
    have m4 : decide (4 < (l4.length : Int)) = true := decide_eq_true h4
    have w0 : IntKind.i64.wrap (64 - a2) = 64 - a2 := by rw [i64_w]; unfold wrap64; omega
    have n4 : decide (4 < l4.length) = true := decide_eq_true (by omega)
    clear HR
    unfold winCs
    go_enter Try.func115, Try.ntmps115
    go_wp2_with (first | ((with_reducible refine gate_dst (N := 2) rfl ?_); refine boxN (w := w) rfl (N := 2) rfl (cs := winCs a0 a1 a2 a3 A4 l4.length c4 A5 l5.length c5) (t := 92) (by first | (go_simp; done) | (go_simp; rfl)) HB ?_; intro g1 Wa Ha Lg1 HBa Ka) | ((with_reducible refine gate_dst (N := 6) rfl ?_); refine mapN (w := w) rfl (N := 6) rfl rfl Try.underlying177 HBa ?_; intro gm Wb Hm Lgm HBb Kb; have Hab := Aside0.mk (blk_below Ha.out Kb.out); obtain ⟨x0, x1, x2, x3, x4, x5⟩ := win_cells Hab.out))
    go_ret
    exact ⟨rfl, HBb.out⟩
  have hr : (if namedP l4 m ≠ 0 then (2 : Int) else if twiceP [] l4 = true then 17 else if namedP l5 m ≠ 0 then 2 else if twiceP l4 l5 = true then 17 else 0) = r := by have h := HR.out; simpa only [if_neg h0, if_neg h1, if_neg h2, if_neg h3, if_neg h4] using h
  have m0 : decide (a2 < 1) = false := decide_eq_false h0
  have m1 : decide (8 < a2) = false := decide_eq_false h1
  have m2 : decide (a3 < 0) = false := decide_eq_false h2
  have m3 : decide (64 - a2 < a3) = false := decide_eq_false h3
  have m4 : decide (4 < (l4.length : Int)) = false := decide_eq_false h4
  have w0 : IntKind.i64.wrap (64 - a2) = 64 - a2 := by rw [i64_w]; unfold wrap64; omega
  have n4 : decide (4 < l4.length) = false := decide_eq_false (by omega)
  have HRR := Aside0.mk hr
  clear HR hr h0 h1 h2 h3 h4
  unfold winCs
  go_enter Try.func115, Try.ntmps115
  go_wp2_with (first | ((with_reducible refine gate_dst (N := 2) rfl ?_); refine boxN (w := w) rfl (N := 2) rfl (cs := winCs a0 a1 a2 a3 A4 l4.length c4 A5 l5.length c5) (t := 92) (by first | (go_simp; done) | (go_simp; rfl)) HB ?_; intro g1 Wa Ha Lg1 HBa Ka) | ((with_reducible refine gate_dst (N := 6) rfl ?_); refine mapN (w := w) rfl (N := 6) rfl rfl Try.underlying177 HBa ?_; intro gm Wb Hm Lgm HBb Kb; have Hab := Aside0.mk (blk_below Ha.out Kb.out); obtain ⟨x0, x1, x2, x3, x4, x5⟩ := win_cells Hab.out))
  refine (named_calls A4 c4 l4 m Wb (Kd.C_below H4.out HBb.out)).mono ?_
  rintro e w2 ⟨rfl, hb2⟩
  have HB2 := Aside0.mk (below_step HBb.out hb2)
  have Ha2 := Aside0.mk (blk_below Hab.out hb2)
  have Hm2 := Aside0.mk (blk_below Hm.out hb2)
  have HBm := HBa
  have NE : Aside0 (g1 ≠ gm) := ⟨fun e => by have h := Ha2.out; rw [e, Hm2.out] at h; cases h⟩
  clear hb2 x0 x1 x2 x3 x4 x5 Ha HBa Ka Hm HBb Kb Hab
  obtain ⟨x0, x1, x2, x3, x4, x5⟩ := win_cells Ha2.out
  rcases named_or l4 m with hn | hn
  rotate_left
  · have e0 : (2 : Int) = r := by rw [← HRR.out, hn]; rfl
    subst e0
    rw [hn]
    clear hn HRR
    go_wp2_with fail
    go_ret
    exact ⟨rfl, HB2.out⟩
  have HR2 := Aside0.mk (show (if twiceP [] l4 = true then (17 : Int) else if namedP l5 m ≠ 0 then 2 else if twiceP l4 l5 = true then 17 else 0) = r by rw [← HRR.out, hn]; rfl)
  rw [hn]
  clear hn HRR
  go_wp2_with fail
  obtain ⟨t1, ht1⟩ : ∃ t, twiceP [] l4 = t := ⟨_, rfl⟩
  refine (twice_calls gm [] A4 c4 l4 w2 Hm2.out (Kd.C_below H4.out HB2.out) ht1).mono ?_
  rintro e w3 ⟨rfl, hm3, ho3, hb3⟩
  have HB3 := Aside0.mk (hb3 w.heap.size w (Nat.le_trans (below_size HBm.out) Lgm.out) HB2.out)
  have Ha3 := Aside0.mk ((ho3 g1 NE.out).trans Ha2.out)
  have Hm3 := Aside0.mk hm3
  have HT1 := Aside0.mk ht1
  clear hm3 ho3 hb3 x0 x1 x2 x3 x4 x5 ht1
  obtain ⟨x0, x1, x2, x3, x4, x5⟩ := win_cells Ha3.out
  cases t1
  rotate_left
  · have e0 : (17 : Int) = r := by rw [← HR2.out, HT1.out]; rfl
    subst e0
    clear HR2
    go_wp2_with fail
    go_ret
    exact ⟨rfl, HB3.out⟩
  have HR3 := Aside0.mk (show (if namedP l5 m ≠ 0 then (2 : Int) else if twiceP l4 l5 = true then 17 else 0) = r by rw [← HR2.out, HT1.out]; rfl)
  clear HR2
  go_wp2_with fail
  refine (named_calls A5 c5 l5 m w3 (Kd.C_below H5.out HB3.out)).mono ?_
  rintro e w4 ⟨rfl, hb4⟩
  have HB4 := Aside0.mk (below_step HB3.out hb4)
  have Ha4 := Aside0.mk (blk_below Ha3.out hb4)
  have Hm4 := Aside0.mk (blk_below (Hm3.out (by first | trivial | rfl)) hb4)
  clear hb4 x0 x1 x2 x3 x4 x5
  obtain ⟨x0, x1, x2, x3, x4, x5⟩ := win_cells Ha4.out
  rcases named_or l5 m with hn | hn
  rotate_left
  · have e0 : (2 : Int) = r := by rw [← HR3.out, hn]; rfl
    subst e0
    rw [hn]
    clear hn HR3
    go_wp2_with fail
    go_ret
    exact ⟨rfl, HB4.out⟩
  have HR4 := Aside0.mk (show (if twiceP l4 l5 = true then (17 : Int) else 0) = r by rw [← HR3.out, hn]; rfl)
  rw [hn]
  clear hn HR3
  go_wp2_with fail
  obtain ⟨t2, ht2⟩ : ∃ t, twiceP l4 l5 = t := ⟨_, rfl⟩
  refine (twice_calls gm l4 A5 c5 l5 w4 Hm4.out (Kd.C_below H5.out HB4.out) ht2).mono ?_
  rintro e w5 ⟨rfl, hm5, ho5, hb5⟩
  have HB5 := Aside0.mk (hb5 w.heap.size w (Nat.le_trans (below_size HBm.out) Lgm.out) HB4.out)
  have HT2 := Aside0.mk ht2
  clear hm5 ho5 hb5 x0 x1 x2 x3 x4 x5 ht2
  cases t2
  · have e0 : (0 : Int) = r := by rw [← HR4.out, HT2.out]; rfl
    subst e0
    clear HR4
    go_wp2_with fail
    go_ret
    exact ⟨rfl, HB5.out⟩
  · have e0 : (17 : Int) = r := by rw [← HR4.out, HT2.out]; rfl
    subst e0
    clear HR4
    go_wp2_with fail
    go_ret
    exact ⟨rfl, HB5.out⟩
end Go.Proofs.Ytbaapakkdnhcmaa.PWe
namespace Go.Proofs.Ytbaapakkdnhcmaa.PWe
open Go.RowKit Go.Proofs.Ytbaapakkdnhcmaa.Kx Go.Proofs.YtbaapakkdnhcmaaW.PrintWords Go.Proofs.YtbaapakkdnhcmaaW.PrintLast Go.Proofs.YtbaapakkdnhcmaaW.PrintMore
set_option linter.unusedVariables false
set_option linter.unusedSimpArgs false

/-- Why a window may not be. -/
def wndP (x : S76) (m : Int) : Int :=
  if x.f0 = 0 then dataP x.f2 x.f3 x.f4 x.f5 m else if x.f0 = 1 then (if x.f1 < 1 then 3 else if 100 < x.f1 then 3 else 0) else if x.f0 = 2 then 0 else 2
set_option maxHeartbeats 4000000 in
set_option maxRecDepth 100000 in
theorem window_calls (x : S76) (A4 : Option Addr) (c4 : Nat) (A5 : Option Addr) (c5 : Nat) (m : Int) (w : World) (hr4 : Kd.C (Kd.int .i64) w A4 x.f4.length x.f4) (hr5 : Kd.C (Kd.int .i64) w A5 x.f5.length x.f5) {r : Int} (hr : wndP x m = r) :
    Calls Try.prog 94 #[.agg (winCs x.f0 x.f1 x.f2 x.f3 A4 x.f4.length c4 A5 x.f5.length c5), .int .i64 m] w fun e w' => e = .returned (.int .i64 r) ∧ Below w.heap.size w w' := by
  obtain ⟨a0, a1, a2, a3, l4, l5⟩ := x
  dsimp only at hr4 hr5 ⊢
  unfold wndP at hr
  dsimp only at hr
  have H4 := Aside0.mk hr4
  have H5 := Aside0.mk hr5
  have HB : Aside0 (Below w.heap.size w w) := ⟨Below.refl _ _⟩
  clear hr4 hr5
  by_cases h0 : a0 = 0
  · subst h0
    have hr2 : dataP a2 a3 l4 l5 m = r := by rw [← hr, if_pos rfl]
    have HR := Aside0.mk hr2
    clear hr hr2
    unfold winCs
    go_enter Try.func94, Try.ntmps94
    go_wp2_with (first | ((with_reducible refine gate_dst (N := 2) rfl ?_); refine boxN (w := w) rfl (N := 2) rfl (cs := winCs _ a1 a2 a3 A4 l4.length c4 A5 l5.length c5) (t := 92) (by first | (go_simp; done) | (go_simp; rfl)) HB ?_; intro g1 Wa Ha Lg1 HBa Ka; obtain ⟨x0, x1, x2, x3, x4, x5⟩ := win_cells Ha.out) | ((with_reducible refine gate_dst (N := 9) rfl ?_); refine wpList_load_row rfl 92 _ rfl g1 rfl 92 _ (0, 0) _ Ha.out Try.underlying92 rfl (by kernel_rfl) ?_))
    have hd := data_calls 0 a1 a2 a3 A4 c4 l4 A5 c5 l5 m Wa (Kd.C_below H4.out HBa.out) (Kd.C_below H5.out HBa.out) HR.out
    unfold winCs at hd
    refine hd.mono ?_
    rintro e w2 ⟨rfl, hb2⟩
    have HB2 := Aside0.mk (below_step HBa.out hb2)
    clear hd hb2
    go_wp2_with fail
    go_ret
    exact ⟨rfl, HB2.out⟩
  rw [if_neg h0] at hr
  have k0 : (a0 == 0) = false := by simpa using h0
  by_cases h1 : a0 = 1
  · subst h1
    rw [if_pos rfl] at hr
    clear k0 h0
    by_cases h2 : a1 < 1
    · have e0 : (3 : Int) = r := by rw [← hr, if_pos h2]
      subst e0
      have m1 : decide (a1 < 1) = true := decide_eq_true h2
      clear hr
      unfold winCs
      go_enter Try.func94, Try.ntmps94
      go_wp2_with (first | ((with_reducible refine gate_dst (N := 2) rfl ?_); refine boxN (w := w) rfl (N := 2) rfl (cs := winCs _ a1 a2 a3 A4 l4.length c4 A5 l5.length c5) (t := 92) (by first | (go_simp; done) | (go_simp; rfl)) HB ?_; intro g1 Wa Ha Lg1 HBa Ka; obtain ⟨x0, x1, x2, x3, x4, x5⟩ := win_cells Ha.out))
      go_ret
      exact ⟨rfl, HBa.out⟩
    · rw [if_neg h2] at hr
      have m1 : decide (a1 < 1) = false := decide_eq_false h2
      by_cases h3 : 100 < a1
      · have e0 : (3 : Int) = r := by rw [← hr, if_pos h3]
        subst e0
        have m2 : decide (100 < a1) = true := decide_eq_true h3
        clear hr
        unfold winCs
        go_enter Try.func94, Try.ntmps94
        go_wp2_with (first | ((with_reducible refine gate_dst (N := 2) rfl ?_); refine boxN (w := w) rfl (N := 2) rfl (cs := winCs _ a1 a2 a3 A4 l4.length c4 A5 l5.length c5) (t := 92) (by first | (go_simp; done) | (go_simp; rfl)) HB ?_; intro g1 Wa Ha Lg1 HBa Ka; obtain ⟨x0, x1, x2, x3, x4, x5⟩ := win_cells Ha.out))
        go_ret
        exact ⟨rfl, HBa.out⟩
      · have e0 : (0 : Int) = r := by rw [← hr, if_neg h3]
        subst e0
        have m2 : decide (100 < a1) = false := decide_eq_false h3
        clear hr
        unfold winCs
        go_enter Try.func94, Try.ntmps94
        go_wp2_with (first | ((with_reducible refine gate_dst (N := 2) rfl ?_); refine boxN (w := w) rfl (N := 2) rfl (cs := winCs _ a1 a2 a3 A4 l4.length c4 A5 l5.length c5) (t := 92) (by first | (go_simp; done) | (go_simp; rfl)) HB ?_; intro g1 Wa Ha Lg1 HBa Ka; obtain ⟨x0, x1, x2, x3, x4, x5⟩ := win_cells Ha.out))
        go_ret
        exact ⟨rfl, HBa.out⟩
  rw [if_neg h1] at hr
  have k1 : (a0 == 1) = false := by simpa using h1
  by_cases h2 : a0 = 2
  · subst h2
    clear k0 k1 h0 h1
    have e0 : (0 : Int) = r := by rw [← hr, if_pos rfl]
    subst e0
    clear hr
    unfold winCs
    go_enter Try.func94, Try.ntmps94
    go_wp2_with (first | ((with_reducible refine gate_dst (N := 2) rfl ?_); refine boxN (w := w) rfl (N := 2) rfl (cs := winCs _ a1 a2 a3 A4 l4.length c4 A5 l5.length c5) (t := 92) (by first | (go_simp; done) | (go_simp; rfl)) HB ?_; intro g1 Wa Ha Lg1 HBa Ka; obtain ⟨x0, x1, x2, x3, x4, x5⟩ := win_cells Ha.out))
    go_ret
    exact ⟨rfl, HBa.out⟩
  have k2 : (a0 == 2) = false := by simpa using h2
  have e0 : (2 : Int) = r := by rw [← hr, if_neg h2]
  subst e0
  clear h0 h1
  clear hr
  unfold winCs
  go_enter Try.func94, Try.ntmps94
  go_wp2_with (first | ((with_reducible refine gate_dst (N := 2) rfl ?_); refine boxN (w := w) rfl (N := 2) rfl (cs := winCs _ a1 a2 a3 A4 l4.length c4 A5 l5.length c5) (t := 92) (by first | (go_simp; done) | (go_simp; rfl)) HB ?_; intro g1 Wa Ha Lg1 HBa Ka; obtain ⟨x0, x1, x2, x3, x4, x5⟩ := win_cells Ha.out))
  go_ret
  exact ⟨rfl, HBa.out⟩
end Go.Proofs.Ytbaapakkdnhcmaa.PWe
namespace Go.Proofs.Ytbaapakkdnhcmaa.PWe
open Go.RowKit Go.Proofs.Ytbaapakkdnhcmaa.Kx Go.Proofs.YtbaapakkdnhcmaaW.PrintWords Go.Proofs.YtbaapakkdnhcmaaW.PrintLast Go.Proofs.YtbaapakkdnhcmaaW.PrintMore
set_option linter.unusedVariables false
set_option linter.unusedSimpArgs false

/-- The first window that may not be, from the i-th on. -/
def firstBad (m : Int) : List S76 → Nat → Option (Int × Int)
  | [], _ => none
  | x :: r, i => if wndP x m ≠ 0 then some ((i : Int), wndP x m) else firstBad m r (i + 1)
def spanP (v : Int) (L : List S76) : Int × Int := if 200 < mxl (spansW (10 + 2 * v) 3 L) ((spansW (10 + 2 * v) 3 L).length - 1) then (-1, 16) else (0, 0)
/-- Why a frame may not be. -/
def frameP (m v : Int) (L : List S76) : Int × Int :=
  if 32 < (L.length : Int) then (-1, 3) else match firstBad m L 0 with | some p => p | none => spanP v L
theorem wnd_kind {x : S76} {m : Int} (h : wndP x m = 0) : 0 ≤ x.f0 ∧ x.f0 ≤ 2 := by
  unfold wndP at h
  by_cases h0 : x.f0 = 0
  · omega
  by_cases h1 : x.f0 = 1
  · omega
  by_cases h2 : x.f0 = 2
  · omega
  rw [if_neg h0, if_neg h1, if_neg h2] at h
  cases h
theorem firstBad_none (m : Int) : ∀ (l : List S76) (i : Nat), firstBad m l i = none → ∀ x ∈ l, wndP x m = 0
  | [], _, _, x, hx => by cases hx
  | y :: r, i, h, x, hx => by
    rw [firstBad] at h
    by_cases hy : wndP y m ≠ 0
    · rw [if_pos hy] at h; cases h
    · rw [if_neg hy] at h
      rcases List.mem_cons.1 hx with rfl | hx
      · exact Classical.not_not.1 hy
      · exact firstBad_none m r _ h x hx
set_option maxHeartbeats 4000000 in
set_option maxRecDepth 100000 in
theorem vframe_calls (m : Int) (A1 A2 : Option Addr) (c1 c2 : Nat) (l1 l2 L : List S76) (v : Int) (w : World) (hr1 : Kd.C k76 w A1 l1.length l1) (hc1 : l1.length ≤ c1) (hr2 : Kd.C k76 w A2 l2.length l2) (hc2 : l2.length ≤ c2) (hv0 : 0 ≤ v) (hv1 : v < 2) (hL : (if v = 0 then l1 else l2) = L) (hf : Fit L) {R : Int × Int} (hR : frameP m v L = R) :
    Calls Try.prog 56 #[.agg #[.int .i64 m, .slice A1 l1.length c1, .slice A2 l2.length c2], .int .i64 v] w fun e w' => e = .returned (.tuple #[.int .i64 R.1, .int .i64 R.2]) ∧ Below w.heap.size w w' := by
  have HF := Aside0.mk hf
  have hl1000 := hf.1
  obtain ⟨A, c, hlc, hLC, hcx⟩ : ∃ A c, L.length ≤ c ∧ Kd.C k76 w A L.length L ∧ (#[Value.int .i64 m, .slice A1 l1.length c1, .slice A2 l2.length c2] : Array Value)[1 + v.toNat]? = some (.slice A L.length c) := by
    rcases (by omega : v = 0 ∨ v = 1) with rfl | rfl
    · subst hL; exact ⟨A1, c1, hc1, hr1, rfl⟩
    · subst hL; exact ⟨A2, c2, hc2, hr2, rfl⟩
  have HLC := Aside0.mk hLC
  have HCX := Aside0.mk hcx
  have HB : Aside0 (Below w.heap.size w w) := ⟨Below.refl _ _⟩
  have e60 := Try.underlying41
  have p1 := eq_true hv0
  have p2 := eq_true hv1
  have HR := Aside0.mk hR
  clear hf hLC hcx hr1 hc1 hr2 hc2 hL hR
  by_cases h32 : 32 < (L.length : Int)
  · have e0 : ((-1, 3) : Int × Int) = R := by rw [← HR.out]; unfold frameP; rw [if_pos h32]
    subst e0
    have m1 : decide (32 < (L.length : Int)) = true := decide_eq_true h32
    have m2 : decide (32 < L.length) = true := decide_eq_true (by omega)
    clear HR
    go_enter Try.func56, Try.ntmps56
    go_wp2_with (first | ((with_reducible refine gate_dst (N := 2) rfl ?_); refine boxN (w := w) rfl (N := 2) rfl (cs := #[.int .i64 m, .slice A1 l1.length c1, .slice A2 l2.length c2]) (t := 43) (by first | (go_simp; done) | (go_simp; rfl)) HB ?_; intro g0 W0 H0 Lg0 HB0 K0; have y0 : W0.cell? ⟨g0, 1 + v.toNat, none⟩ = some (.slice A L.length c) := (cell_in H0.out _).trans HCX.out))
    go_step3
    go_wp2_with fail
    rw [Exit.noGoto_ret]
    go_ret2
    exact ⟨rfl, HB0.out⟩
  have m1 : decide (32 < (L.length : Int)) = false := decide_eq_false h32
  have m2 : decide (32 < L.length) = false := decide_eq_false (by omega)
  have HR2 := Aside0.mk (show (match firstBad m L 0 with | some p => p | none => spanP v L) = R by rw [← HR.out]; unfold frameP; rw [if_neg h32])
  clear HR
  go_enter Try.func56, Try.ntmps56
  go_wp2_with (first | ((with_reducible refine gate_dst (N := 2) rfl ?_); refine boxN (w := w) rfl (N := 2) rfl (cs := #[.int .i64 m, .slice A1 l1.length c1, .slice A2 l2.length c2]) (t := 43) (by first | (go_simp; done) | (go_simp; rfl)) HB ?_; intro g0 W0 H0 Lg0 HB0 K0; have y0 : W0.cell? ⟨g0, 1 + v.toNat, none⟩ = some (.slice A L.length c) := (cell_in H0.out _).trans HCX.out))
  go_step3
  go_wp2_with fail
  go_step3
  go_wp2_with fail
  go_loopw [7, 8, 9, 19, 28, 33] (fun _ _ _ v19 _ _ wr => ∃ i : Nat, i ≤ L.length ∧ v19 = .int .i64 (i : Int) ∧ (0 < L.length → i < L.length) ∧ Aside0 (firstBad m L 0 = firstBad m (L.drop i) i) ∧ Below W0.heap.size W0 wr) (fun _ _ _ v19 _ _ _ => ((L.length : Int) - intOf v19).toNat)
  case atStart => exact ⟨0, Nat.zero_le _, rfl, fun h => h, ⟨by rw [List.drop_zero]⟩, Below.refl _ _⟩
  case round =>
    obtain ⟨i, hi, rfl, hin, HI, hb⟩ := hrel
    have HBr := Aside0.mk (below_step HB0.out hb)
    have H0r := Aside0.mk (blk_below H0.out hb)
    have HLr := Aside0.mk (Kd.C_below HLC.out HBr.out)
    have z0 : wr.cell? ⟨g0, 0, none⟩ = some (.int .i64 m) := (cell_in H0r.out 0).trans rfl
    have HK0 := Aside0.mk hb
    have HIN := Aside0.mk hin
    clear hb hin y0
    by_cases hlt : i < L.length
    · have m1 : decide ((i : Int) < (L.length : Int)) = true := decide_eq_true (by omega)
      have m2 : decide (i < L.length) = true := decide_eq_true hlt
      have q1 : (0 ≤ (i : Int)) = True := eq_true (by omega)
      have q2 : ((i : Int) < (L.length : Int)) = True := eq_true (by omega)
      have q3 : (i < L.length) = True := eq_true hlt
      obtain ⟨x, hx⟩ : ∃ x, L[i] = x := ⟨_, rfl⟩
      obtain ⟨ad, A4, c4, A5, c5, hA, x0, x1, x2, x3, x4, x5, hl4, hr4, hl5, hr5⟩ := win_at HLC.out HBr.out hlt hx
      subst hA
      have HX := Aside0.mk hx
      have HR4 := Aside0.mk hr4
      have HR5 := Aside0.mk hr5
      have HNX := Aside0.mk (show firstBad m (L.drop i) i = if wndP x m ≠ 0 then some ((i : Int), wndP x m) else firstBad m (L.drop (i + 1)) (i + 1) by rw [List.drop_eq_getElem_cons hlt, hx, firstBad])
      clear hx hr4 hr5
      go_wp2_with (first | ((with_reducible refine gate_dst (N := 8) rfl ?_); refine boxN (w := w) rfl (N := 8) rfl (cs := #[.int .i64 0, .int .i64 0, .int .i64 0, .int .i64 0, .slice none 0 0, .slice none 0 0]) (t := 92) (by first | (go_simp; done) | (go_simp; rfl)) HBr ?_; intro ga Wa Ha Lga HB_Wa K_Wa) | (refine storeN (w := w) rfl 92 _ _ rfl ga (winCs x.f0 x.f1 x.f2 x.f3 A4 x.f4.length c4 A5 x.f5.length c5) rfl rfl 92 _ Ha (by kernel_rfl) rfl (by rw [← Array.all_toList]; rfl) HB_Wa Lga K_Wa ?_; intro Wb Hb HB_Wb K_Wb; have H0b := Aside0.mk (blk_below H0r.out K_Wb.out); have z0b : Wb.cell? ⟨g0, 0, none⟩ = some (.int .i64 m) := (cell_in H0b.out 0).trans rfl) | ((with_reducible refine gate_dst (N := 24) rfl ?_); refine wpList_load_row rfl 92 _ rfl ga rfl 92 _ (0, 0) _ Hb.out Try.underlying92 rfl (by kernel_rfl) ?_))
      obtain ⟨r, hr⟩ : ∃ r, wndP x m = r := ⟨_, rfl⟩
      refine (window_calls x A4 c4 A5 c5 m _ (Kd.C_below HR4.out HB_Wb.out) (Kd.C_below HR5.out HB_Wb.out) hr).mono ?_
      rintro e w5 ⟨rfl, hb⟩
      have HB5 := Aside0.mk (below_step HB_Wb.out hb)
      have HK5 := Aside0.mk (below_step HK0.out (below_step K_Wb.out hb))
      have HL5 := Aside0.mk (Kd.C_below HLC.out HB5.out)
      have HRW := Aside0.mk hr
      clear hb hr z0 z0b x0 x1 x2 x3 x4 x5 HB_Wa HB_Wb Hb K_Wa K_Wb
      by_cases hr0 : r = 0
      rotate_left
      · have e0 : ((i : Int), r) = R := by
          have h := HR2.out
          rw [HI.out, HNX.out, HRW.out, if_pos hr0] at h
          exact h
        subst e0
        have k0 : (r != 0) = true := by simpa using hr0
        have k1 : (r == 0) = false := by simpa using hr0
        clear HR2 hr0
        go_wp2_with fail
        rw [Exit.noGoto_ret]
        go_ret2
        exact ⟨rfl, HB5.out⟩
      subst hr0
      have HI2 : Aside0 (firstBad m L 0 = firstBad m (L.drop (i + 1)) (i + 1)) := ⟨by rw [HI.out, HNX.out, HRW.out, if_neg (fun h => h rfl)]⟩
      by_cases hlast : i + 1 = L.length
      · have hn : firstBad m L 0 = none := by rw [HI2.out, hlast, List.drop_length]; rfl
        have HX0 : Aside0 (spanP v L = R) := ⟨by have h := HR2.out; rw [hn] at h; exact h⟩
        have HXK : Aside0 (∀ x ∈ L, 0 ≤ x.f0 ∧ x.f0 ≤ 2) := ⟨fun x hx => wnd_kind (firstBad_none m L 0 hn x hx)⟩
        have k2 : ((i : Int) == (L.length : Int) - 1) = true := by simp; omega
        have i1 : (L.length : Int) - 1 = (i : Int) := by omega
        clear hn HR2 HI HNX HI2 hlast
        go_wp2_with fail
        refine (spans_calls (some ad) c L v w5 HL5.out hlc hv0 hv1 HF.out HXK.out).mono ?_
        rintro e W2 ⟨vs, rfl, hs, hb⟩
        have HB2 := Aside0.mk (below_step HB5.out hb)
        obtain ⟨sp, hsp⟩ : ∃ s, spansW (10 + 2 * v) 3 L = s := ⟨_, rfl⟩
        rw [hsp] at hs
        have hne : 0 < sp.length := by rw [← hsp]; exact spansW_ne _ _ _
        obtain ⟨As, cs, es⟩ := Kd.R_slice hs
        subst es
        have hcs := (Kd.R_reads' hs).2.1
        have HCS := Aside0.mk (Kd.R_reads' hs).2.2
        have hx1 := HX0.out
        unfold spanP at hx1
        rw [hsp] at hx1
        obtain ⟨mx, hmx⟩ : ∃ m, mxl sp (sp.length - 1) = m := ⟨_, rfl⟩
        rw [hmx] at hx1
        have HM : Aside0 (slices_Max_int_int.f sp = some mx) := ⟨by rw [slices_Max_int_int.f, if_neg (by omega), hmx]⟩
        have HX1 := Aside0.mk hx1
        clear hb hs hsp hmx hx1
        go_wp2_with fail
        refine (slices_Max_int_int.calls As cs sp mx _ HCS.out hcs HM.out).mono ?_
        rintro e W3 ⟨rfl, hb⟩
        have HB3 := Aside0.mk (below_step HB2.out hb)
        clear hb
        by_cases hbig : 200 < mx
        · have e0 : ((-1, 16) : Int × Int) = R := by rw [← HX1.out, if_pos hbig]
          subst e0
          have b1 : decide (200 < mx) = true := decide_eq_true hbig
          clear HX1 HX0 hbig
          go_wp2_with fail
          rw [Exit.noGoto_ret]
          go_ret2
          exact ⟨rfl, HB3.out⟩
        · have e0 : ((0, 0) : Int × Int) = R := by rw [← HX1.out, if_neg hbig]
          subst e0
          have b1 : decide (200 < mx) = false := decide_eq_false hbig
          clear HX1 HX0 hbig
          go_wp2_with fail
          rw [Exit.noGoto_ret]
          go_ret2
          exact ⟨rfl, HB3.out⟩
      · have k2 : ((i : Int) == (L.length : Int) - 1) = false := by simp; omega
        have HLT : Aside0 (i + 1 < L.length) := ⟨by omega⟩
        clear HNX hlast
        go_wp2_with fail
        exact ⟨⟨i + 1, by omega, by simp, fun _ => HLT.out, HI2, HK5.out⟩, by simp [intOf]; omega⟩
    · have m1 : decide ((i : Int) < (L.length : Int)) = false := decide_eq_false (by omega)
      have m2 : decide (i < L.length) = false := decide_eq_false hlt
      have hl0 : L = [] := by
        rcases Nat.eq_zero_or_pos L.length with h | h
        · exact List.length_eq_zero_iff.1 h
        · exact absurd (HIN.out h) hlt
      have HX0 : Aside0 (spanP v L = R) := ⟨by have h := HR2.out; rw [hl0] at h ⊢; exact h⟩
      have HXK : Aside0 (∀ x ∈ L, 0 ≤ x.f0 ∧ x.f0 ≤ 2) := ⟨fun x hx => by rw [hl0] at hx; cases hx⟩
      clear hl0 HR2 HI hlt
      go_wp2_with fail
      refine (spans_calls A c L v wr HLr.out hlc hv0 hv1 HF.out HXK.out).mono ?_
      rintro e W2 ⟨vs, rfl, hs, hb⟩
      have HB2 := Aside0.mk (below_step HBr.out hb)
      obtain ⟨sp, hsp⟩ : ∃ s, spansW (10 + 2 * v) 3 L = s := ⟨_, rfl⟩
      rw [hsp] at hs
      have hne : 0 < sp.length := by rw [← hsp]; exact spansW_ne _ _ _
      obtain ⟨As, cs, es⟩ := Kd.R_slice hs
      subst es
      have hcs := (Kd.R_reads' hs).2.1
      have HCS := Aside0.mk (Kd.R_reads' hs).2.2
      have hx1 := HX0.out
      unfold spanP at hx1
      rw [hsp] at hx1
      obtain ⟨mx, hmx⟩ : ∃ m, mxl sp (sp.length - 1) = m := ⟨_, rfl⟩
      rw [hmx] at hx1
      have HM : Aside0 (slices_Max_int_int.f sp = some mx) := ⟨by rw [slices_Max_int_int.f, if_neg (by omega), hmx]⟩
      have HX1 := Aside0.mk hx1
      clear hb hs hsp hmx hx1
      go_wp2_with fail
      refine (slices_Max_int_int.calls As cs sp mx _ HCS.out hcs HM.out).mono ?_
      rintro e W3 ⟨rfl, hb⟩
      have HB3 := Aside0.mk (below_step HB2.out hb)
      clear hb
      by_cases hbig : 200 < mx
      · have e0 : ((-1, 16) : Int × Int) = R := by rw [← HX1.out, if_pos hbig]
        subst e0
        have b1 : decide (200 < mx) = true := decide_eq_true hbig
        clear HX1 HX0 hbig
        go_wp2_with fail
        rw [Exit.noGoto_ret]
        go_ret2
        exact ⟨rfl, HB3.out⟩
      · have e0 : ((0, 0) : Int × Int) = R := by rw [← HX1.out, if_neg hbig]
        subst e0
        have b1 : decide (200 < mx) = false := decide_eq_false hbig
        clear HX1 HX0 hbig
        go_wp2_with fail
        rw [Exit.noGoto_ret]
        go_ret2
        exact ⟨rfl, HB3.out⟩
end Go.Proofs.Ytbaapakkdnhcmaa.PWe
namespace Go.Proofs.Ytbaapakkdnhcmaa.PWe
open Go.RowKit Go.Proofs.Ytbaapakkdnhcmaa.Kx Go.Proofs.YtbaapakkdnhcmaaW.PrintWords Go.Proofs.YtbaapakkdnhcmaaW.PrintLast Go.Proofs.YtbaapakkdnhcmaaW.PrintMore
set_option linter.unusedVariables false
set_option linter.unusedSimpArgs false

/-- Why a schedule may not be: in which version, at which window, the error. -/
def checkP (m : Int) (l1 l2 : List S76) : Int × Int × Int :=
  if m < 2 then (0, -1, 2) else if 16 < m then (0, -1, 2) else
  if (frameP m 0 l1).2 ≠ 0 then (0, (frameP m 0 l1).1, (frameP m 0 l1).2) else if (frameP m 1 l2).2 ≠ 0 then (1, (frameP m 1 l2).1, (frameP m 1 l2).2) else (0, 0, 0)
def fltCs (a b c : Int) : Array Value := #[.int .i64 a, .int .i64 b, .int .i64 c]
set_option maxHeartbeats 4000000 in
set_option maxRecDepth 100000 in
theorem check_calls (m : Int) (A1 A2 : Option Addr) (c1 c2 : Nat) (l1 l2 : List S76) (w : World) (hr1 : Kd.C k76 w A1 l1.length l1) (hc1 : l1.length ≤ c1) (hr2 : Kd.C k76 w A2 l2.length l2) (hc2 : l2.length ≤ c2) (hf1 : Fit l1) (hf2 : Fit l2) {R : Int × Int × Int} (hR : checkP m l1 l2 = R) :
    Calls Try.prog 20 #[.agg #[.int .i64 m, .slice A1 l1.length c1, .slice A2 l2.length c2]] w fun e w' => e = .returned (.agg (fltCs R.1 R.2.1 R.2.2)) ∧ Below w.heap.size w w' := by
  have H1 := Aside0.mk hr1
  have H2 := Aside0.mk hr2
  have HF1 := Aside0.mk hf1
  have HF2 := Aside0.mk hf2
  have HR := Aside0.mk hR
  have HB : Aside0 (Below w.heap.size w w) := ⟨Below.refl _ _⟩
  clear hr1 hr2 hf1 hf2 hR
  by_cases h0 : m < 2
  · have e0 : ((0, -1, 2) : Int × Int × Int) = R := by rw [← HR.out]; unfold checkP; rw [if_pos h0]
    subst e0
    have m0 : decide (m < 2) = true := decide_eq_true h0
    clear HR
    go_enter Try.func20, Try.ntmps20
    go_wp2_with (first | ((with_reducible refine gate_dst (N := 1) rfl ?_); refine boxN (w := w) rfl (N := 1) rfl (cs := #[.int .i64 m, .slice A1 l1.length c1, .slice A2 l2.length c2]) (t := 43) (by first | (go_simp; done) | (go_simp; rfl)) HB ?_; intro g1 Wa Ha Lg1 HBa Ka) | ((with_reducible refine gate_dst (N := 2) rfl ?_); refine boxN (w := w) rfl (N := 2) rfl (cs := fltCs 0 0 0) (t := 58) (by first | (go_simp; done) | (go_simp; rfl)) HBa ?_; intro g2 Wb Hb Lg2 HBb Kb; have H1b := Aside0.mk (blk_below Ha.out Kb.out); have z0 : Wb.cell? ⟨g1, 0, none⟩ = some (.int .i64 m) := (cell_in H1b.out 0).trans rfl) | (refine storeCsN (w := w) rfl 58 _ _ rfl g2 (fltCs 0 (-1) 2) rfl rfl 58 _ Hb (by kernel_rfl) rfl (by rw [← Array.all_toList]; rfl) HBb ⟨Lg2.out.1⟩ ?_; intro Wz Hz HBz _))
    refine bodyPost_ret (results_cell_row rfl _ _ g2 58 (fltCs 0 (-1) 2) (0, 0) _ rfl Hz.out Try.underlying58 rfl (by kernel_rfl)) rfl ⟨rfl, HBz.out⟩
  by_cases h1 : 16 < m
  · have e0 : ((0, -1, 2) : Int × Int × Int) = R := by rw [← HR.out]; unfold checkP; rw [if_neg h0, if_pos h1]
    subst e0
    have m0 : decide (m < 2) = false := decide_eq_false h0
    have m1 : decide (16 < m) = true := decide_eq_true h1
    clear HR
    go_enter Try.func20, Try.ntmps20
    go_wp2_with (first | ((with_reducible refine gate_dst (N := 1) rfl ?_); refine boxN (w := w) rfl (N := 1) rfl (cs := #[.int .i64 m, .slice A1 l1.length c1, .slice A2 l2.length c2]) (t := 43) (by first | (go_simp; done) | (go_simp; rfl)) HB ?_; intro g1 Wa Ha Lg1 HBa Ka) | ((with_reducible refine gate_dst (N := 2) rfl ?_); refine boxN (w := w) rfl (N := 2) rfl (cs := fltCs 0 0 0) (t := 58) (by first | (go_simp; done) | (go_simp; rfl)) HBa ?_; intro g2 Wb Hb Lg2 HBb Kb; have H1b := Aside0.mk (blk_below Ha.out Kb.out); have z0 : Wb.cell? ⟨g1, 0, none⟩ = some (.int .i64 m) := (cell_in H1b.out 0).trans rfl) | (refine storeCsN (w := w) rfl 58 _ _ rfl g2 (fltCs 0 (-1) 2) rfl rfl 58 _ Hb (by kernel_rfl) rfl (by rw [← Array.all_toList]; rfl) HBb ⟨Lg2.out.1⟩ ?_; intro Wz Hz HBz _))
    refine bodyPost_ret (results_cell_row rfl _ _ g2 58 (fltCs 0 (-1) 2) (0, 0) _ rfl Hz.out Try.underlying58 rfl (by kernel_rfl)) rfl ⟨rfl, HBz.out⟩
  have HR2 := Aside0.mk (show (if (frameP m 0 l1).2 ≠ 0 then ((0, (frameP m 0 l1).1, (frameP m 0 l1).2) : Int × Int × Int) else if (frameP m 1 l2).2 ≠ 0 then (1, (frameP m 1 l2).1, (frameP m 1 l2).2) else (0, 0, 0)) = R by rw [← HR.out]; unfold checkP; rw [if_neg h0, if_neg h1])
  have m0 : decide (m < 2) = false := decide_eq_false h0
  have m1 : decide (16 < m) = false := decide_eq_false h1
  obtain ⟨R1, hR1⟩ : ∃ x, frameP m 0 l1 = x := ⟨_, rfl⟩
  obtain ⟨R2, hR2⟩ : ∃ x, frameP m 1 l2 = x := ⟨_, rfl⟩
  rw [hR1, hR2] at HR2
  have HR1' := Aside0.mk hR1
  have HR2' := Aside0.mk hR2
  obtain ⟨p1, q1⟩ := R1
  obtain ⟨p2, q2⟩ := R2
  dsimp only at HR2
  clear HR hR1 hR2 h0 h1
  go_enter Try.func20, Try.ntmps20
  go_wp2_with (first | ((with_reducible refine gate_dst (N := 1) rfl ?_); refine boxN (w := w) rfl (N := 1) rfl (cs := #[.int .i64 m, .slice A1 l1.length c1, .slice A2 l2.length c2]) (t := 43) (by first | (go_simp; done) | (go_simp; rfl)) HB ?_; intro g1 Wa Ha Lg1 HBa Ka) | ((with_reducible refine gate_dst (N := 2) rfl ?_); refine boxN (w := w) rfl (N := 2) rfl (cs := fltCs 0 0 0) (t := 58) (by first | (go_simp; done) | (go_simp; rfl)) HBa ?_; intro g2 Wb Hb Lg2 HBb Kb; have H1b := Aside0.mk (blk_below Ha.out Kb.out); have z0 : Wb.cell? ⟨g1, 0, none⟩ = some (.int .i64 m) := (cell_in H1b.out 0).trans rfl))
  go_loopw [3, 4, 5, 15] (fun _ _ _ v15 wr => ∃ k : Nat, k ≤ 2 ∧ v15 = .int .i64 (k : Int) ∧ Aside0 (1 ≤ k → q1 = 0) ∧ Aside0 (2 ≤ k → q2 = 0) ∧ Below Wb.heap.size Wb wr) (fun _ _ _ v15 _ => ((2 : Int) - intOf v15).toNat)
  case atStart => exact ⟨0, Nat.zero_le _, rfl, ⟨fun h => absurd h (by decide)⟩, ⟨fun h => absurd h (by decide)⟩, Below.refl _ _⟩
  case round =>
    obtain ⟨k, hk, rfl, HQ1, HQ2, hb⟩ := hrel
    have HBr := Aside0.mk (below_step HBb.out hb)
    have HK := Aside0.mk hb
    have H1r := Aside0.mk (blk_below H1b.out hb)
    have H2r := Aside0.mk (blk_below Hb.out hb)
    clear hb z0
    rcases (by omega : k = 0 ∨ k = 1 ∨ k = 2) with rfl | rfl | rfl
    · go_wp2_with (first | ((with_reducible refine gate_dst (N := 19) rfl ?_); refine wpList_load_row rfl 43 _ rfl g1 rfl 43 _ (0, 0) _ H1r.out Try.underlying43 rfl (by kernel_rfl) ?_))
      refine (vframe_calls m A1 A2 c1 c2 l1 l2 l1 0 wr (Kd.C_below H1.out HBr.out) hc1 (Kd.C_below H2.out HBr.out) hc2 (by omega) (by omega) rfl HF1.out HR1'.out).mono ?_
      rintro e w5 ⟨rfl, hb⟩
      have HB5 := Aside0.mk (below_step HBr.out hb)
      have HK5 := Aside0.mk (below_step HK.out hb)
      have H25 := Aside0.mk (blk_below H2r.out hb)
      clear hb
      by_cases hq : q1 = 0
      rotate_left
      · have e0 : ((0, p1, q1) : Int × Int × Int) = R := by
          have h := HR2.out
          rw [if_pos hq] at h
          exact h
        subst e0
        have k0 : (q1 != 0) = true := by simpa using hq
        have k1 : (q1 == 0) = false := by simpa using hq
        clear HR2 hq
        go_wp2_with (first | (refine storeCsN (w := w) rfl 58 _ _ rfl g2 (fltCs 0 p1 q1) rfl rfl 58 _ H25 (by kernel_rfl) rfl (by rw [← Array.all_toList]; rfl) HB5 ⟨Lg2.out.1⟩ ?_; intro Wz Hz HBz _))
        refine bodyPost_ret (results_cell_row rfl _ _ g2 58 (fltCs 0 p1 q1) (0, 0) _ rfl Hz.out Try.underlying58 rfl (by kernel_rfl)) rfl ⟨rfl, HBz.out⟩
      subst hq
      go_wp2_with fail
      exact ⟨⟨1, by omega, rfl, ⟨by first | trivial | exact fun _ => rfl⟩, ⟨fun h => absurd h (by decide)⟩, HK5.out⟩, by simp [intOf]⟩
    · go_wp2_with (first | ((with_reducible refine gate_dst (N := 19) rfl ?_); refine wpList_load_row rfl 43 _ rfl g1 rfl 43 _ (0, 0) _ H1r.out Try.underlying43 rfl (by kernel_rfl) ?_))
      refine (vframe_calls m A1 A2 c1 c2 l1 l2 l2 1 wr (Kd.C_below H1.out HBr.out) hc1 (Kd.C_below H2.out HBr.out) hc2 (by omega) (by omega) rfl HF2.out HR2'.out).mono ?_
      rintro e w5 ⟨rfl, hb⟩
      have HB5 := Aside0.mk (below_step HBr.out hb)
      have HK5 := Aside0.mk (below_step HK.out hb)
      have H25 := Aside0.mk (blk_below H2r.out hb)
      clear hb
      by_cases hq : q2 = 0
      rotate_left
      · have e0 : ((1, p2, q2) : Int × Int × Int) = R := by
          have h := HR2.out
          rw [if_neg (fun h => h (HQ1.out (by decide)))] at h
          rw [if_pos hq] at h
          exact h
        subst e0
        have k0 : (q2 != 0) = true := by simpa using hq
        have k1 : (q2 == 0) = false := by simpa using hq
        clear HR2 hq
        go_wp2_with (first | (refine storeCsN (w := w) rfl 58 _ _ rfl g2 (fltCs 1 p2 q2) rfl rfl 58 _ H25 (by kernel_rfl) rfl (by rw [← Array.all_toList]; rfl) HB5 ⟨Lg2.out.1⟩ ?_; intro Wz Hz HBz _))
        refine bodyPost_ret (results_cell_row rfl _ _ g2 58 (fltCs 1 p2 q2) (0, 0) _ rfl Hz.out Try.underlying58 rfl (by kernel_rfl)) rfl ⟨rfl, HBz.out⟩
      subst hq
      go_wp2_with fail
      exact ⟨⟨2, by omega, rfl, ⟨fun _ => HQ1.out (by decide)⟩, ⟨by first | trivial | exact fun _ => rfl⟩, HK5.out⟩, by simp [intOf]⟩
    · have e0 : ((0, 0, 0) : Int × Int × Int) = R := by
        have h := HR2.out
        rw [if_neg (fun h => h (HQ1.out (by decide))), if_neg (fun h => h (HQ2.out (by decide)))] at h
        exact h
      subst e0
      clear HR2 HQ1 HQ2
      go_wp2_with (first | (refine storeCsN (w := w) rfl 58 _ _ rfl g2 (fltCs 0 0 0) rfl rfl 58 _ H2r (by kernel_rfl) rfl (by rw [← Array.all_toList]; rfl) HBr ⟨Lg2.out.1⟩ ?_; intro Wz Hz HBz _))
      refine bodyPost_ret (results_cell_row rfl _ _ g2 58 (fltCs 0 0 0) (0, 0) _ rfl Hz.out Try.underlying58 rfl (by kernel_rfl)) rfl ⟨rfl, HBz.out⟩
end Go.Proofs.Ytbaapakkdnhcmaa.PWe
