/- Calls of function values; where something is first in a list (of whole numbers, of events), and whether there is something: walks. Helper text. -/
import Derived.Test.YtekbaconbemgpaaPWg0
import Derived.Test.YtekbaconbemgpaaWhDraw
import Derived.Test.YtekbaconbemgpaaK3
namespace Go.Proofs.Ytekbaconbemgpaa.PWe
open Go.RowKit Go.Proofs.Ytekbaconbemgpaa.Kx Go.Proofs.YtekbaconbemgpaaW.PrintWords Go.Proofs.YtekbaconbemgpaaW.PrintLast Go.Proofs.YtekbaconbemgpaaW.PrintMore
set_option linter.unusedVariables false
set_option linter.unusedSimpArgs false

section
variable {P : Program} {ops : Array Oper} {rest : List Oper} {oi : Oper} {a : Act} {w : World} {Q : Exit → Act → World → Prop}
/-- A call of a function value in a plain region. -/
theorem goesC_ (N : Option Tmp) (hd : oi.dst = N) (hg : oi.guard = none) {f : FuncId} {fn : Func} {t : Tmp} {as_ : Array Operand} {ts : Array TypeId} {caps : Array Value} (hf : P.funcs[f]? = some fn) (hname : (fn.name == "runtime.NumGoroutine") = false) (hb : fn.body.isSome = true) (args : Array Value)
    (hop : oi.op = .call { callee := .value (.tmp t), args := as_, argTypes := ts }) (hv : a.eval (.tmp t) = .func (.func f) #[] caps) (hargs : as_.map a.eval ++ caps = args)
    (h : Calls P f args w fun e w' => ∃ v, e = .returned v ∧ wpList P ops Q rest (a.put N v) w') : wpList P ops Q (oi :: rest) a w := by
  refine wpList_plain hg fun K hK => ?_
  have he := enters_ hf hname hb args w
  have hrun : (execOp a.eval oi).run P w = .ok (.enter f args) w := by
    unfold execOp
    simp only [hop, resolve, hv, Deferred.ofValue, invoke, Sem.run_bind, Sem.run_pure, Result.andThen_ok, Array.empty_append, hargs, he]
  unfold Oper.wp
  rw [hrun]
  subst hd
  exact h.mono fun e w' ⟨v, he2, hw⟩ => by subst he2; exact hK _ _ hw
end
/-- The first place at which a predicate holds, from k on; -1: none. -/
def idxP {α : Type} (p : α → Bool) : List α → Nat → Int
  | [], _ => -1
  | x :: r, k => if p x = true then (k : Int) else idxP p r (k + 1)
theorem idxP_any {α : Type} (p : α → Bool) : ∀ (l : List α) (k : Nat), decide (0 ≤ idxP p l k) = l.any p
  | [], k => by simp [idxP]
  | x :: r, k => by
    rw [idxP, List.any_cons]
    by_cases h : p x = true
    · rw [if_pos h, h]
      simp
    · rw [if_neg h, idxP_any p r (k + 1)]
      simp [Bool.eq_false_iff.mpr h]
theorem idxP_stay {α : Type} (p : α → Bool) {l : List α} {k : Nat} (hk : k < l.length) (h : p l[k] = false) : idxP p (l.drop k) k = idxP p (l.drop (k + 1)) (k + 1) := by
  rw [List.drop_eq_getElem_cons hk, idxP, if_neg (by rw [h]; simp)]
theorem idxP_hit {α : Type} (p : α → Bool) {l : List α} {k : Nat} (hk : k < l.length) (h : p l[k] = true) : idxP p (l.drop k) k = k := by
  rw [List.drop_eq_getElem_cons hk, idxP, if_pos h]
theorem int_at {w : World} {k : IntKind} {A : Option Addr} {n : Nat} {xs : List Int} (h : Kd.C (Kd.int k) w A n xs) {i : Nat} (hi : i < xs.length) (hn : i < n) {x : Int} (hx : xs[i] = x) : ∃ ad, A = some ad ∧ w.cell? (ad.add i) = some (.int k x) := by
  obtain ⟨ad, c, e, _, hK, hc⟩ := Kd.C_get h 0 (i : Int) (by omega) (by omega)
  refine ⟨ad, e, ?_⟩
  obtain rfl : c = [.int k (xs.getD i 0)] := by simpa [Kd.int, Kd.scalar] using hK
  have := hc 0 _ rfl
  rw [← hx]
  simpa [Kd.int, Kd.scalar, List.getD_eq_getElem?_getD, List.getElem?_eq_getElem hi] using this

set_option maxHeartbeats 1000000 in
theorem index_calls (A : Option Addr) (c : Nat) (l : List Int) (m : Int) (w : World) (hr : Kd.C (Kd.int .i64) w A l.length l) :
    Calls Try.prog 72 #[.slice A l.length c, .int .i64 m] w fun e w' => e = .returned (.int .i64 (idxP (fun x => m == x) l 0)) ∧ w' = w := by
  have HR := Aside0.mk hr
  have hm : l.length ≤ 9223372036854775807 := hr.2.1
  clear hr
  go_enter Try.func72, Try.ntmps72
  go_wp2_with fail
  go_loopw [4, 5, 8] (fun _ _ v8 wr => ∃ k : Nat, k ≤ l.length ∧ v8 = .int .i64 (k : Int) ∧ Aside0 (idxP (fun x => m == x) l 0 = idxP (fun x => m == x) (l.drop k) k) ∧ wr = w) (fun _ _ v8 _ => ((l.length : Int) - intOf v8).toNat)
  case atStart => exact ⟨0, Nat.zero_le _, rfl, ⟨by simp⟩, rfl⟩
  case round =>
    obtain ⟨k, hk, rfl, HI, rfl⟩ := hrel
    by_cases hlt : k < l.length
    · have m1 : decide ((k : Int) < (l.length : Int)) = true := decide_eq_true (by omega)
      have m2 : decide (k < l.length) = true := decide_eq_true hlt
      have q1 : (0 ≤ (k : Int)) = True := eq_true (by omega)
      have q2 : ((k : Int) < (l.length : Int)) = True := eq_true (by omega)
      have q3 : (k < l.length) = True := eq_true hlt
      obtain ⟨x, hx⟩ : ∃ x, l[k] = x := ⟨_, rfl⟩
      obtain ⟨ad, hA, x0⟩ := int_at HR.out hlt hlt hx
      subst hA
      by_cases hp : (m == x) = true
      · have HH : Aside0 (idxP (fun x => m == x) l 0 = k) := ⟨by rw [HI.out, idxP_hit _ hlt (by rw [hx]; exact hp)]⟩
        clear hx HI
        go_wp2_with fail
        go_ret
        exact ⟨by rw [HH.out]; rfl, rfl⟩
      · have hq : (m == x) = false := Bool.eq_false_iff.mpr hp
        have HH : Aside0 (idxP (fun x => m == x) l 0 = idxP (fun x => m == x) (l.drop (k + 1)) (k + 1)) := ⟨by rw [HI.out, idxP_stay _ hlt (by rw [hx]; exact hq)]⟩
        clear hp hx HI
        go_wp2_with fail
        exact ⟨⟨k + 1, by omega, by rw [Int.natCast_add]; rfl, HH, trivial⟩, by simp [intOf]; omega⟩
    · have m1 : decide ((k : Int) < (l.length : Int)) = false := decide_eq_false (by omega)
      have m2 : decide (k < l.length) = false := decide_eq_false hlt
      have HH : Aside0 (idxP (fun x => m == x) l 0 = -1) := ⟨by rw [HI.out, List.drop_eq_nil_of_le (by omega)]; rfl⟩
      clear hlt HI
      go_wp2_with fail
      go_ret
      exact ⟨by rw [HH.out]; rfl, rfl⟩
/-- Is it in a list? -/
def has_ (l : List Int) (m : Int) : Bool := l.any fun x => m == x
theorem contains_calls (A : Option Addr) (c : Nat) (l : List Int) (m : Int) (w : World) (hr : Kd.C (Kd.int .i64) w A l.length l) :
    Calls Try.prog 60 #[.slice A l.length c, .int .i64 m] w fun e w' => e = .returned (.bool (has_ l m)) ∧ w' = w := by
  have HI := Aside0.mk (index_calls A c l m w hr)
  have HV := Aside0.mk (idxP_any (fun x => m == x) l 0)
  obtain ⟨v, hv⟩ : ∃ v, idxP (fun x => m == x) l 0 = v := ⟨_, rfl⟩
  rw [hv] at HI HV
  clear hv hr
  go_enter Try.func60, Try.ntmps60
  go_wp2_with fail
  refine HI.out.mono ?_
  rintro e w' ⟨rfl, rfl⟩
  go_wp2_with fail
  go_ret
  exact ⟨by rw [has_, ← HV.out]; rfl, rfl⟩
section
variable {f : FuncId} {fn : Func} {caps : Array Value} (hf : Try.prog.funcs[f]? = some fn) (hname : (fn.name == "runtime.NumGoroutine") = false) (hb : fn.body.isSome = true)
include hf hname hb
set_option maxHeartbeats 1000000 in
theorem indexf_int (p : Int → Bool) (A : Option Addr) (c : Nat) (l : List Int) (w : World) (hr : Kd.C (Kd.int .i64) w A l.length l) (args : Int → Array Value) (hargs : ∀ x, #[.int .i64 x] ++ caps = args x) (hcl : ∀ x ∈ l, ∀ W, Below w.heap.size w W → Calls Try.prog f (args x) W fun e w' => e = .returned (.bool (p x)) ∧ Below W.heap.size W w') :
    Calls Try.prog 78 #[.slice A l.length c, .func (.func f) #[] caps] w fun e w' => e = .returned (.int .i64 (idxP p l 0)) ∧ Below w.heap.size w w' := by
  have HR := Aside0.mk hr
  have HCL := Aside0.mk hcl
  have HARG := Aside0.mk hargs
  have HF := Aside0.mk hf
  have HN := Aside0.mk hname
  have HBO := Aside0.mk hb
  have hm : l.length ≤ 9223372036854775807 := hr.2.1
  clear hr hcl hargs hf hname hb
  go_enter Try.func78, Try.ntmps78
  go_wp2_with fail
  go_loopw [4, 5, 8] (fun _ _ v8 wr => ∃ k : Nat, k ≤ l.length ∧ v8 = .int .i64 (k : Int) ∧ Aside0 (idxP p l 0 = idxP p (l.drop k) k) ∧ Below w.heap.size w wr) (fun _ _ v8 _ => ((l.length : Int) - intOf v8).toNat)
  case atStart => exact ⟨0, Nat.zero_le _, rfl, ⟨by simp⟩, Below.refl _ _⟩
  case round =>
    obtain ⟨k, hk, rfl, HI, hbr⟩ := hrel
    have HBr := Aside0.mk hbr
    clear hbr
    by_cases hlt : k < l.length
    · have m1 : decide ((k : Int) < (l.length : Int)) = true := decide_eq_true (by omega)
      have m2 : decide (k < l.length) = true := decide_eq_true hlt
      have q1 : (0 ≤ (k : Int)) = True := eq_true (by omega)
      have q2 : ((k : Int) < (l.length : Int)) = True := eq_true (by omega)
      have q3 : (k < l.length) = True := eq_true hlt
      obtain ⟨x, hx⟩ : ∃ x, l[k] = x := ⟨_, rfl⟩
      have HM : Aside0 (x ∈ l) := ⟨by rw [← hx]; exact List.getElem_mem hlt⟩
      obtain ⟨ad, hA, x0⟩ := int_at (Kd.C_below HR.out HBr.out) hlt hlt hx
      subst hA
      have hcall := HCL.out x HM.out wr HBr.out
      cases hp : p x
      · have HH : Aside0 (idxP p l 0 = idxP p (l.drop (k + 1)) (k + 1)) := ⟨by rw [HI.out, idxP_stay _ hlt (by rw [hx]; exact hp)]⟩
        rw [hp] at hcall
        have HC := Aside0.mk hcall
        clear hx hcall HI hp
        have hent := enters_ HF.out HN.out HBO.out (#[.int .i64 x] ++ caps) wr
        rw [← HARG.out x] at HC
        go_wp2_with fail
        refine HC.out.mono ?_
        rintro e wq ⟨rfl, hbq⟩
        have HBq := Aside0.mk (below_step HBr.out hbq)
        clear hbq hent
        go_wp2_with fail
        exact ⟨⟨k + 1, by omega, by rw [Int.natCast_add]; rfl, HH, HBq.out⟩, by simp [intOf]; omega⟩
      · have HH : Aside0 (idxP p l 0 = k) := ⟨by rw [HI.out, idxP_hit _ hlt (by rw [hx]; exact hp)]⟩
        rw [hp] at hcall
        have HC := Aside0.mk hcall
        clear hx hcall HI hp
        have hent := enters_ HF.out HN.out HBO.out (#[.int .i64 x] ++ caps) wr
        rw [← HARG.out x] at HC
        go_wp2_with fail
        refine HC.out.mono ?_
        rintro e wq ⟨rfl, hbq⟩
        have HBq := Aside0.mk (below_step HBr.out hbq)
        clear hbq hent
        go_wp2_with fail
        go_ret
        exact ⟨by rw [HH.out]; rfl, HBq.out⟩
    · have m1 : decide ((k : Int) < (l.length : Int)) = false := decide_eq_false (by omega)
      have m2 : decide (k < l.length) = false := decide_eq_false hlt
      have HH : Aside0 (idxP p l 0 = -1) := ⟨by rw [HI.out, List.drop_eq_nil_of_le (by omega)]; rfl⟩
      clear hlt HI
      go_wp2_with fail
      go_ret
      exact ⟨by rw [HH.out]; rfl, HBr.out⟩
theorem containsf_int (p : Int → Bool) (A : Option Addr) (c : Nat) (l : List Int) (w : World) (hr : Kd.C (Kd.int .i64) w A l.length l) (args : Int → Array Value) (hargs : ∀ x, #[.int .i64 x] ++ caps = args x) (hcl : ∀ x ∈ l, ∀ W, Below w.heap.size w W → Calls Try.prog f (args x) W fun e w' => e = .returned (.bool (p x)) ∧ Below W.heap.size W w') :
    Calls Try.prog 58 #[.slice A l.length c, .func (.func f) #[] caps] w fun e w' => e = .returned (.bool (l.any p)) ∧ Below w.heap.size w w' := by
  have HI := Aside0.mk (indexf_int hf hname hb p A c l w hr args hargs hcl)
  have HV := Aside0.mk (idxP_any p l 0)
  obtain ⟨v, hv⟩ : ∃ v, idxP p l 0 = v := ⟨_, rfl⟩
  rw [hv] at HI HV
  clear hv hr hcl hargs hf hname hb
  go_enter Try.func58, Try.ntmps58
  go_wp2_with fail
  refine HI.out.mono ?_
  rintro e w' ⟨rfl, hb⟩
  have HB := Aside0.mk hb
  clear hb
  go_wp2_with fail
  go_ret
  exact ⟨by rw [← HV.out]; rfl, HB.out⟩
end
/-- An event, as it lies. -/
def evc (x : S95) (A7 : Option Addr) (c7 : Nat) : Array Value := #[.int .i64 x.f0, .int .i64 x.f1, .int .i64 x.f2, .int .i64 x.f3, .int .i64 x.f4, .int .i64 x.f5, .int .i64 x.f6, .slice A7 x.f7.length c7]
theorem ev_at {w W : World} {A : Option Addr} {l : List S95} (h : Kd.C k95 w A l.length l) (hb : Below w.heap.size w W) {i : Nat} (hi : i < l.length) {x : S95} (hx : l[i] = x) : ∃ ad A7 c7, A = some ad ∧ W.cell? (ad.add (i * 8)) = some (.int .i64 x.f0) ∧ W.cell? ⟨(ad.add (i * 8)).block, (ad.add (i * 8)).off + 1, none⟩ = some (.int .i64 x.f1) ∧ W.cell? ⟨(ad.add (i * 8)).block, (ad.add (i * 8)).off + 2, none⟩ = some (.int .i64 x.f2) ∧ W.cell? ⟨(ad.add (i * 8)).block, (ad.add (i * 8)).off + 3, none⟩ = some (.int .i64 x.f3) ∧ W.cell? ⟨(ad.add (i * 8)).block, (ad.add (i * 8)).off + 4, none⟩ = some (.int .i64 x.f4) ∧ W.cell? ⟨(ad.add (i * 8)).block, (ad.add (i * 8)).off + 5, none⟩ = some (.int .i64 x.f5) ∧ W.cell? ⟨(ad.add (i * 8)).block, (ad.add (i * 8)).off + 6, none⟩ = some (.int .i64 x.f6) ∧ W.cell? ⟨(ad.add (i * 8)).block, (ad.add (i * 8)).off + 7, none⟩ = some (.slice A7 x.f7.length c7) ∧
    x.f7.length ≤ c7 ∧ Kd.C (Kd.int .u8) W A7 x.f7.length x.f7 := by
  subst hx
  have h := at_T95 h (i : Int) (by omega) (by omega)
  have e : rd_T95 l (i : Int) = l[i] := by
    unfold rd_T95
    rw [Int.toNat_natCast, List.getD_eq_getElem?_getD, List.getElem?_eq_getElem hi]; rfl
  rw [e, Int.toNat_natCast] at h
  obtain ⟨ad, A7, c7, e, x0, x1, x2, x3, x4, x5, x6, x7, l7, r7⟩ := h
  have up : ∀ {p : Addr} {v : Value}, w.cell? p = some v → W.cell? p = some v := fun h => (hb.cell (World.block_lt_of_cell? w _ h)).trans h
  exact ⟨ad, A7, c7, e, up x0, up x1, up x2, up x3, up x4, up x5, up x6, up x7, l7, Kd.C_below r7 hb⟩
section
variable {f : FuncId} {fn : Func} {caps : Array Value} (hf : Try.prog.funcs[f]? = some fn) (hname : (fn.name == "runtime.NumGoroutine") = false) (hb : fn.body.isSome = true)
include hf hname hb
set_option maxHeartbeats 1000000 in
theorem indexf_ev (p : S95 → Bool) (A : Option Addr) (c : Nat) (l : List S95) (w : World) (hr : Kd.C k95 w A l.length l) (args : S95 → Option Addr → Nat → Array Value) (hargs : ∀ x A7 c7, #[.agg (evc x A7 c7)] ++ caps = args x A7 c7) (hcl : ∀ x ∈ l, ∀ W A7 c7, Below w.heap.size w W → x.f7.length ≤ c7 → Kd.C (Kd.int .u8) W A7 x.f7.length x.f7 → Calls Try.prog f (args x A7 c7) W fun e w' => e = .returned (.bool (p x)) ∧ Below W.heap.size W w') :
    Calls Try.prog 79 #[.slice A l.length c, .func (.func f) #[] caps] w fun e w' => e = .returned (.int .i64 (idxP p l 0)) ∧ Below w.heap.size w w' := by
  have HR := Aside0.mk hr
  have HCL := Aside0.mk hcl
  have HARG := Aside0.mk hargs
  have HF := Aside0.mk hf
  have HN := Aside0.mk hname
  have HBO := Aside0.mk hb
  have hm : l.length ≤ 9223372036854775807 := hr.2.1
  clear hr hcl hargs hf hname hb
  go_enter Try.func79, Try.ntmps79
  go_wp2_with fail
  go_loopw [4, 5, 8] (fun _ _ v8 wr => ∃ k : Nat, k ≤ l.length ∧ v8 = .int .i64 (k : Int) ∧ Aside0 (idxP p l 0 = idxP p (l.drop k) k) ∧ Below w.heap.size w wr) (fun _ _ v8 _ => ((l.length : Int) - intOf v8).toNat)
  case atStart => exact ⟨0, Nat.zero_le _, rfl, ⟨by simp⟩, Below.refl _ _⟩
  case round =>
    obtain ⟨k, hk, rfl, HI, hbr⟩ := hrel
    have HBr := Aside0.mk hbr
    clear hbr
    by_cases hlt : k < l.length
    · have m1 : decide ((k : Int) < (l.length : Int)) = true := decide_eq_true (by omega)
      have m2 : decide (k < l.length) = true := decide_eq_true hlt
      have q1 : (0 ≤ (k : Int)) = True := eq_true (by omega)
      have q2 : ((k : Int) < (l.length : Int)) = True := eq_true (by omega)
      have q3 : (k < l.length) = True := eq_true hlt
      obtain ⟨x, hx⟩ : ∃ x, l[k] = x := ⟨_, rfl⟩
      have HM : Aside0 (x ∈ l) := ⟨by rw [← hx]; exact List.getElem_mem hlt⟩
      obtain ⟨ad, A7, c7, hA, x0, x1, x2, x3, x4, x5, x6, x7, l7, r7⟩ := ev_at HR.out HBr.out hlt hx
      subst hA
      have hcall := HCL.out x HM.out wr A7 c7 HBr.out l7 r7
      cases hp : p x
      · have HH : Aside0 (idxP p l 0 = idxP p (l.drop (k + 1)) (k + 1)) := ⟨by rw [HI.out, idxP_stay _ hlt (by rw [hx]; exact hp)]⟩
        rw [hp] at hcall
        have HC := Aside0.mk hcall
        clear hx hcall HI hp r7
        have hent := enters_ HF.out HN.out HBO.out (#[.agg (evc x A7 c7)] ++ caps) wr
        rw [← HARG.out x A7 c7] at HC
        unfold evc at hent
        go_wp2_with fail
        refine HC.out.mono ?_
        rintro e wq ⟨rfl, hbq⟩
        have HBq := Aside0.mk (below_step HBr.out hbq)
        clear hbq hent
        go_wp2_with fail
        exact ⟨⟨k + 1, by omega, by rw [Int.natCast_add]; rfl, HH, HBq.out⟩, by simp [intOf]; omega⟩
      · have HH : Aside0 (idxP p l 0 = k) := ⟨by rw [HI.out, idxP_hit _ hlt (by rw [hx]; exact hp)]⟩
        rw [hp] at hcall
        have HC := Aside0.mk hcall
        clear hx hcall HI hp r7
        have hent := enters_ HF.out HN.out HBO.out (#[.agg (evc x A7 c7)] ++ caps) wr
        rw [← HARG.out x A7 c7] at HC
        unfold evc at hent
        go_wp2_with fail
        refine HC.out.mono ?_
        rintro e wq ⟨rfl, hbq⟩
        have HBq := Aside0.mk (below_step HBr.out hbq)
        clear hbq hent
        go_wp2_with fail
        go_ret
        exact ⟨by rw [HH.out]; rfl, HBq.out⟩
    · have m1 : decide ((k : Int) < (l.length : Int)) = false := decide_eq_false (by omega)
      have m2 : decide (k < l.length) = false := decide_eq_false hlt
      have HH : Aside0 (idxP p l 0 = -1) := ⟨by rw [HI.out, List.drop_eq_nil_of_le (by omega)]; rfl⟩
      clear hlt HI
      go_wp2_with fail
      go_ret
      exact ⟨by rw [HH.out]; rfl, HBr.out⟩
theorem containsf_ev (p : S95 → Bool) (A : Option Addr) (c : Nat) (l : List S95) (w : World) (hr : Kd.C k95 w A l.length l) (args : S95 → Option Addr → Nat → Array Value) (hargs : ∀ x A7 c7, #[.agg (evc x A7 c7)] ++ caps = args x A7 c7) (hcl : ∀ x ∈ l, ∀ W A7 c7, Below w.heap.size w W → x.f7.length ≤ c7 → Kd.C (Kd.int .u8) W A7 x.f7.length x.f7 → Calls Try.prog f (args x A7 c7) W fun e w' => e = .returned (.bool (p x)) ∧ Below W.heap.size W w') :
    Calls Try.prog 62 #[.slice A l.length c, .func (.func f) #[] caps] w fun e w' => e = .returned (.bool (l.any p)) ∧ Below w.heap.size w w' := by
  have HI := Aside0.mk (indexf_ev hf hname hb p A c l w hr args hargs hcl)
  have HV := Aside0.mk (idxP_any p l 0)
  obtain ⟨v, hv⟩ : ∃ v, idxP p l 0 = v := ⟨_, rfl⟩
  rw [hv] at HI HV
  clear hv hr hcl hargs hf hname hb
  go_enter Try.func62, Try.ntmps62
  go_wp2_with fail
  refine HI.out.mono ?_
  rintro e w' ⟨rfl, hb⟩
  have HB := Aside0.mk hb
  clear hb
  go_wp2_with fail
  go_ret
  exact ⟨by rw [← HV.out]; rfl, HB.out⟩
end
end Go.Proofs.Ytekbaconbemgpaa.PWe
