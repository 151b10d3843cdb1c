/- trace.Windows: what it comes to, read. Helper text. -/
import Derived.Test.YtekbaconbemgpaaAuEach
namespace Go.Proofs.Ytekbaconbemgpaa.PWe
open Go.RowKit Go.Proofs.Ytekbaconbemgpaa.Kx Go.Proofs.YtekbaconbemgpaaW.PrintWords Go.Proofs.YtekbaconbemgpaaW.PrintLast Go.Proofs.YtekbaconbemgpaaW.PrintMore
set_option linter.unusedVariables false
set_option linter.unusedSimpArgs false

theorem int_C {k : IntKind} {e N : Nat} {w : World} {ok : Nat → Prop} {v : Value} {xs : List Int} (h : Kd.R (Kd.int k) e w N ok v xs) : ∃ A c, v = .slice A xs.length c ∧ xs.length ≤ c ∧ Kd.C (Kd.int k) w A xs.length xs := by
  obtain ⟨A, c, rfl⟩ := Kd.R_slice h
  exact ⟨A, c, rfl, (Kd.R_reads' h).2.1, (Kd.R_reads' h).2.2⟩
theorem EInv.reads {w W : World} {lab : Nat → Nat} {es : List El} {A : Option Addr} {c : Nat} (h : EInv w W lab (.slice A es.length c) es) : es.length ≤ c ∧ Kd.C k101 W A (es.map (·.x)).length (es.map (·.x)) := by
  have hr := Kd.R_reads' h.own
  refine ⟨hr.2.1, by rw [List.length_map], by rw [List.length_map]; exact hr.2.2.2.1, fun hn => ?_⟩
  rw [List.length_map] at hn
  obtain ⟨ad, hA, hc⟩ := hr.2.2.2.2 hn
  refine ⟨ad, hA, fun j p hp => ?_⟩
  rw [List.getElem?_map] at hp
  have hj : j < es.length := by
    rcases Nat.lt_or_ge j es.length with h1 | h1
    · exact h1
    · rw [List.getElem?_eq_none h1] at hp; cases hp
  rw [List.getElem?_eq_getElem hj] at hp
  obtain rfl := Option.some.inj hp
  obtain ⟨cs, hl, hK, hcell⟩ := hc j _ (List.getElem?_eq_getElem hj)
  refine ⟨cs, hl, ?_, hcell⟩
  have hcs : cs = (es[j]).cells := hK.1
  obtain ⟨A0, c0, e0, k0, r0⟩ := int_C (h.l j hj 0 (by decide))
  obtain ⟨A1, c1, e1, k1, r1⟩ := int_C (h.l j hj 1 (by decide))
  obtain ⟨A2, c2, e2, k2, r2⟩ := int_C (h.l j hj 2 (by decide))
  obtain ⟨A3, c3, e3, k3, r3⟩ := int_C (h.wd j hj)
  have hm := k101_mk W (es[j]).x k0 r0 k1 r1 k2 r2 k3 r3
  rw [hcs, El.cells, e0, e1, e2, e3]
  exact hm
theorem windows_calls (A : Option Addr) (c : Nat) (l : List S95) (w : World) (hr : Kd.C k95 w A l.length l) (hl : l.length ≤ 900000) (hwl : ∀ x ∈ l, x.f7.length ≤ 140737488355328) :
    Calls Try.prog 36 #[.slice A l.length c] w fun e w' => ∃ A' c', e = .returned (.slice A' (winsL l).length c') ∧ (winsL l).length ≤ c' ∧ Kd.C k101 w' A' (winsL l).length (winsL l) ∧ Below w.heap.size w w' := by
  have HE := Aside0.mk (each_calls A c l w hr hl hwl)
  clear hr hwl
  go_enter Try.func36, Try.ntmps36
  go_wp2_with fail
  refine HE.out.mono ?_
  rintro e w2 ⟨v5, es, lab, rfl, hi, hm⟩
  obtain ⟨A', c', rfl⟩ := Kd.R_slice hi.own
  have HR := Aside0.mk hi.reads
  have HB := Aside0.mk hi.b
  have HM := Aside0.mk hm
  clear hi hm
  go_wp2_with fail
  go_ret
  have h := HR.out
  rw [HM.out] at h
  have e1 : es.length = (winsL l).length := by rw [← HM.out, List.length_map]
  exact ⟨A', c', by rw [← e1]; rfl, by rw [← e1]; exact h.1, h.2, HB.out⟩
end Go.Proofs.Ytekbaconbemgpaa.PWe
