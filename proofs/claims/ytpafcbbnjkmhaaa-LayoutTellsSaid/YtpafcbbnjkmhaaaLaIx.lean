/- slices.IndexFunc with Place's closure, and slices.Clone of parts. Helper text. -/
import Derived.Test.YtpafcbbnjkmhaaaLaCap
import Derived.Test.YtpafcbbnjkmhaaaShelf
namespace Go.Proofs.Ytpafcbbnjkmhaaa.PLa
open Go.RowKit Go.Lib Go.Shelf Go.Proofs.YtpafcbbnjkmhaaaW.PrintWords Go.Proofs.YtpafcbbnjkmhaaaW.PrintLast Go.Proofs.YtpafcbbnjkmhaaaW.PrintMore
set_option linter.unusedVariables false
set_option linter.unusedSimpArgs false

/-- Is a size none that can be? -/
def badS (x : Int) : Bool := decide (x < 1 ∨ 8 < x)
/-- The first size that cannot be (-1: none). -/
def badAt (l : List Int) : Int := Lib.idxBy (fun _ y => badS y) l default
theorem badAt_neg {l : List Int} (h : badAt l < 0) : ∀ x ∈ l, 1 ≤ x ∧ x ≤ 8 := by
  have := idxBy_nonneg_iff (fun _ y => badS y) l default
  unfold badAt at h
  rw [decide_eq_false (by omega)] at this
  intro x hx
  have := List.any_eq_false.1 this.symm x hx
  unfold badS at this
  have := of_decide_eq_false (Bool.eq_false_iff.2 this)
  omega
theorem pred23 (w : World) : PredAt Try.prog 23 #[] (Value.int .i64) badS w := fun W x _ => by
  show Calls Try.prog 23 #[.int .i64 x] W _
  by_cases h1 : x < 1
  · have hb : badS x = true := by unfold badS; exact decide_eq_true (.inl h1)
    have h1' : decide (x < 1) = true := decide_eq_true h1
    rw [hb]
    clear hb h1
    go_enter Try.func23, Try.ntmps23
    go_wp2
    go_ret
    exact ⟨rfl, 0, rfl⟩
  · have h1' : decide (x < 1) = false := decide_eq_false h1
    have hb : badS x = decide (8 < x) := by
      unfold badS
      by_cases h2 : 8 < x
      · rw [decide_eq_true h2, decide_eq_true (.inr h2)]
      · rw [decide_eq_false h2, decide_eq_false (by omega)]
    rw [hb]
    clear hb h1
    go_enter Try.func23, Try.ntmps23
    go_wp2
    go_ret
    exact ⟨rfl, 0, rfl⟩
theorem enters23 : ∀ args w, (callFunc 23 args).run Try.prog w = .ok (.enter 23 args) w := enters_of Try.func23 (by kernel_rfl) rfl
theorem addr_plain {w : World} {ad : Addr} {v : Value} (h : w.cell? ad = some v) : ad = ⟨ad.block, ad.off, none⟩ := by
  obtain ⟨b, o, s⟩ := ad
  cases s with
  | none => rfl
  | some s =>
    simp [World.cell?] at h
    split at h <;> cases h
def slices_IndexFunc_int_int.f (l : List Int) : Option Int := some (badAt l)
theorem slices_IndexFunc_int_int.calls (A0 : Option Addr) (c0 : Nat) (l0 : List Int) (r : Int) (w : World) (hr0 : Kd.C (Kd.int .i64) w A0 l0.length l0) (hc0 : l0.length ≤ c0) (h : slices_IndexFunc_int_int.f l0 = some r) :
    Calls Try.prog 22 #[.slice A0 l0.length c0, .func (.func 23) #[] #[]] w fun e w' => e = .returned (.int .i64 r) ∧ Below w.heap.size w w' := by
  obtain rfl := Option.some.inj h
  by_cases hl : l0.length = 0
  · have e := List.eq_nil_of_length_eq_zero hl
    subst e
    exact (AnyE.slices_IndexFunc_empty Try.laysIx A0 c0 (.func (.func 23) #[] #[]) w).mono fun e w' ⟨he, hw⟩ => ⟨he, by rw [hw]; exact Below.refl _ _⟩
  · obtain ⟨_, hmax, hrow⟩ := hr0
    obtain ⟨ad, rfl, hc⟩ := hrow (by omega)
    have hcell : ∀ j (hj : j < l0.length), w.cell? (ad.add j) = some (.int .i64 l0[j]!) := fun j hj => by
      obtain ⟨c, _, hK, hcc⟩ := hc j l0[j]! (by simp [hj])
      have hcs : c = [.int .i64 l0[j]!] := hK
      subst hcs
      have := hcc 0 _ rfl
      rwa [show (Kd.int .i64).sz = 1 from rfl, Nat.mul_one, Nat.add_zero] at this
    have h0 := hcell 0 (by omega)
    rw [Addr.add_zero'] at h0
    have hp := addr_plain h0
    generalize ad.block = b at *
    generalize ad.off = off at *
    subst hp
    refine (AnyE.slices_IndexFunc Try.laysIx (Value.int .i64) badS 23 #[] enters23 b off l0.length c0 l0 w (pred23 w) (Nat.le_refl _) hmax (fun j hj => by rw [← Addr.add_lit]; exact hcell j hj)).mono ?_
    rintro e w' ⟨rfl, q, rfl⟩
    exact ⟨by rw [List.take_length]; rfl, below_drewN' (Below.refl _ w) q⟩
def layout_Part_24.f (l : List S41) : Option (List S41) := if l.length < 8796093022208 then some l else none
theorem eqlNil23 : ∀ (w : World) (a : Option Addr) (n c n' c' : Nat), (binOp .eql 23 (.slice a n c) (.slice none n' c')).run Try.prog w = .ok (.bool a.isNone) w := fun w a n c n' c' => Lib.run_eql_slice_nil w _ _ a n c n' c' Try.underlying23
theorem clone_some (ad : Addr) (c0 : Nat) (l0 : List S41) (w : World) (hr0 : Kd.C k41 w (some ad) l0.length l0) (hl : l0.length < 8796093022208) :
    Calls Try.prog 24 #[.slice (some ad) l0.length c0] w fun e w' => ∃ v0_ : Value, e = .returned v0_ ∧ Kd.R k41 41 w' w.heap.size (fun _ => True) v0_ l0 ∧ Below w.heap.size w w' := by
  obtain ⟨i0, hi0, hz0, hsz, hby⟩ := info_parts info41
  obtain ⟨inner, hr, hcells⟩ := ReadsRow.inner_ hr0
  have hlen : inner.length = l0.length * 2 := hr.1
  have hone : ∀ u ∈ inner, u.oneCell' = true := fun u hu => by
    obtain ⟨j, hj, rfl⟩ := List.getElem_of_mem hu
    have hj2 : j / 2 < l0.length := by omega
    have h1 := k41_open (hr.2 (j / 2) l0[j / 2] (by simp [hj2]))
    rw [show k41.sz = 2 from rfl] at h1
    have h4 := congrArg (fun l : List Value => l[j % 2]?) h1
    simp only [List.getElem?_take, List.getElem?_drop, if_pos (show j % 2 < 2 by omega), show j / 2 * 2 + j % 2 = j by omega, List.getElem?_eq_getElem hj] at h4
    have : j % 2 = 0 ∨ j % 2 = 1 := by omega
    rcases this with h | h <;> rw [h] at h4 <;> rw [Option.some.inj h4] <;> rfl
  have q23 := eqlNil23
  have HA := Aside0.mk hcells
  have HO := Aside0.mk hone
  have HRR := Aside0.mk hr
  clear hcells hone hr hr0
  go_enter Try.func24, Try.ntmps24
  go_wp2_with (at_builtin; refine wpList_append_own _ rfl _ _ 23 rfl w.heap.size 41 i0 (.agg #[.int .i64 0, .int .i64 0]) 2 16 Try.underlying23 hi0 hz0 hsz hby rfl (by omega) _ _ _ rfl (World.ownsRow_made w #[] 0 (Nat.le_refl _) (Nat.zero_le _) (by simp)) ad l0.length c0 inner rfl ?qc1 ?qc2 ?qc3 ?qc4 ?qc5 ?qc6 ?_)
  case qc1 => exact hlen
  case qc2 =>
    intro j u hj
    exact Lib.cell?_alloc_some _ (HA.out j u hj)
  case qc3 => exact HO.out
  case qc4 => rw [Nat.zero_add]; simp only [maxLen]; omega
  case qc5 => rw [Nat.zero_add]; omega
  case qc6 => simp
  intro v' w1 hown hgrow hnil
  go_wp2
  go_ret
  refine ⟨v', rfl, ⟨fun _ _ => trivial, inner, (show w1.ownsRow w.heap.size 41 2 v' l0.length inner by simpa using hown), reps_M HRR.out⟩, ?_⟩
  exact ((Below.refl _ w).alloc (Nat.le_refl _) _).grown hgrow (by simp) (by intro k hk; simp [Value.ownBlock] at hk; omega)
theorem clone_none (c0 : Nat) (w : World) : Calls Try.prog 24 #[.slice none 0 c0] w fun e w' => e = .returned (.slice none 0 0) ∧ w' = w := by
  have q23 := eqlNil23
  go_enter Try.func24, Try.ntmps24
  go_wp2
  go_ret
  exact ⟨rfl, rfl⟩
theorem layout_Part_24.calls (A0 : Option Addr) (c0 : Nat) (l0 : List S41) (r : List S41) (w : World) (hr0 : Kd.C k41 w A0 l0.length l0) (hc0 : l0.length ≤ c0) (h : layout_Part_24.f l0 = some r) :
    Calls Try.prog 24 #[.slice A0 l0.length c0] w fun e w' => ∃ v0_ : Value, e = .returned v0_ ∧ Kd.R k41 41 w' w.heap.size (fun _ => True) v0_ r ∧ Below w.heap.size w w' := by
  unfold layout_Part_24.f at h
  split at h
  · rename_i hl
    obtain rfl := Option.some.inj h
    cases A0 with
    | none =>
      have hn : l0.length = 0 := by
        by_cases hp : 0 < l0.length
        · obtain ⟨ad, e, _⟩ := hr0.2.2 hp
          cases e
        · omega
      have e := List.eq_nil_of_length_eq_zero hn
      subst e
      exact (clone_none c0 w).mono fun e w' ⟨he, hw⟩ => ⟨_, he, Kd.R_nil _ _ _ _ _, by rw [hw]; exact Below.refl _ _⟩
    | some ad => exact clone_some ad c0 l0 w hr0 hl
  · cases h
end Go.Proofs.Ytpafcbbnjkmhaaa.PLa
