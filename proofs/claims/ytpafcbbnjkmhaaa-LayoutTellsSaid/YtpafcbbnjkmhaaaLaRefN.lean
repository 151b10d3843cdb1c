/- busbarref42.Meets: its contract. Helper text. -/
import Derived.Test.YtpafcbbnjkmhaaaLaRefM
namespace Go.Proofs.Ytpafcbbnjkmhaaa.PLa
open Go.RowKit Go.Proofs.Ytpafcbbnjkmhaaa.Kx Go.Proofs.YtpafcbbnjkmhaaaW.PrintWords Go.Proofs.YtpafcbbnjkmhaaaW.PrintLast Go.Proofs.YtpafcbbnjkmhaaaW.PrintMore
set_option linter.unusedVariables false
set_option linter.unusedSimpArgs false

def meet0 (a b : S40) : Bool := (List.range 64).any fun x => mapF [a] x && mapF [b] x
theorem meet0_yes {a b : S40} {x : Nat} (hx : x < 64) (h1 : mapF [a] x = true) (h2 : mapF [b] x = true) : meet0 a b = true := by
  rw [meet0, List.any_eq_true]
  exact ⟨x, List.mem_range.2 hx, by rw [h1, h2]; rfl⟩
theorem meet0_no {a b : S40} (h : ∀ x, x < 64 → (mapF [a] x && mapF [b] x) = false) : meet0 a b = false := by
  rw [meet0, List.any_eq_false]
  intro x hx
  rw [h x (List.mem_range.1 hx)]
  decide
set_option maxHeartbeats 4000000 in
theorem meets_any (a b : S40) (w : World) :
    Calls Try.prog 16 #[.agg #[.int .i64 a.f0, .int .i64 a.f1], .agg #[.int .i64 b.f0, .int .i64 b.f1]] w fun e w' => e = .returned (.bool (meet0 a b)) ∧ Below w.heap.size w w' := by
  have hmx : Try.prog.follows .mixedOrders = true := by kernel_rfl
  go_enter Try.func16, Try.ntmps16
  go_wp2_with fail
  rename_i K hrest
  refine wp_region_any hmx ?_
  refine wpAny_inv (R := MR w a b) (T := T16) tab16 (fun l x W i o h hi ho K hK => MR_step l x W i o h hi ho K hK) ?_ _ [false, false, false, false, false, false, false, false, false, false] _ _ ?_ (by decide) (by kernel_rfl)
  · intro l x W hR hr
    obtain ⟨s5, s6, s8, s9, s10, s11, s12, s13, rfl, g, g', rfl, rfl, b5, b6, hlow, ng⟩ := MR_end hR hr
    refine hrest _ _ ?_
    clear hR hr hrest
    unfold actM
    have B5 := Aside0.mk b5
    have B6 := Aside0.mk b6
    have HB := Aside0.mk hlow
    clear b5 b6 hlow
    obtain ⟨ma, hma⟩ : ∃ m, mapF [a] = m := ⟨_, rfl⟩
    obtain ⟨mb, hmb⟩ : ∃ m, mapF [b] = m := ⟨_, rfl⟩
    have HMA := Aside0.mk hma
    have HMB := Aside0.mk hmb
    rw [hma] at B5
    rw [hmb] at B6
    clear hma hmb
    go_wp2_with fail
    go_loopw [7] (fun v7 wr => ∃ n : Nat, n ≤ 64 ∧ v7 = .int .i64 n ∧ Blk wr g (arrB ma) 34 ∧ Blk wr g' (arrB mb) 34 ∧ Below w.heap.size w wr ∧ ∀ x, x < n → (ma x && mb x) = false) (fun v7 _ => 64 - (intOf v7).toNat)
    case atStart => exact ⟨0, by omega, rfl, B5.out, B6.out, HB.out, fun x hx => by omega⟩
    case round =>
      clear B5 B6 HB
      obtain ⟨n, hn, rfl, b5, b6, hb, hno⟩ := hrel
      have B5 := Aside0.mk b5
      have B6 := Aside0.mk b6
      have HB := Aside0.mk hb
      have HNO := Aside0.mk hno
      clear b5 b6 hb hno
      by_cases hlt : (n : Int) < 64
      · have hn64 : n < 64 := by omega
        have hn0 : (0 : Int) ≤ (n : Int) := by omega
        have x5 := arrB_cell B5.out hn64
        have x6 := arrB_cell B6.out hn64
        cases h1 : ma n with
        | false =>
          have HN : Aside0 (∀ x, x < n + 1 → (ma x && mb x) = false) := ⟨fun x hx => by
            by_cases e : x = n
            · rw [e, h1]; rfl
            · exact HNO.out x (by omega)⟩
          rw [h1] at x5
          clear h1
          go_wp2
          exact ⟨⟨n + 1, by omega, by simp, B5.out, B6.out, HB.out, HN.out⟩, by simp [intOf]; omega⟩
        | true =>
          cases h2 : mb n with
          | false =>
            have HN : Aside0 (∀ x, x < n + 1 → (ma x && mb x) = false) := ⟨fun x hx => by
              by_cases e : x = n
              · rw [e, h1, h2]; rfl
              · exact HNO.out x (by omega)⟩
            rw [h1] at x5
            rw [h2] at x6
            clear h1 h2
            go_wp2
            exact ⟨⟨n + 1, by omega, by simp, B5.out, B6.out, HB.out, HN.out⟩, by simp [intOf]; omega⟩
          | true =>
            have HT : Aside0 (meet0 a b = true) := ⟨meet0_yes hn64 (by rw [HMA.out, h1]) (by rw [HMB.out, h2])⟩
            rw [h1] at x5
            rw [h2] at x6
            clear h1 h2
            go_wp2
            go_ret
            exact ⟨by rw [HT.out]; rfl, HB.out⟩
      · obtain rfl : n = 64 := by omega
        have HT : Aside0 (meet0 a b = false) := ⟨meet0_no fun x hx => by rw [HMA.out, HMB.out]; exact HNO.out x hx⟩
        clear hlt
        go_wp2
        go_ret
        exact ⟨by rw [HT.out]; rfl, HB.out⟩
  · refine ⟨false, false, false, false, false, false, false, false, false, false, undef, undef, undef, undef, undef, undef, undef, undef, rfl, rfl, .inl ⟨rfl, rfl, ?_⟩⟩
    have h0 := heap_alloc_new w (.cells #[.int .i64 a.f0, .int .i64 a.f1] 40)
    have h1 := heap_alloc_new (w.alloc (.cells #[.int .i64 a.f0, .int .i64 a.f1] 40)) (.cells #[.int .i64 b.f0, .int .i64 b.f1] 40)
    have h0' := (heap_alloc_old (w.alloc (.cells #[.int .i64 a.f0, .int .i64 a.f1] 40)) (.cells #[.int .i64 b.f0, .int .i64 b.f1] 40) (r := w.heap.size) (by simp)).trans h0
    rw [show (w.alloc (.cells #[.int .i64 a.f0, .int .i64 a.f1] 40)).heap.size = w.heap.size + 1 by simp] at h1
    exact { ba := h0', bb := h1, low := below_drew (below_alloc (below_alloc (Below.refl _ _) _) _), e0 := fun h => (by cases h), e1 := fun h => (by cases h), e2 := fun h => (by cases h), e3 := fun h => (by cases h), e4 := fun h => (by cases h), e5 := fun h => (by cases h), e6 := fun h => (by cases h), e7 := fun h => (by cases h), ne := fun h => (by cases h), k4 := fun h => (by cases h), k5 := fun h => (by cases h) }
def busbarref42_Meets.f (a0 a1 b0 b1 : Int) : Option Bool := some (meet0 ⟨a0, a1⟩ ⟨b0, b1⟩)
theorem busbarref42_Meets.calls (a0_0 a0_1 a1_0 a1_1 : Int) (r : Bool) (w : World) (h : busbarref42_Meets.f a0_0 a0_1 a1_0 a1_1 = some r) :
    Calls Try.prog 16 #[.agg #[.int .i64 a0_0, .int .i64 a0_1], .agg #[.int .i64 a1_0, .int .i64 a1_1]] w fun e w' => e = .returned (.bool r) ∧ Below w.heap.size w w' := by
  obtain rfl := Option.some.inj h
  exact meets_any ⟨a0_0, a0_1⟩ ⟨a1_0, a1_1⟩ w
end Go.Proofs.Ytpafcbbnjkmhaaa.PLa
