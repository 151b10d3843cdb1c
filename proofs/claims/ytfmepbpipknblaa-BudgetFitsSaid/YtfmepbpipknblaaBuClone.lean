/- Clones of slips and of a fault, as contracts in the printed functions' form. Helper text. -/
import Derived.Test.YtfmepbpipknblaaPBux0
import Derived.WalkSpells
import Derived.Lib.SliceRun
namespace Go.Proofs.Ytfmepbpipknblaa.PBu
open Go.RowKit Go.Proofs.YtfmepbpipknblaaW.PrintWords Go.Proofs.YtfmepbpipknblaaW.PrintLast Go.Proofs.YtfmepbpipknblaaW.PrintMore
set_option linter.unusedVariables false
set_option linter.unusedSimpArgs false

def budget_Slip.f (l0 : List S40) : Option (List S40) := if l0.length < 4398046511104 then some l0 else none
/-- A row without an element, in the block that was just made. -/
theorem R_empty {α : Type} (d : Kd α) (e : Nat) (W : World) (base : Nat) (hb : base ≤ W.heap.size) : Kd.R d e (W.alloc (.cells #[] e)) base (fun _ => True) (.slice (some ⟨W.heap.size, 0, none⟩) 0 0) [] :=
  ⟨fun _ _ => trivial, [], World.ownsRow_lit (base := base) (e := e) (size := d.sz) W #[] 0 hb (by simp [maxLen]) (by simp), Reps.none _ _⟩
set_option maxHeartbeats 1000000 in
theorem budget_Slip.calls (A0 : Option Addr) (c0 : Nat) (l0 : List S40) (r : List S40) (w : World) (hr0 : Kd.C k40 w A0 l0.length l0) (hc0 : l0.length ≤ c0) (h : budget_Slip.f l0 = some r) :
    Calls Try.prog 76 #[.slice A0 l0.length c0] w fun e w' => ∃ v0_ : Value, e = .returned (v0_) ∧ Kd.R k40 40 w' w.heap.size (fun _ => True) v0_ r ∧ Below w.heap.size w w' := by
  unfold budget_Slip.f at h
  split at h
  · rename_i hl
    obtain rfl := Option.some.inj h
    rcases A0 with _ | ad
    · have h0 : l0 = [] := by
        rcases Nat.eq_zero_or_pos l0.length with h1 | h1
        · exact List.eq_nil_of_length_eq_zero h1
        · obtain ⟨ad, h2, _⟩ := hr0.2.2 h1
          cases h2
      subst h0
      have hq := fun (w : World) => Lib.run_eql_slice_nil (P := Try.prog) w 25 40 none 0 c0 0 0 Try.underlying25
      go_enter Try.func76, Try.ntmps76
      go_wp2
      go_ret
      exact ⟨_, rfl, Kd.R_nil _ _ _ _ _, Below.refl _ _⟩
    · have hq := fun (w : World) => Lib.run_eql_slice_nil (P := Try.prog) w 25 40 (some ad) l0.length c0 0 0 Try.underlying25
      have HR := Aside0.mk hr0
      clear hr0
      go_enter Try.func76, Try.ntmps76
      go_wp2_with (first
        | (at_builtin; refine Kd.R_append_rows k40 (Rr := fun x cs => cs = [.int .i64 x.f0, .bool x.f1, .int .i64 x.f2, .int .i64 x.f3]) (w0 := w) w.heap.size rfl _ _ 25 40 _ 32 rfl Try.underlying25 info40 rfl (by decide) (by decide) (.slice (some ⟨w.heap.size, 0, none⟩) 0 0) [] l0 (some ad) l0.length c0 (fun _ => True) (fun _ => False) rfl rfl (R_empty _ _ _ _ (Nat.le_refl _)) ((Kd.C_below HR.out (below_alloc (Below.refl _ _) _)).imp_ (Below.refl _ _) (fun _ _ hp => k40_open hp)) (fun x cs hp => hp ▸ k40_mkM _ _ _ x) (fun _ h => h.elim) (fun _ _ => trivial) (below_alloc (Below.refl _ _) _) (by simp) (by simp; omega) ?_; intro v1 w1 hR hB _ _; have HR1 := Aside0.mk hR; have HB1 := Aside0.mk hB; clear hR hB))
      go_ret
      exact ⟨_, rfl, by simpa using HR1.out, HB1.out⟩
  · cases h
def fault_Fault_Clone.f (a0_0 : Int) (a0_1 : Int) (a0_2 : Bool) (a0_3 : Int) (a0_4 : Int) (l0_5 : List Int) : Option (Int × Int × Bool × Int × Int × List Int) :=
  if l0_5.length ≤ 140737488355328 then some (a0_0, a0_1, a0_2, a0_3, a0_4, l0_5) else none
set_option maxRecDepth 100000 in
set_option maxHeartbeats 2000000 in
theorem fault_Fault_Clone.calls (a0_0 : Int) (a0_1 : Int) (a0_2 : Bool) (a0_3 : Int) (a0_4 : Int) (A0_5 : Option Addr) (c0_5 : Nat) (l0_5 : List Int) (r1 : Int) (r2 : Int) (r3 : Bool) (r4 : Int) (r5 : Int) (r6 : List Int) (w : World) (hr0_5 : Kd.C (Kd.int .u8) w A0_5 l0_5.length l0_5) (hc0_5 : l0_5.length ≤ c0_5) (h : fault_Fault_Clone.f a0_0 a0_1 a0_2 a0_3 a0_4 l0_5 = some (r1, r2, r3, r4, r5, r6)) :
    Calls Try.prog 70 #[.agg #[.int .i64 a0_0, .int .i64 a0_1, .bool a0_2, .int .i64 a0_3, .int .i64 a0_4, .slice A0_5 l0_5.length c0_5]] w fun e w' => ∃ v5_ : Value, e = .returned (.agg #[.int .i64 r1, .int .i64 r2, .bool r3, .int .i64 r4, .int .i64 r5, v5_]) ∧ Kd.R (Kd.int .u8) 5 w' w.heap.size (fun _ => True) v5_ r6 ∧ Below w.heap.size w w' := by
  unfold fault_Fault_Clone.f at h
  split at h
  · rename_i hl
    simp only [Option.some.injEq, Prod.mk.injEq] at h
    obtain ⟨rfl, rfl, rfl, rfl, rfl, rfl⟩ := h
    have HR := Aside0.mk hr0_5
    have hmk := print_make (P := Try.prog) 22 5 .u8 1 Try.underlying22 info5 (by decide) l0_5.length (by omega)
    have hu24 := Try.underlying24
    have HL := Aside0.mk hl
    clear hr0_5 hl
    go_enter Try.func70, Try.ntmps70
    go_wp2_with (first
      | (refine Kd.R_copy (o := ⟨some 11, _, _, _, _, _⟩) (enc := Value.int .u8) (h1 := fun _ => rfl) 0 (w0 := ((w.alloc (.cells #[.int .i64 a0_0, .int .i64 a0_1, .bool a0_2, .int .i64 a0_3, .int .i64 a0_4, .slice A0_5 l0_5.length c0_5] 24)).alloc (.cells #[.int .i64 0, .int .i64 0, .bool false, .int .i64 0, .int .i64 0, .slice none 0 0] 24)).alloc (.cells (madeCells #[.int .u8 0] l0_5.length) 5)) (w.heap.size + 1 + 1) rfl _ _ 22 22 5 rfl Try.underlying22 (by kernel_rfl) (.slice (some ⟨w.heap.size + 1 + 1, 0, none⟩) l0_5.length l0_5.length) (List.replicate l0_5.length 0) l0_5 A0_5 l0_5.length c0_5 (fun k => k ≠ w.heap.size ∧ k ≠ w.heap.size + 1) rfl rfl (Kd.R_of_own (by have := own_made_of (enc := Value.int .u8) (d := 0) ((w.alloc (.cells #[.int .i64 a0_0, .int .i64 a0_1, .bool a0_2, .int .i64 a0_3, .int .i64 a0_4, .slice A0_5 l0_5.length c0_5] 24)).alloc (.cells #[.int .i64 0, .int .i64 0, .bool false, .int .i64 0, .int .i64 0, .slice none 0 0] 24)) (w.heap.size + 1 + 1) 5 l0_5.length (by simp) (by have := HL.out; omega); rw [List.length_replicate]; simpa using this) (fun k hk => by simp [Value.ownBlock] at hk; omega)) (Kd.C_below HR.out (((below_alloc (below_alloc (below_alloc (Below.refl _ _) _) _) _)))) (Below.refl _ _) (by simp) ?_; intro w1 hR hB _; have HR1 := Aside0.mk hR; have HB1 := Aside0.mk hB; clear hR hB;
         have H0 : Aside0 (w1.heap[w.heap.size]? = some (.cells #[.int .i64 a0_0, .int .i64 a0_1, .bool a0_2, .int .i64 a0_3, .int .i64 a0_4, .slice A0_5 l0_5.length c0_5] 24 (0, 0))) := ⟨(HB1.out.block _ (by omega)).trans (blk_alloc (blk_alloc (blk_new _ _) _) _)⟩;
         have H1 : Aside0 (w1.heap[w.heap.size + 1]? = some (.cells #[.int .i64 0, .int .i64 0, .bool false, .int .i64 0, .int .i64 0, .slice none 0 0] 24 (0, 0))) := ⟨(HB1.out.block _ (by omega)).trans (blk_alloc (by simpa using blk_new (w.alloc (.cells #[.int .i64 a0_0, .int .i64 a0_1, .bool a0_2, .int .i64 a0_3, .int .i64 a0_4, .slice A0_5 l0_5.length c0_5] 24)) (.cells #[.int .i64 0, .int .i64 0, .bool false, .int .i64 0, .int .i64 0, .slice none 0 0] 24)) _)⟩;
         have c0 := blk_cell H0.out 0; have c1 := blk_cell H0.out 1; have c2 := blk_cell H0.out 2; have c3 := blk_cell H0.out 3; have c4 := blk_cell H0.out 4; have c5 := blk_cell H0.out 5; have f5 := blk_frozen H0.out 5;
         have d0 := blk_cell H1.out 0; have d1 := blk_cell H1.out 1; have d2 := blk_cell H1.out 2; have d3 := blk_cell H1.out 3; have d4 := blk_cell H1.out 4; have d5 := blk_cell H1.out 5;
         have g0 := blk_frozen H1.out 0; have g1 := blk_frozen H1.out 1; have g2 := blk_frozen H1.out 2; have g3 := blk_frozen H1.out 3; have g4 := blk_frozen H1.out 4; have g5 := blk_frozen H1.out 5;
         replace c0 := c0.trans rfl; replace c1 := c1.trans rfl; replace c2 := c2.trans rfl; replace c3 := c3.trans rfl; replace c4 := c4.trans rfl; replace c5 := c5.trans rfl;
         replace d0 := d0.trans rfl; replace d1 := d1.trans rfl; replace d2 := d2.trans rfl; replace d3 := d3.trans rfl; replace d4 := d4.trans rfl; replace d5 := d5.trans rfl))
    have e0 : l0_5.take (min l0_5.length (List.replicate l0_5.length (0 : Int)).length) ++ (List.replicate l0_5.length (0 : Int)).drop (min l0_5.length (List.replicate l0_5.length (0 : Int)).length) = l0_5 := by simp
    have HR2 := HR1.out
    rw [e0] at HR2
    refine bodyPost_ret (results_cell_row rfl _ _ (w.heap.size + 1) 24 #[.int .i64 a0_0, .int .i64 a0_1, .bool a0_2, .int .i64 a0_3, .int .i64 a0_4, (.slice (some ⟨w.heap.size + 1 + 1, 0, none⟩) l0_5.length l0_5.length)] (0, 0) _ rfl ?_ Try.underlying24 rfl (by kernel_rfl)) rfl ⟨_, rfl, ?_, ?_⟩
    · exact (blk_set (blk_set (blk_set (blk_set (blk_set (blk_set (blk_far H1.out (by simp) _) 0 _) 1 _) 2 _) 3 _) 4 _) 5 _).trans rfl
    · have n0 : ∀ k, k ≠ w.heap.size ∧ k ≠ w.heap.size + 1 → k ≠ w.heap.size := fun _ h => h.1
      have n1 : ∀ k, k ≠ w.heap.size ∧ k ≠ w.heap.size + 1 → k ≠ w.heap.size + 1 := fun _ h => h.2
      exact Kd.R_lower (Kd.R_mono (Kd.R_far (Kd.R_far (Kd.R_far (Kd.R_far (Kd.R_far (Kd.R_far (Kd.R_far HR2 n0 _) n1 _) n1 _) n1 _) n1 _) n1 _) n1 _) (fun _ _ => trivial)) (by omega)
    · have hb : Below w.heap.size w w1 := (below_alloc (below_alloc (below_alloc (Below.refl _ _) _) _) _).trans (HB1.out.mono (by omega))
      exact ((((((hb.setCell (Nat.le_refl _) _).setCell (by simp) _).setCell (by simp) _).setCell (by simp) _).setCell (by simp) _).setCell (by simp) _).setCell (by simp) _
  · cases h
end Go.Proofs.Ytfmepbpipknblaa.PBu
