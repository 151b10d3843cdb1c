/- Health: Of as a contract. Helper text. -/
import Derived.Test.YtfmepbpipknblaaHeOf
namespace Go.Proofs.Ytfmepbpipknblaa.He
open Go.RowKit Go.Proofs.Ytfmepbpipknblaa.Kx
set_option linter.unusedVariables false
set_option linter.unusedSimpArgs false

theorem contains_any (w : World) (B : Option Addr) (cm : Nat) (ms : List Int) (x : Int) (h : RdI w .i64 B ms) (hm : ms.length ≤ 9223372036854775807) :
    Calls Try.prog 78 #[.slice B ms.length cm, .int .i64 x] w fun e w' => e = .returned (.bool (ms.contains x)) ∧ w = w' := by
  cases ms with
  | nil => exact (Try.slices_Contains_int_empty B cm x w).mono fun e w' ⟨h1, h2⟩ => ⟨h1, h2.symm⟩
  | cons y ms =>
    obtain ⟨ad, rfl, h0⟩ := h 0 (by simp)
    obtain ⟨b, off, sp⟩ := ad
    have hsp : sp = none := by
      cases sp with
      | none => rfl
      | some s =>
        simp only [Addr.add, World.cell?] at h0
        split at h0 <;> simp at h0
    subst hsp
    have := Try.slices_Contains_int b off (y :: ms).length cm (y :: ms) x w (Nat.le_refl _) hm (fun j hj => by
      obtain ⟨ad, e, hc⟩ := h j hj
      cases e
      have hadd : (⟨b, off, none⟩ : Addr).add j = ⟨b, off + j, none⟩ := by unfold Addr.add; split <;> simp_all
      rwa [hadd] at hc)
    rw [List.take_of_length_le (Nat.le_refl _)] at this
    exact this.mono fun e w' ⟨h1, h2⟩ => ⟨h1, h2.symm⟩
set_option maxHeartbeats 1000000 in
theorem hof_any (l : List Ev) (A : Option Addr) (c : Nat) (ms : List Int) (B : Option Addr) (cm : Nat) (hl : l.length ≤ 100) (hms : ms.length ≤ 40) (w : World) (hA : RSl 8 REv w A l) (hB : RdI w .i64 B ms) :
    Calls Try.prog 26 #[.slice A l.length c, .slice B ms.length cm] w fun e w' => e = .returned (.agg (H7 (hc l ms l.length))) ∧ Below w.heap.size w w' := by
  have HA := hid hA
  have HBm := hid hB
  have hl' : (l.length : Int) ≤ 100 := by omega
  clear hA hB
  go_enter Try.func26, Try.ntmps26
  go_wp2_with fail
  refine (numbers_any (w.heap.size + 1) _).mono ?_
  rintro e w1 ⟨rfl, rfl⟩
  go_wp2_with fail
  go_loopw [8, 12] (fun _ i wr => ∃ n : Nat, n ≤ l.length ∧ i = .int .i64 n ∧ wr.heap[w.heap.size]? = some (.cells (H7 fun _ => 0) 45 (0, 0)) ∧ wr.heap[w.heap.size + 1]? = some (.cells (H7 (hc l ms n)) 45 (0, 0)) ∧ wr.heap[w.heap.size + 1 + 1]? = some (.cells (ptrs (w.heap.size + 1)) 141 (0, 0)) ∧ Below w.heap.size w wr) (fun _ i _ => l.length - (intOf i).toNat)
  case atStart =>
    refine ⟨0, by omega, rfl, ?_, ?_, ?_, ((((Below.refl _ _).alloc (Nat.le_refl _) _).alloc (by simp) _).alloc (by simp; omega) _).drew⟩
    · exact pl (pl (pe _ _ _ rfl))
    · exact pl (pe _ _ _ (by simp))
    · exact pe _ _ _ (by simp)
  case round =>
    obtain ⟨n, hn, rfl, h0, h1, h2, hB⟩ := hrel
    have H0 := hid h0
    have H1 := hid h1
    have H2 := hid h2
    have HB := hid hB
    have hsz := lt_of_block h2
    clear h0 h1 h2 hB
    by_cases hlt : (n : Int) < (l.length : Int)
    · obtain ⟨ad, cs, pb, po, rfl, hpl, hpb, hcl, hcc, hm⟩ := at_place HA.out (by omega) n (by omega)
      have hc0 : ∀ j, j < 8 → wr.cell? ⟨pb, po + j, none⟩ = ((l.getD n default).cells)[j]? := fun j hj => by rw [HB.out.cell hpb, hcc j hj, hm]
      obtain ⟨ev, hev⟩ : ∃ m, l.getD n default = m := ⟨_, rfl⟩
      rw [hev] at hc0
      have HE := hid hev
      obtain ⟨et, em, ew, es, evn, esi, ec, wa, wn, wc⟩ := ev
      have HC : Hid (∀ j, j < ([Value.int .i64 et, .int .i64 em, .int .i64 ew, .int .i64 es, .int .i64 evn, .int .i64 esi, .int .i64 ec, .slice wa wn wc]).length → wr.cell? ((ad.add (n * 8)).add j) = ([Value.int .i64 et, .int .i64 em, .int .i64 ew, .int .i64 es, .int .i64 evn, .int .i64 esi, .int .i64 ec, .slice wa wn wc])[j]?) := fun j hj => by
        have hadd : (⟨pb, po, none⟩ : Addr).add j = ⟨pb, po + j, none⟩ := by unfold Addr.add; split <;> simp_all
        rw [hpl, hadd]
        exact hc0 j hj
      clear hev hc0 hcc hm hcl hpl
      by_cases h1 : 1 ≤ ew
      · by_cases h7 : ew ≤ 7
        · by_cases hmm : em ∈ ms
          · have hct : ms.contains em = true := by simpa using hmm
            obtain ⟨j, rfl⟩ : ∃ j : Nat, ew = (j : Int) + 1 := ⟨(ew - 1).toNat, by omega⟩
            have hj : j < 7 := by omega
            have HN := hid (hc_count l ms n j hj (by rw [HE.out]) (by rw [HE.out]; exact hmm))
            have hj0 : (0 : Int) ≤ (j : Int) := by omega
            have hj7 : (j : Int) < 7 := by omega
            have hjj : (j : Int) + 1 - 1 = (j : Int) := by omega
            have hr := hc_range l ms n j
            have hcb : w.heap.size + 1 < wr.heap.size := by omega
            have HD := hid (fun o1 => (contains_any (wr.alloc o1) B cm ms em (RdI.below (RdI.below HBm.out HB.out) ((Below.refl _ _).alloc (Nat.le_refl _) o1)) (by omega)))
            go_wp2_with (refine wpList_load_cells rfl 48 _ rfl (ad.add (n * 8)) rfl [.int .i64 et, .int .i64 em, .int .i64 ((j : Int) + 1), .int .i64 es, .int .i64 evn, .int .i64 esi, .int .i64 ec, .slice wa wn wc] _ HC.out Try.underlying48 rfl (by kernel_rfl) ?_)
            refine (HD.out _).mono ?_
            rintro e w2 ⟨rfl, rfl⟩
            have f1 := fun o1 => (cell_in ((Below.heap_alloc wr o1 _ (by omega)).trans H2.out) j).trans (ptrs_at _ j hj)
            have f2 := fun o1 => (cell_in ((Below.heap_alloc wr o1 _ (by omega)).trans H1.out) j).trans (H7_at _ j hj)
            have f3 := fun o1 => free_in ((Below.heap_alloc wr o1 _ (by omega)).trans H1.out) j
            obtain ⟨q, hq⟩ : ∃ q, hc l ms n j = q := ⟨_, rfl⟩
            rw [hq] at hr HN
            simp only [hq] at f2
            clear hq
            obtain ⟨hr1, hr2⟩ := hr
            go_wp2_with fail
            have hsc : (wr.setCell ⟨w.heap.size + 1, j, none⟩ (.int .i64 (q + 1))).heap.size = wr.heap.size := by simp [World.setCell]
            refine ⟨⟨n + 1, by omega, by go_num, ?_, ?_, ?_, ?_⟩, by simp [intOf]; omega⟩
            · exact (Below.heap_alloc _ _ _ (by omega)).trans ((set_ne _ _ (by omega)).trans H0.out)
            · rw [← HN.out]
              exact (Below.heap_alloc _ _ _ (by omega)).trans (set_in H1.out j _)
            · exact (Below.heap_alloc _ _ _ (by omega)).trans ((set_ne _ _ (by omega)).trans H2.out)
            · exact (HB.out.setCell (by show _ ≤ w.heap.size + 1; omega) _).alloc (by omega) _
          · have hct : ms.contains em = false := by simpa using hmm
            have HN := hid (hc_skip l ms n (by rw [HE.out]; exact fun h => hmm h.2.2))
            have HD := hid (fun o1 => (contains_any (wr.alloc o1) B cm ms em (RdI.below (RdI.below HBm.out HB.out) ((Below.refl _ _).alloc (Nat.le_refl _) o1)) (by omega)))
            clear hmm
            go_wp2_with (refine wpList_load_cells rfl 48 _ rfl (ad.add (n * 8)) rfl [.int .i64 et, .int .i64 em, .int .i64 ew, .int .i64 es, .int .i64 evn, .int .i64 esi, .int .i64 ec, .slice wa wn wc] _ HC.out Try.underlying48 rfl (by kernel_rfl) ?_)
            refine (HD.out _).mono ?_
            rintro e w2 ⟨rfl, rfl⟩
            rw [hct]
            clear hct
            go_wp2_with fail
            refine ⟨⟨n + 1, by omega, by go_num, (Below.heap_alloc _ _ _ (by omega)).trans H0.out, ?_, (Below.heap_alloc _ _ _ (by omega)).trans H2.out, HB.out.alloc (by omega) _⟩, by simp [intOf]; omega⟩
            rw [HN.out]
            exact (Below.heap_alloc _ _ _ (by omega)).trans H1.out
        · have hd : decide (ew ≤ 7) = false := decide_eq_false h7
          have HN := hid (hc_skip l ms n (by rw [HE.out]; exact fun h => h7 h.2.1))
          go_wp2_with (refine wpList_load_cells rfl 48 _ rfl (ad.add (n * 8)) rfl [.int .i64 et, .int .i64 em, .int .i64 ew, .int .i64 es, .int .i64 evn, .int .i64 esi, .int .i64 ec, .slice wa wn wc] _ HC.out Try.underlying48 rfl (by kernel_rfl) ?_)
          refine ⟨⟨n + 1, by omega, by go_num, (Below.heap_alloc _ _ _ (by omega)).trans H0.out, ?_, (Below.heap_alloc _ _ _ (by omega)).trans H2.out, HB.out.alloc (by omega) _⟩, by simp [intOf]; omega⟩
          rw [HN.out]
          exact (Below.heap_alloc _ _ _ (by omega)).trans H1.out
      · have hd : decide (1 ≤ ew) = false := decide_eq_false h1
        have HN := hid (hc_skip l ms n (by rw [HE.out]; exact fun h => h1 h.1))
        go_wp2_with (refine wpList_load_cells rfl 48 _ rfl (ad.add (n * 8)) rfl [.int .i64 et, .int .i64 em, .int .i64 ew, .int .i64 es, .int .i64 evn, .int .i64 esi, .int .i64 ec, .slice wa wn wc] _ HC.out Try.underlying48 rfl (by kernel_rfl) ?_)
        refine ⟨⟨n + 1, by omega, by go_num, (Below.heap_alloc _ _ _ (by omega)).trans H0.out, ?_, (Below.heap_alloc _ _ _ (by omega)).trans H2.out, HB.out.alloc (by omega) _⟩, by simp [intOf]; omega⟩
        rw [HN.out]
        exact (Below.heap_alloc _ _ _ (by omega)).trans H1.out
    · obtain rfl : n = l.length := by omega
      clear hlt
      go_wp2_with (first
        | refine wpList_load_row rfl 45 _ rfl (w.heap.size + 1) rfl 45 _ (0, 0) _ H1.out Try.underlying45 rfl (by kernel_rfl) ?_
        | refine wpList_store_row rfl 45 _ _ rfl w.heap.size _ rfl rfl 45 _ H0.out (by kernel_rfl) rfl (by simp [H7, Value.oneCell']) ?_)
      (try simp only [Exit.inBlock, Exit.then])
      refine bodyPost_ret (results_cell_row rfl _ _ w.heap.size 45 (H7 (hc l ms l.length)) (0, 0) _ rfl ?_ Try.underlying45 rfl (by kernel_rfl)) rfl ⟨rfl, ?_⟩
      · exact setRow_heap _ _ _ _ _ _ H0.out
      · exact below_setRow HB.out (Nat.le_refl _)
end Go.Proofs.Ytfmepbpipknblaa.He
