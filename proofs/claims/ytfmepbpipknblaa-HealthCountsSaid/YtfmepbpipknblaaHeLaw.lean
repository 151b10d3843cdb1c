/- The walk of HealthCounts. Helper text. (under way) -/
import Derived.Test.YtfmepbpipknblaaHeOne
import Derived.Deep.RegionHeld3
import Derived.Deep.DeepCutAuto
namespace Go.Proofs.Ytfmepbpipknblaa.He
open Go.RowKit Go.Proofs.Ytfmepbpipknblaa.Kx Go.Proofs.Ytfmepbpipknblaa.Dc
set_option linter.unusedVariables false
set_option linter.unusedSimpArgs false

/-- Is a module among the first k? -/
def inn (ms : List Int) (x : Int) (k : Nat) : Bool := (ms.take k).contains x
theorem inn_zero (ms : List Int) (x : Int) : inn ms x 0 = false := by simp [inn]
theorem inn_step (ms : List Int) (x : Int) (k : Nat) (hk : k < ms.length) : inn ms x (k + 1) = (inn ms x k || (ms.getD k 0 == x)) := by
  unfold inn
  rw [List.take_succ_eq_append_getElem hk, List.getD_eq_getElem?_getD, List.getElem?_eq_getElem hk]
  rw [Bool.eq_iff_iff]
  simp only [List.contains_eq_mem, List.mem_append, List.mem_singleton, decide_eq_true_eq, Bool.or_eq_true, beq_iff_eq, Option.getD_some]
  exact ⟨fun h => h.imp id Eq.symm, fun h => h.imp id Eq.symm⟩
theorem inn_end (ms : List Int) (x : Int) : inn ms x ms.length = decide (x ∈ ms) := by
  unfold inn
  rw [List.take_length, Bool.eq_iff_iff]
  simp
/-- What is added: sent and lost of the argument. -/
def ob (o : Nat → Int) : Nat → Int
  | 0 => o 0 % 65536
  | 4 => o 4 % 65536
  | _ => 0
theorem ob_bnd (o : Nat → Int) (k : Nat) : Dg.Bnd (ob o k) := by
  unfold ob Dg.Bnd
  split <;> omega
def oo (o : Nat → Int) : Nat → Int := fun k => if k = 4 then o 4 % 65536 else if k = 0 then o 0 % 65536 else o k
theorem oo_set (o : Nat → Int) : ((H7 o).setIfInBounds 0 (.int .i64 (o 0 % 65536))).setIfInBounds 4 (.int .i64 (o 4 % 65536)) = H7 (oo o) := by
  rw [H7_set _ _ (by omega), H7_set _ _ (by omega)]
  rfl
def Stz (w : World) (h o xs : Nat → Int) (g2 g3 : Nat) (wr : World) : Prop :=
  wr.heap[w.heap.size]? = some (.cells (H7 (oo o)) 45 (0, 0)) ∧ wr.heap[w.heap.size + 1]? = some (.cells (H7 h) 46 (0, 0)) ∧ wr.heap[g2]? = some (.cells (H7 h) 45 (0, 0)) ∧ wr.heap[g3]? = some (.cells (H7 xs) 46 (0, 0)) ∧ Below w.heap.size w wr
theorem cells7' {w : World} {g : Nat} {T : TypeId} {fr : Nat × Nat} {h : Nat → Int} (hb : w.heap[g]? = some (.cells (H7 h) T fr)) : w.cell? ⟨g, 0, none⟩ = some (.int .i64 (h 0)) ∧ w.cell? ⟨g, 1, none⟩ = some (.int .i64 (h 1)) ∧ w.cell? ⟨g, 2, none⟩ = some (.int .i64 (h 2)) ∧ w.cell? ⟨g, 3, none⟩ = some (.int .i64 (h 3)) ∧ w.cell? ⟨g, 4, none⟩ = some (.int .i64 (h 4)) ∧ w.cell? ⟨g, 5, none⟩ = some (.int .i64 (h 5)) ∧ w.cell? ⟨g, 6, none⟩ = some (.int .i64 (h 6)) :=
  ⟨cell_in hb 0, cell_in hb 1, cell_in hb 2, cell_in hb 3, cell_in hb 4, cell_in hb 5, cell_in hb 6⟩
/-- What the last test reads. -/
def Rd21 (w : World) (h o : Nat → Int) (g2 : Nat) (w' : World) : Prop := w'.cell? ⟨w.heap.size, 0, none⟩ = some (.int .i64 (o 0 % 65536)) ∧ w'.cell? ⟨w.heap.size, 1, none⟩ = some (.int .i64 (o 1)) ∧ w'.cell? ⟨w.heap.size, 2, none⟩ = some (.int .i64 (o 2)) ∧ w'.cell? ⟨w.heap.size, 3, none⟩ = some (.int .i64 (o 3)) ∧ w'.cell? ⟨w.heap.size, 4, none⟩ = some (.int .i64 (o 4 % 65536)) ∧ w'.cell? ⟨w.heap.size, 5, none⟩ = some (.int .i64 (o 5)) ∧ w'.cell? ⟨w.heap.size, 6, none⟩ = some (.int .i64 (o 6)) ∧ w'.cell? ⟨w.heap.size + 1, 0, none⟩ = some (.int .i64 (h 0)) ∧ w'.cell? ⟨w.heap.size + 1, 1, none⟩ = some (.int .i64 (h 1)) ∧ w'.cell? ⟨w.heap.size + 1, 2, none⟩ = some (.int .i64 (h 2)) ∧ w'.cell? ⟨w.heap.size + 1, 3, none⟩ = some (.int .i64 (h 3)) ∧ w'.cell? ⟨w.heap.size + 1, 4, none⟩ = some (.int .i64 (h 4)) ∧ w'.cell? ⟨w.heap.size + 1, 5, none⟩ = some (.int .i64 (h 5)) ∧ w'.cell? ⟨w.heap.size + 1, 6, none⟩ = some (.int .i64 (h 6)) ∧ w'.cell? ⟨g2, 0, none⟩ = some (.int .i64 (h 0)) ∧ w'.cell? ⟨g2, 1, none⟩ = some (.int .i64 (h 1)) ∧ w'.cell? ⟨g2, 2, none⟩ = some (.int .i64 (h 2)) ∧ w'.cell? ⟨g2, 3, none⟩ = some (.int .i64 (h 3)) ∧ w'.cell? ⟨g2, 4, none⟩ = some (.int .i64 (h 4)) ∧ w'.cell? ⟨g2, 5, none⟩ = some (.int .i64 (h 5)) ∧ w'.cell? ⟨g2, 6, none⟩ = some (.int .i64 (h 6)) ∧ Below w.heap.size w w' ∧ g2 < w'.heap.size ∧ w.heap.size + 1 < w'.heap.size
theorem Stz.rd {w : World} {h o xs : Nat → Int} {g2 g3 : Nat} {w' : World} (s : Stz w h o xs g2 g3 w') : Rd21 w h o g2 w' := by
  obtain ⟨s0, s1, s2, _, sb⟩ := s
  obtain ⟨a0, a1, a2, a3, a4, a5, a6⟩ := cells7' s0
  obtain ⟨b0, b1, b2, b3, b4, b5, b6⟩ := cells7' s1
  obtain ⟨c0, c1, c2, c3, c4, c5, c6⟩ := cells7' s2
  exact ⟨a0, a1, a2, a3, a4, a5, a6, b0, b1, b2, b3, b4, b5, b6, c0, c1, c2, c3, c4, c5, c6, sb, lt_of_block s2, lt_of_block s1⟩
theorem Rd21.on {w : World} {h o : Nat → Int} {g2 : Nat} {w1 w2 : World} (s : Rd21 w h o g2 w1) (hb : Below w1.heap.size w1 w2) : Rd21 w h o g2 w2 := by
  obtain ⟨a0, a1, a2, a3, a4, a5, a6, b0, b1, b2, b3, b4, b5, b6, c0, c1, c2, c3, c4, c5, c6, sb, l2, l1⟩ := s
  exact ⟨cell_below' hb a0, cell_below' hb a1, cell_below' hb a2, cell_below' hb a3, cell_below' hb a4, cell_below' hb a5, cell_below' hb a6, cell_below' hb b0, cell_below' hb b1, cell_below' hb b2, cell_below' hb b3, cell_below' hb b4, cell_below' hb b5, cell_below' hb b6, cell_below' hb c0, cell_below' hb c1, cell_below' hb c2, cell_below' hb c3, cell_below' hb c4, cell_below' hb c5, cell_below' hb c6, below_trans' sb hb sb.size, Nat.lt_of_lt_of_le l2 hb.size, Nat.lt_of_lt_of_le l1 hb.size⟩
theorem eq7 (d : Nat) (w : World) (a b c e f g h : Int) : (Op.equalIn (d + 2) 46 (.agg #[.int .i64 a, .int .i64 b, .int .i64 c, .int .i64 e, .int .i64 f, .int .i64 g, .int .i64 h]) (.agg #[.int .i64 a, .int .i64 b, .int .i64 c, .int .i64 e, .int .i64 f, .int .i64 g, .int .i64 h])).run Try.prog w = .ok true w := by
  rw [Op.equalIn]
  simp [run_underlying Try.underlying46, Try.sizeOf3, Std.Legacy.Range.forIn_eq_forIn_range', List.range', part, go_sem, Sem.run_bind]
theorem numsE (a : Nat → Int) (w : World) : Calls Try.prog 27 #[.agg #[.int .i64 (a 0), .int .i64 (a 1), .int .i64 (a 2), .int .i64 (a 3), .int .i64 (a 4), .int .i64 (a 5), .int .i64 (a 6)]] w fun e w' => e = .returned (.agg #[.int .i64 (a 0), .int .i64 (a 1), .int .i64 (a 2), .int .i64 (a 3), .int .i64 (a 4), .int .i64 (a 5), .int .i64 (a 6)]) ∧ Below w.heap.size w w' := nums_any a w
theorem numsO (o : Nat → Int) (w : World) : Calls Try.prog 27 #[.agg #[.int .i64 (o 0 % 65536), .int .i64 (o 1), .int .i64 (o 2), .int .i64 (o 3), .int .i64 (o 4 % 65536), .int .i64 (o 5), .int .i64 (o 6)]] w fun e w' => e = .returned (.agg #[.int .i64 (o 0 % 65536), .int .i64 (o 1), .int .i64 (o 2), .int .i64 (o 3), .int .i64 (o 4 % 65536), .int .i64 (o 5), .int .i64 (o 6)]) ∧ Below w.heap.size w w' := nums_any (oo o) w
theorem rtextE (a : Nat → Int) (ha : ∀ k, a k ≤ 9223372036854775807) (w : World) : Calls Try.prog 31 #[.agg #[.int .i64 (a 0), .int .i64 (a 1), .int .i64 (a 2), .int .i64 (a 3), .int .i64 (a 4), .int .i64 (a 5), .int .i64 (a 6)]] w fun e w' => e = .returned (.string ⟨(hx a 7).toArray⟩) ∧ Below w.heap.size w w' := rtext_any a ha w
theorem rtextO (o : Nat → Int) (ha : ∀ k, oo o k ≤ 9223372036854775807) (w : World) : Calls Try.prog 31 #[.agg #[.int .i64 (o 0 % 65536), .int .i64 (o 1), .int .i64 (o 2), .int .i64 (o 3), .int .i64 (o 4 % 65536), .int .i64 (o 5), .int .i64 (o 6)]] w fun e w' => e = .returned (.string ⟨(hx (oo o) 7).toArray⟩) ∧ Below w.heap.size w w' := rtext_any (oo o) ha w
theorem textE (a : Nat → Int) (ha : ∀ k, a k ≤ 9223372036854775807) (w : World) : Calls Try.prog 30 #[.agg #[.int .i64 (a 0), .int .i64 (a 1), .int .i64 (a 2), .int .i64 (a 3), .int .i64 (a 4), .int .i64 (a 5), .int .i64 (a 6)]] w fun e w' => e = .returned (.string ⟨(hx a 7).toArray⟩) ∧ Below w.heap.size w w' := text_any a ha w
theorem textO (o : Nat → Int) (ha : ∀ k, oo o k ≤ 9223372036854775807) (w : World) : Calls Try.prog 30 #[.agg #[.int .i64 (o 0 % 65536), .int .i64 (o 1), .int .i64 (o 2), .int .i64 (o 3), .int .i64 (o 4 % 65536), .int .i64 (o 5), .int .i64 (o 6)]] w fun e w' => e = .returned (.string ⟨(hx (oo o) 7).toArray⟩) ∧ Below w.heap.size w w' := text_any (oo o) ha w
theorem fitE (a : Nat → Int) (h1 : 0 ≤ a 1) (h1' : a 1 ≤ 1000000) (h2 : 0 ≤ a 2) (h2' : a 2 ≤ 1000000) (w : World) : Calls Try.prog 29 #[.agg #[.int .i64 (a 0), .int .i64 (a 1), .int .i64 (a 2), .int .i64 (a 3), .int .i64 (a 4), .int .i64 (a 5), .int .i64 (a 6)]] w fun e w' => e = .returned (.int .i64 (fitOf a)) ∧ Below w.heap.size w w' := fit_any a h1 h1' h2 h2' w
theorem oo_le (o : Nat → Int) (ho : ∀ k, (Lit.int .i64 (o k)).wf = true) (k : Nat) : oo o k ≤ 9223372036854775807 := by
  have := (wf_i64 (ho k)).2
  unfold oo
  split
  · omega
  · split <;> omega
set_option maxRecDepth 100000 in
set_option maxHeartbeats 4000000 in
theorem counts_any (l : List Ev) (A : Option Addr) (c : Nat) (ms : List Int) (B : Option Addr) (cm : Nat) (o : Nat → Int) (w : World) (hA : RSl 8 REv w A l) (hB : RdI w .i64 B ms) (hms : wfs .i64 ms) (ho : ∀ k, (Lit.int .i64 (o k)).wf = true) :
    Calls Try.prog 5 #[.slice A l.length c, .slice B ms.length cm, .agg (H7 o)] w fun e w' => e = .returned (.bool true) ∧ Below w.heap.size w w' := by
  have HA := hid hA
  have HBm := hid hB
  have HO := hid ho
  clear hA hB ho hms
  have hH : H7 o = #[.int .i64 (o 0), .int .i64 (o 1), .int .i64 (o 2), .int .i64 (o 3), .int .i64 (o 4), .int .i64 (o 5), .int .i64 (o 6)] := rfl
  rw [hH]
  clear hH
  by_cases h100 : (100 : Int) < (l.length : Int)
  · go_enter Try.func5, Try.ntmps5
    go_wp2_with fail
    go_ret
    exact ⟨rfl, (Below.refl _ _).alloc (Nat.le_refl _) _⟩
  by_cases h40 : (40 : Int) < (ms.length : Int)
  · have hd : decide ((100 : Int) < (l.length : Int)) = false := decide_eq_false h100
    go_enter Try.func5, Try.ntmps5
    go_wp2_with fail
    go_ret
    exact ⟨rfl, (Below.refl _ _).alloc (Nat.le_refl _) _⟩
  have hd1 : decide ((100 : Int) < (l.length : Int)) = false := decide_eq_false h100
  have hd2 : decide ((40 : Int) < (ms.length : Int)) = false := decide_eq_false h40
  have hl100 : (l.length : Int) ≤ 100 := by omega
  have hm40 : (ms.length : Int) ≤ 40 := by omega
  go_enter Try.func5, Try.ntmps5
  go_wp2_with fail
  go_loopw [8, 9, 10] (fun q8 _ _ wr => ∃ n : Nat, n ≤ l.length ∧ q8 = .int .i64 n ∧ wr.heap[w.heap.size]? = some (.cells (H7 o) 45 (0, 0)) ∧ wr.heap[w.heap.size + 1]? = some (.cells (H7 (hc l ms n)) 46 (0, 0)) ∧ Below w.heap.size w wr) (fun q8 _ _ _ => l.length - (intOf q8).toNat)
  case atStart =>
    refine ⟨0, by omega, rfl, pl (pe _ _ _ rfl), pe _ _ _ (by simp), ((Below.refl _ _).alloc (Nat.le_refl _) _).alloc (by simp) _⟩
  case round =>
    obtain ⟨n, hn, rfl, h0, h1, hB⟩ := hrel
    have H0 := hid h0
    have H1 := hid h1
    have HB := hid hB
    clear h0 h1 hB
    by_cases hlt : (n : Int) < (l.length : Int)
    · obtain ⟨ad, cs, pb, po, rfl, hpl, hpb, hcl, hcc, hm⟩ := at_place HA.out (by omega) n (by omega)
      have hc0 : ∀ w', Below w.heap.size w w' → ∀ j, j < 8 → w'.cell? ⟨pb, po + j, none⟩ = ((l.getD n default).cells)[j]? := fun w' hb j hj => by rw [hb.cell hpb, hcc j hj, hm]
      obtain ⟨ev, hev⟩ : ∃ m, l.getD n default = m := ⟨_, rfl⟩
      rw [hev] at hc0
      have HE := hid hev
      obtain ⟨et, em, ew, es, evn, esi, ec, wa, wn, wc⟩ := ev
      have HEm : Hid (∀ w', Below w.heap.size w w' → w'.cell? ⟨pb, po + 1, none⟩ = some (.int .i64 em)) := fun w' hb => hc0 w' hb 1 (by omega)
      have HEw : Hid (∀ w', Below w.heap.size w w' → w'.cell? ⟨pb, po + 2, none⟩ = some (.int .i64 ew)) := fun w' hb => hc0 w' hb 2 (by omega)
      clear hev hc0 hcc hm hcl
      go_wp2_with fail
      go_loopw [9, 10] (fun q9 q10 w2 => ∃ k q : Nat, k ≤ ms.length ∧ q9 = .bool (inn ms em k) ∧ q10 = .int .i64 k ∧ w2 = wr.drewN q) (fun _ q10 _ => ms.length - (intOf q10).toNat)
      case atStart => exact ⟨0, 0, by omega, by rw [inn_zero], rfl, rfl⟩
      case round =>
        obtain ⟨k, q, hk, rfl, rfl, rfl⟩ := hrel
        by_cases hkl : (k : Int) < (ms.length : Int)
        · obtain ⟨bd, rfl, hbc⟩ := (RdI.below HBm.out HB.out) k (by omega)
          have hem := HEm.out _ HB.out
          have HS := hid (inn_step ms em k (by omega))
          have hk0 : (0 : Int) ≤ (k : Int) := by omega
          have hn0 : (0 : Int) ≤ (n : Int) := by omega
          obtain ⟨x, hx⟩ : ∃ x, ms.getD k 0 = x := ⟨_, rfl⟩
          rw [hx] at hbc HS
          obtain ⟨b, hbv⟩ : ∃ b, inn ms em k = b := ⟨_, rfl⟩
          rw [hbv] at HS ⊢
          clear hx hbv
          cases b
          · go_wp2_with fail
            go_quiet (fail)
            go_wp2_with fail
            exact ⟨⟨k + 1, _, by omega, by rw [HS.out]; rfl, by go_num, rfl⟩, by simp [intOf]; omega⟩
          · go_wp2_with fail
            go_quiet (fail)
            go_wp2_with fail
            exact ⟨⟨k + 1, _, by omega, by rw [HS.out]; rfl, by go_num, rfl⟩, by simp [intOf]; omega⟩
        · obtain rfl : k = ms.length := by omega
          have hew := HEw.out _ HB.out
          have hn0 : (0 : Int) ≤ (n : Int) := by omega
          by_cases hmm : em ∈ ms
          · rw [inn_end, decide_eq_true hmm]
            by_cases h1 : 1 ≤ ew
            · by_cases h7 : ew ≤ 7
              · obtain ⟨j, rfl⟩ : ∃ j : Nat, ew = (j : Int) + 1 := ⟨(ew - 1).toNat, by omega⟩
                have hj : j < 7 := by omega
                have HN := hid (hc_count l ms n j hj (by rw [HE.out]) (by rw [HE.out]; exact hmm))
                have hj0 : (0 : Int) ≤ (j : Int) := by omega
                have hj7 : (j : Int) < 7 := by omega
                have hjj : (j : Int) + 1 - 1 = (j : Int) := by omega
                have hr := hc_range l ms n j
                have f2 : wr.cell? ⟨w.heap.size + 1, j, none⟩ = some (.int .i64 (hc l ms n j)) := (cell_in H1.out j).trans (H7_at _ j hj)
                have f3 : wr.frozen? ⟨w.heap.size + 1, j, none⟩ = false := free_in H1.out j
                obtain ⟨y, hy⟩ : ∃ y, hc l ms n j = y := ⟨_, rfl⟩
                rw [hy] at hr HN f2
                clear hy hmm
                obtain ⟨hr1, hr2⟩ := hr
                go_wp2_with fail
                refine ⟨⟨n + 1, by omega, by go_num, ?_, ?_, ?_⟩, by simp [intOf]; omega⟩
                · exact (set_ne _ _ (by omega)).trans H0.out
                · rw [← HN.out]
                  exact set_in (w := World.drewN _ _) H1.out j _
                · exact (Dg.below_drewN' HB.out _).setCell (by show _ ≤ w.heap.size + 1; omega) _
              · have hd : decide (ew ≤ 7) = false := decide_eq_false h7
                have HN := hid (hc_skip l ms n (by rw [HE.out]; exact fun h => h7 h.2.1))
                clear hmm
                go_wp2_with fail
                refine ⟨⟨n + 1, by omega, by go_num, H0.out, ?_, Dg.below_drewN' HB.out _⟩, by simp [intOf]; omega⟩
                rw [HN.out]
                exact H1.out
            · have hd : decide (1 ≤ ew) = false := decide_eq_false h1
              have HN := hid (hc_skip l ms n (by rw [HE.out]; exact fun h => h1 h.1))
              clear hmm
              go_wp2_with fail
              refine ⟨⟨n + 1, by omega, by go_num, H0.out, ?_, Dg.below_drewN' HB.out _⟩, by simp [intOf]; omega⟩
              rw [HN.out]
              exact H1.out
          · rw [inn_end, decide_eq_false hmm]
            have HN := hid (hc_skip l ms n (by rw [HE.out]; exact fun h => hmm h.2.2))
            clear hmm
            go_wp2_with fail
            refine ⟨⟨n + 1, by omega, by go_num, H0.out, ?_, Dg.below_drewN' HB.out _⟩, by simp [intOf]; omega⟩
            rw [HN.out]
            exact H1.out
    · obtain rfl : n = l.length := by omega
      clear hlt hn
      go_wp2_with fail
      refine (hof_any l A c ms B cm (by omega) (by omega) _ (RSl.below (R := REv) lives_ev HA.out HB.out) (RdI.below HBm.out HB.out)).mono ?_
      rintro e w1 ⟨rfl, hb⟩
      have K0 := hid ((hb.block _ (lt_of_block H0.out)).trans H0.out)
      have K1 := hid ((hb.block _ (lt_of_block H1.out)).trans H1.out)
      have KB := hid (below_trans' HB.out hb HB.out.size)
      have hr1 := hc_range l ms l.length 1
      have hr2 := hc_range l ms l.length 2
      obtain ⟨h, hh⟩ : ∃ h, hc l ms l.length = h := ⟨_, rfl⟩
      rw [hh] at K1 hr1 hr2
      rw [hh]
      have HH := hid hh
      clear hh hb H0 H1 HB
      have hH : H7 h = #[.int .i64 (h 0), .int .i64 (h 1), .int .i64 (h 2), .int .i64 (h 3), .int .i64 (h 4), .int .i64 (h 5), .int .i64 (h 6)] := rfl
      rw [hH]
      clear hH
      have k1 : w1.cell? ⟨w.heap.size + 1, 1, none⟩ = some (.int .i64 (h 1)) := cell_in K1.out 1
      have k2 : w1.cell? ⟨w.heap.size + 1, 2, none⟩ = some (.int .i64 (h 2)) := cell_in K1.out 2
      have hsz : w.heap.size + 1 < w1.heap.size := lt_of_block K1.out
      have g0 : w1.cell? ⟨w.heap.size, 0, none⟩ = some (.int .i64 (o 0)) := cell_in K0.out 0
      have g4 : w1.cell? ⟨w.heap.size, 4, none⟩ = some (.int .i64 (o 4)) := cell_in K0.out 4
      have gf0 : w1.frozen? ⟨w.heap.size, 0, none⟩ = false := free_in K0.out 0
      have gf4 : w1.frozen? ⟨w.heap.size, 4, none⟩ = false := free_in K0.out 4
      have hsz0 : w.heap.size < w1.heap.size := by omega
      have m1 := i64_and_65535 (o 0)
      have m2 := i64_and_65535 (o 4)
      obtain ⟨hr1a, hr1b⟩ := hr1
      obtain ⟨hr2a, hr2b⟩ := hr2
      go_upto_if 84 with fail
      go_cut [12] (fun s12 wx => s12 = .int .i64 (fitOf h) ∧ w1.alloc (.cells #[.int .i64 (h 0), .int .i64 (h 1), .int .i64 (h 2), .int .i64 (h 3), .int .i64 (h 4), .int .i64 (h 5), .int .i64 (h 6)] 45) = wx)
      case first =>
        clear g0 g4 gf0 gf4 m1 m2
        by_cases hz : 0 < h 1 + h 2
        · have HF : Hid (fitOf h = 1000 * h 1 / (h 1 + h 2)) := by show fitOf h = _; unfold fitOf; rw [if_neg (by omega)]
          go_wp2_with fail
          go_meet
          exact ⟨by rw [HF.out], rfl⟩
        · have HF : Hid (fitOf h = 1000) := by show fitOf h = _; unfold fitOf; rw [if_pos (by omega)]
          go_wp2_with fail
          go_meet
          exact ⟨by rw [HF.out], rfl⟩
      case rest =>
        obtain ⟨rfl, rfl⟩ := hcut
        go_wp2_with fail
        refine (hsum_any h (ob o) (by rw [← HH.out]; exact fun k => by have := hc_range l ms l.length k; exact ⟨by omega, by omega⟩) (ob_bnd o) _).mono ?_
        rintro e w2 ⟨rfl, hb⟩
        have L0 := hid ((hb.block w.heap.size (by simp [World.setCell]; omega)).trans ((Below.heap_alloc _ _ _ (by simp [World.setCell]; omega)).trans (set_in (set_in K0.out 0 _) 4 _)))
        have L1 := hid ((hb.block (w.heap.size + 1) (by simp [World.setCell]; omega)).trans ((Below.heap_alloc _ _ _ (by simp [World.setCell]; omega)).trans ((set_ne _ _ (by omega)).trans ((set_ne _ _ (by omega)).trans K1.out))))
        have L2 : Hid (w2.heap[w1.heap.size]? = some (.cells (H7 h) 45 (0, 0))) := (hb.block w1.heap.size (by simp [World.setCell])).trans (pe _ _ _ (by simp [World.setCell]))
        have LB := hid (below_trans' (((KB.out.setCell (Nat.le_refl _) _).setCell (Nat.le_refl _) _).alloc (by simp [World.setCell]; omega) _) hb (by simp [World.setCell]; omega))
        clear hb g0 g4 gf0 gf4 k1 k2 m1 m2
        go_wp2_with fail
        refine (nums_any (fun k => h k + ob o k) _).mono ?_
        rintro e w3 ⟨rfl, hb⟩
        have M0 := hid ((hb.block _ (lt_of_block L0.out)).trans L0.out)
        have M1 := hid ((hb.block _ (lt_of_block L1.out)).trans L1.out)
        have M2 := hid ((hb.block _ (lt_of_block L2.out)).trans L2.out)
        have MB := hid (below_trans' LB.out hb LB.out.size)
        have hs3 : w1.heap.size < w3.heap.size := lt_of_block M2.out
        obtain ⟨xs, hxs⟩ : ∃ xs : Nat → Int, (fun k => h k + ob o k) = xs := ⟨_, rfl⟩
        rw [hxs]
        have HXs : Hid (∀ k, xs k = h k + ob o k) := fun k => by rw [← hxs]
        clear hb hxs L0 L1 L2 LB
        have hH : H7 xs = #[.int .i64 (xs 0), .int .i64 (xs 1), .int .i64 (xs 2), .int .i64 (xs 3), .int .i64 (xs 4), .int .i64 (xs 5), .int .i64 (xs 6)] := rfl
        rw [hH]
        clear hH
        go_wp2_with fail
        go_loopw [14, 15] (fun q14 _ wr => ∃ i : Nat, i ≤ 7 ∧ q14 = .int .i64 i ∧ Stz w h o xs w1.heap.size w3.heap.size wr) (fun q14 _ _ => 7 - (intOf q14).toNat)
        case atStart =>
          refine ⟨0, by omega, rfl, ?_, ?_, ?_, ?_, MB.out.alloc (by omega) _⟩
          · rw [← oo_set]
            exact (Below.heap_alloc _ _ _ (by omega)).trans M0.out
          · exact (Below.heap_alloc _ _ _ (by omega)).trans M1.out
          · exact (Below.heap_alloc _ _ _ (by omega)).trans M2.out
          · exact heap_alloc_new _ _
        case round =>
          obtain ⟨i, hi, rfl, hS⟩ := hrel
          have HS := hid hS
          clear hS
          by_cases hlt : (i : Int) < 7
          · have f1 : wr.cell? ⟨w.heap.size + 1, i, none⟩ = some (.int .i64 (h i)) := (cell_in HS.out.2.1 i).trans (H7_at _ i (by omega))
            have f2 : wr.cell? ⟨w3.heap.size, i, none⟩ = some (.int .i64 (xs i)) := (cell_in HS.out.2.2.2.1 i).trans (H7_at _ i (by omega))
            have f3 : wr.cell? ⟨w.heap.size, 0, none⟩ = some (.int .i64 (o 0 % 65536)) := cell_in HS.out.1 0
            have f4 : wr.cell? ⟨w.heap.size, 4, none⟩ = some (.int .i64 (o 4 % 65536)) := cell_in HS.out.1 4
            have hi0 : (0 : Int) ≤ (i : Int) := by omega
            have hr := hc_range l ms l.length i
            rw [HH.out] at hr
            obtain ⟨hra, hrb⟩ := hr
            rw [HXs.out] at f2
            by_cases hz0 : i = 0
            · subst hz0
              have e : ob o 0 = o 0 % 65536 := rfl
              rw [e] at f2
              clear e
              go_wp2_with fail
              exact ⟨⟨1, by omega, rfl, HS.out⟩, by simp [intOf]⟩
            · by_cases hz4 : i = 4
              · subst hz4
                have e : ob o 4 = o 4 % 65536 := rfl
                rw [e] at f2
                clear e hz0
                go_wp2_with fail
                exact ⟨⟨5, by omega, rfl, HS.out⟩, by simp [intOf]⟩
              · have e : ob o i = 0 := by unfold ob; split <;> simp_all
                rw [e, Int.add_zero] at f2
                have n0 : ¬ (i : Int) = 0 := by omega
                have n4 : ¬ (i : Int) = 4 := by omega
                clear e
                go_wp2_with fail
                exact ⟨⟨i + 1, by omega, by go_num, HS.out⟩, by simp [intOf]; omega⟩
          · obtain rfl : i = 7 := by omega
            have hk := Stz.rd HS.out
            have HK := hid hk
            have hle : ∀ k, h k ≤ 9223372036854775807 := fun k => by
              have := hc_range l ms l.length k
              rw [HH.out] at this
              omega
            have HT1 := hid (fun w => textE h hle w)
            have HT2 := hid (fun w => rtextE h hle w)
            have HT3 := hid (fun w => textO o (oo_le o HO.out) w)
            have HT4 := hid (fun w => rtextO o (oo_le o HO.out) w)
            have HF := hid (fun w => fitE h (by have := hc_range l ms l.length 1; rw [HH.out] at this; omega) (by have := hc_range l ms l.length 1; rw [HH.out] at this; omega) (by have := hc_range l ms l.length 2; rw [HH.out] at this; omega) (by have := hc_range l ms l.length 2; rw [HH.out] at this; omega) w)
            obtain ⟨T1, hT1⟩ : ∃ T, hx h 7 = T := ⟨_, rfl⟩
            obtain ⟨T2, hT2⟩ : ∃ T, hx (oo o) 7 = T := ⟨_, rfl⟩
            obtain ⟨F, hF⟩ : ∃ F, fitOf h = F := ⟨_, rfl⟩
            rw [hT1] at HT1 HT2
            rw [hT2] at HT3 HT4
            rw [hF] at HF ⊢
            clear hT1 hT2 hF hk hle hlt hi hr1a hr1b hr2a hr2b
            go_wp2_with fail
            have hk : Rd21 w h o w1.heap.size wr := HK.out
            have hkd : Rd21 w h o w1.heap.size wr.drew := hk.on (Below.refl _ _).drew
            unfold Rd21 at hk hkd
            have he7 := fun w => eq7 9998 w (h 0) (h 1) (h 2) (h 3) (h 4) (h 5) (h 6)
            go_region_held3 (fun w' => w'.cell? ⟨w.heap.size, 0, none⟩ = some (.int .i64 (o 0 % 65536)) ∧ w'.cell? ⟨w.heap.size, 1, none⟩ = some (.int .i64 (o 1)) ∧ w'.cell? ⟨w.heap.size, 2, none⟩ = some (.int .i64 (o 2)) ∧ w'.cell? ⟨w.heap.size, 3, none⟩ = some (.int .i64 (o 3)) ∧ w'.cell? ⟨w.heap.size, 4, none⟩ = some (.int .i64 (o 4 % 65536)) ∧ w'.cell? ⟨w.heap.size, 5, none⟩ = some (.int .i64 (o 5)) ∧ w'.cell? ⟨w.heap.size, 6, none⟩ = some (.int .i64 (o 6)) ∧ w'.cell? ⟨w.heap.size + 1, 0, none⟩ = some (.int .i64 (h 0)) ∧ w'.cell? ⟨w.heap.size + 1, 1, none⟩ = some (.int .i64 (h 1)) ∧ w'.cell? ⟨w.heap.size + 1, 2, none⟩ = some (.int .i64 (h 2)) ∧ w'.cell? ⟨w.heap.size + 1, 3, none⟩ = some (.int .i64 (h 3)) ∧ w'.cell? ⟨w.heap.size + 1, 4, none⟩ = some (.int .i64 (h 4)) ∧ w'.cell? ⟨w.heap.size + 1, 5, none⟩ = some (.int .i64 (h 5)) ∧ w'.cell? ⟨w.heap.size + 1, 6, none⟩ = some (.int .i64 (h 6)) ∧ w'.cell? ⟨w1.heap.size, 0, none⟩ = some (.int .i64 (h 0)) ∧ w'.cell? ⟨w1.heap.size, 1, none⟩ = some (.int .i64 (h 1)) ∧ w'.cell? ⟨w1.heap.size, 2, none⟩ = some (.int .i64 (h 2)) ∧ w'.cell? ⟨w1.heap.size, 3, none⟩ = some (.int .i64 (h 3)) ∧ w'.cell? ⟨w1.heap.size, 4, none⟩ = some (.int .i64 (h 4)) ∧ w'.cell? ⟨w1.heap.size, 5, none⟩ = some (.int .i64 (h 5)) ∧ w'.cell? ⟨w1.heap.size, 6, none⟩ = some (.int .i64 (h 6)) ∧ Below w.heap.size w w' ∧ w1.heap.size < w'.heap.size ∧ w.heap.size + 1 < w'.heap.size)
              (first | assumption | exact hk | exact hkd)
              (first
                | (go_at_call 27; (first | with_reducible refine (numsE h _).mono ?_ | with_reducible refine (numsO o _).mono ?_ ); rintro e w2 ⟨rfl, hb2⟩; have hk2 := Rd21.on (w := w) (h := h) (o := o) (g2 := w1.heap.size) (by unfold Rd21; assumption) hb2; unfold Rd21 at hk2; clear hb2)
                | (go_at_call 29; (first | with_reducible refine (HF.out _).mono ?_ ); rintro e w2 ⟨rfl, hb2⟩; have hk2 := Rd21.on (w := w) (h := h) (o := o) (g2 := w1.heap.size) (by unfold Rd21; assumption) hb2; unfold Rd21 at hk2; clear hb2)
                | (go_at_call 30; (first | with_reducible refine (HT1.out _).mono ?_ | with_reducible refine (HT3.out _).mono ?_ ); rintro e w2 ⟨rfl, hb2⟩; have hk2 := Rd21.on (w := w) (h := h) (o := o) (g2 := w1.heap.size) (by unfold Rd21; assumption) hb2; unfold Rd21 at hk2; clear hb2)
                | (go_at_call 31; (first | with_reducible refine (HT2.out _).mono ?_ | with_reducible refine (HT4.out _).mono ?_ ); rintro e w2 ⟨rfl, hb2⟩; have hk2 := Rd21.on (w := w) (h := h) (o := o) (g2 := w1.heap.size) (by unfold Rd21; assumption) hb2; unfold Rd21 at hk2; clear hb2)
                | (go_at_call 32; with_reducible refine (one_any _).mono ?_; rintro e w2 ⟨rfl, hb2⟩; have hk2 := Rd21.on (w := w) (h := h) (o := o) (g2 := w1.heap.size) (by unfold Rd21; assumption) hb2; unfold Rd21 at hk2; clear hb2))
            all_goals
              have HBe := hid hk2.2.2.2.2.2.2.2.2.2.2.2.2.2.2.2.2.2.2.2.2.2.1
              clear hk2 he7 hk hkd
              go_wp2_with fail
              go_ret
              exact ⟨rfl, HBe.out⟩
end Go.Proofs.Ytfmepbpipknblaa.He
