/- The walk of DiagTells. Helper text. -/
import Derived.Test.YtfmepbpipknblaaDgOne
import Derived.Test.YtfmepbpipknblaaDgRefLine
import Derived.Deep.RegionHeld3
import Derived.Deep.DeepCutAuto
namespace Go.Proofs.Ytfmepbpipknblaa.Dg
open Go.RowKit Go.Proofs.Ytfmepbpipknblaa.Kx Go.Proofs.Ytfmepbpipknblaa.Dc
set_option linter.unusedVariables false
set_option linter.unusedSimpArgs false

/-- What the region's calls keep: the count's own cells, and all that lies below. -/
def Keeps (w0 : World) (g : Nat) (b : Int) (o : Nat → Int) (w : World) : Prop :=
  w.cell? ⟨g, 0, none⟩ = some (.int .i64 b) ∧ w.cell? ⟨g, 1, none⟩ = some (.int .i64 (o 0)) ∧ w.cell? ⟨g, 2, none⟩ = some (.int .i64 (o 1)) ∧ w.cell? ⟨g, 3, none⟩ = some (.int .i64 (o 2)) ∧ w.cell? ⟨g, 4, none⟩ = some (.int .i64 (o 3)) ∧ Below w0.heap.size w0 w
theorem Keeps.on {w0 : World} {g : Nat} {b : Int} {o : Nat → Int} {w w1 : World} (h : Keeps w0 g b o w) (hb : Below w.heap.size w w1) : Keeps w0 g b o w1 :=
  ⟨cell_below' hb h.1, cell_below' hb h.2.1, cell_below' hb h.2.2.1, cell_below' hb h.2.2.2.1, cell_below' hb h.2.2.2.2.1, below_trans' h.2.2.2.2.2 hb h.2.2.2.2.2.size⟩
set_option maxRecDepth 100000 in
set_option maxHeartbeats 4000000 in
theorem tells_region (b : Int) (o : Nat → Int) (l : Int) (hb : b ≤ 9223372036854775807) (ho : ∀ k, o k ≤ 9223372036854775807) (w : World) :
    Calls Try.prog 6 #[.agg #[.int .i64 b, .int .i64 (o 0), .int .i64 (o 1), .int .i64 (o 2), .int .i64 (o 3)], .int .i64 l] w fun e w' => e = .returned (.bool true) ∧ Below w.heap.size w w' := by
  have HO := hid ho
  clear ho
  have HS := hid (fun w => suspect_any b o w)
  have HRS := hid (fun w => ref_suspect o w)
  have HW := hid (fun w => worst_any b o w)
  have HRW := hid (fun w => ref_worst o w)
  have HC := hid (fun w => clean_any b o w)
  have HSh := hid (fun w => share_any b o l w)
  have HT := hid (fun w => text_any b o hb HO.out w)
  have HRT := hid (fun w => rtext_any b o hb HO.out w)
  have HOne := hid (fun w => one_any w)
  obtain ⟨sv, hsv⟩ : ∃ x, susp o = x := ⟨_, rfl⟩
  rw [hsv] at HS HRS
  obtain ⟨wv, hwv⟩ : ∃ x, wst o 4 = x := ⟨_, rfl⟩
  rw [hwv] at HW HRW HC
  obtain ⟨T, hT⟩ : ∃ x, (⟨(txx b o 4).toArray⟩ : ByteArray) = x := ⟨_, rfl⟩
  rw [hT] at HT HRT
  clear hsv hwv hT
  obtain ⟨wq, hq⟩ : ∃ x, w.alloc (.cells #[.int .i64 b, .int .i64 (o 0), .int .i64 (o 1), .int .i64 (o 2), .int .i64 (o 3)] 58) = x := ⟨_, rfl⟩
  have hX : wq.heap[w.heap.size]? = some (.cells #[.int .i64 b, .int .i64 (o 0), .int .i64 (o 1), .int .i64 (o 2), .int .i64 (o 3)] 58 (0, 0)) := by rw [← hq]; exact heap_alloc_new w _
  have HX := hid hX
  have HB : Hid (Below w.heap.size w wq) := by show Below w.heap.size w wq; rw [← hq]; exact (Below.refl _ _).alloc (Nat.le_refl _) _
  have HQ := hid hq
  clear hX hq
  go_enter Try.func6, Try.ntmps6
  go_upto_region 2 with fail
  rw [HQ.out]
  go_cut [16] (fun s16 wx => s16 = .bool (decide (0 < b ∧ 0 ≤ l ∧ l ≤ 3)) ∧ wq = wx)
  case first =>
    have c0 := cell_in HX.out 0
    have c0' : wq.cell? ⟨w.heap.size, 0, none⟩ = some (.int .i64 b) := c0
    clear c0
    by_cases h1 : 0 < b
    · by_cases h2 : 0 ≤ l
      · by_cases h3 : l ≤ 3
        · have HD : Hid (decide (0 < b ∧ 0 ≤ l ∧ l ≤ 3) = true) := decide_eq_true ⟨h1, h2, h3⟩
          go_wp2_with fail
          go_meet
          exact ⟨by rw [HD.out], rfl⟩
        · have HD : Hid (decide (0 < b ∧ 0 ≤ l ∧ l ≤ 3) = false) := decide_eq_false (fun h => h3 h.2.2)
          have hd : decide (l ≤ 3) = false := decide_eq_false h3
          go_wp2_with fail
          go_meet
          exact ⟨by rw [HD.out], rfl⟩
      · have HD : Hid (decide (0 < b ∧ 0 ≤ l ∧ l ≤ 3) = false) := decide_eq_false (fun h => h2 h.2.1)
        have hd : decide (0 ≤ l) = false := decide_eq_false h2
        go_wp2_with fail
        go_meet
        exact ⟨by rw [HD.out], rfl⟩
    · have HD : Hid (decide (0 < b ∧ 0 ≤ l ∧ l ≤ 3) = false) := decide_eq_false (fun h => h1 h.1)
      have hd : decide (0 < b) = false := decide_eq_false h1
      go_wp2_with fail
      go_meet
      exact ⟨by rw [HD.out], rfl⟩
  case rest =>
    obtain ⟨rfl, rfl⟩ := hcut
    obtain ⟨x, hx⟩ : ∃ x, shr b o l = x := ⟨_, rfl⟩
    rw [hx] at HSh
    have HXv := hid hx
    clear hx
    go_upto_if 16 with fail
    go_cut [5] (fun s5 wx => s5 = .int .i64 x ∧ Keeps w w.heap.size b o wx)
    case first =>
      obtain ⟨c0, c1, c2, c3, c4⟩ := cells5 HX.out
      have HK : Hid (Keeps w w.heap.size b o wq) := ⟨c0, c1, c2, c3, c4, HB.out⟩
      by_cases hc : 0 < b ∧ 0 ≤ l ∧ l ≤ 3
      · have hd : decide (0 < b ∧ 0 ≤ l ∧ l ≤ 3) = true := decide_eq_true hc
        have HV : Hid (shq b (o l.toNat) = x) := by show shq b (o l.toNat) = x; rw [← HXv.out]; unfold shr; rw [if_pos hc]
        obtain ⟨hb0, h0, h3⟩ := hc
        obtain ⟨k, rfl⟩ : ∃ k : Nat, l = (k : Int) := ⟨l.toNat, by omega⟩
        have hk : k < 4 := by omega
        have hy := cnt_cell (w := wq) (g := w.heap.size) (b := b) (o := o) HX.out k hk
        have e0 : ((k : Int)).toNat = k := by omega
        rw [e0] at HV
        obtain ⟨y, he⟩ : ∃ y, o k = y := ⟨_, rfl⟩
        rw [he] at hy HV
        clear he e0 c1 c2 c3 c4
        rw [hd]
        clear hd
        go_wp2_with fail
        go_region
        go_wp2_with fail
        go_meet
        exact ⟨by rw [← HV.out]; rfl, HK.out.1, HK.out.2.1, HK.out.2.2.1, HK.out.2.2.2.1, HK.out.2.2.2.2.1, below_drewN' HK.out.2.2.2.2.2 1⟩
      · have hd : decide (0 < b ∧ 0 ≤ l ∧ l ≤ 3) = false := decide_eq_false hc
        have HV : Hid (x = 0) := by show x = 0; rw [← HXv.out]; unfold shr; rw [if_neg hc]
        clear hc c0 c1 c2 c3 c4
        rw [hd]
        clear hd
        go_wp2_with fail
        go_meet
        exact ⟨by rw [HV.out], HK.out⟩
    case rest =>
      obtain ⟨rfl, hkeep⟩ := hcut
      unfold Keeps at hkeep
      obtain ⟨c0, c1, c2, c3, c4, hB⟩ := hkeep
      have hB := hid hB
      have hHold : Keeps w w.heap.size b o wc := ⟨c0, c1, c2, c3, c4, hB.out⟩
      go_wp2_with fail
      go_region_held3 (fun w' => w'.cell? ⟨w.heap.size, 0, none⟩ = some (.int .i64 b) ∧ w'.cell? ⟨w.heap.size, 1, none⟩ = some (.int .i64 (o 0)) ∧ w'.cell? ⟨w.heap.size, 2, none⟩ = some (.int .i64 (o 1)) ∧ w'.cell? ⟨w.heap.size, 3, none⟩ = some (.int .i64 (o 2)) ∧ w'.cell? ⟨w.heap.size, 4, none⟩ = some (.int .i64 (o 3)) ∧ Below w.heap.size w w')
        (first | assumption | exact ⟨c0, c1, c2, c3, c4, hB.out.drew⟩ | exact hk2)
        (first
          | (go_at_call 33; refine (HS.out _).mono ?_; rintro e w2 ⟨rfl, hb2⟩; have hk2 := Keeps.on (by assumption) hb2; unfold Keeps at hk2; clear hb2)
          | (go_at_call 34; refine (HRS.out _).mono ?_; rintro e w2 ⟨rfl, hb2⟩; have hk2 := Keeps.on (by assumption) hb2; unfold Keeps at hk2; clear hb2)
          | (go_at_call 35; refine (HW.out _).mono ?_; rintro e w2 ⟨rfl, hb2⟩; have hk2 := Keeps.on (by assumption) hb2; unfold Keeps at hk2; clear hb2)
          | (go_at_call 36; refine (HRW.out _).mono ?_; rintro e w2 ⟨rfl, hb2⟩; have hk2 := Keeps.on (by assumption) hb2; unfold Keeps at hk2; clear hb2)
          | (go_at_call 37; refine (HC.out _).mono ?_; rintro e w2 ⟨rfl, hb2⟩; have hk2 := Keeps.on (by assumption) hb2; unfold Keeps at hk2; clear hb2)
          | (go_at_call 38; refine (HSh.out _).mono ?_; rintro e w2 ⟨rfl, hb2⟩; have hk2 := Keeps.on (by assumption) hb2; unfold Keeps at hk2; clear hb2)
          | (go_at_call 39; refine (HT.out _).mono ?_; rintro e w2 ⟨rfl, hb2⟩; have hk2 := Keeps.on (by assumption) hb2; unfold Keeps at hk2; clear hb2)
          | (go_at_call 40; refine (HRT.out _).mono ?_; rintro e w2 ⟨rfl, hb2⟩; have hk2 := Keeps.on (by assumption) hb2; unfold Keeps at hk2; clear hb2)
          | (go_at_call 41; refine (HOne.out _).mono ?_; rintro e w2 ⟨rfl, hb2⟩; have hk2 := Keeps.on (by assumption) hb2; unfold Keeps at hk2; clear hb2))
  
      go_wp2_with fail
      go_ret
      exact ⟨rfl, hk2.2.2.2.2.2⟩
end Go.Proofs.Ytfmepbpipknblaa.Dg
