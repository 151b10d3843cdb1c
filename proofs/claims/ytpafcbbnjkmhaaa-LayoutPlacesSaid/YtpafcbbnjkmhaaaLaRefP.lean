/- busbarref42.Place: what it answers, in plain words, and its walk. Helper text. -/
import Derived.Test.YtpafcbbnjkmhaaaLaMap
import Derived.Test.YtpafcbbnjkmhaaaLaIx
namespace Go.Proofs.Ytpafcbbnjkmhaaa.PLa
open Go.RowKit Go.Proofs.Ytpafcbbnjkmhaaa.Kx Go.Proofs.YtpafcbbnjkmhaaaW.PrintWords Go.Proofs.YtpafcbbnjkmhaaaW.PrintLast Go.Proofs.YtpafcbbnjkmhaaaW.PrintMore
set_option linter.unusedVariables false
set_option linter.unusedSimpArgs false

/-- Are so many places behind v free, the first k of them? -/
def freeK (m : Nat → Bool) (v : Nat) : Nat → Bool
  | 0 => true
  | k + 1 => freeK m v k && !m (v + k)
def fnd (m : Nat → Bool) (s a : Int) : Nat → Int → Int
  | 0, _ => -1
  | k + 1, v => if v ≤ 64 - s then (if freeK m v.toNat s.toNat = true then v else fnd m s a k (v + a)) else -1
def fnd0 (l : List S40) (s a : Int) : Int := fnd (mapF l) s a 66 0
def rpl (a : Int) (taken : List S40) : List S40 → Int → List Int → List S40 × Int × Int
  | out, _, [] => (out, -1, 0)
  | out, i, s :: r => if fnd0 (taken ++ out) s a < 0 then ([], i, 15) else rpl a taken (out ++ [⟨fnd0 (taken ++ out) s a, s⟩]) (i + 1) r
def refP (sizes : List Int) (a : Int) (taken : List S40) : List S40 × Int × Int :=
  if a < 1 ∨ 64 < a then ([], -1, 2) else if 0 ≤ badAt sizes then ([], badAt sizes, 3) else rpl a taken [] 0 sizes
theorem badAt_first {l : List Int} {n : Nat} (hn : n < l.length) (h : ∀ j, j < n → badS l[j]! = false) (hb : badS l[n]! = true) : badAt l = n := by
  have := Lib.idxBy_hit (fun _ y => badS y) l l.length n default hn (Nat.le_refl _) hb h
  rwa [List.take_length] at this
theorem badAt_none {l : List Int} (h : ∀ j, j < l.length → badS l[j]! = false) : badAt l = -1 := by
  have := Lib.idxBy_miss (fun _ y => badS y) l l.length default h
  rwa [List.take_length] at this
theorem ints_at {w : World} {A : Option Addr} {l : List Int} (h : Kd.C (Kd.int .i64) w A l.length l) {i : Nat} (hi : i < l.length) : ∃ ad, A = some ad ∧ w.cell? (ad.add i) = some (.int .i64 l[i]!) := by
  obtain ⟨_, _, hrow⟩ := h
  obtain ⟨ad, rfl, hc⟩ := hrow (by omega)
  refine ⟨ad, rfl, ?_⟩
  obtain ⟨c, _, hK, hcc⟩ := hc i l[i]! (by simp [hi])
  have hcs : c = [.int .i64 l[i]!] := hK
  subst hcs
  have := hcc 0 _ rfl
  rwa [show (Kd.int .i64).sz = 1 from rfl, Nat.mul_one, Nat.add_zero] at this
set_option maxHeartbeats 4000000 in
theorem place_any (sizes : List Int) (a : Int) (taken : List S40) (A0 : Option Addr) (c0 : Nat) (A2 : Option Addr) (c2 : Nat) (w : World) (hS : Kd.C (Kd.int .i64) w A0 sizes.length sizes) (hT : Kd.C k40 w A2 taken.length taken) (hs : sizes.length ≤ 80) (ht : taken.length ≤ 80) :
    Calls Try.prog 7 #[.slice A0 sizes.length c0, .int .i64 a, .slice A2 taken.length c2] w fun e w' => ∃ v0_ : Value, e = .returned (.tuple #[v0_, .int .i64 (refP sizes a taken).2.1, .int .i64 (refP sizes a taken).2.2]) ∧ Kd.R k40 40 w' w.heap.size (fun _ => True) v0_ (refP sizes a taken).1 ∧ Below w.heap.size w w' := by
  have HS := Aside0.mk hS
  have HT := Aside0.mk hT
  have hs' : (sizes.length : Int) ≤ 80 := by omega
  clear hS hT
  obtain ⟨res, hres⟩ : ∃ res, refP sizes a taken = res := ⟨_, rfl⟩
  rw [hres]
  have HRES := Aside0.mk hres
  clear hres
  by_cases ha1 : a < 1
  · have : res = ([], -1, 2) := by rw [← HRES.out, refP, if_pos (.inl ha1)]
    subst this
    have h1 : decide (a < 1) = true := decide_eq_true ha1
    go_enter Try.func7, Try.ntmps7
    go_wp2
    go_ret3
    exact ⟨.slice none 0 0, rfl, Kd.R_nil _ _ _ _ _, Below.refl _ _⟩
  by_cases ha2 : 64 < a
  · have : res = ([], -1, 2) := by rw [← HRES.out, refP, if_pos (.inr ha2)]
    subst this
    have h1 : decide (a < 1) = false := decide_eq_false ha1
    have h2 : decide (64 < a) = true := decide_eq_true ha2
    go_enter Try.func7, Try.ntmps7
    go_wp2
    go_ret3
    exact ⟨.slice none 0 0, rfl, Kd.R_nil _ _ _ _ _, Below.refl _ _⟩
  have h1 : decide (a < 1) = false := decide_eq_false ha1
  have h2 : decide (64 < a) = false := decide_eq_false ha2
  go_enter Try.func7, Try.ntmps7
  go_wp2
  clear h1 h2
  go_loopw [9] (fun v9 wr => ∃ n : Nat, n ≤ sizes.length ∧ v9 = .int .i64 n ∧ (∀ j, j < n → badS sizes[j]! = false) ∧ Below w.heap.size w wr) (fun v9 _ => sizes.length - (intOf v9).toNat)
  case atStart => exact ⟨0, by omega, rfl, fun j hj => by omega, Below.refl _ _⟩
  case round =>
    obtain ⟨n, hn, rfl, hgood, hB⟩ := hrel
    have HG := Aside0.mk hgood
    have HB := Aside0.mk hB
    clear hgood hB
    by_cases hlt : (n : Int) < (sizes.length : Int)
    · have hi : n < sizes.length := by omega
      obtain ⟨ad, rfl, hc0⟩ := ints_at HS.out hi
      have hc := (HB.out.cell (World.block_lt_of_cell? w _ hc0)).trans hc0
      obtain ⟨s, hse⟩ : ∃ s, sizes[n]! = s := ⟨_, rfl⟩
      rw [hse] at hc
      have HSE := Aside0.mk hse
      clear hse hc0
      have hn0 : (0 : Int) ≤ (n : Int) := by omega
      by_cases hs1 : s < 1
      · have : res = ([], (n : Int), 3) := by
          have hb := badAt_first hi HG.out (by rw [HSE.out]; exact decide_eq_true (.inl hs1))
          rw [← HRES.out, refP, if_neg (by omega), hb, if_pos (by omega)]
        subst this
        have h1 : decide (s < 1) = true := decide_eq_true hs1
        go_wp2
        go_ret3
        exact ⟨.slice none 0 0, rfl, Kd.R_nil _ _ _ _ _, HB.out⟩
      have h1 : decide (s < 1) = false := decide_eq_false hs1
      by_cases hs2 : 8 < s
      · have : res = ([], (n : Int), 3) := by
          have hb := badAt_first hi HG.out (by rw [HSE.out]; exact decide_eq_true (.inr hs2))
          rw [← HRES.out, refP, if_neg (by omega), hb, if_pos (by omega)]
        subst this
        have h2 : decide (8 < s) = true := decide_eq_true hs2
        go_wp2
        go_ret3
        exact ⟨.slice none 0 0, rfl, Kd.R_nil _ _ _ _ _, HB.out⟩
      have h2 : decide (8 < s) = false := decide_eq_false hs2
      have HN : Aside0 (∀ j, j < n + 1 → badS sizes[j]! = false) := ⟨fun j hj => by
        by_cases e : j = n
        · subst e
          rw [HSE.out]
          exact decide_eq_false (by omega)
        · exact HG.out j (by omega)⟩
      go_wp2
      exact ⟨⟨n + 1, by omega, by simp, HN.out, HB.out⟩, by simp [intOf]; omega⟩
    · obtain rfl : n = sizes.length := by omega
      clear hlt
      have HGS : Aside0 (∀ s ∈ sizes, 1 ≤ s ∧ s ≤ 8) := ⟨badAt_neg (by rw [badAt_none HG.out]; omega)⟩
      have hres2 : rpl a taken [] 0 sizes = res := by rw [← HRES.out, refP, if_neg (by omega), badAt_none HG.out, if_neg (by omega)]
      have HRES := Aside0.mk hres2
      clear hres2
      go_wp2
      have hz := z34
      go_loopw [10, 11] (fun v10 v11 wr => ∃ (n : Nat) (out : List S40), n ≤ sizes.length ∧ v11 = .int .i64 n ∧ out.length = n ∧ rpl a taken out (n : Int) (sizes.drop n) = res ∧ Kd.R k40 40 wr w.heap.size (fun _ => True) v10 out ∧ Below w.heap.size w wr) (fun _ v11 _ => sizes.length - (intOf v11).toNat)
      case atStart => exact ⟨0, [], by omega, rfl, rfl, HRES.out, Kd.R_nil _ _ _ _ _, HB.out⟩
      case round =>
        clear HB HRES
        obtain ⟨n, out, hn, rfl, hol, hres, hR, hB⟩ := hrel
        have HRES := Aside0.mk hres
        have HR := Aside0.mk hR
        have HB := Aside0.mk hB
        clear hres hR hB
        by_cases hlt : (n : Int) < (sizes.length : Int)
        · have hi : n < sizes.length := by omega
          obtain ⟨ad, rfl, hc0⟩ := ints_at HS.out hi
          obtain ⟨s, hse⟩ : ∃ s, sizes[n]! = s := ⟨_, rfl⟩
          rw [hse] at hc0
          have HC : Aside0 (∀ w', Below w.heap.size w w' → w'.cell? (ad.add n) = some (.int .i64 s)) := ⟨fun w' hb => (hb.cell (World.block_lt_of_cell? w _ hc0)).trans hc0⟩
          have hsg : 1 ≤ s ∧ s ≤ 8 := HGS.out s (by rw [← hse]; simp [hi])
          have hdr : sizes.drop n = s :: sizes.drop (n + 1) := by rw [List.drop_eq_getElem_cons hi, ← hse]; simp [hi]
          have HD := Aside0.mk hdr
          clear hdr hse hc0
          obtain ⟨hs1, hs8⟩ := hsg
          have hn0 : (0 : Int) ≤ (n : Int) := by omega
          obtain ⟨all, hall⟩ : ∃ all, taken ++ out = all := ⟨_, rfl⟩
          have HALL := Aside0.mk hall
          have hallL : all.length ≤ 160 := by rw [← hall, List.length_append]; omega
          clear hall
          have hol8 : out.length ≤ 80 := by omega
          have HOL := Aside0.mk hol
          clear hol
          obtain ⟨Ao, co, eo⟩ := Kd.R_slice HR.out
          subst eo
          go_wp2_with (first
            | ((with_reducible refine gate_dst (N := 48) rfl ?_); (try (refine gate_guard (by rfl) ?_; dsimp only)); refine Kd.R_lit k40 _ 40 ?hg (N := 48) ?hd (xs := ([] : List (S40))) (inner := []) (ok := fun _ => True) (okp := fun _ => True) ?hr ?hp (fun _ hk => hk) trivial (Below.refl _ _) (Nat.le_refl _) (by simp) ?_; (case hd => rfl); (case hg => rfl); (case hr => first | (go_simp; done) | (go_simp; rfl)); (case hp => exact (Reps.none _ _)); intro v1 w1 ho1 hb1 hg1 hnew1; have HX1 := Aside0.mk (Kd.R_elder' HR.out (Kd.R_base ho1) hb1); have HO1 := Aside0.mk (Kd.R_lower ho1 (below_size HB.out)); have HB1 := Aside0.mk (below_step HB.out hb1); clear ho1 hb1 hg1 hnew1)
            | ((with_reducible refine gate_builtin (b := .append) (xs := #[.tmp 48, .tmp 49]) rfl ?_); at_builtin; refine Kd.R_append_rows k40 (w0 := w) w.heap.size rfl (.tmp 48) (.tmp 49) 27 40 (.agg #[(.int .i64 0), (.int .i64 0)]) 16 rfl Try.underlying27 info40 rfl (by decide) (by omega) v1 [] taken _ _ _ (fun _ => True) (fun _ => False) rfl rfl HO1.out (Kd.C_below HT.out HB1.out) (fun _ _ h => h) (fun _ h => h.elim) (fun _ _ => trivial) HB1.out (below_size HB1.out) (by simp; omega) ?_; intro v2 w2 ho2 hb2 hg2 hat2; have HX2 := Aside0.mk (Kd.R_after (ok := fun _ => True) HX1.out hg2 hat2); rw [List.nil_append] at ho2; have HO2 := Aside0.mk ho2; have HB2 := Aside0.mk hb2; clear ho2 hb2 hg2 hat2)
            | ((with_reducible refine gate_builtin (b := .append) (xs := #[.tmp 50, .tmp 51]) rfl ?_); at_builtin; refine Kd.R_append_rows k40 (w0 := w) w.heap.size rfl (.tmp 50) (.tmp 51) 27 40 (.agg #[(.int .i64 0), (.int .i64 0)]) 16 rfl Try.underlying27 info40 rfl (by decide) (by omega) v2 taken out _ _ _ (fun _ => True) (fun _ => False) rfl rfl HO2.out (Kd.R_reads' HX2.out).2.2 (fun _ _ h => h) (fun _ h => h.elim) (fun _ _ => trivial) HB2.out (below_size HB2.out) (by omega) ?_; intro v3 w3 ho3 hb3 hg3 hat3; have HX3 := Aside0.mk (Kd.R_after (ok := fun _ => True) HX2.out hg3 hat3); rw [HALL.out] at ho3; have HO3 := Aside0.mk ho3; have HB3 := Aside0.mk hb3; clear ho3 hb3 hg3 hat3; obtain ⟨A3, c3, e3⟩ := Kd.R_slice HO3.out; subst e3)
            | (go_at_call 11; refine (map_any all A3 c3 _ (Kd.R_reads' HO3.out).2.2 (by omega)).mono ?_; rintro e w4 ⟨rfl, hb4⟩; have HX4 := Aside0.mk (Kd.R_below HX3.out hb4); have HB4 := Aside0.mk (below_step HB3.out hb4); clear hb4)
            | (refine wpList_store_row rfl 34 _ _ rfl w4.heap.size (arrB (mapF all)) rfl rfl 34 _ (heap_alloc_new _ _) (by rw [arrB_size]; kernel_rfl) (by rw [arrB_size, arrB_size]) (arrB_one _) ?_; have hb5 : Below w4.heap.size w4 ((w4.alloc (.cells (arrB fun _ => false) 34)).setRow w4.heap.size (arrB (mapF all))) := below_setRow (below_alloc (Below.refl _ _) _) (Nat.le_refl _); have hm5 : ((w4.alloc (.cells (arrB fun _ => false) 34)).setRow w4.heap.size (arrB (mapF all))).heap[w4.heap.size]? = some (.cells (arrB (mapF all)) 34 (0, 0)) := setRow_heap _ _ _ _ _ _ (heap_alloc_new _ _); have HX5 := Aside0.mk (Kd.R_below (Kd.R_mono (ok' := fun k => k ≠ w4.heap.size) (Kd.R_bound HX4.out) (fun k hk => by have := hk.2.2.1; omega)) hb5); have HB5 := Aside0.mk (below_step HB4.out hb5); have HG5 := Aside0.mk (below_size HB4.out); generalize ((w4.alloc (.cells (arrB fun _ => false) 34)).setRow w4.heap.size (arrB (mapF all))) = w5 at *; have HM5 := Aside0.mk hm5; clear hm5 hb5))
          obtain ⟨g, hg⟩ : ∃ g, w4.heap.size = g := ⟨_, rfl⟩
          rw [hg] at HX5 HM5 HG5
          simp only [hg]
          clear hg
          obtain ⟨m, hm⟩ : ∃ m, mapF all = m := ⟨_, rfl⟩
          rw [hm] at HM5
          obtain ⟨F, hF⟩ : ∃ F, fnd m s a 66 0 = F := ⟨_, rfl⟩
          have HF0 : Aside0 (fnd0 (taken ++ out) s a = F) := ⟨by rw [HALL.out, fnd0, hm, hF]⟩
          have HF := Aside0.mk hF
          clear hm hF hz
          go_loopw [10, 13, 14] (fun v10 v13 v14 wr => ∃ (fd : Bool) (at_ : Int) (out' : List S40), v13 = .bool fd ∧ v14 = .int .i64 at_ ∧ wr.heap[g]? = some (.cells (arrB m) 34 (0, 0)) ∧ Kd.R k40 40 wr w.heap.size (fun k => k ≠ g) v10 out' ∧ Below w.heap.size w wr ∧ (if fd = true then out' = out ++ [⟨F, s⟩] ∧ 0 ≤ F else out' = out ∧ ∃ t : Nat, t ≤ 65 ∧ (t : Int) ≤ at_ ∧ at_ ≤ 128 ∧ fnd m s a (66 - t) at_ = F)) (fun _ v13 v14 _ => match v13 with | .bool true => 0 | _ => 200 - (intOf v14).toNat)
          case atStart => exact ⟨false, 0, out, rfl, rfl, HM5.out, HX5.out, HB5.out, by rw [if_neg (by decide)]; exact ⟨rfl, 0, by omega, by omega, by omega, HF.out⟩⟩
          case round =>
            clear HM5 HX5 HB5 HR HB HX1 HX2 HX3 HX4 HB1 HB2 HB3 HB4
            obtain ⟨fd, at_, out', rfl, rfl, hM, hR, hB, hfd⟩ := hrel
            have HM := Aside0.mk hM
            have HR := Aside0.mk hR
            have HB := Aside0.mk hB
            clear hM hR hB
            have hc := HC.out _ HB.out
            cases fd with
            | true =>
              rw [if_pos rfl] at hfd
              obtain ⟨rfl, hF0⟩ := hfd
              have HN : Aside0 (rpl a taken (out ++ [⟨F, s⟩]) ((n + 1 : Nat) : Int) (sizes.drop (n + 1)) = res) := ⟨by
                have := HRES.out
                rw [HD.out, rpl, HF0.out, if_neg (by omega)] at this
                exact this⟩
              have HNL : Aside0 ((out ++ [(⟨F, s⟩ : S40)]).length = n + 1) := ⟨by rw [List.length_append, HOL.out]; rfl⟩
              go_wp2
              exact ⟨⟨n + 1, _, by omega, by simp, HNL.out, HN.out, Kd.R_mono HR.out (fun _ _ => trivial), HB.out⟩, by simp [intOf]; omega⟩
            | false =>
              rw [if_neg (by decide)] at hfd
              obtain ⟨rfl, t, ht65, hta, hat, hft⟩ := hfd
              have HFT := Aside0.mk hft
              clear hft
              have hw64 : IntKind.i64.wrap (64 - s) = 64 - s := by
                simp [IntKind.wrap, IntKind.bits, IntKind.signed]
                omega
              by_cases hle : at_ ≤ 64 - s
              · have hled : decide (at_ ≤ 64 - s) = true := decide_eq_true hle
                obtain ⟨q, rfl⟩ : ∃ q : Nat, at_ = (q : Int) := ⟨at_.toNat, by omega⟩
                obtain ⟨sn, rfl⟩ : ∃ sn : Nat, s = (sn : Int) := ⟨s.toNat, by omega⟩
                go_wp2
                go_loopw [15, 16] (fun v15 v16 wr => ∃ k : Nat, k ≤ sn ∧ v16 = .int .i64 k ∧ v15 = .bool (freeK m q k) ∧ wr.heap[g]? = some (.cells (arrB m) 34 (0, 0)) ∧ Kd.R k40 40 wr w.heap.size (fun k => k ≠ g) u10 out' ∧ Below w.heap.size w wr) (fun _ v16 _ => sn - (intOf v16).toNat)
                case atStart => exact ⟨0, by omega, rfl, rfl, HM.out, HR.out, HB.out⟩
                case round =>
                  clear HM HR HB hc
                  obtain ⟨k, hk, rfl, rfl, hM, hR, hB⟩ := hrel
                  have hgs : g < wr.heap.size := (Array.getElem?_eq_some_iff.1 hM).1
                  have HM := Aside0.mk hM
                  have HR := Aside0.mk hR
                  have HB := Aside0.mk hB
                  clear hM hR hB
                  have hc := HC.out _ HB.out
                  by_cases hks : (k : Int) < (sn : Int)
                  · cases hfree : freeK m q k with
                    | true =>
                      have hqk : q + k < 64 := by omega
                      have hqk' : ((q + k : Nat) : Int) < 64 := by omega
                      have hqk0 : (0 : Int) ≤ ((q + k : Nat) : Int) := by omega
                      have hw : IntKind.i64.wrap ((q : Int) + (k : Int)) = ((q + k : Nat) : Int) := by
                        simp [IntKind.wrap, IntKind.bits, IntKind.signed]
                        omega
                      have hx := arrB_cell HM.out hqk
                      have HFR := Aside0.mk hfree
                      clear hfree
                      obtain ⟨j, hj⟩ : ∃ j, q + k = j := ⟨_, rfl⟩
                      have HJ := Aside0.mk hj
                      rw [hj] at hqk hqk' hqk0 hw hx
                      clear hj
                      go_wp2
                      refine ⟨⟨k + 1, by omega, by simp, ?_, HM.out, HR.out, HB.out⟩, by simp [intOf]; omega⟩
                      rw [freeK, HFR.out, Bool.true_and, HJ.out]
                    | false =>
                      have HFR := Aside0.mk hfree
                      clear hfree
                      go_wp2
                      refine ⟨⟨k + 1, by omega, by simp, ?_, HM.out, HR.out, HB.out⟩, by simp [intOf]; omega⟩
                      rw [freeK, HFR.out, Bool.false_and]
                  · obtain rfl : k = sn := by omega
                    have hwa : IntKind.i64.wrap ((q : Int) + a) = (q : Int) + a := by
                      simp [IntKind.wrap, IntKind.bits, IntKind.signed]
                      omega
                    obtain ⟨f, hf⟩ : ∃ f, 66 - t = f + 1 := ⟨65 - t, by omega⟩
                    have hft : (if freeK m q k = true then (q : Int) else fnd m (k : Int) a f ((q : Int) + a)) = F := by
                      have := HFT.out
                      rw [hf, fnd, if_pos hle, Int.toNat_natCast, Int.toNat_natCast] at this
                      exact this
                    have HFF := Aside0.mk hft
                    clear hft
                    cases hfree : freeK m q k with
                    | true =>
                      have hFq : F = (q : Int) := by
                        have := HFF.out
                        rw [if_pos hfree] at this
                        exact this.symm
                      subst hFq
                      clear HFF hfree
                      go_wp2_with ((with_reducible refine gate_builtin (b := .append) (xs := #[.tmp 86, .tmp 93]) rfl ?_); at_builtin; refine Kd.R_append k40 (w0 := w) w.heap.size rfl (.tmp 86) (.tmp 93) 27 40 (.agg #[(.int .i64 0), (.int .i64 0)]) 16 rfl Try.underlying27 info40 rfl (by decide) (by omega) u10 out' (⟨(q : Int), (k : Int)⟩ : S40) [.int .i64 (q : Int), .int .i64 (k : Int)] (fun k_ => k_ ≠ g) (fun _ => False) rfl rfl (k40_mkM _ _ _ (⟨(q : Int), (k : Int)⟩ : S40)) (fun _ hk => hk.elim) (fun k_ hk => by omega) HR.out HB.out (below_size HB.out) (by omega) ?_; intro v9 w9 ho9 hb9 hg9 hat9; have HO9 := Aside0.mk ho9; have HB9 := Aside0.mk hb9; have HM9 := Aside0.mk ((hg9.block g hgs (fun e => HR.out.1 g e.symm rfl)).trans HM.out); clear ho9 hb9 hg9 hat9)
                      exact ⟨⟨true, (q : Int) + a, _, rfl, rfl, HM9.out, HO9.out, HB9.out, by rw [if_pos rfl]; exact ⟨rfl, by omega⟩⟩, by simp [intOf]; omega⟩
                    | false =>
                      have hfn : fnd m (k : Int) a f ((q : Int) + a) = F := by
                        have := HFF.out
                        rw [if_neg (by rw [hfree]; decide)] at this
                        exact this
                      have HFN := Aside0.mk hfn
                      clear HFF hfree hfn
                      go_wp2
                      refine ⟨⟨false, (q : Int) + a, out', rfl, rfl, HM.out, HR.out, HB.out, ?_⟩, by simp [intOf]; omega⟩
                      rw [if_neg (by decide)]
                      exact ⟨rfl, t + 1, by omega, by omega, by omega, by rw [show 66 - (t + 1) = f by omega]; exact HFN.out⟩
              · have hled : decide (at_ ≤ 64 - s) = false := decide_eq_false hle
                have hres : res = ([], (n : Int), 15) := by
                  have := HRES.out
                  have hF1 : F = -1 := by
                    rw [← HFT.out]
                    obtain ⟨f, hf⟩ : ∃ f, 66 - t = f + 1 := ⟨65 - t, by omega⟩
                    rw [hf, fnd, if_neg hle]
                  rw [HD.out, rpl, HF0.out, if_pos (by omega)] at this
                  exact this.symm
                subst hres
                go_wp2
                go_ret3
                exact ⟨.slice none 0 0, rfl, Kd.R_nil _ _ _ _ _, HB.out⟩
        · obtain rfl : n = sizes.length := by omega
          have hres : res = (out, -1, 0) := by
            have := HRES.out
            rw [List.drop_length, rpl] at this
            exact this.symm
          subst hres
          clear hlt
          go_wp2
          go_ret3
          exact ⟨_, (by rfl), HR.out, HB.out⟩
def busbarref42_Place.f (l0 : List Int) (a1 : Int) (l2 : List S40) : Option (List S40 × Int × Int) := if l0.length ≤ 80 ∧ l2.length ≤ 80 then some (refP l0 a1 l2) else none
theorem busbarref42_Place.calls (A0 : Option Addr) (c0 : Nat) (l0 : List Int) (a1 : Int) (A2 : Option Addr) (c2 : Nat) (l2 : List S40) (r1 : List S40) (r2 r3 : Int) (w : World) (hr0 : Kd.C (Kd.int .i64) w A0 l0.length l0) (hc0 : l0.length ≤ c0) (hr2 : Kd.C k40 w A2 l2.length l2) (hc2 : l2.length ≤ c2) (h : busbarref42_Place.f l0 a1 l2 = some (r1, r2, r3)) :
    Calls Try.prog 7 #[.slice A0 l0.length c0, .int .i64 a1, .slice A2 l2.length c2] w fun e w' => ∃ v0_ : Value, e = .returned (.tuple #[v0_, .int .i64 r2, .int .i64 r3]) ∧ Kd.R k40 40 w' w.heap.size (fun _ => True) v0_ r1 ∧ Below w.heap.size w w' := by
  unfold busbarref42_Place.f at h
  split at h
  · rename_i hl
    have e := Option.some.inj h
    have := place_any l0 a1 l2 A0 c0 A2 c2 w hr0 hr2 hl.1 hl.2
    rw [e] at this
    exact this
  · cases h
end Go.Proofs.Ytpafcbbnjkmhaaa.PLa
