/- busbarref11.Windows: its walk. Helper text. -/
import Derived.Test.YtekbaconbemgpaaWkRefRead
namespace Go.Proofs.Ytekbaconbemgpaa.PWe
open Go.RowKit Go.Proofs.Ytekbaconbemgpaa.Kx Go.Proofs.YtekbaconbemgpaaW.PrintWords Go.Proofs.YtekbaconbemgpaaW.PrintLast Go.Proofs.YtekbaconbemgpaaW.PrintMore
set_option linter.unusedVariables false
set_option linter.unusedSimpArgs false

theorem rfrom_l0 (many cand md : Int) (hm : many ≤ 255) : ∀ (d k i : Nat), i + d = many.toNat → d < k → busbarref11_from.l0 k many cand md ((fromL many cand md).take i) (i : Int) = some (fromL many cand md) := by
  intro d
  induction d with
  | zero =>
    intro k i hi hk
    obtain ⟨k, rfl⟩ : ∃ m, k = m + 1 := ⟨k - 1, by omega⟩
    rw [busbarref11_from.l0, if_neg (by omega), List.take_of_length_le (by rw [fromL_len]; omega)]
  | succ d ih =>
    intro k i hi hk
    obtain ⟨k, rfl⟩ : ∃ m, k = m + 1 := ⟨k - 1, by omega⟩
    have hil : i < (fromL many cand md).length := by rw [fromL_len]; omega
    have hl : ((fromL many cand md).take i).length = i := by rw [List.length_take]; omega
    have ht : (fromL many cand md).take (i + 1) = (fromL many cand md).take i ++ [(fromL many cand md)[i]] := List.take_succ_eq_append_getElem hil
    have hv : (fromL many cand md)[i] = if (i : Int) = cand then md else -1 - (i : Int) := by simp only [fromL, List.getElem_map, List.getElem_range]
    rw [busbarref11_from.l0, if_pos (by omega)]
    by_cases hc : (i : Int) = cand
    · rw [if_pos hc, if_pos (by rw [hl]; omega), up (by omega), ← ih k (i + 1) (by omega) (by omega), ht, hv, if_pos hc]
    · rw [if_neg hc, if_pos (by rw [hl]; omega), up (by omega), wr (by omega) (by omega), ← ih k (i + 1) (by omega) (by omega), ht, hv, if_neg hc]
theorem rfrom_f (many cand md : Int) (h0 : 0 ≤ many) (hm : many ≤ 255) : busbarref11_from.f 300 many cand md = some (fromL many cand md) := by
  rw [busbarref11_from.f, show (0 : Int) = ((0 : Nat) : Int) from rfl]
  exact rfrom_l0 many cand md hm many.toNat 300 0 (by omega) (by omega)
theorem readP_len (b : List Int) (at_ : Int) : (readP b at_).1.length = 7 := by
  unfold readP
  repeat' split
  all_goals first | rfl | (unfold cmdP; repeat' split) | skip
  all_goals rfl
structure RI (w wr : World) (back : List Int) (v9 v8 : Value) (out : List S76) : Prop where
  r : Kd.R (Kd.int .i64) 3 wr w.heap.size (fun _ => True) v9 back
  s : Kd.S k44 44 wr w.heap.size (fun k => True ∧ some k ≠ v9.ownBlock) v8 (out.map s44)
  b : Below w.heap.size w wr
theorem RI.below {w wr W2 : World} {back : List Int} {v9 v8 : Value} {out : List S76} (h : RI w wr back v9 v8 out) (hb : Below wr.heap.size wr W2) : RI w W2 back v9 v8 out :=
  ⟨Kd.R_below h.r hb, Kd.S_below h.s hb, below_step h.b hb⟩
theorem rset {W : World} {N g : Nat} {v : Value} {l : List Int} {cs : Array Value} {ok : Nat → Prop} (h : Kd.R (Kd.int .i64) 3 W N ok v l) (hg : g < N) : Kd.R (Kd.int .i64) 3 (W.setRow g cs) N ok v l :=
  Kd.R_mono (Kd.R_kept (Kd.R_bound h) (S := fun k => k = g) ⟨by simp, fun i hi hn => setRow_other W g i cs hn⟩ (fun k hk he => by have := hk.2.1; omega)) (fun k hk => hk.1)
theorem lit1 (W : World) (x : Int) : Kd.R (Kd.int .i64) 3 (W.alloc (.cells #[.int .i64 x] 3)) W.heap.size (fun _ => True) (.slice (some ⟨W.heap.size, 0, none⟩) 1 1) [x] := by
  refine ⟨fun k hk => trivial, [.int .i64 x], ?_, ?_⟩
  · have h2 := World.ownsRow_lit (base := W.heap.size) (e := 3) (size := 1) W #[.int .i64 x] 1 (Nat.le_refl _) (by simp [maxLen]) (by rfl)
    exact h2
  · exact Reps.one (show Kd.M (Kd.int .i64) _ _ _ x [.int .i64 x] from rfl) (Reps.none _ _)
theorem nil_ok {W : World} {N : Nat} {v : Value} {l : List Int} {ok : Nat → Prop} (h : Kd.R (Kd.int .i64) 3 W N ok v l) : Kd.R (Kd.int .i64) 3 W N (fun k => some k ≠ (Value.slice none 0 0).ownBlock) v l := Kd.R_mono (Kd.R_bound h) (fun k _ => by simp [Value.ownBlock])
theorem ri_apart4 {W6 W7 : World} {v4 v5 : Value} {l : List Int} {N : Nat} (h : Kd.R (Kd.int .i64) 3 W6 N (fun _ => True) v4 l) (hb : Below W6.heap.size W6 W7) (hv : v5.ownBlock = some W6.heap.size) : Kd.R (Kd.int .i64) 3 W7 N (fun k => some k ≠ v5.ownBlock) v4 l := by
  refine Kd.R_below (Kd.R_mono (Kd.R_bound h) (fun k hk e => ?_)) hb
  rw [hv] at e
  injection e with e
  have := hk.2.2.1
  omega
theorem ri_apart5 {W5 W6 W7 : World} {v4 v5 : Value} {l : List Int} (h : Kd.R (Kd.int .i64) 3 W7 W6.heap.size (fun _ => True) v5 l) (hz : W5.heap.size ≤ W6.heap.size) (hv : ∀ k, v4.ownBlock = some k → k < W6.heap.size) : Kd.R (Kd.int .i64) 3 W7 W5.heap.size (fun k => some k ≠ v4.ownBlock) v5 l := by
  refine Kd.R_lower (Kd.R_mono (Kd.R_bound h) (fun k hk e => ?_)) hz
  have h1 := hk.2.1
  have h2 := hv k e.symm
  omega
theorem ri_apart6 {W6 W7 : World} {v4 v5 : Value} {l : List Int} {N : Nat} (h : Kd.R (Kd.int .i64) 3 W6 N (fun _ => True) v5 l) (hb : Below W6.heap.size W6 W7) (hv : ∀ k, v4.ownBlock = some k → W6.heap.size ≤ k) : Kd.R (Kd.int .i64) 3 W7 N (fun k => some k ≠ v4.ownBlock) v5 l := by
  refine Kd.R_below (Kd.R_mono (Kd.R_bound h) (fun k hk e => ?_)) hb
  have h1 := hk.2.2.1
  have h2 := hv k e.symm
  omega
theorem ri_app {w W W7 : World} {back : List Int} {v9 v8 v7 : Value} {out : List S76} {x : S76} (h : RI w W back v9 v8 out) (hs : Kd.S k44 44 W7 w.heap.size (fun k => True ∧ some k ≠ v9.ownBlock) v7 (out.map s44 ++ [s44 x])) (hb : Below w.heap.size w W7) (hg : W.grownBy W7 v8.ownBlock) : RI w W7 back v9 v7 (out ++ [x]) := by
  refine ⟨Kd.R_mono (Kd.R_grown (Kd.R_bound h.r) hg (fun k hk => ?_)) (fun _ _ => trivial), by rw [List.map_append]; exact hs, hb⟩
  obtain ⟨q, hq, cells, hc⟩ := hk.2.2.2
  have : q = 3 := by simpa [Kd.int, Kd.scalar] using hq
  exact Kd.S_ne h.s hc (by rw [this]; decide)
theorem rw_app {w W : World} {back : List Int} {v9 v8 : Value} {out : List S76} (h : RI w W back v9 v8 out) (x : S76) {v4 v5 : Value} {N : Nat} (h4 : Kd.R (Kd.int .i64) 3 W N (fun k => some k ≠ v5.ownBlock) v4 x.f4) (h5 : Kd.R (Kd.int .i64) 3 W N (fun k => some k ≠ v4.ownBlock) v5 x.f5)
    (hs : Kd.S k44 44 W w.heap.size (fun k => (True ∧ some k ≠ v9.ownBlock) ∧ k < N) v8 (out.map s44)) (hlt : ∀ k, v9.ownBlock = some k → k < N) (hz : N ≤ W.heap.size) (hb : w.heap.size ≤ N) :
    k44.M W w.heap.size (fun k => some k = v4.ownBlock ∨ some k = v5.ownBlock) (s44 x) [.int .i64 x.f0, .int .i64 x.f1, .int .i64 x.f2, .int .i64 x.f3, v4, v5] ∧
    (∀ k, (some k = v4.ownBlock ∨ some k = v5.ownBlock) → (True ∧ some k ≠ v9.ownBlock) ∧ some k ≠ v8.ownBlock) ∧ (∀ k, W.heap.size ≤ k → True ∧ some k ≠ v9.ownBlock) ∧
    Kd.S k44 44 W w.heap.size (fun k => (True ∧ some k ≠ v9.ownBlock) ∧ ¬ (some k = v4.ownBlock ∨ some k = v5.ownBlock)) v8 (out.map s44) := by
  have hge : ∀ k, (some k = v4.ownBlock ∨ some k = v5.ownBlock) → N ≤ k := by
    intro k hk
    rcases hk with hk | hk
    · exact Kd.R_base h4 k hk.symm
    · exact Kd.R_base h5 k hk.symm
  refine ⟨k44_mkM _ _ _ (s44 x) (Kd.R_mono (Kd.R_lower (Kd.R_tight rfl h4) hb) (fun k hk => .inl hk)) (Kd.R_mono (Kd.R_lower (Kd.R_tight rfl h5) hb) (fun k hk => .inr hk)), ?_, ?_, ?_⟩
  · intro k hk
    have hk2 := hge k hk
    refine ⟨⟨trivial, fun e => by have := hlt k e.symm; omega⟩, fun e => ?_⟩
    have := (Kd.S_R hs).1 k e.symm
    omega
  · intro k hk
    exact ⟨trivial, fun e => by have := hlt k e.symm; omega⟩
  · exact Kd.S_mono hs (fun k hk => ⟨hk.1, fun e => by have := hge k e; omega⟩)
set_option maxHeartbeats 4000000 in
set_option maxRecDepth 100000 in
theorem busbarref11_Windows.calls (a0 : ByteArray) (a1 a2 : Int) (r1 : List S44) (r2 : Int) (w : World) (h : busbarref11_Windows.f a0 a1 a2 = some (r1, r2)) :
    Calls Try.prog 12 #[.string a0, .int .i64 a1, .int .i64 a2] w fun e w' => ∃ v0_ : Value, e = .returned (.tuple #[v0_, .int .i64 r2]) ∧ Kd.S k44 44 w' w.heap.size (fun _ => True) v0_ r1 ∧ Below w.heap.size w w' := by
  unfold busbarref11_Windows.f at h
  by_cases hs : a0.size ≤ 100000 ∧ 0 ≤ a2
  · rw [if_pos hs] at h
    obtain ⟨rfl, rfl⟩ := Prod.mk.inj (Option.some.inj h)
    clear h
    obtain ⟨⟨l, er⟩, hle⟩ : ∃ p, winP a2 (toB a0) 4096 a1 [] [] = p := ⟨_, rfl⟩
    rw [hle]
    have HF := Aside0.mk hle
    have HS := Aside0.mk hs
    clear hle hs
    obtain ⟨code, hcode⟩ : ∃ c, toB a0 = c := ⟨_, rfl⟩
    rw [hcode] at HF
    have HCO := Aside0.mk hcode
    clear hcode
    go_enter Try.func12, Try.ntmps12
    go_wp2_with fail
    go_loopw [1, 8, 9, 10] (fun v1 v8 v9 v10 wr => ∃ (i : Nat) (at_ : Int) (back : List Int) (out : List S76), i ≤ 4096 ∧ v10 = .int .i64 ((i : Int) + 1) ∧ v1 = .int .i64 at_ ∧ winP a2 code (4096 - i) at_ back out = (l, er) ∧ RI w wr back v9 v8 out) (fun _ _ _ v10 _ => (4097 - intOf v10).toNat)
    case atStart => exact ⟨0, a1, [], [], by omega, rfl, rfl, HF.out, Kd.R_nil _ _ _ _ _, Kd.S_nil _ _ _ _ _, Below.refl _ _⟩
    case round =>
      obtain ⟨i, at_, back, out, hi, rfl, rfl, hf, hI⟩ := hrel
      obtain ⟨A8, c8, e8⟩ := Kd.S_slice hI.s
      subst e8
      obtain ⟨A9, c9, e9⟩ := Kd.R_slice hI.r
      subst e9
      rw [List.length_map] at hI
      rw [List.length_map]
      clear HF
      have HI := Aside0.mk hI
      have HF := Aside0.mk hf
      clear hI hf
      by_cases hlt : i < 4096
      · have c1 : decide (4096 < (i : Int) + 1) = false := decide_eq_false (by omega)
        obtain ⟨n, hn⟩ : ∃ n, 4096 - i = n + 1 := ⟨4095 - i, by omega⟩
        have HN := Aside0.mk hn
        have hf := HF.out
        rw [hn, winP] at hf
        have HF2 := Aside0.mk hf
        clear hf HF hn
        have HOK := Aside0.mk (readP_ok (b := code) (at_ := at_))
        go_wp2_with fail
        refine (ref_read a0 at_ wr HS.out.1).mono ?_
        rintro e W2 ⟨rfl, hb2⟩
        have HI2 := Aside0.mk (HI.out.below hb2)
        clear hb2 HI
        rw [HCO.out]
        obtain ⟨⟨C, nx, er2⟩, hrp⟩ : ∃ p, readP code at_ = p := ⟨_, rfl⟩
        have hf2 := HF2.out
        have hok := HOK.out
        clear HF2 HOK
        rw [hrp] at hf2 hok ⊢
        have HCL : Aside0 (C.length = 7) := ⟨by have := readP_len code at_; rw [hrp] at this; exact this⟩
        clear hrp
        simp only at hf2 hok
        by_cases he : er2 = 0
        · have hC : CmdOK C := by
            rcases hok with h | h
            · exact h.2.1
            · omega
          clear hok
          subst he
          rw [if_pos rfl] at hf2
          obtain ⟨op, a, wd, cd, m, bi, t, rfl, hr, hm, ha3⟩ := hC
          simp only [List.getD_cons_zero, List.getD_cons_succ] at hf2
          replace HI2 : Aside0 (RI w W2 back (.slice A9 back.length c9) (.slice A8 out.length c8) out) := HI2
          have HI := HI2
          clear HI2
          have hop := ((rightP_iff _ _ _ _ _ _ _).1 hr).1
          have HRR := Aside0.mk ((rightP_iff _ _ _ _ _ _ _).1 hr).2
          have HM := Aside0.mk hm
          clear hr hm
          rcases (by omega : op = 0 ∨ op = 1 ∨ op = 2 ∨ op = 3 ∨ op = 4 ∨ op = 5 ∨ op = 6 ∨ op = 7 ∨ op = 8) with rfl | rfl | rfl | rfl | rfl | rfl | rfl | rfl | rfl
          all_goals clear hop
          all_goals (try (obtain rfl := ha3 rfl))
          all_goals (try clear ha3)
          · rw [if_pos rfl] at hf2
            obtain ⟨rfl, rfl⟩ := Prod.mk.inj hf2
            clear hf2
            go_wp2_with (first | ((with_reducible refine gate_dst (N := 11) rfl ?_); refine box_event ?hg (N := 11) ?hd (cs := cc zero7) (t := 84) ?hr ?_; (case hd => rfl); (case hg => rfl); (case hr => first | (go_simp; done) | (go_simp; rfl)); intro g11 hg W2b hbox hb; have H11 := Aside0.mk hbox; have HL11 : Aside0 (W2.heap.size ≤ g11) := ⟨by omega⟩; have HBX := Aside0.mk hb; clear hbox hb hg) | (refine store_rowN (w0 := W2) (B := W2.heap.size) rfl 84 _ _ rfl g11 (cc [0, a, wd, cd, m, bi, t]) rfl rfl 84 _ H11.out (by first | kernel_rfl | (rw [cc_size]; kernel_rfl)) (by rfl) (cc_one _) HBX.out HL11.out ?_; intro W3 hst hb; clear H11 HBX; have H11 := Aside0.mk hst; replace HI := Aside0.mk (HI.out.below hb); clear hst hb; have x0 : W3.cell? ⟨g11, 0, none⟩ = some (.int .i64 0) := cell_in H11.out 0; have x1 : W3.cell? ⟨g11, 1, none⟩ = some (.int .i64 a) := cell_in H11.out 1; have x2 : W3.cell? ⟨g11, 2, none⟩ = some (.int .i64 wd) := cell_in H11.out 2; have x3 : W3.cell? ⟨g11, 3, none⟩ = some (.int .i64 cd) := cell_in H11.out 3; have x4 : W3.cell? ⟨g11, 4, none⟩ = some (.int .i64 m) := cell_in H11.out 4; have x5 : W3.cell? ⟨g11, 5, none⟩ = some (.int .i64 bi) := cell_in H11.out 5; have x6 : W3.cell? ⟨g11, 6, none⟩ = some (.int .i64 t) := cell_in H11.out 6))
            go_ret2
            exact ⟨_, rfl, Kd.S_mono HI.out.s (fun _ _ => trivial), HI.out.b⟩
          · replace hf2 : (if 32 ≤ (out.length : Int) then ([], 15) else winP a2 code n nx back (out ++ [(⟨0, 0, wd, a, fromL m cd a2, []⟩ : S76)])) = (l, er) := hf2
            have HF2 := Aside0.mk hf2
            clear hf2
            have HFR : Aside0 (busbarref11_from.f 300 m cd a2 = some (fromL m cd a2)) := ⟨rfrom_f _ _ _ (by have := (HRR.out.1 (by decide)).2; omega) (by have := (HRR.out.1 (by decide)).2; omega)⟩
            go_wp2_with (first | ((with_reducible refine gate_dst (N := 11) rfl ?_); refine box_event ?hg (N := 11) ?hd (cs := cc zero7) (t := 84) ?hr ?_; (case hd => rfl); (case hg => rfl); (case hr => first | (go_simp; done) | (go_simp; rfl)); intro g11 hg W2b hbox hb; have H11 := Aside0.mk hbox; have HL11 : Aside0 (W2.heap.size ≤ g11) := ⟨by omega⟩; have HBX := Aside0.mk hb; clear hbox hb hg) | (refine store_rowN (w0 := W2) (B := W2.heap.size) rfl 84 _ _ rfl g11 (cc [1, a, wd, cd, m, bi, t]) rfl rfl 84 _ H11.out (by first | kernel_rfl | (rw [cc_size]; kernel_rfl)) (by rfl) (cc_one _) HBX.out HL11.out ?_; intro W3 hst hb; clear H11 HBX; have H11 := Aside0.mk hst; replace HI := Aside0.mk (HI.out.below hb); clear hst hb; have x0 : W3.cell? ⟨g11, 0, none⟩ = some (.int .i64 1) := cell_in H11.out 0; have x1 : W3.cell? ⟨g11, 1, none⟩ = some (.int .i64 a) := cell_in H11.out 1; have x2 : W3.cell? ⟨g11, 2, none⟩ = some (.int .i64 wd) := cell_in H11.out 2; have x3 : W3.cell? ⟨g11, 3, none⟩ = some (.int .i64 cd) := cell_in H11.out 3; have x4 : W3.cell? ⟨g11, 4, none⟩ = some (.int .i64 m) := cell_in H11.out 4; have x5 : W3.cell? ⟨g11, 5, none⟩ = some (.int .i64 bi) := cell_in H11.out 5; have x6 : W3.cell? ⟨g11, 6, none⟩ = some (.int .i64 t) := cell_in H11.out 6) | ((with_reducible refine gate_dst (N := 14) rfl ?_); refine box_event ?hg (N := 14) ?hd (cs := #[.int .i64 0, .int .i64 0, .int .i64 0, .int .i64 0, .slice none 0 0, .slice none 0 0]) (t := 44) ?hr ?_; (case hd => rfl); (case hg => rfl); (case hr => first | (go_simp; done) | (go_simp; rfl)); intro g14 hg W3b hbox hb; have H14 := Aside0.mk hbox; have HL14 : Aside0 (W3.heap.size ≤ g14) := ⟨by omega⟩; have HBX := Aside0.mk hb; clear hbox hb hg) | (refine store_rowN (w0 := W3) (B := W3.heap.size) rfl 44 _ _ rfl g14 #[.int .i64 2, .int .i64 0, .int .i64 0, .int .i64 0, .slice none 0 0, .slice none 0 0] rfl rfl 44 _ H14.out (by first | kernel_rfl | (rw [cc_size]; kernel_rfl)) (by rfl) (by rw [← Array.all_toList]; rfl) HBX.out HL14.out ?_; intro W4 hst hb; have HI3 := HI; have HB4 := Aside0.mk hb; clear H14 HBX; have H14 := Aside0.mk hst; replace HI := Aside0.mk (HI.out.below hb); replace H11 := Aside0.mk (blk_below H11.out hb); clear hst hb; (try clear x0); (try clear x1); (try clear x2); (try clear x3); (try clear x4); (try clear x5); (try clear x6); have x0 : W4.cell? ⟨g11, 0, none⟩ = some (.int .i64 1) := cell_in H11.out 0; have x1 : W4.cell? ⟨g11, 1, none⟩ = some (.int .i64 a) := cell_in H11.out 1; have x2 : W4.cell? ⟨g11, 2, none⟩ = some (.int .i64 wd) := cell_in H11.out 2; have x3 : W4.cell? ⟨g11, 3, none⟩ = some (.int .i64 cd) := cell_in H11.out 3; have x4 : W4.cell? ⟨g11, 4, none⟩ = some (.int .i64 m) := cell_in H11.out 4; have x5 : W4.cell? ⟨g11, 5, none⟩ = some (.int .i64 bi) := cell_in H11.out 5; have x6 : W4.cell? ⟨g11, 6, none⟩ = some (.int .i64 t) := cell_in H11.out 6))
            refine start_ (n := 12) (S := fun w' => w'.cell? ⟨g11, 2, none⟩ = some (.int .i64 wd) ∧ w'.cell? ⟨g11, 1, none⟩ = some (.int .i64 a) ∧ w'.cell? ⟨g11, 4, none⟩ = some (.int .i64 m) ∧ w'.cell? ⟨g11, 3, none⟩ = some (.int .i64 cd)) (ds := [11]) #[false, false, false, false, false, false, false, false, false, false, false, false] (by kernel_rfl) rfl rfl (⟨cell_in H11.out 2, cell_in H11.out 1, cell_in H11.out 4, cell_in H11.out 3⟩) (fun hHeld => ?_)
            have HI4 : Aside0 (RI w W4.drew back (.slice A9 back.length c9) (.slice A8 out.length c8) out) := ⟨HI3.out.below (below_drew HB4.out)⟩
            have H14d : Aside0 (W4.drew.heap[g14]? = some (.cells #[.int .i64 2, .int .i64 0, .int .i64 0, .int .i64 0, .slice none 0 0, .slice none 0 0] 44 (0, 0))) := ⟨H14.out⟩
            have H11d : Aside0 (W4.drew.heap[g11]? = some (.cells (cc [1, a, wd, cd, m, bi, t]) 84 (0, 0))) := ⟨H11.out⟩
            have HB4d : Aside0 (Below W3.heap.size W3 W4.drew) := ⟨below_drew HB4.out⟩
            (try clear x0)
            (try clear x1)
            (try clear x2)
            (try clear x3)
            (try clear x4)
            (try clear x5)
            (try clear x6)
            clear HI H14 H11 HB4
            generalize W4.drew = W5 at *
            have HI := HI4
            have H14 := H14d
            have H11 := H11d
            have HB4 := HB4d
            clear HI4 H14d H11d HB4d
            have HG14 : Aside0 (g14 < W5.heap.size) := ⟨lt_of_block H14.out⟩
            refine pure_ (i := 0) (N := (some 75)) (v := ?_) (a' := ?_) #[true, false, false, false, false, false, false, false, false, false, false, false] rfl rfl (by kernel_rfl) (fun _ _ _ h => h) (Or.inl ⟨by rfl, ?_⟩) ?_ ?_
            rotate_left
            · intro w'
              go_simp
              with_reducible rfl
            rotate_left
            · simp only [Act.put, List.setIfInBounds_toArray, List.set_cons_zero, List.set_cons_succ, i64_w, i32_w]
              rfl
            refine take_ (i := 1) (N := (some 76)) (v := ?_) (a' := ?_) #[true, true, false, false, false, false, false, false, false, false, false, false] rfl rfl (by kernel_rfl) (fun _ _ _ h => h) (Or.inl ⟨by rfl, ?_⟩) hHeld ?_ ?_
            rotate_left
            · rintro w' ⟨s0, s1, s2, s3⟩
              go_simp
              with_reducible rfl
            rotate_left
            · simp only [Act.put, List.setIfInBounds_toArray, List.set_cons_zero, List.set_cons_succ, i64_w, i32_w]
              rfl
            refine pure_ (i := 2) (N := (some 77)) (v := ?_) (a' := ?_) #[true, true, true, false, false, false, false, false, false, false, false, false] rfl rfl (by kernel_rfl) (fun _ _ _ h => h) (Or.inl ⟨by rfl, ?_⟩) ?_ ?_
            rotate_left
            · intro w'
              go_simp
              with_reducible rfl
            rotate_left
            · simp only [Act.put, List.setIfInBounds_toArray, List.set_cons_zero, List.set_cons_succ, i64_w, i32_w]
              rfl
            refine take_ (i := 3) (N := (some 78)) (v := ?_) (a' := ?_) #[true, true, true, true, false, false, false, false, false, false, false, false] rfl rfl (by kernel_rfl) (fun _ _ _ h => h) (Or.inl ⟨by rfl, ?_⟩) hHeld ?_ ?_
            rotate_left
            · rintro w' ⟨s0, s1, s2, s3⟩
              go_simp
              with_reducible rfl
            rotate_left
            · simp only [Act.put, List.setIfInBounds_toArray, List.set_cons_zero, List.set_cons_succ, i64_w, i32_w]
              rfl
            refine pure_ (i := 4) (N := (some 79)) (v := ?_) (a' := ?_) #[true, true, true, true, true, false, false, false, false, false, false, false] rfl rfl (by kernel_rfl) (fun _ _ _ h => h) (Or.inl ⟨by rfl, ?_⟩) ?_ ?_
            rotate_left
            · intro w'
              go_simp
              with_reducible rfl
            rotate_left
            · simp only [Act.put, List.setIfInBounds_toArray, List.set_cons_zero, List.set_cons_succ, i64_w, i32_w]
              rfl
            refine take_ (i := 5) (N := (some 80)) (v := ?_) (a' := ?_) #[true, true, true, true, true, true, false, false, false, false, false, false] rfl rfl (by kernel_rfl) (fun _ _ _ h => h) (Or.inl ⟨by rfl, ?_⟩) hHeld ?_ ?_
            rotate_left
            · rintro w' ⟨s0, s1, s2, s3⟩
              go_simp
              with_reducible rfl
            rotate_left
            · simp only [Act.put, List.setIfInBounds_toArray, List.set_cons_zero, List.set_cons_succ, i64_w, i32_w]
              rfl
            refine pure_ (i := 6) (N := (some 81)) (v := ?_) (a' := ?_) #[true, true, true, true, true, true, true, false, false, false, false, false] rfl rfl (by kernel_rfl) (fun _ _ _ h => h) (Or.inl ⟨by rfl, ?_⟩) ?_ ?_
            rotate_left
            · intro w'
              go_simp
              with_reducible rfl
            rotate_left
            · simp only [Act.put, List.setIfInBounds_toArray, List.set_cons_zero, List.set_cons_succ, i64_w, i32_w]
              rfl
            refine take_ (i := 7) (N := (some 82)) (v := ?_) (a' := ?_) #[true, true, true, true, true, true, true, true, false, false, false, false] rfl rfl (by kernel_rfl) (fun _ _ _ h => h) (Or.inl ⟨by rfl, ?_⟩) hHeld ?_ ?_
            rotate_left
            · rintro w' ⟨s0, s1, s2, s3⟩
              go_simp
              with_reducible rfl
            rotate_left
            · simp only [Act.put, List.setIfInBounds_toArray, List.set_cons_zero, List.set_cons_succ, i64_w, i32_w]
              rfl
            refine pure_ (i := 8) (N := (some 83)) (v := ?_) (a' := ?_) #[true, true, true, true, true, true, true, true, true, false, false, false] rfl rfl (by kernel_rfl) (fun _ _ _ h => h) (Or.inl ⟨by rfl, ?_⟩) ?_ ?_
            rotate_left
            · intro w'
              go_simp
              with_reducible rfl
            rotate_left
            · simp only [Act.put, List.setIfInBounds_toArray, List.set_cons_zero, List.set_cons_succ, i64_w, i32_w]
              rfl
            refine one_ (i := 9) (N := (some 84)) #[true, true, true, true, true, true, true, true, true, true, false, false] rfl rfl (by kernel_rfl) (by decide) (fun K hK => ?_)
            have HSZ : Aside0 (W3.heap.size ≤ W5.heap.size) := ⟨HB4.out.size⟩
            refine goes_ Try.func30 (by kernel_rfl) rfl #[.int .i64 m, .int .i64 cd, .int .i64 a2] (by rfl) rfl rfl (by (try simp only [List.map_toArray, List.map_cons, List.map_nil]); first | done | rfl) ?_
            refine (busbarref11_from.calls 300 m cd a2 (fromL m cd a2) W5 HFR.out).mono ?_
            rintro e W6 ⟨v4, rfl, ho, hb⟩
            refine ⟨_, rfl, ?_⟩
            obtain ⟨A4, c4, e4⟩ := Kd.R_slice ho
            subst e4
            replace HI := Aside0.mk (HI.out.below hb)
            replace H14 := Aside0.mk (blk_below H14.out hb)
            replace H11 := Aside0.mk (blk_below H11.out hb)
            replace HB4 := Aside0.mk (below_step HB4.out hb)
            have HONE : Aside0 ((#[.int .i64 (0), .int .i64 (0), .int .i64 (wd), .int .i64 (a), (.slice A4 (fromL m cd a2).length c4), .slice none 0 0] : Array Value).all (·.oneCell') = true) := ⟨by rw [← Array.all_toList]; simp only [List.all_cons, List.all_nil]; rfl⟩
            have HR4 := Aside0.mk (nil_ok ho)
            clear ho hb
            refine hK.out _ _ (⟨cell_in H11.out 2, cell_in H11.out 1, cell_in H11.out 4, cell_in H11.out 3⟩) (fun hHeld => ?_)
            clear hK K
            refine norm_ (a' := ?_) ?_ ?_
            rotate_left
            · show Act.put _ (some 84) _ = _
              simp only [Act.put, List.setIfInBounds_toArray, List.set_cons_zero, List.set_cons_succ, i64_w, i32_w]
              rfl
            refine pure_ (i := 10) (N := (some 85)) (v := ?_) (a' := ?_) #[true, true, true, true, true, true, true, true, true, true, true, false] rfl rfl (by kernel_rfl) (fun _ _ _ h => h) (Or.inl ⟨by rfl, ?_⟩) ?_ ?_
            rotate_left
            · intro w'
              go_simp
              with_reducible rfl
            rotate_left
            · simp only [Act.put, List.setIfInBounds_toArray, List.set_cons_zero, List.set_cons_succ, i64_w, i32_w]
              rfl
            refine last_ (i := 11) (N := none) #[true, true, true, true, true, true, true, true, true, true, true, true] rfl rfl (by kernel_rfl) (by decide) (fun K hK => ?_)
            rw [if_pos (by rfl)]
            refine wp_store_row 44 (.tmp 14) (.tmp 85) rfl g14 #[.int .i64 (0), .int .i64 (0), .int .i64 (wd), .int .i64 (a), (.slice A4 (fromL m cd a2).length c4), .slice none 0 0] (by rfl) (by rfl) 44 _ H14.out (by kernel_rfl) (by rfl) HONE.out ?_
            have H14s : Aside0 ((W6.setRow g14 #[.int .i64 (0), .int .i64 (0), .int .i64 (wd), .int .i64 (a), (.slice A4 (fromL m cd a2).length c4), .slice none 0 0]).heap[g14]? = some (.cells #[.int .i64 (0), .int .i64 (0), .int .i64 (wd), .int .i64 (a), (.slice A4 (fromL m cd a2).length c4), .slice none 0 0] 44 (0, 0))) := ⟨setRow_heap _ _ _ _ _ _ H14.out⟩
            have HB4s : Aside0 (Below W3.heap.size W3 (W6.setRow g14 #[.int .i64 (0), .int .i64 (0), .int .i64 (wd), .int .i64 (a), (.slice A4 (fromL m cd a2).length c4), .slice none 0 0])) := ⟨Kx.below_setRow HB4.out HL14.out⟩
            have HIs : Aside0 (RI w (W6.setRow g14 #[.int .i64 (0), .int .i64 (0), .int .i64 (wd), .int .i64 (a), (.slice A4 (fromL m cd a2).length c4), .slice none 0 0]) back (.slice A9 back.length c9) (.slice A8 out.length c8) out) := ⟨HI3.out.below HB4s.out⟩
            have HR4s : Aside0 (Kd.R (Kd.int .i64) 3 (W6.setRow g14 #[.int .i64 (0), .int .i64 (0), .int .i64 (wd), .int .i64 (a), (.slice A4 (fromL m cd a2).length c4), .slice none 0 0]) W3.heap.size (fun k => some k ≠ (Value.slice none 0 0).ownBlock) (.slice A4 (fromL m cd a2).length c4) (fromL m cd a2)) := ⟨Kd.R_lower (rset HR4.out HG14.out) (HSZ.out)⟩
            clear HR4
            have HR4 := HR4s
            clear HR4s
            clear HI H14 HB4 H11
            have HI := HIs
            have H14 := H14s
            have HB4 := HB4s
            clear HIs H14s HB4s
            generalize W6.setRow g14 #[.int .i64 (0), .int .i64 (0), .int .i64 (wd), .int .i64 (a), (.slice A4 (fromL m cd a2).length c4), .slice none 0 0] = W9 at *
            refine hK.out _ _ ?_
            clear hK K
            refine norm_ (a' := ?_) ?_ ?_
            rotate_left
            · show Act.put _ none _ = _
              rfl
            refine done_ (by kernel_rfl) ?_
            have hf2 := HF2.out
            clear HF2
            by_cases h32 : 32 ≤ (out.length : Int)
            · rw [if_pos h32] at hf2
              obtain ⟨rfl, rfl⟩ := Prod.mk.inj hf2
              clear hf2
              have d5 : decide (32 ≤ (out.length : Int)) = true := decide_eq_true h32
              have d6 : decide (32 ≤ out.length) = true := decide_eq_true (by omega)
              clear h32
              go_wp2
              go_ret2
              exact ⟨_, rfl, Kd.S_nil _ _ _ _ _, HI.out.b⟩
            · rw [if_neg h32] at hf2
              have HF2 := Aside0.mk hf2
              clear hf2
              have d5 : decide (32 ≤ (out.length : Int)) = false := decide_eq_false h32
              have d6 : decide (32 ≤ out.length) = false := decide_eq_false (by omega)
              have H32 : Aside0 (out.length < 32) := ⟨by omega⟩
              clear h32
              go_wp2_with (first | ((with_reducible refine gate_dst (N := 112) rfl ?_); refine wpList_load_row rfl 44 _ rfl g14 rfl 44 _ (0, 0) _ H14.out Try.underlying44 rfl (by kernel_rfl) ?_; have HP := Aside0.mk (rw_app HI.out (⟨0, 0, wd, a, fromL m cd a2, []⟩ : S76) (N := W3.heap.size) (v4 := (.slice A4 (fromL m cd a2).length c4)) (v5 := .slice none 0 0) HR4.out (Kd.R_nil _ _ _ _ _) (Kd.S_old HI3.out.s HB4.out) (Kd.R_lt HI3.out.r) HB4.out.size (below_size HI3.out.b))) | ((with_reducible refine gate_builtin (b := .append) (xs := #[.tmp 111, .tmp 113]) rfl ?_); at_builtin; refine Kd.S_append k44 (w0 := w) w.heap.size rfl (.tmp 111) (.tmp 113) 35 44 (.agg #[.int .i64 0, .int .i64 0, .int .i64 0, .int .i64 0, .slice none 0 0, .slice none 0 0]) 80 rfl Try.underlying35 info44 rfl (by decide) (by omega) (.slice A8 out.length c8) (out.map s44) (s44 (⟨0, 0, wd, a, fromL m cd a2, []⟩ : S76)) [.int .i64 (0), .int .i64 (0), .int .i64 (wd), .int .i64 (a), (.slice A4 (fromL m cd a2).length c4), .slice none 0 0] (fun k => True ∧ some k ≠ (Value.slice A9 back.length c9).ownBlock) (fun k => some k = ((.slice A4 (fromL m cd a2).length c4) : Value).ownBlock ∨ some k = (.slice none 0 0 : Value).ownBlock) rfl rfl HP.out.1 HP.out.2.1 HP.out.2.2.1 HP.out.2.2.2 HI.out.b (below_size HI.out.b) (by have := H32.out; rw [List.length_map]; omega) ?_; intro v7 W7 hs7 hb7 hg7 hat7; have HI7 := Aside0.mk (ri_app HI.out hs7 hb7 hg7); clear hs7 hb7 hg7 hat7 HP))
              exact ⟨⟨i + 1, nx, back, out ++ [(⟨0, 0, wd, a, fromL m cd a2, []⟩ : S76)], by omega, by simp, rfl, by rw [show 4096 - (i + 1) = n by have := HN.out; omega]; exact HF2.out, HI7.out⟩, by simp [intOf]; omega⟩
          · replace hf2 : (if 32 ≤ (out.length : Int) then ([], 15) else winP a2 code n nx back (out ++ [(⟨0, 0, wd, a, fromL m (-1) a2, [a2]⟩ : S76)])) = (l, er) := hf2
            have HF2 := Aside0.mk hf2
            clear hf2
            have HFR : Aside0 (busbarref11_from.f 300 m (-1) a2 = some (fromL m (-1) a2)) := ⟨rfrom_f _ _ _ (by have := (HRR.out.1 (by decide)).2; omega) (by have := (HRR.out.1 (by decide)).2; omega)⟩
            go_wp2_with (first | ((with_reducible refine gate_dst (N := 11) rfl ?_); refine box_event ?hg (N := 11) ?hd (cs := cc zero7) (t := 84) ?hr ?_; (case hd => rfl); (case hg => rfl); (case hr => first | (go_simp; done) | (go_simp; rfl)); intro g11 hg W2b hbox hb; have H11 := Aside0.mk hbox; have HL11 : Aside0 (W2.heap.size ≤ g11) := ⟨by omega⟩; have HBX := Aside0.mk hb; clear hbox hb hg) | (refine store_rowN (w0 := W2) (B := W2.heap.size) rfl 84 _ _ rfl g11 (cc [2, a, wd, cd, m, bi, t]) rfl rfl 84 _ H11.out (by first | kernel_rfl | (rw [cc_size]; kernel_rfl)) (by rfl) (cc_one _) HBX.out HL11.out ?_; intro W3 hst hb; clear H11 HBX; have H11 := Aside0.mk hst; replace HI := Aside0.mk (HI.out.below hb); clear hst hb; have x0 : W3.cell? ⟨g11, 0, none⟩ = some (.int .i64 2) := cell_in H11.out 0; have x1 : W3.cell? ⟨g11, 1, none⟩ = some (.int .i64 a) := cell_in H11.out 1; have x2 : W3.cell? ⟨g11, 2, none⟩ = some (.int .i64 wd) := cell_in H11.out 2; have x3 : W3.cell? ⟨g11, 3, none⟩ = some (.int .i64 cd) := cell_in H11.out 3; have x4 : W3.cell? ⟨g11, 4, none⟩ = some (.int .i64 m) := cell_in H11.out 4; have x5 : W3.cell? ⟨g11, 5, none⟩ = some (.int .i64 bi) := cell_in H11.out 5; have x6 : W3.cell? ⟨g11, 6, none⟩ = some (.int .i64 t) := cell_in H11.out 6) | ((with_reducible refine gate_dst (N := 14) rfl ?_); refine box_event ?hg (N := 14) ?hd (cs := #[.int .i64 0, .int .i64 0, .int .i64 0, .int .i64 0, .slice none 0 0, .slice none 0 0]) (t := 44) ?hr ?_; (case hd => rfl); (case hg => rfl); (case hr => first | (go_simp; done) | (go_simp; rfl)); intro g14 hg W3b hbox hb; have H14 := Aside0.mk hbox; have HL14 : Aside0 (W3.heap.size ≤ g14) := ⟨by omega⟩; have HBX := Aside0.mk hb; clear hbox hb hg) | (refine store_rowN (w0 := W3) (B := W3.heap.size) rfl 44 _ _ rfl g14 #[.int .i64 2, .int .i64 0, .int .i64 0, .int .i64 0, .slice none 0 0, .slice none 0 0] rfl rfl 44 _ H14.out (by first | kernel_rfl | (rw [cc_size]; kernel_rfl)) (by rfl) (by rw [← Array.all_toList]; rfl) HBX.out HL14.out ?_; intro W4 hst hb; have HI3 := HI; have HB4 := Aside0.mk hb; clear H14 HBX; have H14 := Aside0.mk hst; replace HI := Aside0.mk (HI.out.below hb); replace H11 := Aside0.mk (blk_below H11.out hb); clear hst hb; (try clear x0); (try clear x1); (try clear x2); (try clear x3); (try clear x4); (try clear x5); (try clear x6); have x0 : W4.cell? ⟨g11, 0, none⟩ = some (.int .i64 2) := cell_in H11.out 0; have x1 : W4.cell? ⟨g11, 1, none⟩ = some (.int .i64 a) := cell_in H11.out 1; have x2 : W4.cell? ⟨g11, 2, none⟩ = some (.int .i64 wd) := cell_in H11.out 2; have x3 : W4.cell? ⟨g11, 3, none⟩ = some (.int .i64 cd) := cell_in H11.out 3; have x4 : W4.cell? ⟨g11, 4, none⟩ = some (.int .i64 m) := cell_in H11.out 4; have x5 : W4.cell? ⟨g11, 5, none⟩ = some (.int .i64 bi) := cell_in H11.out 5; have x6 : W4.cell? ⟨g11, 6, none⟩ = some (.int .i64 t) := cell_in H11.out 6))
            refine start_ (n := 12) (S := fun w' => w'.cell? ⟨g11, 2, none⟩ = some (.int .i64 wd) ∧ w'.cell? ⟨g11, 1, none⟩ = some (.int .i64 a) ∧ w'.cell? ⟨g11, 4, none⟩ = some (.int .i64 m)) (ds := [11]) #[false, false, false, false, false, false, false, false, false, false, false, false] (by kernel_rfl) rfl rfl (⟨cell_in H11.out 2, cell_in H11.out 1, cell_in H11.out 4⟩) (fun hHeld => ?_)
            have HI4 : Aside0 (RI w W4.drew back (.slice A9 back.length c9) (.slice A8 out.length c8) out) := ⟨HI3.out.below (below_drew HB4.out)⟩
            have H14d : Aside0 (W4.drew.heap[g14]? = some (.cells #[.int .i64 2, .int .i64 0, .int .i64 0, .int .i64 0, .slice none 0 0, .slice none 0 0] 44 (0, 0))) := ⟨H14.out⟩
            have H11d : Aside0 (W4.drew.heap[g11]? = some (.cells (cc [2, a, wd, cd, m, bi, t]) 84 (0, 0))) := ⟨H11.out⟩
            have HB4d : Aside0 (Below W3.heap.size W3 W4.drew) := ⟨below_drew HB4.out⟩
            (try clear x0)
            (try clear x1)
            (try clear x2)
            (try clear x3)
            (try clear x4)
            (try clear x5)
            (try clear x6)
            clear HI H14 H11 HB4
            generalize W4.drew = W5 at *
            have HI := HI4
            have H14 := H14d
            have H11 := H11d
            have HB4 := HB4d
            clear HI4 H14d H11d HB4d
            have HG14 : Aside0 (g14 < W5.heap.size) := ⟨lt_of_block H14.out⟩
            refine pure_ (i := 0) (N := (some 88)) (v := ?_) (a' := ?_) #[true, false, false, false, false, false, false, false, false, false, false, false] rfl rfl (by kernel_rfl) (fun _ _ _ h => h) (Or.inl ⟨by rfl, ?_⟩) ?_ ?_
            rotate_left
            · intro w'
              go_simp
              with_reducible rfl
            rotate_left
            · simp only [Act.put, List.setIfInBounds_toArray, List.set_cons_zero, List.set_cons_succ, i64_w, i32_w]
              rfl
            refine take_ (i := 1) (N := (some 89)) (v := ?_) (a' := ?_) #[true, true, false, false, false, false, false, false, false, false, false, false] rfl rfl (by kernel_rfl) (fun _ _ _ h => h) (Or.inl ⟨by rfl, ?_⟩) hHeld ?_ ?_
            rotate_left
            · rintro w' ⟨s0, s1, s2⟩
              go_simp
              with_reducible rfl
            rotate_left
            · simp only [Act.put, List.setIfInBounds_toArray, List.set_cons_zero, List.set_cons_succ, i64_w, i32_w]
              rfl
            refine pure_ (i := 2) (N := (some 90)) (v := ?_) (a' := ?_) #[true, true, true, false, false, false, false, false, false, false, false, false] rfl rfl (by kernel_rfl) (fun _ _ _ h => h) (Or.inl ⟨by rfl, ?_⟩) ?_ ?_
            rotate_left
            · intro w'
              go_simp
              with_reducible rfl
            rotate_left
            · simp only [Act.put, List.setIfInBounds_toArray, List.set_cons_zero, List.set_cons_succ, i64_w, i32_w]
              rfl
            refine take_ (i := 3) (N := (some 91)) (v := ?_) (a' := ?_) #[true, true, true, true, false, false, false, false, false, false, false, false] rfl rfl (by kernel_rfl) (fun _ _ _ h => h) (Or.inl ⟨by rfl, ?_⟩) hHeld ?_ ?_
            rotate_left
            · rintro w' ⟨s0, s1, s2⟩
              go_simp
              with_reducible rfl
            rotate_left
            · simp only [Act.put, List.setIfInBounds_toArray, List.set_cons_zero, List.set_cons_succ, i64_w, i32_w]
              rfl
            refine pure_ (i := 4) (N := (some 92)) (v := ?_) (a' := ?_) #[true, true, true, true, true, false, false, false, false, false, false, false] rfl rfl (by kernel_rfl) (fun _ _ _ h => h) (Or.inl ⟨by rfl, ?_⟩) ?_ ?_
            rotate_left
            · intro w'
              go_simp
              with_reducible rfl
            rotate_left
            · simp only [Act.put, List.setIfInBounds_toArray, List.set_cons_zero, List.set_cons_succ, i64_w, i32_w]
              rfl
            refine take_ (i := 5) (N := (some 93)) (v := ?_) (a' := ?_) #[true, true, true, true, true, true, false, false, false, false, false, false] rfl rfl (by kernel_rfl) (fun _ _ _ h => h) (Or.inl ⟨by rfl, ?_⟩) hHeld ?_ ?_
            rotate_left
            · rintro w' ⟨s0, s1, s2⟩
              go_simp
              with_reducible rfl
            rotate_left
            · simp only [Act.put, List.setIfInBounds_toArray, List.set_cons_zero, List.set_cons_succ, i64_w, i32_w]
              rfl
            refine pure_ (i := 6) (N := (some 94)) (v := ?_) (a' := ?_) #[true, true, true, true, true, true, true, false, false, false, false, false] rfl rfl (by kernel_rfl) (fun _ _ _ h => h) (Or.inl ⟨by rfl, ?_⟩) ?_ ?_
            rotate_left
            · intro w'
              go_simp
              with_reducible rfl
            rotate_left
            · simp only [Act.put, List.setIfInBounds_toArray, List.set_cons_zero, List.set_cons_succ, i64_w, i32_w]
              rfl
            refine pure_ (i := 8) (N := (some 96)) (v := ?_) (a' := ?_) #[true, true, true, true, true, true, true, false, true, false, false, false] rfl rfl (by kernel_rfl) (fun _ _ _ h => h) (Or.inl ⟨by rfl, ?_⟩) ?_ ?_
            rotate_left
            · intro w'
              go_simp
              with_reducible rfl
            rotate_left
            · simp only [Act.put, List.setIfInBounds_toArray, List.set_cons_zero, List.set_cons_succ, i64_w, i32_w]
              rfl
            refine join_ (σ := Value × Value) 1 #[true, true, true, true, true, true, true, true, true, true, true, false] (fun s_ => [(95, s_.1), (97, s_.2), (98, .agg #[.int .i64 (0), .int .i64 (0), .int .i64 (wd), .int .i64 (a), s_.1, s_.2])]) (fun s_ W_ => ((fun w' => w'.cell? ⟨g11, 2, none⟩ = some (.int .i64 wd) ∧ w'.cell? ⟨g11, 1, none⟩ = some (.int .i64 a) ∧ w'.cell? ⟨g11, 4, none⟩ = some (.int .i64 m)) W_) ∧ RI w W_ back (.slice A9 back.length c9) (.slice A8 out.length c8) out ∧ W_.heap[g14]? = some (.cells #[.int .i64 2, .int .i64 0, .int .i64 0, .int .i64 0, .slice none 0 0, .slice none 0 0] 44 (0, 0)) ∧ Below W3.heap.size W3 W_ ∧ Kd.R (Kd.int .i64) 3 W_ W5.heap.size (fun k => some k ≠ (s_.2 : Value).ownBlock) s_.1 (fromL m (-1) a2) ∧ Kd.R (Kd.int .i64) 3 W_ W5.heap.size (fun k => some k ≠ (s_.1 : Value).ownBlock) s_.2 [a2]) ?_ ?_
            rotate_left
            · intro hCont
              refine two_ (i := 7) (j := 9) (Ni := some 95) (Nj := some 97) #[true, true, true, true, true, true, true, true, true, false, false, false] #[true, true, true, true, true, true, true, false, true, true, false, false] rfl rfl rfl rfl (by kernel_rfl) (by decide) (by decide) (fun K hK => ?_) (fun K hK => ?_)
              · skip
                refine goes_ Try.func30 (by kernel_rfl) rfl #[.int .i64 m, .int .i64 (-1), .int .i64 a2] (by rfl) rfl rfl (by (try simp only [List.map_toArray, List.map_cons, List.map_nil]); first | done | rfl) ?_
                refine (busbarref11_from.calls 300 m (-1) a2 (fromL m (-1) a2) W5 HFR.out).mono ?_
                rintro e W6 ⟨v4, rfl, ho, hb⟩
                refine ⟨_, rfl, ?_⟩
                have hbw := hb
                obtain ⟨A4, c4, e4⟩ := Kd.R_slice ho
                subst e4
                replace HI := Aside0.mk (HI.out.below hb)
                replace H14 := Aside0.mk (blk_below H14.out hb)
                replace H11 := Aside0.mk (blk_below H11.out hb)
                replace HB4 := Aside0.mk (below_step HB4.out hb)
                refine hK.out _ _ (⟨cell_in H11.out 2, cell_in H11.out 1, cell_in H11.out 4⟩) (fun hHeld => ?_)
                clear hK K
                refine norm_ (a' := ?_) ?_ ?_
                rotate_left
                · show Act.put _ (some 95) _ = _
                  simp only [Act.put, List.setIfInBounds_toArray, List.set_cons_zero, List.set_cons_succ, i64_w, i32_w]
                  rfl
                refine one_ (i := 9) (N := (some 97)) #[true, true, true, true, true, true, true, true, true, true, false, false] rfl rfl (by kernel_rfl) (by decide) (fun K hK => ?_)
                refine value_ (w1 := W6.alloc (.cells #[.int .i64 a2] 3)) (v := .slice (some ⟨W6.heap.size, 0, none⟩) 1 1) (by rfl) rfl ?_ ?_
                · go_simp
                have hl := lit1 W6 a2
                have hb : Below W6.heap.size W6 (W6.alloc (.cells #[.int .i64 a2] 3)) := below_alloc (Below.refl _ _) _
                obtain ⟨g5, hg5⟩ : ∃ g, W6.heap.size = g := ⟨_, rfl⟩
                have HV5B : Aside0 ((Value.slice (some ⟨g5, 0, none⟩) 1 1).ownBlock = some W6.heap.size) := ⟨by rw [hg5]; rfl⟩
                rw [hg5] at hl ⊢
                replace HI := Aside0.mk (HI.out.below hb)
                replace H14 := Aside0.mk (blk_below H14.out hb)
                replace H11 := Aside0.mk (blk_below H11.out hb)
                replace HB4 := Aside0.mk (below_step HB4.out hb)
                have h45 : Kd.R (Kd.int .i64) 3 (W6.alloc (.cells #[.int .i64 a2] 3)) W5.heap.size (fun k => some k ≠ ((.slice (some ⟨g5, 0, none⟩) 1 1) : Value).ownBlock) (.slice A4 (fromL m (-1) a2).length c4) (fromL m (-1) a2) := ri_apart4 ho hb HV5B.out
                have h54 : Kd.R (Kd.int .i64) 3 (W6.alloc (.cells #[.int .i64 a2] 3)) W5.heap.size (fun k => some k ≠ ((.slice A4 (fromL m (-1) a2).length c4) : Value).ownBlock) (.slice (some ⟨g5, 0, none⟩) 1 1) [a2] := ri_apart5 (W6 := W6) (by rw [hg5]; exact hl) hbw.size (fun k hk => Kd.R_lt ho k hk)
                generalize W6.alloc (.cells #[.int .i64 a2] 3) = W7 at *
                refine hK.out _ _ (⟨cell_in H11.out 2, cell_in H11.out 1, cell_in H11.out 4⟩) (fun hHeld => ?_)
                clear hK K
                refine norm_ (a' := ?_) ?_ ?_
                rotate_left
                · show Act.put _ (some 97) _ = _
                  simp only [Act.put, List.setIfInBounds_toArray, List.set_cons_zero, List.set_cons_succ, i64_w, i32_w]
                  rfl
                refine pure_ (i := 10) (N := (some 98)) (v := ?_) (a' := ?_) #[true, true, true, true, true, true, true, true, true, true, true, false] rfl rfl (by kernel_rfl) (fun _ _ _ h => h) (Or.inl ⟨by rfl, ?_⟩) ?_ ?_
                rotate_left
                · intro w'
                  go_simp
                  with_reducible rfl
                rotate_left
                · simp only [Act.put, List.setIfInBounds_toArray, List.set_cons_zero, List.set_cons_succ, i64_w, i32_w]
                  rfl
                exact norm_ (by simp only [putAll, Act.put, List.setIfInBounds_toArray, List.set_cons_zero, List.set_cons_succ]) (hCont ((.slice A4 (fromL m (-1) a2).length c4), (.slice (some ⟨g5, 0, none⟩) 1 1)) _ ⟨hHeld, HI.out, H14.out, HB4.out, h45, h54⟩)
              · skip
                refine value_ (w1 := W5.alloc (.cells #[.int .i64 a2] 3)) (v := .slice (some ⟨W5.heap.size, 0, none⟩) 1 1) (by rfl) rfl ?_ ?_
                · go_simp
                have hl := lit1 W5 a2
                have hb : Below W5.heap.size W5 (W5.alloc (.cells #[.int .i64 a2] 3)) := below_alloc (Below.refl _ _) _
                obtain ⟨g5, hg5⟩ : ∃ g, W5.heap.size = g := ⟨_, rfl⟩
                have HV5B : Aside0 ((Value.slice (some ⟨g5, 0, none⟩) 1 1).ownBlock = some W5.heap.size) := ⟨by rw [hg5]; rfl⟩
                rw [hg5] at hl ⊢
                replace HI := Aside0.mk (HI.out.below hb)
                replace H14 := Aside0.mk (blk_below H14.out hb)
                replace H11 := Aside0.mk (blk_below H11.out hb)
                replace HB4 := Aside0.mk (below_step HB4.out hb)
                have hl2 := hl
                have HV6 : Aside0 (W5.heap.size < (W5.alloc (.cells #[.int .i64 a2] 3)).heap.size) := ⟨by simp⟩
                have hbl := hb
                generalize W5.alloc (.cells #[.int .i64 a2] 3) = W6 at *
                clear hb
                refine hK.out _ _ (⟨cell_in H11.out 2, cell_in H11.out 1, cell_in H11.out 4⟩) (fun hHeld => ?_)
                clear hK K
                refine norm_ (a' := ?_) ?_ ?_
                rotate_left
                · show Act.put _ (some 97) _ = _
                  simp only [Act.put, List.setIfInBounds_toArray, List.set_cons_zero, List.set_cons_succ, i64_w, i32_w]
                  rfl
                refine one_ (i := 7) (N := (some 95)) #[true, true, true, true, true, true, true, true, true, true, false, false] rfl rfl (by kernel_rfl) (by decide) (fun K hK => ?_)
                refine goes_ Try.func30 (by kernel_rfl) rfl #[.int .i64 m, .int .i64 (-1), .int .i64 a2] (by rfl) rfl rfl (by (try simp only [List.map_toArray, List.map_cons, List.map_nil]); first | done | rfl) ?_
                refine (busbarref11_from.calls 300 m (-1) a2 (fromL m (-1) a2) W6 HFR.out).mono ?_
                rintro e W7 ⟨v4, rfl, ho, hb⟩
                refine ⟨_, rfl, ?_⟩
                obtain ⟨A4, c4, e4⟩ := Kd.R_slice ho
                subst e4
                replace HI := Aside0.mk (HI.out.below hb)
                replace H14 := Aside0.mk (blk_below H14.out hb)
                replace H11 := Aside0.mk (blk_below H11.out hb)
                replace HB4 := Aside0.mk (below_step HB4.out hb)
                have h45 : Kd.R (Kd.int .i64) 3 W7 W5.heap.size (fun k => some k ≠ ((.slice (some ⟨g5, 0, none⟩) 1 1) : Value).ownBlock) (.slice A4 (fromL m (-1) a2).length c4) (fromL m (-1) a2) := Kd.R_lower (Kd.R_mono (Kd.R_bound ho) (fun k hk e => by rw [HV5B.out] at e; injection e with e; have := hk.2.1; have := HV6.out; omega)) hbl.size
                have h54 : Kd.R (Kd.int .i64) 3 W7 W5.heap.size (fun k => some k ≠ ((.slice A4 (fromL m (-1) a2).length c4) : Value).ownBlock) (.slice (some ⟨g5, 0, none⟩) 1 1) [a2] := Kd.R_lower (ri_apart6 hl2 hb (fun k hk => Kd.R_base ho k hk)) (by omega)
                refine hK.out _ _ (⟨cell_in H11.out 2, cell_in H11.out 1, cell_in H11.out 4⟩) (fun hHeld => ?_)
                clear hK K
                refine norm_ (a' := ?_) ?_ ?_
                rotate_left
                · show Act.put _ (some 95) _ = _
                  simp only [Act.put, List.setIfInBounds_toArray, List.set_cons_zero, List.set_cons_succ, i64_w, i32_w]
                  rfl
                refine pure_ (i := 10) (N := (some 98)) (v := ?_) (a' := ?_) #[true, true, true, true, true, true, true, true, true, true, true, false] rfl rfl (by kernel_rfl) (fun _ _ _ h => h) (Or.inl ⟨by rfl, ?_⟩) ?_ ?_
                rotate_left
                · intro w'
                  go_simp
                  with_reducible rfl
                rotate_left
                · simp only [Act.put, List.setIfInBounds_toArray, List.set_cons_zero, List.set_cons_succ, i64_w, i32_w]
                  rfl
                exact norm_ (by simp only [putAll, Act.put, List.setIfInBounds_toArray, List.set_cons_zero, List.set_cons_succ]) (hCont ((.slice A4 (fromL m (-1) a2).length c4), (.slice (some ⟨g5, 0, none⟩) 1 1)) _ ⟨hHeld, HI.out, H14.out, HB4.out, h45, h54⟩)
            rintro ⟨v4, v5⟩ W8 ⟨hHeld, hi8, h148, hb8, hr4, hr5⟩
            have HSZ : Aside0 (W3.heap.size ≤ W5.heap.size) := ⟨HB4.out.size⟩
            clear HI H14 H11 HB4
            have HI := Aside0.mk hi8
            have H14 := Aside0.mk h148
            have HB4 := Aside0.mk hb8
            have HR4 := Aside0.mk hr4
            have HR5 := Aside0.mk hr5
            clear hi8 h148 hb8 hr4 hr5
            obtain ⟨A4, c4, e4⟩ := Kd.R_slice HR4.out
            subst e4
            obtain ⟨A5, c5, e5⟩ := Kd.R_slice HR5.out
            subst e5
            have HONE : Aside0 ((#[.int .i64 (0), .int .i64 (0), .int .i64 (wd), .int .i64 (a), (.slice A4 (fromL m (-1) a2).length c4), (.slice A5 [a2].length c5)] : Array Value).all (·.oneCell') = true) := ⟨by rw [← Array.all_toList]; rfl⟩
            refine norm_ (a' := ?_) ?_ ?_
            rotate_left
            · simp only [putAll, Act.put, List.setIfInBounds_toArray, List.set_cons_zero, List.set_cons_succ]
              rfl
            refine last_ (i := 11) (N := none) #[true, true, true, true, true, true, true, true, true, true, true, true] rfl rfl (by kernel_rfl) (by decide) (fun K hK => ?_)
            rw [if_pos (by rfl)]
            refine wp_store_row 44 (.tmp 14) (.tmp 98) rfl g14 #[.int .i64 (0), .int .i64 (0), .int .i64 (wd), .int .i64 (a), (.slice A4 (fromL m (-1) a2).length c4), (.slice A5 [a2].length c5)] (by rfl) (by rfl) 44 _ H14.out (by kernel_rfl) (by rfl) HONE.out ?_
            have H14s : Aside0 ((W8.setRow g14 #[.int .i64 (0), .int .i64 (0), .int .i64 (wd), .int .i64 (a), (.slice A4 (fromL m (-1) a2).length c4), (.slice A5 [a2].length c5)]).heap[g14]? = some (.cells #[.int .i64 (0), .int .i64 (0), .int .i64 (wd), .int .i64 (a), (.slice A4 (fromL m (-1) a2).length c4), (.slice A5 [a2].length c5)] 44 (0, 0))) := ⟨setRow_heap _ _ _ _ _ _ H14.out⟩
            have HB4s : Aside0 (Below W3.heap.size W3 (W8.setRow g14 #[.int .i64 (0), .int .i64 (0), .int .i64 (wd), .int .i64 (a), (.slice A4 (fromL m (-1) a2).length c4), (.slice A5 [a2].length c5)])) := ⟨Kx.below_setRow HB4.out HL14.out⟩
            have HIs : Aside0 (RI w (W8.setRow g14 #[.int .i64 (0), .int .i64 (0), .int .i64 (wd), .int .i64 (a), (.slice A4 (fromL m (-1) a2).length c4), (.slice A5 [a2].length c5)]) back (.slice A9 back.length c9) (.slice A8 out.length c8) out) := ⟨HI3.out.below HB4s.out⟩
            have HR4s : Aside0 (Kd.R (Kd.int .i64) 3 (W8.setRow g14 #[.int .i64 (0), .int .i64 (0), .int .i64 (wd), .int .i64 (a), (.slice A4 (fromL m (-1) a2).length c4), (.slice A5 [a2].length c5)]) W3.heap.size (fun k => some k ≠ ((.slice A5 [a2].length c5) : Value).ownBlock) (.slice A4 (fromL m (-1) a2).length c4) (fromL m (-1) a2)) := ⟨Kd.R_lower (rset HR4.out HG14.out) (HSZ.out)⟩
            have HR5s : Aside0 (Kd.R (Kd.int .i64) 3 (W8.setRow g14 #[.int .i64 (0), .int .i64 (0), .int .i64 (wd), .int .i64 (a), (.slice A4 (fromL m (-1) a2).length c4), (.slice A5 [a2].length c5)]) W3.heap.size (fun k => some k ≠ ((.slice A4 (fromL m (-1) a2).length c4) : Value).ownBlock) (.slice A5 [a2].length c5) [a2]) := ⟨Kd.R_lower (rset HR5.out HG14.out) (HSZ.out)⟩
            clear HR4 HR5
            have HR4 := HR4s
            have HR5 := HR5s
            clear HR4s HR5s
            clear HI H14 HB4
            have HI := HIs
            have H14 := H14s
            have HB4 := HB4s
            clear HIs H14s HB4s
            generalize W8.setRow g14 #[.int .i64 (0), .int .i64 (0), .int .i64 (wd), .int .i64 (a), (.slice A4 (fromL m (-1) a2).length c4), (.slice A5 [a2].length c5)] = W9 at *
            refine hK.out _ _ ?_
            clear hK K
            refine norm_ (a' := ?_) ?_ ?_
            rotate_left
            · show Act.put _ none _ = _
              rfl
            refine done_ (by kernel_rfl) ?_
            have hf2 := HF2.out
            clear HF2
            by_cases h32 : 32 ≤ (out.length : Int)
            · rw [if_pos h32] at hf2
              obtain ⟨rfl, rfl⟩ := Prod.mk.inj hf2
              clear hf2
              have d5 : decide (32 ≤ (out.length : Int)) = true := decide_eq_true h32
              have d6 : decide (32 ≤ out.length) = true := decide_eq_true (by omega)
              clear h32
              go_wp2
              go_ret2
              exact ⟨_, rfl, Kd.S_nil _ _ _ _ _, HI.out.b⟩
            · rw [if_neg h32] at hf2
              have HF2 := Aside0.mk hf2
              clear hf2
              have d5 : decide (32 ≤ (out.length : Int)) = false := decide_eq_false h32
              have d6 : decide (32 ≤ out.length) = false := decide_eq_false (by omega)
              have H32 : Aside0 (out.length < 32) := ⟨by omega⟩
              clear h32
              go_wp2_with (first | ((with_reducible refine gate_dst (N := 112) rfl ?_); refine wpList_load_row rfl 44 _ rfl g14 rfl 44 _ (0, 0) _ H14.out Try.underlying44 rfl (by kernel_rfl) ?_; have HP := Aside0.mk (rw_app HI.out (⟨0, 0, wd, a, fromL m (-1) a2, [a2]⟩ : S76) (N := W3.heap.size) (v4 := (.slice A4 (fromL m (-1) a2).length c4)) (v5 := (.slice A5 [a2].length c5)) HR4.out HR5.out (Kd.S_old HI3.out.s HB4.out) (Kd.R_lt HI3.out.r) HB4.out.size (below_size HI3.out.b))) | ((with_reducible refine gate_builtin (b := .append) (xs := #[.tmp 111, .tmp 113]) rfl ?_); at_builtin; refine Kd.S_append k44 (w0 := w) w.heap.size rfl (.tmp 111) (.tmp 113) 35 44 (.agg #[.int .i64 0, .int .i64 0, .int .i64 0, .int .i64 0, .slice none 0 0, .slice none 0 0]) 80 rfl Try.underlying35 info44 rfl (by decide) (by omega) (.slice A8 out.length c8) (out.map s44) (s44 (⟨0, 0, wd, a, fromL m (-1) a2, [a2]⟩ : S76)) [.int .i64 (0), .int .i64 (0), .int .i64 (wd), .int .i64 (a), (.slice A4 (fromL m (-1) a2).length c4), (.slice A5 [a2].length c5)] (fun k => True ∧ some k ≠ (Value.slice A9 back.length c9).ownBlock) (fun k => some k = ((.slice A4 (fromL m (-1) a2).length c4) : Value).ownBlock ∨ some k = ((.slice A5 [a2].length c5) : Value).ownBlock) rfl rfl HP.out.1 HP.out.2.1 HP.out.2.2.1 HP.out.2.2.2 HI.out.b (below_size HI.out.b) (by have := H32.out; rw [List.length_map]; omega) ?_; intro v7 W7 hs7 hb7 hg7 hat7; have HI7 := Aside0.mk (ri_app HI.out hs7 hb7 hg7); clear hs7 hb7 hg7 hat7 HP))
              exact ⟨⟨i + 1, nx, back, out ++ [(⟨0, 0, wd, a, fromL m (-1) a2, [a2]⟩ : S76)], by omega, by simp, rfl, by rw [show 4096 - (i + 1) = n by have := HN.out; omega]; exact HF2.out, HI7.out⟩, by simp [intOf]; omega⟩
          · replace hf2 : (if 32 ≤ (out.length : Int) then ([], 15) else winP a2 code n nx back (out ++ [(⟨0, 0, wd, 0, fromL m (-1) a2, []⟩ : S76)])) = (l, er) := hf2
            have HF2 := Aside0.mk hf2
            clear hf2
            have HFR : Aside0 (busbarref11_from.f 300 m (-1) a2 = some (fromL m (-1) a2)) := ⟨rfrom_f _ _ _ (by have := (HRR.out.1 (by decide)).2; omega) (by have := (HRR.out.1 (by decide)).2; omega)⟩
            go_wp2_with (first | ((with_reducible refine gate_dst (N := 11) rfl ?_); refine box_event ?hg (N := 11) ?hd (cs := cc zero7) (t := 84) ?hr ?_; (case hd => rfl); (case hg => rfl); (case hr => first | (go_simp; done) | (go_simp; rfl)); intro g11 hg W2b hbox hb; have H11 := Aside0.mk hbox; have HL11 : Aside0 (W2.heap.size ≤ g11) := ⟨by omega⟩; have HBX := Aside0.mk hb; clear hbox hb hg) | (refine store_rowN (w0 := W2) (B := W2.heap.size) rfl 84 _ _ rfl g11 (cc [3, 0, wd, cd, m, bi, t]) rfl rfl 84 _ H11.out (by first | kernel_rfl | (rw [cc_size]; kernel_rfl)) (by rfl) (cc_one _) HBX.out HL11.out ?_; intro W3 hst hb; clear H11 HBX; have H11 := Aside0.mk hst; replace HI := Aside0.mk (HI.out.below hb); clear hst hb; have x0 : W3.cell? ⟨g11, 0, none⟩ = some (.int .i64 3) := cell_in H11.out 0; have x1 : W3.cell? ⟨g11, 1, none⟩ = some (.int .i64 0) := cell_in H11.out 1; have x2 : W3.cell? ⟨g11, 2, none⟩ = some (.int .i64 wd) := cell_in H11.out 2; have x3 : W3.cell? ⟨g11, 3, none⟩ = some (.int .i64 cd) := cell_in H11.out 3; have x4 : W3.cell? ⟨g11, 4, none⟩ = some (.int .i64 m) := cell_in H11.out 4; have x5 : W3.cell? ⟨g11, 5, none⟩ = some (.int .i64 bi) := cell_in H11.out 5; have x6 : W3.cell? ⟨g11, 6, none⟩ = some (.int .i64 t) := cell_in H11.out 6) | ((with_reducible refine gate_dst (N := 14) rfl ?_); refine box_event ?hg (N := 14) ?hd (cs := #[.int .i64 0, .int .i64 0, .int .i64 0, .int .i64 0, .slice none 0 0, .slice none 0 0]) (t := 44) ?hr ?_; (case hd => rfl); (case hg => rfl); (case hr => first | (go_simp; done) | (go_simp; rfl)); intro g14 hg W3b hbox hb; have H14 := Aside0.mk hbox; have HL14 : Aside0 (W3.heap.size ≤ g14) := ⟨by omega⟩; have HBX := Aside0.mk hb; clear hbox hb hg) | (refine store_rowN (w0 := W3) (B := W3.heap.size) rfl 44 _ _ rfl g14 #[.int .i64 2, .int .i64 0, .int .i64 0, .int .i64 0, .slice none 0 0, .slice none 0 0] rfl rfl 44 _ H14.out (by first | kernel_rfl | (rw [cc_size]; kernel_rfl)) (by rfl) (by rw [← Array.all_toList]; rfl) HBX.out HL14.out ?_; intro W4 hst hb; have HI3 := HI; have HB4 := Aside0.mk hb; clear H14 HBX; have H14 := Aside0.mk hst; replace HI := Aside0.mk (HI.out.below hb); replace H11 := Aside0.mk (blk_below H11.out hb); clear hst hb; (try clear x0); (try clear x1); (try clear x2); (try clear x3); (try clear x4); (try clear x5); (try clear x6); have x0 : W4.cell? ⟨g11, 0, none⟩ = some (.int .i64 3) := cell_in H11.out 0; have x1 : W4.cell? ⟨g11, 1, none⟩ = some (.int .i64 0) := cell_in H11.out 1; have x2 : W4.cell? ⟨g11, 2, none⟩ = some (.int .i64 wd) := cell_in H11.out 2; have x3 : W4.cell? ⟨g11, 3, none⟩ = some (.int .i64 cd) := cell_in H11.out 3; have x4 : W4.cell? ⟨g11, 4, none⟩ = some (.int .i64 m) := cell_in H11.out 4; have x5 : W4.cell? ⟨g11, 5, none⟩ = some (.int .i64 bi) := cell_in H11.out 5; have x6 : W4.cell? ⟨g11, 6, none⟩ = some (.int .i64 t) := cell_in H11.out 6))
            refine start_ (n := 8) (S := fun w' => w'.cell? ⟨g11, 2, none⟩ = some (.int .i64 wd) ∧ w'.cell? ⟨g11, 4, none⟩ = some (.int .i64 m)) (ds := [7]) #[false, false, false, false, false, false, false, false] (by kernel_rfl) rfl rfl (⟨cell_in H11.out 2, cell_in H11.out 4⟩) (fun hHeld => ?_)
            have HI4 : Aside0 (RI w W4.drew back (.slice A9 back.length c9) (.slice A8 out.length c8) out) := ⟨HI3.out.below (below_drew HB4.out)⟩
            have H14d : Aside0 (W4.drew.heap[g14]? = some (.cells #[.int .i64 2, .int .i64 0, .int .i64 0, .int .i64 0, .slice none 0 0, .slice none 0 0] 44 (0, 0))) := ⟨H14.out⟩
            have H11d : Aside0 (W4.drew.heap[g11]? = some (.cells (cc [3, 0, wd, cd, m, bi, t]) 84 (0, 0))) := ⟨H11.out⟩
            have HB4d : Aside0 (Below W3.heap.size W3 W4.drew) := ⟨below_drew HB4.out⟩
            (try clear x0)
            (try clear x1)
            (try clear x2)
            (try clear x3)
            (try clear x4)
            (try clear x5)
            (try clear x6)
            clear HI H14 H11 HB4
            generalize W4.drew = W5 at *
            have HI := HI4
            have H14 := H14d
            have H11 := H11d
            have HB4 := HB4d
            clear HI4 H14d H11d HB4d
            have HG14 : Aside0 (g14 < W5.heap.size) := ⟨lt_of_block H14.out⟩
            refine pure_ (i := 0) (N := (some 101)) (v := ?_) (a' := ?_) #[true, false, false, false, false, false, false, false] rfl rfl (by kernel_rfl) (fun _ _ _ h => h) (Or.inl ⟨by rfl, ?_⟩) ?_ ?_
            rotate_left
            · intro w'
              go_simp
              with_reducible rfl
            rotate_left
            · simp only [Act.put, List.setIfInBounds_toArray, List.set_cons_zero, List.set_cons_succ, i64_w, i32_w]
              rfl
            refine take_ (i := 1) (N := (some 102)) (v := ?_) (a' := ?_) #[true, true, false, false, false, false, false, false] rfl rfl (by kernel_rfl) (fun _ _ _ h => h) (Or.inl ⟨by rfl, ?_⟩) hHeld ?_ ?_
            rotate_left
            · rintro w' ⟨s0, s1⟩
              go_simp
              with_reducible rfl
            rotate_left
            · simp only [Act.put, List.setIfInBounds_toArray, List.set_cons_zero, List.set_cons_succ, i64_w, i32_w]
              rfl
            refine pure_ (i := 2) (N := (some 103)) (v := ?_) (a' := ?_) #[true, true, true, false, false, false, false, false] rfl rfl (by kernel_rfl) (fun _ _ _ h => h) (Or.inl ⟨by rfl, ?_⟩) ?_ ?_
            rotate_left
            · intro w'
              go_simp
              with_reducible rfl
            rotate_left
            · simp only [Act.put, List.setIfInBounds_toArray, List.set_cons_zero, List.set_cons_succ, i64_w, i32_w]
              rfl
            refine take_ (i := 3) (N := (some 104)) (v := ?_) (a' := ?_) #[true, true, true, true, false, false, false, false] rfl rfl (by kernel_rfl) (fun _ _ _ h => h) (Or.inl ⟨by rfl, ?_⟩) hHeld ?_ ?_
            rotate_left
            · rintro w' ⟨s0, s1⟩
              go_simp
              with_reducible rfl
            rotate_left
            · simp only [Act.put, List.setIfInBounds_toArray, List.set_cons_zero, List.set_cons_succ, i64_w, i32_w]
              rfl
            refine pure_ (i := 4) (N := (some 105)) (v := ?_) (a' := ?_) #[true, true, true, true, true, false, false, false] rfl rfl (by kernel_rfl) (fun _ _ _ h => h) (Or.inl ⟨by rfl, ?_⟩) ?_ ?_
            rotate_left
            · intro w'
              go_simp
              with_reducible rfl
            rotate_left
            · simp only [Act.put, List.setIfInBounds_toArray, List.set_cons_zero, List.set_cons_succ, i64_w, i32_w]
              rfl
            refine one_ (i := 5) (N := (some 106)) #[true, true, true, true, true, true, false, false] rfl rfl (by kernel_rfl) (by decide) (fun K hK => ?_)
            have HSZ : Aside0 (W3.heap.size ≤ W5.heap.size) := ⟨HB4.out.size⟩
            refine goes_ Try.func30 (by kernel_rfl) rfl #[.int .i64 m, .int .i64 (-1), .int .i64 a2] (by rfl) rfl rfl (by (try simp only [List.map_toArray, List.map_cons, List.map_nil]); first | done | rfl) ?_
            refine (busbarref11_from.calls 300 m (-1) a2 (fromL m (-1) a2) W5 HFR.out).mono ?_
            rintro e W6 ⟨v4, rfl, ho, hb⟩
            refine ⟨_, rfl, ?_⟩
            obtain ⟨A4, c4, e4⟩ := Kd.R_slice ho
            subst e4
            replace HI := Aside0.mk (HI.out.below hb)
            replace H14 := Aside0.mk (blk_below H14.out hb)
            replace H11 := Aside0.mk (blk_below H11.out hb)
            replace HB4 := Aside0.mk (below_step HB4.out hb)
            have HONE : Aside0 ((#[.int .i64 (0), .int .i64 (0), .int .i64 (wd), .int .i64 (0), (.slice A4 (fromL m (-1) a2).length c4), .slice none 0 0] : Array Value).all (·.oneCell') = true) := ⟨by rw [← Array.all_toList]; simp only [List.all_cons, List.all_nil]; rfl⟩
            have HR4 := Aside0.mk (nil_ok ho)
            clear ho hb
            refine hK.out _ _ (⟨cell_in H11.out 2, cell_in H11.out 4⟩) (fun hHeld => ?_)
            clear hK K
            refine norm_ (a' := ?_) ?_ ?_
            rotate_left
            · show Act.put _ (some 106) _ = _
              simp only [Act.put, List.setIfInBounds_toArray, List.set_cons_zero, List.set_cons_succ, i64_w, i32_w]
              rfl
            refine pure_ (i := 6) (N := (some 107)) (v := ?_) (a' := ?_) #[true, true, true, true, true, true, true, false] rfl rfl (by kernel_rfl) (fun _ _ _ h => h) (Or.inl ⟨by rfl, ?_⟩) ?_ ?_
            rotate_left
            · intro w'
              go_simp
              with_reducible rfl
            rotate_left
            · simp only [Act.put, List.setIfInBounds_toArray, List.set_cons_zero, List.set_cons_succ, i64_w, i32_w]
              rfl
            refine last_ (i := 7) (N := none) #[true, true, true, true, true, true, true, true] rfl rfl (by kernel_rfl) (by decide) (fun K hK => ?_)
            rw [if_pos (by rfl)]
            refine wp_store_row 44 (.tmp 14) (.tmp 107) rfl g14 #[.int .i64 (0), .int .i64 (0), .int .i64 (wd), .int .i64 (0), (.slice A4 (fromL m (-1) a2).length c4), .slice none 0 0] (by rfl) (by rfl) 44 _ H14.out (by kernel_rfl) (by rfl) HONE.out ?_
            have H14s : Aside0 ((W6.setRow g14 #[.int .i64 (0), .int .i64 (0), .int .i64 (wd), .int .i64 (0), (.slice A4 (fromL m (-1) a2).length c4), .slice none 0 0]).heap[g14]? = some (.cells #[.int .i64 (0), .int .i64 (0), .int .i64 (wd), .int .i64 (0), (.slice A4 (fromL m (-1) a2).length c4), .slice none 0 0] 44 (0, 0))) := ⟨setRow_heap _ _ _ _ _ _ H14.out⟩
            have HB4s : Aside0 (Below W3.heap.size W3 (W6.setRow g14 #[.int .i64 (0), .int .i64 (0), .int .i64 (wd), .int .i64 (0), (.slice A4 (fromL m (-1) a2).length c4), .slice none 0 0])) := ⟨Kx.below_setRow HB4.out HL14.out⟩
            have HIs : Aside0 (RI w (W6.setRow g14 #[.int .i64 (0), .int .i64 (0), .int .i64 (wd), .int .i64 (0), (.slice A4 (fromL m (-1) a2).length c4), .slice none 0 0]) back (.slice A9 back.length c9) (.slice A8 out.length c8) out) := ⟨HI3.out.below HB4s.out⟩
            have HR4s : Aside0 (Kd.R (Kd.int .i64) 3 (W6.setRow g14 #[.int .i64 (0), .int .i64 (0), .int .i64 (wd), .int .i64 (0), (.slice A4 (fromL m (-1) a2).length c4), .slice none 0 0]) W3.heap.size (fun k => some k ≠ (Value.slice none 0 0).ownBlock) (.slice A4 (fromL m (-1) a2).length c4) (fromL m (-1) a2)) := ⟨Kd.R_lower (rset HR4.out HG14.out) (HSZ.out)⟩
            clear HR4
            have HR4 := HR4s
            clear HR4s
            clear HI H14 HB4 H11
            have HI := HIs
            have H14 := H14s
            have HB4 := HB4s
            clear HIs H14s HB4s
            generalize W6.setRow g14 #[.int .i64 (0), .int .i64 (0), .int .i64 (wd), .int .i64 (0), (.slice A4 (fromL m (-1) a2).length c4), .slice none 0 0] = W9 at *
            refine hK.out _ _ ?_
            clear hK K
            refine norm_ (a' := ?_) ?_ ?_
            rotate_left
            · show Act.put _ none _ = _
              rfl
            refine done_ (by kernel_rfl) ?_
            have hf2 := HF2.out
            clear HF2
            by_cases h32 : 32 ≤ (out.length : Int)
            · rw [if_pos h32] at hf2
              obtain ⟨rfl, rfl⟩ := Prod.mk.inj hf2
              clear hf2
              have d5 : decide (32 ≤ (out.length : Int)) = true := decide_eq_true h32
              have d6 : decide (32 ≤ out.length) = true := decide_eq_true (by omega)
              clear h32
              go_wp2
              go_ret2
              exact ⟨_, rfl, Kd.S_nil _ _ _ _ _, HI.out.b⟩
            · rw [if_neg h32] at hf2
              have HF2 := Aside0.mk hf2
              clear hf2
              have d5 : decide (32 ≤ (out.length : Int)) = false := decide_eq_false h32
              have d6 : decide (32 ≤ out.length) = false := decide_eq_false (by omega)
              have H32 : Aside0 (out.length < 32) := ⟨by omega⟩
              clear h32
              go_wp2_with (first | ((with_reducible refine gate_dst (N := 112) rfl ?_); refine wpList_load_row rfl 44 _ rfl g14 rfl 44 _ (0, 0) _ H14.out Try.underlying44 rfl (by kernel_rfl) ?_; have HP := Aside0.mk (rw_app HI.out (⟨0, 0, wd, 0, fromL m (-1) a2, []⟩ : S76) (N := W3.heap.size) (v4 := (.slice A4 (fromL m (-1) a2).length c4)) (v5 := .slice none 0 0) HR4.out (Kd.R_nil _ _ _ _ _) (Kd.S_old HI3.out.s HB4.out) (Kd.R_lt HI3.out.r) HB4.out.size (below_size HI3.out.b))) | ((with_reducible refine gate_builtin (b := .append) (xs := #[.tmp 111, .tmp 113]) rfl ?_); at_builtin; refine Kd.S_append k44 (w0 := w) w.heap.size rfl (.tmp 111) (.tmp 113) 35 44 (.agg #[.int .i64 0, .int .i64 0, .int .i64 0, .int .i64 0, .slice none 0 0, .slice none 0 0]) 80 rfl Try.underlying35 info44 rfl (by decide) (by omega) (.slice A8 out.length c8) (out.map s44) (s44 (⟨0, 0, wd, 0, fromL m (-1) a2, []⟩ : S76)) [.int .i64 (0), .int .i64 (0), .int .i64 (wd), .int .i64 (0), (.slice A4 (fromL m (-1) a2).length c4), .slice none 0 0] (fun k => True ∧ some k ≠ (Value.slice A9 back.length c9).ownBlock) (fun k => some k = ((.slice A4 (fromL m (-1) a2).length c4) : Value).ownBlock ∨ some k = (.slice none 0 0 : Value).ownBlock) rfl rfl HP.out.1 HP.out.2.1 HP.out.2.2.1 HP.out.2.2.2 HI.out.b (below_size HI.out.b) (by have := H32.out; rw [List.length_map]; omega) ?_; intro v7 W7 hs7 hb7 hg7 hat7; have HI7 := Aside0.mk (ri_app HI.out hs7 hb7 hg7); clear hs7 hb7 hg7 hat7 HP))
              exact ⟨⟨i + 1, nx, back, out ++ [(⟨0, 0, wd, 0, fromL m (-1) a2, []⟩ : S76)], by omega, by simp, rfl, by rw [show 4096 - (i + 1) = n by have := HN.out; omega]; exact HF2.out, HI7.out⟩, by simp [intOf]; omega⟩
          · replace hf2 : (if 32 ≤ (out.length : Int) then ([], 15) else winP a2 code n nx back (out ++ [(⟨1, bi, 0, 0, [], []⟩ : S76)])) = (l, er) := hf2
            by_cases h32 : 32 ≤ (out.length : Int)
            · rw [if_pos h32] at hf2
              obtain ⟨rfl, rfl⟩ := Prod.mk.inj hf2
              clear hf2
              have d5 : decide (32 ≤ (out.length : Int)) = true := decide_eq_true h32
              have d6 : decide (32 ≤ out.length) = true := decide_eq_true (by omega)
              clear h32
              go_wp2_with (first | ((with_reducible refine gate_dst (N := 11) rfl ?_); refine box_event ?hg (N := 11) ?hd (cs := cc zero7) (t := 84) ?hr ?_; (case hd => rfl); (case hg => rfl); (case hr => first | (go_simp; done) | (go_simp; rfl)); intro g11 hg W2b hbox hb; have H11 := Aside0.mk hbox; have HL11 : Aside0 (W2.heap.size ≤ g11) := ⟨by omega⟩; have HBX := Aside0.mk hb; clear hbox hb hg) | (refine store_rowN (w0 := W2) (B := W2.heap.size) rfl 84 _ _ rfl g11 (cc [4, a, wd, cd, m, bi, t]) rfl rfl 84 _ H11.out (by first | kernel_rfl | (rw [cc_size]; kernel_rfl)) (by rfl) (cc_one _) HBX.out HL11.out ?_; intro W3 hst hb; clear H11 HBX; have H11 := Aside0.mk hst; replace HI := Aside0.mk (HI.out.below hb); clear hst hb; have x0 : W3.cell? ⟨g11, 0, none⟩ = some (.int .i64 4) := cell_in H11.out 0; have x1 : W3.cell? ⟨g11, 1, none⟩ = some (.int .i64 a) := cell_in H11.out 1; have x2 : W3.cell? ⟨g11, 2, none⟩ = some (.int .i64 wd) := cell_in H11.out 2; have x3 : W3.cell? ⟨g11, 3, none⟩ = some (.int .i64 cd) := cell_in H11.out 3; have x4 : W3.cell? ⟨g11, 4, none⟩ = some (.int .i64 m) := cell_in H11.out 4; have x5 : W3.cell? ⟨g11, 5, none⟩ = some (.int .i64 bi) := cell_in H11.out 5; have x6 : W3.cell? ⟨g11, 6, none⟩ = some (.int .i64 t) := cell_in H11.out 6) | ((with_reducible refine gate_dst (N := 14) rfl ?_); refine box_event ?hg (N := 14) ?hd (cs := #[.int .i64 0, .int .i64 0, .int .i64 0, .int .i64 0, .slice none 0 0, .slice none 0 0]) (t := 44) ?hr ?_; (case hd => rfl); (case hg => rfl); (case hr => first | (go_simp; done) | (go_simp; rfl)); intro g14 hg W3b hbox hb; have H14 := Aside0.mk hbox; have HL14 : Aside0 (W3.heap.size ≤ g14) := ⟨by omega⟩; have HBX := Aside0.mk hb; clear hbox hb hg) | (refine store_rowN (w0 := W3) (B := W3.heap.size) rfl 44 _ _ rfl g14 #[.int .i64 2, .int .i64 0, .int .i64 0, .int .i64 0, .slice none 0 0, .slice none 0 0] rfl rfl 44 _ H14.out (by first | kernel_rfl | (rw [cc_size]; kernel_rfl)) (by rfl) (by rw [← Array.all_toList]; rfl) HBX.out HL14.out ?_; intro W4 hst hb; have HI3 := HI; have HB4 := Aside0.mk hb; clear H14 HBX; have H14 := Aside0.mk hst; replace HI := Aside0.mk (HI.out.below hb); replace H11 := Aside0.mk (blk_below H11.out hb); clear hst hb; (try clear x0); (try clear x1); (try clear x2); (try clear x3); (try clear x4); (try clear x5); (try clear x6); have x0 : W4.cell? ⟨g11, 0, none⟩ = some (.int .i64 4) := cell_in H11.out 0; have x1 : W4.cell? ⟨g11, 1, none⟩ = some (.int .i64 a) := cell_in H11.out 1; have x2 : W4.cell? ⟨g11, 2, none⟩ = some (.int .i64 wd) := cell_in H11.out 2; have x3 : W4.cell? ⟨g11, 3, none⟩ = some (.int .i64 cd) := cell_in H11.out 3; have x4 : W4.cell? ⟨g11, 4, none⟩ = some (.int .i64 m) := cell_in H11.out 4; have x5 : W4.cell? ⟨g11, 5, none⟩ = some (.int .i64 bi) := cell_in H11.out 5; have x6 : W4.cell? ⟨g11, 6, none⟩ = some (.int .i64 t) := cell_in H11.out 6) | (refine wpList_store_row rfl 44 _ _ rfl g14 #[.int .i64 (1), .int .i64 (bi), .int .i64 (0), .int .i64 (0), .slice none 0 0, .slice none 0 0] rfl rfl 44 _ H14.out (by kernel_rfl) rfl (by rw [← Array.all_toList]; rfl) ?_; have HB5 : Aside0 (Below W3.heap.size W3 (W4.setRow g14 #[.int .i64 (1), .int .i64 (bi), .int .i64 (0), .int .i64 (0), .slice none 0 0, .slice none 0 0])) := ⟨Kx.below_setRow HB4.out HL14.out⟩; have HI5 : Aside0 (RI w (W4.setRow g14 #[.int .i64 (1), .int .i64 (bi), .int .i64 (0), .int .i64 (0), .slice none 0 0, .slice none 0 0]) back (.slice A9 back.length c9) (.slice A8 out.length c8) out) := ⟨HI3.out.below HB5.out⟩; have H145 : Aside0 ((W4.setRow g14 #[.int .i64 (1), .int .i64 (bi), .int .i64 (0), .int .i64 (0), .slice none 0 0, .slice none 0 0]).heap[g14]? = some (.cells #[.int .i64 (1), .int .i64 (bi), .int .i64 (0), .int .i64 (0), .slice none 0 0, .slice none 0 0] 44 (0, 0))) := ⟨setRow_heap _ _ _ _ _ _ H14.out⟩; clear HI H14 HB4 HB5 HI3; have HI := HI5; have H14 := H145; clear HI5 H145; (try clear x0); (try clear x1); (try clear x2); (try clear x3); (try clear x4); (try clear x5); (try clear x6); generalize W4.setRow g14 #[.int .i64 (1), .int .i64 (bi), .int .i64 (0), .int .i64 (0), .slice none 0 0, .slice none 0 0] = W5 at *))
              go_ret2
              exact ⟨_, rfl, Kd.S_nil _ _ _ _ _, HI.out.b⟩
            · rw [if_neg h32] at hf2
              have HF2 := Aside0.mk hf2
              clear hf2
              have d5 : decide (32 ≤ (out.length : Int)) = false := decide_eq_false h32
              have d6 : decide (32 ≤ out.length) = false := decide_eq_false (by omega)
              have H32 : Aside0 (out.length < 32) := ⟨by omega⟩
              clear h32
              go_wp2_with (first | ((with_reducible refine gate_dst (N := 11) rfl ?_); refine box_event ?hg (N := 11) ?hd (cs := cc zero7) (t := 84) ?hr ?_; (case hd => rfl); (case hg => rfl); (case hr => first | (go_simp; done) | (go_simp; rfl)); intro g11 hg W2b hbox hb; have H11 := Aside0.mk hbox; have HL11 : Aside0 (W2.heap.size ≤ g11) := ⟨by omega⟩; have HBX := Aside0.mk hb; clear hbox hb hg) | (refine store_rowN (w0 := W2) (B := W2.heap.size) rfl 84 _ _ rfl g11 (cc [4, a, wd, cd, m, bi, t]) rfl rfl 84 _ H11.out (by first | kernel_rfl | (rw [cc_size]; kernel_rfl)) (by rfl) (cc_one _) HBX.out HL11.out ?_; intro W3 hst hb; clear H11 HBX; have H11 := Aside0.mk hst; replace HI := Aside0.mk (HI.out.below hb); clear hst hb; have x0 : W3.cell? ⟨g11, 0, none⟩ = some (.int .i64 4) := cell_in H11.out 0; have x1 : W3.cell? ⟨g11, 1, none⟩ = some (.int .i64 a) := cell_in H11.out 1; have x2 : W3.cell? ⟨g11, 2, none⟩ = some (.int .i64 wd) := cell_in H11.out 2; have x3 : W3.cell? ⟨g11, 3, none⟩ = some (.int .i64 cd) := cell_in H11.out 3; have x4 : W3.cell? ⟨g11, 4, none⟩ = some (.int .i64 m) := cell_in H11.out 4; have x5 : W3.cell? ⟨g11, 5, none⟩ = some (.int .i64 bi) := cell_in H11.out 5; have x6 : W3.cell? ⟨g11, 6, none⟩ = some (.int .i64 t) := cell_in H11.out 6) | ((with_reducible refine gate_dst (N := 14) rfl ?_); refine box_event ?hg (N := 14) ?hd (cs := #[.int .i64 0, .int .i64 0, .int .i64 0, .int .i64 0, .slice none 0 0, .slice none 0 0]) (t := 44) ?hr ?_; (case hd => rfl); (case hg => rfl); (case hr => first | (go_simp; done) | (go_simp; rfl)); intro g14 hg W3b hbox hb; have H14 := Aside0.mk hbox; have HL14 : Aside0 (W3.heap.size ≤ g14) := ⟨by omega⟩; have HBX := Aside0.mk hb; clear hbox hb hg) | (refine store_rowN (w0 := W3) (B := W3.heap.size) rfl 44 _ _ rfl g14 #[.int .i64 2, .int .i64 0, .int .i64 0, .int .i64 0, .slice none 0 0, .slice none 0 0] rfl rfl 44 _ H14.out (by first | kernel_rfl | (rw [cc_size]; kernel_rfl)) (by rfl) (by rw [← Array.all_toList]; rfl) HBX.out HL14.out ?_; intro W4 hst hb; have HI3 := HI; have HB4 := Aside0.mk hb; clear H14 HBX; have H14 := Aside0.mk hst; replace HI := Aside0.mk (HI.out.below hb); replace H11 := Aside0.mk (blk_below H11.out hb); clear hst hb; (try clear x0); (try clear x1); (try clear x2); (try clear x3); (try clear x4); (try clear x5); (try clear x6); have x0 : W4.cell? ⟨g11, 0, none⟩ = some (.int .i64 4) := cell_in H11.out 0; have x1 : W4.cell? ⟨g11, 1, none⟩ = some (.int .i64 a) := cell_in H11.out 1; have x2 : W4.cell? ⟨g11, 2, none⟩ = some (.int .i64 wd) := cell_in H11.out 2; have x3 : W4.cell? ⟨g11, 3, none⟩ = some (.int .i64 cd) := cell_in H11.out 3; have x4 : W4.cell? ⟨g11, 4, none⟩ = some (.int .i64 m) := cell_in H11.out 4; have x5 : W4.cell? ⟨g11, 5, none⟩ = some (.int .i64 bi) := cell_in H11.out 5; have x6 : W4.cell? ⟨g11, 6, none⟩ = some (.int .i64 t) := cell_in H11.out 6) | (refine wpList_store_row rfl 44 _ _ rfl g14 #[.int .i64 (1), .int .i64 (bi), .int .i64 (0), .int .i64 (0), .slice none 0 0, .slice none 0 0] rfl rfl 44 _ H14.out (by kernel_rfl) rfl (by rw [← Array.all_toList]; rfl) ?_; have HB5 : Aside0 (Below W3.heap.size W3 (W4.setRow g14 #[.int .i64 (1), .int .i64 (bi), .int .i64 (0), .int .i64 (0), .slice none 0 0, .slice none 0 0])) := ⟨Kx.below_setRow HB4.out HL14.out⟩; have HI5 : Aside0 (RI w (W4.setRow g14 #[.int .i64 (1), .int .i64 (bi), .int .i64 (0), .int .i64 (0), .slice none 0 0, .slice none 0 0]) back (.slice A9 back.length c9) (.slice A8 out.length c8) out) := ⟨HI3.out.below HB5.out⟩; have H145 : Aside0 ((W4.setRow g14 #[.int .i64 (1), .int .i64 (bi), .int .i64 (0), .int .i64 (0), .slice none 0 0, .slice none 0 0]).heap[g14]? = some (.cells #[.int .i64 (1), .int .i64 (bi), .int .i64 (0), .int .i64 (0), .slice none 0 0, .slice none 0 0] 44 (0, 0))) := ⟨setRow_heap _ _ _ _ _ _ H14.out⟩; clear HI H14 HB4 HB5 HI3; have HI := HI5; have H14 := H145; clear HI5 H145; (try clear x0); (try clear x1); (try clear x2); (try clear x3); (try clear x4); (try clear x5); (try clear x6); generalize W4.setRow g14 #[.int .i64 (1), .int .i64 (bi), .int .i64 (0), .int .i64 (0), .slice none 0 0, .slice none 0 0] = W5 at *) | ((with_reducible refine gate_dst (N := 112) rfl ?_); refine wpList_load_row rfl 44 _ rfl g14 rfl 44 _ (0, 0) _ H14.out Try.underlying44 rfl (by kernel_rfl) ?_; have HP := Aside0.mk (rw_app HI.out (⟨1, bi, 0, 0, [], []⟩ : S76) (N := W5.heap.size) (v4 := .slice none 0 0) (v5 := .slice none 0 0) (Kd.R_nil _ _ _ _ _) (Kd.R_nil _ _ _ _ _) (Kd.S_mono (Kd.S_bound HI.out.s) (fun k hk => ⟨hk.1, hk.2.2.1⟩)) (Kd.R_lt HI.out.r) (Nat.le_refl _) (below_size HI.out.b))) | ((with_reducible refine gate_builtin (b := .append) (xs := #[.tmp 111, .tmp 113]) rfl ?_); at_builtin; refine Kd.S_append k44 (w0 := w) w.heap.size rfl (.tmp 111) (.tmp 113) 35 44 (.agg #[.int .i64 0, .int .i64 0, .int .i64 0, .int .i64 0, .slice none 0 0, .slice none 0 0]) 80 rfl Try.underlying35 info44 rfl (by decide) (by omega) (.slice A8 out.length c8) (out.map s44) (s44 (⟨1, bi, 0, 0, [], []⟩ : S76)) [.int .i64 (1), .int .i64 (bi), .int .i64 (0), .int .i64 (0), .slice none 0 0, .slice none 0 0] (fun k => True ∧ some k ≠ (Value.slice A9 back.length c9).ownBlock) (fun k => some k = (.slice none 0 0 : Value).ownBlock ∨ some k = (.slice none 0 0 : Value).ownBlock) rfl rfl HP.out.1 HP.out.2.1 HP.out.2.2.1 HP.out.2.2.2 HI.out.b (below_size HI.out.b) (by have := H32.out; rw [List.length_map]; omega) ?_; intro v7 W7 hs7 hb7 hg7 hat7; have HI7 := Aside0.mk (ri_app HI.out hs7 hb7 hg7); clear hs7 hb7 hg7 hat7 HP))
              exact ⟨⟨i + 1, nx, back, out ++ [(⟨1, bi, 0, 0, [], []⟩ : S76)], by omega, by simp, rfl, by rw [show 4096 - (i + 1) = n by have := HN.out; omega]; exact HF2.out, HI7.out⟩, by simp [intOf]; omega⟩
          · replace hf2 : (if 32 ≤ (out.length : Int) then ([], 15) else winP a2 code n nx back (out ++ [(⟨2, 0, 0, 0, [], []⟩ : S76)])) = (l, er) := hf2
            by_cases h32 : 32 ≤ (out.length : Int)
            · rw [if_pos h32] at hf2
              obtain ⟨rfl, rfl⟩ := Prod.mk.inj hf2
              clear hf2
              have d5 : decide (32 ≤ (out.length : Int)) = true := decide_eq_true h32
              have d6 : decide (32 ≤ out.length) = true := decide_eq_true (by omega)
              clear h32
              go_wp2_with (first | ((with_reducible refine gate_dst (N := 11) rfl ?_); refine box_event ?hg (N := 11) ?hd (cs := cc zero7) (t := 84) ?hr ?_; (case hd => rfl); (case hg => rfl); (case hr => first | (go_simp; done) | (go_simp; rfl)); intro g11 hg W2b hbox hb; have H11 := Aside0.mk hbox; have HL11 : Aside0 (W2.heap.size ≤ g11) := ⟨by omega⟩; have HBX := Aside0.mk hb; clear hbox hb hg) | (refine store_rowN (w0 := W2) (B := W2.heap.size) rfl 84 _ _ rfl g11 (cc [5, a, wd, cd, m, bi, t]) rfl rfl 84 _ H11.out (by first | kernel_rfl | (rw [cc_size]; kernel_rfl)) (by rfl) (cc_one _) HBX.out HL11.out ?_; intro W3 hst hb; clear H11 HBX; have H11 := Aside0.mk hst; replace HI := Aside0.mk (HI.out.below hb); clear hst hb; have x0 : W3.cell? ⟨g11, 0, none⟩ = some (.int .i64 5) := cell_in H11.out 0; have x1 : W3.cell? ⟨g11, 1, none⟩ = some (.int .i64 a) := cell_in H11.out 1; have x2 : W3.cell? ⟨g11, 2, none⟩ = some (.int .i64 wd) := cell_in H11.out 2; have x3 : W3.cell? ⟨g11, 3, none⟩ = some (.int .i64 cd) := cell_in H11.out 3; have x4 : W3.cell? ⟨g11, 4, none⟩ = some (.int .i64 m) := cell_in H11.out 4; have x5 : W3.cell? ⟨g11, 5, none⟩ = some (.int .i64 bi) := cell_in H11.out 5; have x6 : W3.cell? ⟨g11, 6, none⟩ = some (.int .i64 t) := cell_in H11.out 6) | ((with_reducible refine gate_dst (N := 14) rfl ?_); refine box_event ?hg (N := 14) ?hd (cs := #[.int .i64 0, .int .i64 0, .int .i64 0, .int .i64 0, .slice none 0 0, .slice none 0 0]) (t := 44) ?hr ?_; (case hd => rfl); (case hg => rfl); (case hr => first | (go_simp; done) | (go_simp; rfl)); intro g14 hg W3b hbox hb; have H14 := Aside0.mk hbox; have HL14 : Aside0 (W3.heap.size ≤ g14) := ⟨by omega⟩; have HBX := Aside0.mk hb; clear hbox hb hg) | (refine store_rowN (w0 := W3) (B := W3.heap.size) rfl 44 _ _ rfl g14 #[.int .i64 2, .int .i64 0, .int .i64 0, .int .i64 0, .slice none 0 0, .slice none 0 0] rfl rfl 44 _ H14.out (by first | kernel_rfl | (rw [cc_size]; kernel_rfl)) (by rfl) (by rw [← Array.all_toList]; rfl) HBX.out HL14.out ?_; intro W4 hst hb; clear H14 HBX; have H14 := Aside0.mk hst; replace HI := Aside0.mk (HI.out.below hb); replace H11 := Aside0.mk (blk_below H11.out hb); clear hst hb; (try clear x0); (try clear x1); (try clear x2); (try clear x3); (try clear x4); (try clear x5); (try clear x6); have x0 : W4.cell? ⟨g11, 0, none⟩ = some (.int .i64 5) := cell_in H11.out 0; have x1 : W4.cell? ⟨g11, 1, none⟩ = some (.int .i64 a) := cell_in H11.out 1; have x2 : W4.cell? ⟨g11, 2, none⟩ = some (.int .i64 wd) := cell_in H11.out 2; have x3 : W4.cell? ⟨g11, 3, none⟩ = some (.int .i64 cd) := cell_in H11.out 3; have x4 : W4.cell? ⟨g11, 4, none⟩ = some (.int .i64 m) := cell_in H11.out 4; have x5 : W4.cell? ⟨g11, 5, none⟩ = some (.int .i64 bi) := cell_in H11.out 5; have x6 : W4.cell? ⟨g11, 6, none⟩ = some (.int .i64 t) := cell_in H11.out 6))
              go_ret2
              exact ⟨_, rfl, Kd.S_nil _ _ _ _ _, HI.out.b⟩
            · rw [if_neg h32] at hf2
              have HF2 := Aside0.mk hf2
              clear hf2
              have d5 : decide (32 ≤ (out.length : Int)) = false := decide_eq_false h32
              have d6 : decide (32 ≤ out.length) = false := decide_eq_false (by omega)
              have H32 : Aside0 (out.length < 32) := ⟨by omega⟩
              clear h32
              go_wp2_with (first | ((with_reducible refine gate_dst (N := 11) rfl ?_); refine box_event ?hg (N := 11) ?hd (cs := cc zero7) (t := 84) ?hr ?_; (case hd => rfl); (case hg => rfl); (case hr => first | (go_simp; done) | (go_simp; rfl)); intro g11 hg W2b hbox hb; have H11 := Aside0.mk hbox; have HL11 : Aside0 (W2.heap.size ≤ g11) := ⟨by omega⟩; have HBX := Aside0.mk hb; clear hbox hb hg) | (refine store_rowN (w0 := W2) (B := W2.heap.size) rfl 84 _ _ rfl g11 (cc [5, a, wd, cd, m, bi, t]) rfl rfl 84 _ H11.out (by first | kernel_rfl | (rw [cc_size]; kernel_rfl)) (by rfl) (cc_one _) HBX.out HL11.out ?_; intro W3 hst hb; clear H11 HBX; have H11 := Aside0.mk hst; replace HI := Aside0.mk (HI.out.below hb); clear hst hb; have x0 : W3.cell? ⟨g11, 0, none⟩ = some (.int .i64 5) := cell_in H11.out 0; have x1 : W3.cell? ⟨g11, 1, none⟩ = some (.int .i64 a) := cell_in H11.out 1; have x2 : W3.cell? ⟨g11, 2, none⟩ = some (.int .i64 wd) := cell_in H11.out 2; have x3 : W3.cell? ⟨g11, 3, none⟩ = some (.int .i64 cd) := cell_in H11.out 3; have x4 : W3.cell? ⟨g11, 4, none⟩ = some (.int .i64 m) := cell_in H11.out 4; have x5 : W3.cell? ⟨g11, 5, none⟩ = some (.int .i64 bi) := cell_in H11.out 5; have x6 : W3.cell? ⟨g11, 6, none⟩ = some (.int .i64 t) := cell_in H11.out 6) | ((with_reducible refine gate_dst (N := 14) rfl ?_); refine box_event ?hg (N := 14) ?hd (cs := #[.int .i64 0, .int .i64 0, .int .i64 0, .int .i64 0, .slice none 0 0, .slice none 0 0]) (t := 44) ?hr ?_; (case hd => rfl); (case hg => rfl); (case hr => first | (go_simp; done) | (go_simp; rfl)); intro g14 hg W3b hbox hb; have H14 := Aside0.mk hbox; have HL14 : Aside0 (W3.heap.size ≤ g14) := ⟨by omega⟩; have HBX := Aside0.mk hb; clear hbox hb hg) | (refine store_rowN (w0 := W3) (B := W3.heap.size) rfl 44 _ _ rfl g14 #[.int .i64 2, .int .i64 0, .int .i64 0, .int .i64 0, .slice none 0 0, .slice none 0 0] rfl rfl 44 _ H14.out (by first | kernel_rfl | (rw [cc_size]; kernel_rfl)) (by rfl) (by rw [← Array.all_toList]; rfl) HBX.out HL14.out ?_; intro W4 hst hb; clear H14 HBX; have H14 := Aside0.mk hst; replace HI := Aside0.mk (HI.out.below hb); replace H11 := Aside0.mk (blk_below H11.out hb); clear hst hb; (try clear x0); (try clear x1); (try clear x2); (try clear x3); (try clear x4); (try clear x5); (try clear x6); have x0 : W4.cell? ⟨g11, 0, none⟩ = some (.int .i64 5) := cell_in H11.out 0; have x1 : W4.cell? ⟨g11, 1, none⟩ = some (.int .i64 a) := cell_in H11.out 1; have x2 : W4.cell? ⟨g11, 2, none⟩ = some (.int .i64 wd) := cell_in H11.out 2; have x3 : W4.cell? ⟨g11, 3, none⟩ = some (.int .i64 cd) := cell_in H11.out 3; have x4 : W4.cell? ⟨g11, 4, none⟩ = some (.int .i64 m) := cell_in H11.out 4; have x5 : W4.cell? ⟨g11, 5, none⟩ = some (.int .i64 bi) := cell_in H11.out 5; have x6 : W4.cell? ⟨g11, 6, none⟩ = some (.int .i64 t) := cell_in H11.out 6) | ((with_reducible refine gate_dst (N := 112) rfl ?_); refine wpList_load_row rfl 44 _ rfl g14 rfl 44 _ (0, 0) _ H14.out Try.underlying44 rfl (by kernel_rfl) ?_; have HP := Aside0.mk (rw_app HI.out (⟨2, 0, 0, 0, [], []⟩ : S76) (N := W4.heap.size) (v4 := .slice none 0 0) (v5 := .slice none 0 0) (Kd.R_nil _ _ _ _ _) (Kd.R_nil _ _ _ _ _) (Kd.S_mono (Kd.S_bound HI.out.s) (fun k hk => ⟨hk.1, hk.2.2.1⟩)) (Kd.R_lt HI.out.r) (Nat.le_refl _) (below_size HI.out.b))) | ((with_reducible refine gate_builtin (b := .append) (xs := #[.tmp 111, .tmp 113]) rfl ?_); at_builtin; refine Kd.S_append k44 (w0 := w) w.heap.size rfl (.tmp 111) (.tmp 113) 35 44 (.agg #[.int .i64 0, .int .i64 0, .int .i64 0, .int .i64 0, .slice none 0 0, .slice none 0 0]) 80 rfl Try.underlying35 info44 rfl (by decide) (by omega) (.slice A8 out.length c8) (out.map s44) (s44 (⟨2, 0, 0, 0, [], []⟩ : S76)) [.int .i64 (2), .int .i64 (0), .int .i64 (0), .int .i64 (0), .slice none 0 0, .slice none 0 0] (fun k => True ∧ some k ≠ (Value.slice A9 back.length c9).ownBlock) (fun k => some k = (.slice none 0 0 : Value).ownBlock ∨ some k = (.slice none 0 0 : Value).ownBlock) rfl rfl HP.out.1 HP.out.2.1 HP.out.2.2.1 HP.out.2.2.2 HI.out.b (below_size HI.out.b) (by have := H32.out; rw [List.length_map]; omega) ?_; intro v7 W7 hs7 hb7 hg7 hat7; have HI7 := Aside0.mk (ri_app HI.out hs7 hb7 hg7); clear hs7 hb7 hg7 hat7 HP))
              exact ⟨⟨i + 1, nx, back, out ++ [(⟨2, 0, 0, 0, [], []⟩ : S76)], by omega, by simp, rfl, by rw [show 4096 - (i + 1) = n by have := HN.out; omega]; exact HF2.out, HI7.out⟩, by simp [intOf]; omega⟩
          · replace hf2 : (if (if 4 ≤ back.length then ((14, nx, back) : Int × Int × List Int) else (0, t, back ++ [nx])).1 = 0 then winP a2 code n (if 4 ≤ back.length then ((14, nx, back) : Int × Int × List Int) else (0, t, back ++ [nx])).2.1 (if 4 ≤ back.length then ((14, nx, back) : Int × Int × List Int) else (0, t, back ++ [nx])).2.2 out else ([], (if 4 ≤ back.length then ((14, nx, back) : Int × Int × List Int) else (0, t, back ++ [nx])).1)) = (l, er) := hf2
            by_cases h4 : 4 ≤ back.length
            · rw [if_pos h4] at hf2
              rw [if_neg (show ¬ (14 : Int) = 0 by decide)] at hf2
              obtain ⟨rfl, rfl⟩ := Prod.mk.inj hf2
              clear hf2
              have d5 : decide (4 ≤ (back.length : Int)) = true := decide_eq_true (by omega)
              have d6 : decide (4 ≤ back.length) = true := decide_eq_true h4
              clear h4
              go_wp2_with (first | ((with_reducible refine gate_dst (N := 11) rfl ?_); refine box_event ?hg (N := 11) ?hd (cs := cc zero7) (t := 84) ?hr ?_; (case hd => rfl); (case hg => rfl); (case hr => first | (go_simp; done) | (go_simp; rfl)); intro g11 hg W2b hbox hb; have H11 := Aside0.mk hbox; have HL11 : Aside0 (W2.heap.size ≤ g11) := ⟨by omega⟩; have HBX := Aside0.mk hb; clear hbox hb hg) | (refine store_rowN (w0 := W2) (B := W2.heap.size) rfl 84 _ _ rfl g11 (cc [6, a, wd, cd, m, bi, t]) rfl rfl 84 _ H11.out (by first | kernel_rfl | (rw [cc_size]; kernel_rfl)) (by rfl) (cc_one _) HBX.out HL11.out ?_; intro W3 hst hb; clear H11 HBX; have H11 := Aside0.mk hst; replace HI := Aside0.mk (HI.out.below hb); clear hst hb; have x0 : W3.cell? ⟨g11, 0, none⟩ = some (.int .i64 6) := cell_in H11.out 0; have x1 : W3.cell? ⟨g11, 1, none⟩ = some (.int .i64 a) := cell_in H11.out 1; have x2 : W3.cell? ⟨g11, 2, none⟩ = some (.int .i64 wd) := cell_in H11.out 2; have x3 : W3.cell? ⟨g11, 3, none⟩ = some (.int .i64 cd) := cell_in H11.out 3; have x4 : W3.cell? ⟨g11, 4, none⟩ = some (.int .i64 m) := cell_in H11.out 4; have x5 : W3.cell? ⟨g11, 5, none⟩ = some (.int .i64 bi) := cell_in H11.out 5; have x6 : W3.cell? ⟨g11, 6, none⟩ = some (.int .i64 t) := cell_in H11.out 6) | ((with_reducible refine gate_dst (N := 14) rfl ?_); refine box_event ?hg (N := 14) ?hd (cs := #[.int .i64 0, .int .i64 0, .int .i64 0, .int .i64 0, .slice none 0 0, .slice none 0 0]) (t := 44) ?hr ?_; (case hd => rfl); (case hg => rfl); (case hr => first | (go_simp; done) | (go_simp; rfl)); intro g14 hg W3b hbox hb; have H14 := Aside0.mk hbox; have HL14 : Aside0 (W3.heap.size ≤ g14) := ⟨by omega⟩; have HBX := Aside0.mk hb; clear hbox hb hg) | (refine store_rowN (w0 := W3) (B := W3.heap.size) rfl 44 _ _ rfl g14 #[.int .i64 2, .int .i64 0, .int .i64 0, .int .i64 0, .slice none 0 0, .slice none 0 0] rfl rfl 44 _ H14.out (by first | kernel_rfl | (rw [cc_size]; kernel_rfl)) (by rfl) (by rw [← Array.all_toList]; rfl) HBX.out HL14.out ?_; intro W4 hst hb; clear H14 HBX; have H14 := Aside0.mk hst; replace HI := Aside0.mk (HI.out.below hb); replace H11 := Aside0.mk (blk_below H11.out hb); clear hst hb; (try clear x0); (try clear x1); (try clear x2); (try clear x3); (try clear x4); (try clear x5); (try clear x6); have x0 : W4.cell? ⟨g11, 0, none⟩ = some (.int .i64 6) := cell_in H11.out 0; have x1 : W4.cell? ⟨g11, 1, none⟩ = some (.int .i64 a) := cell_in H11.out 1; have x2 : W4.cell? ⟨g11, 2, none⟩ = some (.int .i64 wd) := cell_in H11.out 2; have x3 : W4.cell? ⟨g11, 3, none⟩ = some (.int .i64 cd) := cell_in H11.out 3; have x4 : W4.cell? ⟨g11, 4, none⟩ = some (.int .i64 m) := cell_in H11.out 4; have x5 : W4.cell? ⟨g11, 5, none⟩ = some (.int .i64 bi) := cell_in H11.out 5; have x6 : W4.cell? ⟨g11, 6, none⟩ = some (.int .i64 t) := cell_in H11.out 6))
              go_ret2
              exact ⟨_, rfl, Kd.S_nil _ _ _ _ _, HI.out.b⟩
            · rw [if_neg h4] at hf2
              rw [if_pos (show (0 : Int) = 0 from rfl)] at hf2
              have HF2 := Aside0.mk hf2
              clear hf2
              have d5 : decide (4 ≤ (back.length : Int)) = false := decide_eq_false (by omega)
              have d6 : decide (4 ≤ back.length) = false := decide_eq_false h4
              have HBL : Aside0 (back.length < 4) := ⟨by omega⟩
              clear h4
              go_wp2_with (first | ((with_reducible refine gate_dst (N := 11) rfl ?_); refine box_event ?hg (N := 11) ?hd (cs := cc zero7) (t := 84) ?hr ?_; (case hd => rfl); (case hg => rfl); (case hr => first | (go_simp; done) | (go_simp; rfl)); intro g11 hg W2b hbox hb; have H11 := Aside0.mk hbox; have HL11 : Aside0 (W2.heap.size ≤ g11) := ⟨by omega⟩; have HBX := Aside0.mk hb; clear hbox hb hg) | (refine store_rowN (w0 := W2) (B := W2.heap.size) rfl 84 _ _ rfl g11 (cc [6, a, wd, cd, m, bi, t]) rfl rfl 84 _ H11.out (by first | kernel_rfl | (rw [cc_size]; kernel_rfl)) (by rfl) (cc_one _) HBX.out HL11.out ?_; intro W3 hst hb; clear H11 HBX; have H11 := Aside0.mk hst; replace HI := Aside0.mk (HI.out.below hb); clear hst hb; have x0 : W3.cell? ⟨g11, 0, none⟩ = some (.int .i64 6) := cell_in H11.out 0; have x1 : W3.cell? ⟨g11, 1, none⟩ = some (.int .i64 a) := cell_in H11.out 1; have x2 : W3.cell? ⟨g11, 2, none⟩ = some (.int .i64 wd) := cell_in H11.out 2; have x3 : W3.cell? ⟨g11, 3, none⟩ = some (.int .i64 cd) := cell_in H11.out 3; have x4 : W3.cell? ⟨g11, 4, none⟩ = some (.int .i64 m) := cell_in H11.out 4; have x5 : W3.cell? ⟨g11, 5, none⟩ = some (.int .i64 bi) := cell_in H11.out 5; have x6 : W3.cell? ⟨g11, 6, none⟩ = some (.int .i64 t) := cell_in H11.out 6) | ((with_reducible refine gate_dst (N := 14) rfl ?_); refine box_event ?hg (N := 14) ?hd (cs := #[.int .i64 0, .int .i64 0, .int .i64 0, .int .i64 0, .slice none 0 0, .slice none 0 0]) (t := 44) ?hr ?_; (case hd => rfl); (case hg => rfl); (case hr => first | (go_simp; done) | (go_simp; rfl)); intro g14 hg W3b hbox hb; have H14 := Aside0.mk hbox; have HL14 : Aside0 (W3.heap.size ≤ g14) := ⟨by omega⟩; have HBX := Aside0.mk hb; clear hbox hb hg) | (refine store_rowN (w0 := W3) (B := W3.heap.size) rfl 44 _ _ rfl g14 #[.int .i64 2, .int .i64 0, .int .i64 0, .int .i64 0, .slice none 0 0, .slice none 0 0] rfl rfl 44 _ H14.out (by first | kernel_rfl | (rw [cc_size]; kernel_rfl)) (by rfl) (by rw [← Array.all_toList]; rfl) HBX.out HL14.out ?_; intro W4 hst hb; clear H14 HBX; have H14 := Aside0.mk hst; replace HI := Aside0.mk (HI.out.below hb); replace H11 := Aside0.mk (blk_below H11.out hb); clear hst hb; (try clear x0); (try clear x1); (try clear x2); (try clear x3); (try clear x4); (try clear x5); (try clear x6); have x0 : W4.cell? ⟨g11, 0, none⟩ = some (.int .i64 6) := cell_in H11.out 0; have x1 : W4.cell? ⟨g11, 1, none⟩ = some (.int .i64 a) := cell_in H11.out 1; have x2 : W4.cell? ⟨g11, 2, none⟩ = some (.int .i64 wd) := cell_in H11.out 2; have x3 : W4.cell? ⟨g11, 3, none⟩ = some (.int .i64 cd) := cell_in H11.out 3; have x4 : W4.cell? ⟨g11, 4, none⟩ = some (.int .i64 m) := cell_in H11.out 4; have x5 : W4.cell? ⟨g11, 5, none⟩ = some (.int .i64 bi) := cell_in H11.out 5; have x6 : W4.cell? ⟨g11, 6, none⟩ = some (.int .i64 t) := cell_in H11.out 6) | ((with_reducible refine gate_builtin (b := .append) (xs := #[.tmp 42, .tmp 44]) rfl ?_); at_builtin; refine Kd.R_append (Kd.int .i64) (w0 := w) w.heap.size rfl (.tmp 42) (.tmp 44) 42 3 (.int .i64 0) 8 rfl Try.underlying42 info3 rfl (by decide) (by omega) (.slice A9 back.length c9) back nx [.int .i64 nx] (fun _ => True) (fun _ => False) rfl rfl rfl (fun _ hk => hk.elim) (fun _ _ => trivial) HI.out.r HI.out.b (below_size HI.out.b) (by have := HBL.out; omega) ?_; intro v7 W7 hr7 hb7 hg7 hat7; have HI7 : Aside0 (RI w W7 (back ++ [nx]) v7 (.slice A8 out.length c8) out) := ⟨⟨hr7, Kd.S_after HI.out.s hg7 hat7, hb7⟩⟩; have H117 := Aside0.mk (blk_grown H11.out hg7 (Kd.R_ne HI.out.r H11.out (by decide))); clear hr7 hb7 hg7 hat7; have z6 : W7.cell? ⟨g11, 6, none⟩ = some (.int .i64 t) := cell_in H117.out 6))
              exact ⟨⟨i + 1, t, back ++ [nx], out, by omega, by simp, rfl, by rw [show 4096 - (i + 1) = n by have := HN.out; omega]; exact HF2.out, HI7.out⟩, by simp [intOf]; omega⟩
          · by_cases h0 : back.length = 0
            · have e : turnF 7 t nx back = (11, nx, back) := by rw [turnF, if_neg (by decide), if_neg (by decide), if_pos rfl, if_pos h0]
              rw [e] at hf2
              replace hf2 : (([], 11) : List S76 × Int) = (l, er) := hf2
              obtain ⟨rfl, rfl⟩ := Prod.mk.inj hf2
              clear hf2 e
              have d5 : ((back.length : Int) == 0) = true := by rw [h0]; rfl
              have d6 : (back.length == 0) = true := by rw [h0]; rfl
              clear h0
              go_wp2_with (first | ((with_reducible refine gate_dst (N := 11) rfl ?_); refine box_event ?hg (N := 11) ?hd (cs := cc zero7) (t := 84) ?hr ?_; (case hd => rfl); (case hg => rfl); (case hr => first | (go_simp; done) | (go_simp; rfl)); intro g11 hg W2b hbox hb; have H11 := Aside0.mk hbox; have HL11 : Aside0 (W2.heap.size ≤ g11) := ⟨by omega⟩; have HBX := Aside0.mk hb; clear hbox hb hg) | (refine store_rowN (w0 := W2) (B := W2.heap.size) rfl 84 _ _ rfl g11 (cc [7, a, wd, cd, m, bi, t]) rfl rfl 84 _ H11.out (by first | kernel_rfl | (rw [cc_size]; kernel_rfl)) (by rfl) (cc_one _) HBX.out HL11.out ?_; intro W3 hst hb; clear H11 HBX; have H11 := Aside0.mk hst; replace HI := Aside0.mk (HI.out.below hb); clear hst hb; have x0 : W3.cell? ⟨g11, 0, none⟩ = some (.int .i64 7) := cell_in H11.out 0; have x1 : W3.cell? ⟨g11, 1, none⟩ = some (.int .i64 a) := cell_in H11.out 1; have x2 : W3.cell? ⟨g11, 2, none⟩ = some (.int .i64 wd) := cell_in H11.out 2; have x3 : W3.cell? ⟨g11, 3, none⟩ = some (.int .i64 cd) := cell_in H11.out 3; have x4 : W3.cell? ⟨g11, 4, none⟩ = some (.int .i64 m) := cell_in H11.out 4; have x5 : W3.cell? ⟨g11, 5, none⟩ = some (.int .i64 bi) := cell_in H11.out 5; have x6 : W3.cell? ⟨g11, 6, none⟩ = some (.int .i64 t) := cell_in H11.out 6) | ((with_reducible refine gate_dst (N := 14) rfl ?_); refine box_event ?hg (N := 14) ?hd (cs := #[.int .i64 0, .int .i64 0, .int .i64 0, .int .i64 0, .slice none 0 0, .slice none 0 0]) (t := 44) ?hr ?_; (case hd => rfl); (case hg => rfl); (case hr => first | (go_simp; done) | (go_simp; rfl)); intro g14 hg W3b hbox hb; have H14 := Aside0.mk hbox; have HL14 : Aside0 (W3.heap.size ≤ g14) := ⟨by omega⟩; have HBX := Aside0.mk hb; clear hbox hb hg) | (refine store_rowN (w0 := W3) (B := W3.heap.size) rfl 44 _ _ rfl g14 #[.int .i64 2, .int .i64 0, .int .i64 0, .int .i64 0, .slice none 0 0, .slice none 0 0] rfl rfl 44 _ H14.out (by first | kernel_rfl | (rw [cc_size]; kernel_rfl)) (by rfl) (by rw [← Array.all_toList]; rfl) HBX.out HL14.out ?_; intro W4 hst hb; clear H14 HBX; have H14 := Aside0.mk hst; replace HI := Aside0.mk (HI.out.below hb); replace H11 := Aside0.mk (blk_below H11.out hb); clear hst hb; (try clear x0); (try clear x1); (try clear x2); (try clear x3); (try clear x4); (try clear x5); (try clear x6); have x0 : W4.cell? ⟨g11, 0, none⟩ = some (.int .i64 7) := cell_in H11.out 0; have x1 : W4.cell? ⟨g11, 1, none⟩ = some (.int .i64 a) := cell_in H11.out 1; have x2 : W4.cell? ⟨g11, 2, none⟩ = some (.int .i64 wd) := cell_in H11.out 2; have x3 : W4.cell? ⟨g11, 3, none⟩ = some (.int .i64 cd) := cell_in H11.out 3; have x4 : W4.cell? ⟨g11, 4, none⟩ = some (.int .i64 m) := cell_in H11.out 4; have x5 : W4.cell? ⟨g11, 5, none⟩ = some (.int .i64 bi) := cell_in H11.out 5; have x6 : W4.cell? ⟨g11, 6, none⟩ = some (.int .i64 t) := cell_in H11.out 6))
              go_ret2
              exact ⟨_, rfl, Kd.S_nil _ _ _ _ _, HI.out.b⟩
            · have e : turnF 7 t nx back = (0, rd back ((back.length : Int) - 1), back.take (back.length - 1)) := by rw [turnF, if_neg (by decide), if_neg (by decide), if_pos rfl, if_neg h0]
              rw [e] at hf2
              replace hf2 : winP a2 code n (rd back ((back.length : Int) - 1)) (back.take (back.length - 1)) out = (l, er) := hf2
              obtain ⟨q, hq⟩ : ∃ q, back.length = q + 1 := ⟨back.length - 1, by omega⟩
              rw [show (back.length : Int) - 1 = (q : Int) by omega, show back.length - 1 = q by omega] at hf2
              obtain ⟨g, c', ev, hg1, hg2, _⟩ := Kd.R_form HI.out.r (by omega)
              injection ev with eA _ ec
              subst eA
              subst ec
              have HF2 := Aside0.mk hf2
              have hml : back.length ≤ 9223372036854775807 := (Kd.R_reads' HI.out.r).2.2.2.1
              have hwm : wrap64 ((back.length : Int) - 1) = (q : Int) := by unfold wrap64; omega
              have hwm2 : (back.length : Int) - 1 = (q : Int) := by omega
              have pmc : (q ≤ c9) = True := eq_true (by have := (Kd.R_reads' HI.out.r).2.1; omega)
              have p0 : ((q : Int) < (back.length : Int)) = True := eq_true (by omega)
              have p0n : (q < back.length) = True := eq_true (by omega)
              have d5 : ((back.length : Int) == 0) = false := by rw [beq_eq_false_iff_ne]; omega
              have d6 : (back.length == 0) = false := by rw [beq_eq_false_iff_ne]; omega
              have HQ := Aside0.mk hq
              clear hf2 e h0 hq
              obtain ⟨z, hz⟩ : ∃ z, rd back (q : Int) = z := ⟨_, rfl⟩
              have HZ := Aside0.mk hz
              clear hz
              have HZC : Aside0 (∀ W, RI w W back (.slice (some ⟨g, 0, none⟩) back.length c9) (.slice A8 out.length c8) out → W.cell? ⟨g, q, none⟩ = some (.int .i64 z)) := ⟨fun W h => by
                obtain ⟨ad, eA, hz⟩ := Kd.at_int (Kd.R_reads' h.r).2.2 (q : Int) (by omega) (by have := HQ.out; omega)
                obtain rfl := Option.some.inj eA
                rw [addr0_add, Int.toNat_natCast, HZ.out] at hz
                exact hz⟩
              go_wp2_with (first | ((with_reducible refine gate_dst (N := 11) rfl ?_); refine box_event ?hg (N := 11) ?hd (cs := cc zero7) (t := 84) ?hr ?_; (case hd => rfl); (case hg => rfl); (case hr => first | (go_simp; done) | (go_simp; rfl)); intro g11 hg W2b hbox hb; have H11 := Aside0.mk hbox; have HL11 : Aside0 (W2.heap.size ≤ g11) := ⟨by omega⟩; have HBX := Aside0.mk hb; clear hbox hb hg) | (refine store_rowN (w0 := W2) (B := W2.heap.size) rfl 84 _ _ rfl g11 (cc [7, a, wd, cd, m, bi, t]) rfl rfl 84 _ H11.out (by first | kernel_rfl | (rw [cc_size]; kernel_rfl)) (by rfl) (cc_one _) HBX.out HL11.out ?_; intro W3 hst hb; clear H11 HBX; have H11 := Aside0.mk hst; replace HI := Aside0.mk (HI.out.below hb); clear hst hb; have x0 : W3.cell? ⟨g11, 0, none⟩ = some (.int .i64 7) := cell_in H11.out 0; have x1 : W3.cell? ⟨g11, 1, none⟩ = some (.int .i64 a) := cell_in H11.out 1; have x2 : W3.cell? ⟨g11, 2, none⟩ = some (.int .i64 wd) := cell_in H11.out 2; have x3 : W3.cell? ⟨g11, 3, none⟩ = some (.int .i64 cd) := cell_in H11.out 3; have x4 : W3.cell? ⟨g11, 4, none⟩ = some (.int .i64 m) := cell_in H11.out 4; have x5 : W3.cell? ⟨g11, 5, none⟩ = some (.int .i64 bi) := cell_in H11.out 5; have x6 : W3.cell? ⟨g11, 6, none⟩ = some (.int .i64 t) := cell_in H11.out 6) | ((with_reducible refine gate_dst (N := 14) rfl ?_); refine box_event ?hg (N := 14) ?hd (cs := #[.int .i64 0, .int .i64 0, .int .i64 0, .int .i64 0, .slice none 0 0, .slice none 0 0]) (t := 44) ?hr ?_; (case hd => rfl); (case hg => rfl); (case hr => first | (go_simp; done) | (go_simp; rfl)); intro g14 hg W3b hbox hb; have H14 := Aside0.mk hbox; have HL14 : Aside0 (W3.heap.size ≤ g14) := ⟨by omega⟩; have HBX := Aside0.mk hb; clear hbox hb hg) | (refine store_rowN (w0 := W3) (B := W3.heap.size) rfl 44 _ _ rfl g14 #[.int .i64 2, .int .i64 0, .int .i64 0, .int .i64 0, .slice none 0 0, .slice none 0 0] rfl rfl 44 _ H14.out (by first | kernel_rfl | (rw [cc_size]; kernel_rfl)) (by rfl) (by rw [← Array.all_toList]; rfl) HBX.out HL14.out ?_; intro W4 hst hb; clear H14 HBX; have H14 := Aside0.mk hst; replace HI := Aside0.mk (HI.out.below hb); replace H11 := Aside0.mk (blk_below H11.out hb); clear hst hb; (try clear x0); (try clear x1); (try clear x2); (try clear x3); (try clear x4); (try clear x5); (try clear x6); have x0 : W4.cell? ⟨g11, 0, none⟩ = some (.int .i64 7) := cell_in H11.out 0; have x1 : W4.cell? ⟨g11, 1, none⟩ = some (.int .i64 a) := cell_in H11.out 1; have x2 : W4.cell? ⟨g11, 2, none⟩ = some (.int .i64 wd) := cell_in H11.out 2; have x3 : W4.cell? ⟨g11, 3, none⟩ = some (.int .i64 cd) := cell_in H11.out 3; have x4 : W4.cell? ⟨g11, 4, none⟩ = some (.int .i64 m) := cell_in H11.out 4; have x5 : W4.cell? ⟨g11, 5, none⟩ = some (.int .i64 bi) := cell_in H11.out 5; have x6 : W4.cell? ⟨g11, 6, none⟩ = some (.int .i64 t) := cell_in H11.out 6; have z7 := HZC.out _ HI.out))
              rw [HZ.out] at HF2
              exact ⟨⟨i + 1, z, back.take q, out, by omega, by simp, rfl, by rw [show 4096 - (i + 1) = n by have := HN.out; omega]; exact HF2.out, Kd.R_take HI.out.r (by have := HQ.out; omega), HI.out.s, HI.out.b⟩, by simp [intOf]; omega⟩
          · replace hf2 : winP a2 code n t back out = (l, er) := hf2
            have HF2 := Aside0.mk hf2
            clear hf2
            go_wp2_with (first | ((with_reducible refine gate_dst (N := 11) rfl ?_); refine box_event ?hg (N := 11) ?hd (cs := cc zero7) (t := 84) ?hr ?_; (case hd => rfl); (case hg => rfl); (case hr => first | (go_simp; done) | (go_simp; rfl)); intro g11 hg W2b hbox hb; have H11 := Aside0.mk hbox; have HL11 : Aside0 (W2.heap.size ≤ g11) := ⟨by omega⟩; have HBX := Aside0.mk hb; clear hbox hb hg) | (refine store_rowN (w0 := W2) (B := W2.heap.size) rfl 84 _ _ rfl g11 (cc [8, a, wd, cd, m, bi, t]) rfl rfl 84 _ H11.out (by first | kernel_rfl | (rw [cc_size]; kernel_rfl)) (by rfl) (cc_one _) HBX.out HL11.out ?_; intro W3 hst hb; clear H11 HBX; have H11 := Aside0.mk hst; replace HI := Aside0.mk (HI.out.below hb); clear hst hb; have x0 : W3.cell? ⟨g11, 0, none⟩ = some (.int .i64 8) := cell_in H11.out 0; have x1 : W3.cell? ⟨g11, 1, none⟩ = some (.int .i64 a) := cell_in H11.out 1; have x2 : W3.cell? ⟨g11, 2, none⟩ = some (.int .i64 wd) := cell_in H11.out 2; have x3 : W3.cell? ⟨g11, 3, none⟩ = some (.int .i64 cd) := cell_in H11.out 3; have x4 : W3.cell? ⟨g11, 4, none⟩ = some (.int .i64 m) := cell_in H11.out 4; have x5 : W3.cell? ⟨g11, 5, none⟩ = some (.int .i64 bi) := cell_in H11.out 5; have x6 : W3.cell? ⟨g11, 6, none⟩ = some (.int .i64 t) := cell_in H11.out 6) | ((with_reducible refine gate_dst (N := 14) rfl ?_); refine box_event ?hg (N := 14) ?hd (cs := #[.int .i64 0, .int .i64 0, .int .i64 0, .int .i64 0, .slice none 0 0, .slice none 0 0]) (t := 44) ?hr ?_; (case hd => rfl); (case hg => rfl); (case hr => first | (go_simp; done) | (go_simp; rfl)); intro g14 hg W3b hbox hb; have H14 := Aside0.mk hbox; have HL14 : Aside0 (W3.heap.size ≤ g14) := ⟨by omega⟩; have HBX := Aside0.mk hb; clear hbox hb hg) | (refine store_rowN (w0 := W3) (B := W3.heap.size) rfl 44 _ _ rfl g14 #[.int .i64 2, .int .i64 0, .int .i64 0, .int .i64 0, .slice none 0 0, .slice none 0 0] rfl rfl 44 _ H14.out (by first | kernel_rfl | (rw [cc_size]; kernel_rfl)) (by rfl) (by rw [← Array.all_toList]; rfl) HBX.out HL14.out ?_; intro W4 hst hb; clear H14 HBX; have H14 := Aside0.mk hst; replace HI := Aside0.mk (HI.out.below hb); replace H11 := Aside0.mk (blk_below H11.out hb); clear hst hb; (try clear x0); (try clear x1); (try clear x2); (try clear x3); (try clear x4); (try clear x5); (try clear x6); have x0 : W4.cell? ⟨g11, 0, none⟩ = some (.int .i64 8) := cell_in H11.out 0; have x1 : W4.cell? ⟨g11, 1, none⟩ = some (.int .i64 a) := cell_in H11.out 1; have x2 : W4.cell? ⟨g11, 2, none⟩ = some (.int .i64 wd) := cell_in H11.out 2; have x3 : W4.cell? ⟨g11, 3, none⟩ = some (.int .i64 cd) := cell_in H11.out 3; have x4 : W4.cell? ⟨g11, 4, none⟩ = some (.int .i64 m) := cell_in H11.out 4; have x5 : W4.cell? ⟨g11, 5, none⟩ = some (.int .i64 bi) := cell_in H11.out 5; have x6 : W4.cell? ⟨g11, 6, none⟩ = some (.int .i64 t) := cell_in H11.out 6))
            exact ⟨⟨i + 1, t, back, out, by omega, by simp, rfl, by rw [show 4096 - (i + 1) = n by have := HN.out; omega]; exact HF2.out, HI.out⟩, by simp [intOf]; omega⟩
        · rw [if_neg he] at hf2
          obtain ⟨rfl, rfl⟩ := Prod.mk.inj hf2
          clear hf2 hok
          have d0 : (er2 == 0) = false := by simpa using he
          have d1 : (er2 != 0) = true := by simpa using he
          clear he
          have HI := HI2
          go_wp2_with (first | ((with_reducible refine gate_dst (N := 11) rfl ?_); refine box_event ?hg (N := 11) ?hd (cs := cc zero7) (t := 84) ?hr ?_; (case hd => rfl); (case hg => rfl); (case hr => first | (go_simp; done) | (go_simp; rfl)); intro g11 hg W2b hbox hb; have H11 := Aside0.mk hbox; have HL11 : Aside0 (W2.heap.size ≤ g11) := ⟨by omega⟩; have HBX := Aside0.mk hb; clear hbox hb hg) | (refine store_rowN (w0 := W2) (B := W2.heap.size) rfl 84 _ _ rfl g11 (cc C) rfl rfl 84 _ H11.out (by rw [cc_size, HCL.out]; kernel_rfl) (by rw [cc_size, cc_size, HCL.out]; rfl) (cc_one _) HBX.out HL11.out ?_; intro W3 hst hb; clear H11 HBX; have H11 := Aside0.mk hst; replace HI := Aside0.mk (HI.out.below hb); clear hst hb; skip))
          go_ret2
          exact ⟨_, rfl, Kd.S_nil _ _ _ _ _, HI.out.b⟩
      · obtain rfl : i = 4096 := by omega
        have hf := HF.out
        rw [Nat.sub_self, winP] at hf
        obtain ⟨rfl, rfl⟩ := Prod.mk.inj hf
        clear hf hlt hi
        go_wp2
        go_ret2
        exact ⟨_, rfl, Kd.S_nil _ _ _ _ _, HI.out.b⟩
  · rw [if_neg hs] at h; cases h
end Go.Proofs.Ytekbaconbemgpaa.PWe
