/- The document's View: its walk. Helper text. -/
import Derived.Test.YtekbaconbemgpaaWhRef
import Derived.Deep.CutRange
import Derived.Test.YtekbaconbemgpaaWhDraw
namespace Go.Proofs.Ytekbaconbemgpaa.PWe
open Go.RowKit Go.Proofs.Ytekbaconbemgpaa.Kx Go.Proofs.YtekbaconbemgpaaW.PrintWords Go.Proofs.YtekbaconbemgpaaW.PrintLast Go.Proofs.YtekbaconbemgpaaW.PrintMore
attribute [local go_sem] max2_int min2_int max_two min_two
set_option linter.unusedVariables false
set_option linter.unusedSimpArgs false

def viewT8 : Bool × List (List Nat × List Nat) := (true, [([], []), ([0], [0]), ([], []), ([], []), ([3], [3]), ([4], [4]), ([1, 2, 5], [1, 2, 5]), ([], []), ([7, 6, 4, 0, 1, 2, 3, 4, 5, 6, 7], [6, 7])])
theorem viewtab8 : rtab .any (opsOf Try.f32 8) = viewT8 := by kernel_rfl
def viewT10 : Bool × List (List Nat × List Nat) := (true, [([], []), ([0], [0]), ([1], [1]), ([], []), ([3], [3]), ([], []), ([5], [5]), ([6], [6]), ([7, 2], [7]), ([8], [8]), ([0, 1, 2], []), ([10, 2, 8, 0, 1, 2], [2, 10]), ([0, 1, 2, 3, 4, 10, 11], []), ([12, 4, 11, 0, 1, 2, 3, 4, 10, 11], [4, 12]), ([0, 1, 2, 3, 4, 5, 6, 7, 8, 9, 10, 11, 12, 13], []), ([14, 9, 13, 0, 1, 2, 3, 4, 5, 6, 7, 8, 9, 10, 11, 12, 13], [9, 14])])
theorem viewtab10 : rtab .any (opsOf Try.f32 10) = viewT10 := by kernel_rfl
theorem idxL_mem {a : Int} : ∀ (l : List Int) (i : Int), 0 ≤ i → (idxL a l i ≥ 0 ↔ a ∈ l)
  | [], i, h => by simp [idxL]
  | x :: xs, i, h => by
    have ih := idxL_mem (a := a) xs (i + 1) (by omega)
    rw [idxL]
    by_cases hx : a = x
    · rw [if_pos hx]; exact ⟨fun _ => by simp [hx], fun _ => h⟩
    · rw [if_neg hx, ih, List.mem_cons]; simp [hx]
set_option maxHeartbeats 4000000 in
set_option maxRecDepth 100000 in
theorem viewr_calls (A : Option Addr) (c : Nat) (l : List S76) (v md : Int) (w : World) (hr : Kd.C k44 w A (l.map s44).length (l.map s44)) (hc : l.length ≤ c) (hv0 : 0 ≤ v) (hv1 : v < 2) (hf : Fit l) :
    Calls Try.prog 32 #[.slice A l.length c, .int .i64 v, .int .i64 md] w fun e w' => ∃ v0_ : Value, e = .returned v0_ ∧ Kd.R k48 48 w' w.heap.size (fun _ => True) v0_ ((⟨3, 0, 200 + 40 * v, 0, 0, 0, -1, false⟩ :: viewL md (200 + 40 * v) l).map s48) ∧ Below w.heap.size w w' := by
  have HF := Aside0.mk hf
  have HR := Aside0.mk hr
  have hl1000 := hf.1
  have HB : Aside0 (Below w.heap.size w w) := ⟨Below.refl _ _⟩
  clear hf hr
  go_enter Try.func32, Try.ntmps32
  go_wp2_with (first | ((with_reducible refine gate_dst (N := 19) rfl ?_); refine litN (w := w) k48 48 rfl (N := 19) rfl (xs := ([(⟨3, 0, (200 + 40 * v), 0, 0, 0, (-1), false⟩ : S48)] : List S48)) (inner := [.int .i64 3, .int .i64 0, .int .i64 (200 + 40 * v), .int .i64 0, .int .i64 0, .int .i64 0, .int .i64 (-1), .bool false]) (by first | (go_simp; done) | (go_simp; rfl)) (Reps.c8 (show Kd.M k48 _ _ _ (⟨3, 0, (200 + 40 * v), 0, 0, 0, (-1), false⟩ : S48) [.int .i64 3, .int .i64 0, .int .i64 (200 + 40 * v), .int .i64 0, .int .i64 0, .int .i64 0, .int .i64 (-1), .bool false] from k48_mkM _ _ _ (⟨3, 0, (200 + 40 * v), 0, 0, 0, (-1), false⟩ : S48)) (Reps.none _ _)) HB (by simp) ?_; intro vL W3 H3 HB_W3 K_W3))
  go_loopw [7, 8, 9] (fun v7 v8 v9 wr => ∃ (i : Nat) (at_ : Int) (out : List S47), i ≤ l.length ∧ v9 = .int .i64 (i : Int) ∧ v7 = .int .i64 at_ ∧ 0 ≤ at_ ∧ at_ + 20000 * ((l.length : Int) - i) ≤ 100000000 ∧ out.length ≤ i + 1 ∧ out ++ viewL md at_ (l.drop i) = ⟨3, 0, 200 + 40 * v, 0, 0, 0, -1, false⟩ :: viewL md (200 + 40 * v) l ∧ Kd.R k48 48 wr w.heap.size (fun _ => True) v8 (out.map s48) ∧ Below w.heap.size w wr) (fun _ _ v9 _ => ((l.length : Int) - intOf v9).toNat)
  case atStart => exact ⟨0, 200 + 40 * v, [⟨3, 0, 200 + 40 * v, 0, 0, 0, -1, false⟩], Nat.zero_le _, rfl, rfl, by omega, by omega, by simp, rfl, H3.out, HB_W3.out⟩
  case round =>
    obtain ⟨i, at_, out, hi, rfl, rfl, ha0, ha1, hol, hs, ho, hb⟩ := hrel
    have HS := Aside0.mk hs
    have HO := Aside0.mk ho
    have HBr := Aside0.mk hb
    clear hs ho hb H3 HB_W3 K_W3
    by_cases hlt : i < l.length
    · have m1 : decide ((i : Int) < (l.length : Int)) = true := decide_eq_true (by omega)
      have m2 : decide (i < l.length) = true := decide_eq_true hlt
      have q1 : (0 ≤ (i : Int)) = True := eq_true (by omega)
      have q2 : ((i : Int) < (l.length : Int)) = True := eq_true (by omega)
      have q3 : (i < l.length) = True := eq_true hlt
      obtain ⟨x, hx⟩ : ∃ x, l[i] = x := ⟨_, rfl⟩
      have hxf : x.f4.length ≤ 100 ∧ x.f5.length ≤ 100 := by rw [← hx]; exact HF.out.2 _ (List.getElem_mem hlt)
      have hbd := bitsOf_bd x
      obtain ⟨ad, A4, c4, A5, c5, hA, hcl, hl4, hr4, hl5, hr5⟩ := rwin_at HR.out hlt hx
      obtain ⟨x0, x1, x2, x3, x4, x5⟩ := hcl _ HBr.out
      subst hA
      have HR4 := Aside0.mk hr4
      have HR5 := Aside0.mk hr5
      have hs := HS.out
      rw [List.drop_eq_getElem_cons hlt, hx, viewL] at hs
      clear hx HS hcl hr4 hr5
      by_cases h0 : x.f0 < 0 ∨ x.f0 > 2
      · rw [if_pos h0] at hs
        have HS := Aside0.mk hs
        have j0 : decide (x.f0 < 0) = true ∨ (decide (x.f0 < 0) = false ∧ decide (2 < x.f0) = true) := by
          rcases h0 with h | h
          · exact .inl (decide_eq_true h)
          · by_cases h' : x.f0 < 0
            · exact .inl (decide_eq_true h')
            · exact .inr ⟨decide_eq_false h', decide_eq_true h⟩
        clear h0 hs
        rcases j0 with j0 | ⟨j0, j1⟩
        · go_wp2_with (first | ((with_reducible refine gate_dst (N := 10) rfl ?_); refine boxN (w := w) rfl (N := 10) rfl (cs := #[.int .i64 0, .int .i64 0, .int .i64 0, .int .i64 0, .slice none 0 0, .slice none 0 0]) (t := 44) (by first | (go_simp; done) | (go_simp; rfl)) HBr ?_; intro ga Wa Ha Lga HB_Wa K_Wa) | (refine storeN (w := w) rfl 44 _ _ rfl ga #[.int .i64 x.f0, .int .i64 x.f1, .int .i64 x.f2, .int .i64 x.f3, .slice A4 x.f4.length c4, .slice A5 x.f5.length c5] rfl rfl 44 _ Ha (by kernel_rfl) rfl (by rw [← Array.all_toList]; rfl) HB_Wa Lga K_Wa ?_; clear Ha; intro Wb Ha HB_Wb K_Wb; have y0 : Wb.cell? ⟨ga, 0, none⟩ = some (.int .i64 x.f0) := cell_in Ha.out 0))
          exact ⟨⟨i + 1, at_, out, by omega, by rw [Int.natCast_add]; rfl, rfl, ha0, by omega, by omega, HS.out, Kd.R_below HO.out K_Wb.out, HB_Wb.out⟩, by simp [intOf]; omega⟩
        · go_wp2_with (first | ((with_reducible refine gate_dst (N := 10) rfl ?_); refine boxN (w := w) rfl (N := 10) rfl (cs := #[.int .i64 0, .int .i64 0, .int .i64 0, .int .i64 0, .slice none 0 0, .slice none 0 0]) (t := 44) (by first | (go_simp; done) | (go_simp; rfl)) HBr ?_; intro ga Wa Ha Lga HB_Wa K_Wa) | (refine storeN (w := w) rfl 44 _ _ rfl ga #[.int .i64 x.f0, .int .i64 x.f1, .int .i64 x.f2, .int .i64 x.f3, .slice A4 x.f4.length c4, .slice A5 x.f5.length c5] rfl rfl 44 _ Ha (by kernel_rfl) rfl (by rw [← Array.all_toList]; rfl) HB_Wa Lga K_Wa ?_; clear Ha; intro Wb Ha HB_Wb K_Wb; have y0 : Wb.cell? ⟨ga, 0, none⟩ = some (.int .i64 x.f0) := cell_in Ha.out 0))
          exact ⟨⟨i + 1, at_, out, by omega, by rw [Int.natCast_add]; rfl, rfl, ha0, by omega, by omega, HS.out, Kd.R_below HO.out K_Wb.out, HB_Wb.out⟩, by simp [intOf]; omega⟩
      rw [if_neg h0] at hs
      have HS := Aside0.mk hs
      have j0 : decide (x.f0 < 0) = false := decide_eq_false (by omega)
      have j1 : decide (2 < x.f0) = false := decide_eq_false (by omega)
      have hx02 : 0 ≤ x.f0 ∧ x.f0 ≤ 2 := by omega
      clear h0 hs
      go_upto_region 8 with (first | ((with_reducible refine gate_dst (N := 10) rfl ?_); refine boxN (w := w) rfl (N := 10) rfl (cs := #[.int .i64 0, .int .i64 0, .int .i64 0, .int .i64 0, .slice none 0 0, .slice none 0 0]) (t := 44) (by first | (go_simp; done) | (go_simp; rfl)) HBr ?_; intro ga Wa Ha Lga HB_Wa K_Wa) | (refine storeN (w := w) rfl 44 _ _ rfl ga #[.int .i64 x.f0, .int .i64 x.f1, .int .i64 x.f2, .int .i64 x.f3, .slice A4 x.f4.length c4, .slice A5 x.f5.length c5] rfl rfl 44 _ Ha (by kernel_rfl) rfl (by rw [← Array.all_toList]; rfl) HB_Wa Lga K_Wa ?_; clear Ha; intro Wb Ha HB_Wb K_Wb; have y0 : Wb.cell? ⟨ga, 0, none⟩ = some (.int .i64 x.f0) := cell_in Ha.out 0))
      (try simp only [Act.put, List.setIfInBounds_toArray, List.set_cons_zero, List.set_cons_succ])
      go_cut [11] from 38 to 44 (fun v11 wc => ∃ g : Nat, v11 = .pointer (some ⟨g, 0, none⟩) ∧ wc.heap[g]? = some (.cells #[.int .i64 x.f0, .int .i64 at_, .int .i64 (20 * bitsOf x), .int .i64 0, .int .i64 0, .int .i64 0, .int .i64 (-1), .bool false] 48 (0, 0)) ∧ Wb.heap.size ≤ g ∧ Below Wb.heap.size Wb wc)
      case first =>
        have HS6 := Aside0.mk (six_of Ha.out)
        refine startD 9 viewtab8 HS6 ⟨Below.refl _ _⟩ (fun W1 HT B1 _ => ?_)
        refine pureD 0 (some 38) (lb 9 1) HT ?_
        refine pureD 2 (some 40) (lb 9 5) HT ?_
        refine takeD 1 (some 39) (lb 9 7) HT HS6 B1 ?_
        refine takeD 3 (some 41) (lb 9 15) HT HS6 B1 ?_
        refine join_ (σ := Nat) 1 (lb 9 255) (fun s_ => [(42, .int .i64 (bitsOf x)), (11, .pointer (some ⟨s_, 0, none⟩)), (43, .int .i64 (wrap64 (20 * bitsOf x))), (44, .agg #[.int .i64 x.f0, .int .i64 at_, .int .i64 (wrap64 (20 * bitsOf x)), .int .i64 0, .int .i64 0, .int .i64 0, .int .i64 (-1), .bool false])]) (fun s_ w' => Wb.heap.size ≤ s_ ∧ w'.heap[s_]? = some (.cells #[.int .i64 0, .int .i64 0, .int .i64 0, .int .i64 0, .int .i64 0, .int .i64 0, .int .i64 0, .bool false] 48 (0, 0)) ∧ Below Wb.heap.size Wb w') ?_ ?_
        rotate_left
        · intro hCont
          refine twoD 4 7 (some 42) (some 11) (lb 9 31) (lb 9 143) HT (fun K hK => ?_) (fun K hK => ?_)
          · refine callK hK HS6 B1 Try.func51 (bitsr_calls x A4 A5 c4 c5 _ hxf.1) (fun W2 B2 _ => ?_)
            refine pureD 5 (some 43) (lb 9 63) HT ?_
            refine pureD 6 (some 44) (lb 9 127) HT ?_
            refine oneD 7 (some 11) (lb 9 255) HT (fun K hK => ?_)
            refine boxK hK HS6 B2 #[.int .i64 0, .int .i64 0, .int .i64 0, .int .i64 0, .int .i64 0, .int .i64 0, .int .i64 0, .bool false] 48 (by first | (go_simp; done) | (go_simp; rfl)) (fun g W3 HG HGL B3 => ?_)
            exact norm_ (by simp only [putAll, Act.put, List.setIfInBounds_toArray, List.set_cons_zero, List.set_cons_succ]) (hCont g W3 ⟨HGL.out, HG.out, B3.out⟩)
          · refine boxK hK HS6 B1 #[.int .i64 0, .int .i64 0, .int .i64 0, .int .i64 0, .int .i64 0, .int .i64 0, .int .i64 0, .bool false] 48 (by first | (go_simp; done) | (go_simp; rfl)) (fun g W2 HG HGL B2 => ?_)
            refine oneD 4 (some 42) (lb 9 159) HT (fun K hK => ?_)
            refine callK hK HS6 B2 Try.func51 (bitsr_calls x A4 A5 c4 c5 _ hxf.1) (fun W3 B3 K3 => ?_)
            refine pureD 5 (some 43) (lb 9 191) HT ?_
            refine pureD 6 (some 44) (lb 9 255) HT ?_
            exact norm_ (by simp only [putAll, Act.put, List.setIfInBounds_toArray, List.set_cons_zero, List.set_cons_succ]) (hCont g W3 ⟨HGL.out, blk_below HG.out K3.out, B3.out⟩)
        · rintro g W2 ⟨hg, hbox, hb2⟩
          refine norm_ (a' := ?_) ?_ ?_
          rotate_left
          · simp only [putAll, Act.put, List.setIfInBounds_toArray, List.set_cons_zero, List.set_cons_succ]
            rfl
          have B2 := Aside0.mk hb2
          refine oneD 8 none (lb 9 511) HT (fun K hK => ?_)
          refine storeRowK hK HS6 B2 g #[.int .i64 x.f0, .int .i64 at_, .int .i64 (wrap64 (20 * bitsOf x)), .int .i64 0, .int .i64 0, .int .i64 0, .int .i64 (-1), .bool false] ⟨hbox⟩ ⟨hg⟩ (fun W3 HG B3 => ?_)
          refine doneD HT ?_
          go_wp2_with fail
          go_meet
          case rel => exact ⟨g, rfl, by have e : wrap64 (20 * bitsOf x) = 20 * bitsOf x := PWe.wr (by omega) (by omega); rw [e] at HG; exact HG.out, hg, B3.out⟩
      case rest =>
        obtain ⟨g, rfl, hg, hgl, hbc⟩ := hcut
        have HG := Aside0.mk hg
        have HGL := Aside0.mk hgl
        have HBC := Aside0.mk hbc
        clear hg hgl hbc
        obtain ⟨s, hsl⟩ : ∃ s, slotOf at_ md x = s := ⟨_, rfl⟩
        have HSL := Aside0.mk hsl
        have z0 : wc.cell? ⟨ga, 0, none⟩ = some (.int .i64 x.f0) := cell_in (blk_below Ha.out HBC.out) 0
        go_upto_if 47 with (fail)
        (try simp only [Act.put, List.setIfInBounds_toArray, List.set_cons_zero, List.set_cons_succ])
        go_cut [12] from 45 to 97 (fun v12 wd => wd.heap[g]? = some (.cells #[.int .i64 s.f0, .int .i64 s.f1, .int .i64 s.f2, .int .i64 s.f3, .int .i64 s.f4, .int .i64 s.f5, .int .i64 s.f6, .bool s.f7] 48 (0, 0)) ∧ Below Wb.heap.size Wb wd)
        case rest =>
          obtain ⟨hg, hbd2⟩ := hcut
          have HG2 := Aside0.mk hg
          have HBD := Aside0.mk hbd2
          have HOD := Aside0.mk (Kd.R_below HO.out (below_step K_Wb.out hbd2))
          have HBw := Aside0.mk (below_step HB_Wb.out hbd2)
          have hlong : s.f2 = 20 * bitsOf x := by rw [← hsl]; unfold slotOf; split <;> rfl
          have HLONG := Aside0.mk hlong
          have HNE : Aside0 (some g ≠ u8.ownBlock) := ⟨fun e => by have h1 := Kd.R_lt HO.out g e.symm; have h2 := below_size K_Wb.out; have h3 := HGL.out; omega⟩
          have hnew : (out ++ [s]) ++ viewL md (at_ + 20 * bitsOf x) (l.drop (i + 1)) = ⟨3, 0, 200 + 40 * v, 0, 0, 0, -1, false⟩ :: viewL md (200 + 40 * v) l := by
            have h := HS.out
            rw [hsl] at h
            rw [← h, List.append_assoc]
            rfl
          have HNEW := Aside0.mk hnew
          clear hg hbd2 hlong hnew HS hsl
          go_wp2_with (first | ((with_reducible refine gate_dst (N := 99) rfl ?_); refine wpList_load_row rfl 48 _ rfl g rfl 48 _ (0, 0) _ HG2.out Try.underlying48 rfl (by kernel_rfl) ?_) | ((with_reducible refine gate_builtin (b := .append) (xs := #[.tmp 98, .tmp 100]) rfl ?_); at_builtin; refine appN (w := w) k48 48 rfl (.tmp 98) (.tmp 100) 38 (.agg #[.int .i64 0, .int .i64 0, .int .i64 0, .int .i64 0, .int .i64 0, .int .i64 0, .int .i64 0, .bool false]) 64 rfl Try.underlying38 info48 rfl (by decide) (by omega) (s48 s) [.int .i64 s.f0, .int .i64 s.f1, .int .i64 s.f2, .int .i64 s.f3, .int .i64 s.f4, .int .i64 s.f5, .int .i64 s.f6, .bool s.f7] rfl rfl (k48_mkM _ _ _ (s48 s)) HOD HBw (by rw [List.length_map]; omega) ?_; intro vA W6 HO6 HB_W6 K_W6; have z2 : W6.cell? ⟨g, 2, none⟩ = some (.int .i64 (20 * bitsOf x)) := by rw [← HLONG.out]; exact cell_in (blk_grown HG2.out K_W6.out HNE.out) 2))
          exact ⟨⟨i + 1, at_ + 20 * bitsOf x, out ++ [s], by omega, by rw [Int.natCast_add]; rfl, rfl, by omega, by omega, by rw [List.length_append, List.length_singleton]; omega, HNEW.out, by rw [List.map_append]; exact HO6.out, HB_W6.out⟩, by simp [intOf]; omega⟩
        case first =>
          by_cases h0 : x.f0 = 0
          · have k0 : (x.f0 == 0) = true := by simp [h0]
            obtain ⟨f0e⟩ : Nonempty (x.f0 = 0) := ⟨h0⟩
            have HF0 := Aside0.mk f0e
            clear h0 f0e
            have hw8 : mx 0 (mn x.f2 8) = wordsOf x := by unfold mx mn wordsOf; repeat' split <;> omega
            obtain ⟨r4, hr4⟩ : ∃ r, mx 0 (mn (x.f4.length : Int) 4) = r := ⟨_, rfl⟩
            have hm : (if 1 < r4 then r4 else 1) = manyOf x := by rw [← hr4]; unfold mx mn manyOf; repeat' split <;> omega
            have HW8 := Aside0.mk hw8
            have HR4' := Aside0.mk hr4
            have hr4b : 0 ≤ r4 ∧ r4 ≤ 4 := by rw [← hr4]; unfold mx mn; repeat' split <;> omega
            clear hw8 hr4
            have HS6 := Aside0.mk (six_of Ha.out)
            go_upto_region 10 with (fail)
            (try simp only [Act.put, List.setIfInBounds_toArray, List.set_cons_zero, List.set_cons_succ])
            refine startD 16 viewtab10 HS6 HBC (fun W1 HT B1 K1 => ?_)
            refine pureD 0 (some 48) (lb 16 0x1) HT ?_
            refine pureD 3 (some 51) (lb 16 0x9) HT ?_
            refine pureD 5 (some 53) (lb 16 0x29) HT ?_
            refine takeD 1 (some 49) (lb 16 0x2b) HT HS6 B1 ?_
            refine takeD 4 (some 52) (lb 16 0x3b) HT HS6 B1 ?_
            refine takeD 6 (some 54) (lb 16 0x7b) HT HS6 B1 ?_
            refine pureD 7 (some 55) (lb 16 0xfb) HT ?_
            refine oneD 2 (some 50) (lb 16 0xff) HT (fun K hK => ?_)
            refine callK hK HS6 B1 Try.func52 ((cutr_calls x.f2 8 _ HW8.out).mono fun _ _ h => ⟨h.1, by rw [h.2]; exact Below.refl _ _⟩) (fun W2 B2 K2 => ?_)
            refine pureD 10 (some 58) (lb 16 0x4ff) HT ?_
            refine oneD 8 (some 56) (lb 16 0x5ff) HT (fun K hK => ?_)
            refine callK hK HS6 B2 Try.func52 ((cutr_calls (x.f4.length : Int) 4 _ HR4'.out).mono fun _ _ h => ⟨h.1, by rw [h.2]; exact Below.refl _ _⟩) (fun W3 B3 K3 => ?_)
            have HG3 := Aside0.mk (blk_below HG.out (below_step (below_step K1.out K2.out) K3.out))
            refine pureD 9 (some 57) (lb 16 0x7ff) HT ?_
            refine oneD 11 none (lb 16 0xfff) HT (fun K hK => ?_)
            have d3 : W3.cell? ⟨g, 3, none⟩ = some (.int .i64 0) := cell_in HG3.out 3
            have e3 := free_in HG3.out 3
            refine storeCellK hK HS6 B3 g 3 (.int .i64 (wordsOf x)) HG3 HGL (by go_simp) (fun W4 HG4 B4 => ?_)
            refine pureD 12 (some 59) (lb 16 0x1fff) HT ?_
            refine oneD 13 none (lb 16 0x3fff) HT (fun K hK => ?_)
            have d4 : W4.cell? ⟨g, 4, none⟩ = some (.int .i64 0) := cell_in HG4.out 4
            have e4 := free_in HG4.out 4
            refine storeCellK hK HS6 B4 g 4 (.int .i64 x.f3) HG4 HGL (by go_simp) (fun W5 HG5 B5 => ?_)
            refine pureD 14 (some 60) (lb 16 0x7fff) HT ?_
            refine oneD 15 none (lb 16 0xffff) HT (fun K hK => ?_)
            have d5 : W5.cell? ⟨g, 5, none⟩ = some (.int .i64 0) := cell_in HG5.out 5
            have e5 := free_in HG5.out 5
            refine storeCellK hK HS6 B5 g 5 (.int .i64 (manyOf x)) HG5 HGL (by go_simp) (fun W6 HG6 B6 => ?_)
            refine doneD HT ?_
            obtain ⟨F4, hF4⟩ : ∃ F, x.f4.take 4 = F := ⟨_, rfl⟩
            have HF4 := Aside0.mk hF4
            obtain ⟨n4, hn4⟩ : ∃ n : Int, (if 4 < (x.f4.length : Int) then 4 else (x.f4.length : Int)) = n := ⟨_, rfl⟩
            have hn4b : 0 ≤ n4 ∧ n4 ≤ 4 ∧ n4 ≤ (x.f4.length : Int) ∧ (F4.length : Int) = n4 := by rw [← hn4, ← hF4, List.length_take]; split <;> omega
            have y4 : W6.cell? ⟨ga, 4, none⟩ = some (.slice A4 x.f4.length c4) := cell_in (blk_below Ha.out B6.out) 4
            clear hF4 d3 e3 d4 e4 d5 e5
            go_wp2_with fail
            go_loopw [12] (fun v12 wr2 => ∃ (k c : Int), v12 = .int .i64 k ∧ -1 ≤ k ∧ k < n4 ∧ c = idxL md (F4.drop (k + 1).toNat) (k + 1) ∧ -1 ≤ c ∧ wr2.heap[g]? = some (.cells #[.int .i64 x.f0, .int .i64 at_, .int .i64 (20 * bitsOf x), .int .i64 (wordsOf x), .int .i64 x.f3, .int .i64 (manyOf x), .int .i64 c, .bool false] 48 (0, 0)) ∧ Below Wb.heap.size Wb wr2) (fun v12 _ => (intOf v12 + 1).toNat)
            case atStart => exact ⟨n4 - 1, -1, rfl, by omega, by omega, by rw [List.drop_eq_nil_of_le (by omega)]; rfl, by omega, HG6.out, B6.out⟩
            case round =>
              obtain ⟨k, cd, rfl, hk0, hk1, hcd, hcd0, hg, hb⟩ := hrel
              have HG7 := Aside0.mk hg
              have HB7 := Aside0.mk hb
              have HCD := Aside0.mk hcd
              clear hg hb hcd HG6 B6 y4
              have y4 : wr.cell? ⟨ga, 4, none⟩ = some (.slice A4 x.f4.length c4) := cell_in (blk_below Ha.out HB7.out) 4
              by_cases hk : 0 ≤ k
              · have b0 : decide (0 ≤ k) = true := decide_eq_true hk
                have q5 : (0 ≤ k) = True := eq_true hk
                have q6 : (k < (x.f4.length : Int)) = True := eq_true (by omega)
                obtain ⟨ad4, hA4, u0⟩ := Kd.at_int HR4.out k hk (by omega)
                replace u0 := ((below_step HB_Wb.out HB7.out).cell (World.block_lt_of_cell? w _ u0)).trans u0
                subst hA4
                have hstep : idxL md (F4.drop k.toNat) k = if rd x.f4 k = md then k else cd := by
                  obtain ⟨n, rfl⟩ := Int.eq_ofNat_of_zero_le hk
                  have hn : n < F4.length := by omega
                  have hn2 : n < x.f4.length := by omega
                  rw [Int.toNat_natCast, List.drop_eq_getElem_cons hn, idxL, rd_at hn2, HCD.out]
                  have e1 : F4[n] = x.f4[n] := by simp only [← HF4.out, List.getElem_take]
                  rw [e1, show ((n : Int) + 1).toNat = n + 1 by omega]
                  by_cases he : md = x.f4[n]
                  · rw [if_pos he, if_pos he.symm]
                  · rw [if_neg he, if_neg (fun h => he h.symm)]
                have hk2 : (k - 1 + 1).toNat = k.toNat ∧ k - 1 + 1 = k := by omega
                by_cases he : rd x.f4 k = md
                · rw [if_pos he] at hstep
                  have HST := Aside0.mk hstep
                  have HK2 := Aside0.mk hk2
                  have b1 : (rd x.f4 k == md) = true := by simp [he]
                  have u1 : wr.cell? ⟨g, 6, none⟩ = some (.int .i64 cd) := cell_in HG7.out 6
                  have u2 := free_in HG7.out 6
                  have HB8 := Aside0.mk (below_set (j := 6) (v := .int .i64 k) HB7.out HGL.out)
                  have HG8 := Aside0.mk (set_in HG7.out 6 (.int .i64 k))
                  clear hstep hk2 he
                  go_wp2_with fail
                  exact ⟨⟨k - 1, k, rfl, by omega, by omega, by rw [HK2.out.1, HK2.out.2]; exact HST.out.symm, by omega, HG8.out, HB8.out⟩, by simp [intOf]; omega⟩
                · rw [if_neg he] at hstep
                  have HST := Aside0.mk hstep
                  have HK2 := Aside0.mk hk2
                  have b1 : (rd x.f4 k == md) = false := by simpa using he
                  clear hstep hk2 he
                  go_wp2_with fail
                  exact ⟨⟨k - 1, cd, rfl, by omega, by omega, by rw [HK2.out.1, HK2.out.2]; exact HST.out.symm, by omega, HG7.out, HB7.out⟩, by simp [intOf]; omega⟩
              · have b0 : decide (0 ≤ k) = false := decide_eq_false hk
                obtain rfl : k = -1 := by omega
                clear hk
                have hs7 : s = ⟨x.f0, at_, 20 * bitsOf x, wordsOf x, x.f3, manyOf x, cd, decide (md ∈ x.f5)⟩ := by
                  rw [HCD.out, ← HF4.out, ← HSL.out]
                  unfold slotOf
                  rw [if_pos HF0.out]
                  congr 1
                  exact decide_eq_decide.2 (idxL_mem x.f5 0 (by decide))
                have HS7 := Aside0.mk hs7
                clear hs7
                go_wp2_with fail
                go_loopw [13] (fun v13 wr3 => ∃ (k : Nat) (t : Bool), v13 = .int .i64 (k : Int) ∧ k ≤ x.f5.length ∧ (t || decide (md ∈ x.f5.drop k)) = decide (md ∈ x.f5) ∧ wr3.heap[g]? = some (.cells #[.int .i64 x.f0, .int .i64 at_, .int .i64 (20 * bitsOf x), .int .i64 (wordsOf x), .int .i64 x.f3, .int .i64 (manyOf x), .int .i64 cd, .bool t] 48 (0, 0)) ∧ Below Wb.heap.size Wb wr3) (fun v13 _ => ((x.f5.length : Int) - intOf v13).toNat)
                case atStart => exact ⟨0, false, rfl, Nat.zero_le _, by simp, HG7.out, HB7.out⟩
                case round =>
                  clear y4
                  obtain ⟨k, t, rfl, hk, ht, hg, hb⟩ := hrel
                  have HGT := Aside0.mk hg
                  have HBT := Aside0.mk hb
                  have HT7 := Aside0.mk ht
                  clear hg hb ht HG7 HB7
                  rename World => wt
                  have y5 : wt.cell? ⟨ga, 5, none⟩ = some (.slice A5 x.f5.length c5) := cell_in (blk_below Ha.out HBT.out) 5
                  have y7 : wt.cell? ⟨g, 7, none⟩ = some (.bool t) := cell_in HGT.out 7
                  have e7 := free_in HGT.out 7
                  by_cases hk2 : k < x.f5.length
                  · have b1 : decide ((k : Int) < (x.f5.length : Int)) = true := decide_eq_true (by omega)
                    have b2 : decide (k < x.f5.length) = true := decide_eq_true hk2
                    have q7 : (0 ≤ (k : Int)) = True := eq_true (by omega)
                    have q8 : ((k : Int) < (x.f5.length : Int)) = True := eq_true (by omega)
                    have q9 : (k < x.f5.length) = True := eq_true hk2
                    obtain ⟨ad5, hA5, u5⟩ := Kd.at_int HR5.out (k : Int) (by omega) (by omega)
                    replace u5 := ((below_step HB_Wb.out HBT.out).cell (World.block_lt_of_cell? w _ u5)).trans u5
                    rw [rd_at hk2] at u5
                    simp only [Int.toNat_natCast] at u5
                    subst hA5
                    have hdr : (t || decide (md ∈ x.f5.drop k)) = ((t || x.f5[k] == md) || decide (md ∈ x.f5.drop (k + 1))) := by
                      rw [List.drop_eq_getElem_cons hk2, Bool.or_assoc]
                      congr 1
                      rw [Bool.eq_iff_iff]
                      simp only [decide_eq_true_eq, Bool.or_eq_true, beq_iff_eq, List.mem_cons]
                      exact ⟨fun h => h.imp Eq.symm id, fun h => h.imp Eq.symm id⟩
                    have HDR := Aside0.mk (hdr.symm.trans HT7.out)
                    obtain ⟨z, hz⟩ : ∃ z, x.f5[k] = z := ⟨_, rfl⟩
                    rw [hz] at u5 HDR
                    have HB8 := Aside0.mk (fun b => below_set (j := 7) (v := .bool b) HBT.out HGL.out)
                    have HG8 := Aside0.mk (fun b => set_in HGT.out 7 (.bool b))
                    clear hdr hz HT7
                    cases t
                    · obtain ⟨bz, hbz⟩ : ∃ b, (z == md) = b := ⟨_, rfl⟩
                      rw [hbz] at HDR
                      go_wp2_with fail
                      exact ⟨⟨k + 1, bz, by rw [Int.natCast_add]; rfl, by omega, HDR.out, HG8.out bz, HB8.out bz⟩, by simp [intOf]; omega⟩
                    · go_wp2_with fail
                      exact ⟨⟨k + 1, true, by rw [Int.natCast_add]; rfl, by omega, HDR.out, HG8.out true, HB8.out true⟩, by simp [intOf]; omega⟩
                  · have b1 : decide ((k : Int) < (x.f5.length : Int)) = false := decide_eq_false (by omega)
                    have b2 : decide (k < x.f5.length) = false := decide_eq_false hk2
                    have ht2 : t = decide (md ∈ x.f5) := by
                      have h := HT7.out
                      rw [List.drop_eq_nil_of_le (by omega)] at h
                      simpa using h
                    have HT2 := Aside0.mk ht2
                    clear ht2 hk2 HT7
                    go_wp2_with fail
                    go_meet
                    case rel => exact ⟨by rw [HS7.out, ← HT2.out]; exact HGT.out, HBT.out⟩
          · have k0 : (x.f0 == 0) = false := by simpa using h0
            have hse : s = ⟨x.f0, at_, 20 * bitsOf x, 0, 0, 0, -1, false⟩ := by rw [← hsl]; unfold slotOf; rw [if_neg h0]
            clear hsl h0
            go_wp2_with fail
            go_meet
            case rel => exact ⟨by rw [hse]; exact HG.out, HBC.out⟩
    · have m1 : decide ((i : Int) < (l.length : Int)) = false := decide_eq_false (by omega)
      have m2 : decide (i < l.length) = false := decide_eq_false hlt
      have hout : out ++ [⟨4, at_, 120, 0, 0, 0, -1, false⟩] = ⟨3, 0, 200 + 40 * v, 0, 0, 0, -1, false⟩ :: viewL md (200 + 40 * v) l := by
        have h := HS.out
        rw [List.drop_eq_nil_of_le (by omega), viewL] at h
        exact h
      have HOUT := Aside0.mk hout
      clear hlt hout HS
      go_wp2_with (first | ((with_reducible refine gate_builtin (b := .append) (xs := #[.tmp 106, .tmp 109]) rfl ?_); at_builtin; refine appN (w := w) k48 48 rfl (.tmp 106) (.tmp 109) 38 (.agg #[.int .i64 0, .int .i64 0, .int .i64 0, .int .i64 0, .int .i64 0, .int .i64 0, .int .i64 0, .bool false]) 64 rfl Try.underlying38 info48 rfl (by decide) (by omega) (⟨4, at_, 120, 0, 0, 0, (-1), false⟩ : S48) [.int .i64 4, .int .i64 at_, .int .i64 120, .int .i64 0, .int .i64 0, .int .i64 0, .int .i64 (-1), .bool false] rfl rfl (k48_mkM _ _ _ (⟨4, at_, 120, 0, 0, 0, (-1), false⟩ : S48)) HO HBr (by rw [List.length_map]; omega) ?_; intro vA W6 HO6 HB_W6 K_W6))
      go_ret
      exact ⟨_, rfl, by rw [← HOUT.out, List.map_append]; exact HO6.out, HB_W6.out⟩
end Go.Proofs.Ytekbaconbemgpaa.PWe
