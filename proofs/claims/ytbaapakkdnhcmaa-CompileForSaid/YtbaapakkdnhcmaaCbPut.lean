/- image.Put: its walk. Helper text. -/
import Derived.Test.YtbaapakkdnhcmaaCbA
import Derived.Test.YtbaapakkdnhcmaaWhRun
import Derived.ArgAppend
import Derived.Lib.SmallJoins
namespace Go.Proofs.Ytbaapakkdnhcmaa.PWe
open Go.RowKit Go.Proofs.Ytbaapakkdnhcmaa.Kx Go.Proofs.YtbaapakkdnhcmaaW.PrintWords Go.Proofs.YtbaapakkdnhcmaaW.PrintLast Go.Proofs.YtbaapakkdnhcmaaW.PrintMore
set_option linter.unusedVariables false
set_option linter.unusedSimpArgs false

def imgCs (md e0 e1 : Int) (A : Option Addr) (n c : Nat) : Array Value := #[.int .i64 md, .int .i64 e0, .int .i64 e1, .slice A n c]
/-- An image in its box. -/
def ImgC (g : Nat) (e0 e1 : Int) (A : Option Addr) (n c : Nat) (W : World) : Prop := W.cell? ⟨g, 1, none⟩ = some (.int .i64 e0) ∧ W.cell? ⟨g, 2, none⟩ = some (.int .i64 e1) ∧ W.cell? ⟨g, 3, none⟩ = some (.slice A n c)
theorem imgC_of {g : Nat} {md e0 e1 : Int} {A : Option Addr} {n c : Nat} {W : World} {t : TypeId} (h : W.heap[g]? = some (.cells (imgCs md e0 e1 A n c) t (0, 0))) : ImgC g e0 e1 A n c W := ⟨(cell_in h 1).trans rfl, (cell_in h 2).trans rfl, (cell_in h 3).trans rfl⟩
/-- Bytes so far, and the image beside them. -/
def FP (w : World) (g : Nat) (cs : Array Value) (l : List Int) (v : Value) (W : World) : Prop := Kd.R (Kd.int .u8) 5 W w.heap.size (fun _ => True) v l ∧ Below w.heap.size w W ∧ W.heap[g]? = some (.cells cs 25 (0, 0))
theorem two_img (w : World) (g : Nat) (cs : Array Value) (l : List Int) (v : Value) (n : Int) (W : World) (h : FP w g cs l v W) (hl : l.length ≤ 100000) : Calls Try.prog 42 #[v, .int .i64 n] W fun e w' => ∃ b, e = .returned b ∧ FP w g cs (l ++ b2 n) b w' :=
  (two_calls w v l n W h.1 h.2.1 hl).mono fun e w' ⟨v', he, h1, h2, h3⟩ => ⟨v', he, h1, h2, by rw [h3 g (lt_of_block h.2.2) (Kd.R_ne h.1 h.2.2 (by decide))]; exact h.2.2⟩
def putT : Bool × List (List Nat × List Nat) := (true, [([], []), ([], []), ([1], [1]), ([2], [2]), ([0, 3], [0, 3]), ([], []), ([5], [5]), ([6], [6]), ([4, 7, 4], [4, 7]), ([], []), ([9], [9]), ([10], [10]), ([8, 11, 8], [8, 11]), ([12, 12, 0, 1, 2, 3, 4, 5, 6, 7, 8, 9, 10, 11, 12], [0, 12])])
theorem puttab : rtab .any (opsOf Try.f11 4) = putT := by kernel_rfl
set_option maxHeartbeats 4000000 in
set_option maxRecDepth 100000 in
theorem put_calls (md e0 e1 : Int) (A : Option Addr) (c : Nat) (code : List Int) (w : World) (hr : Kd.C (Kd.int .u8) w A code.length code) (hc : code.length ≤ c) (hb : Byts code) (hR : tokP md e0 e1 code.length = true) :
    Calls Try.prog 11 #[.agg #[.int .i64 md, .int .i64 e0, .int .i64 e1, .slice A code.length c]] w fun e w' => ∃ v, e = .returned (.tuple #[v, .int .i64 0]) ∧ Kd.R (Kd.int .u8) 5 w' w.heap.size (fun _ => True) v (putP md e0 e1 code) ∧ Below w.heap.size w w' := by
  have HR := Aside0.mk hr
  have HBY := Aside0.mk hb
  have HB : Aside0 (Below w.heap.size w w) := ⟨Below.refl _ _⟩
  have hRt : image_Image_Right.f md e0 e1 code = some true := by
    rw [right_is]
    exact congrArg some hR
  have HRT := Aside0.mk hRt
  have hlc : code.length ≤ 1024 := by
    unfold tokP at hR
    have := of_decide_eq_true hR
    omega
  obtain ⟨R, hRes⟩ : ∃ R, putP md e0 e1 code = R := ⟨_, rfl⟩
  rw [hRes]
  have HRES := Aside0.mk hRes
  have e23 := Try.underlying23
  clear hr hb hR hRt hRes
  go_enter Try.func11, Try.ntmps11
  go_wp2_with (first | ((with_reducible refine gate_dst (N := 1) rfl ?_); refine boxN (w := w) rfl (N := 1) rfl (cs := imgCs md e0 e1 A code.length c) (t := 25) (by first | (go_simp; done) | (go_simp; rfl)) HB ?_; intro g1 Wa Ha Lg1 HB_Wa K_Wa) | ((with_reducible refine gate_dst (N := 5) rfl ?_); refine wpList_load_row rfl 25 _ rfl g1 rfl 25 _ (0, 0) _ Ha.out Try.underlying25 rfl (by kernel_rfl) ?_))
  refine (image_Image_Right.calls md e0 e1 A c code true Wa (Kd.C_below HR.out HB_Wa.out) hc HRT.out).mono ?_
  rintro e w1 ⟨rfl, hb⟩
  have HB1 := Aside0.mk (below_step HB_Wa.out hb)
  have H1 := Aside0.mk (blk_below Ha.out hb)
  have z0 : w1.cell? ⟨g1, 0, none⟩ = some (.int .i64 md) := (cell_in H1.out 0).trans rfl
  have hM : IntKind.u8.wrap md = md % 256 := Go.IntKind.wrap_u8' _
  obtain ⟨M, hM'⟩ : ∃ M, md % 256 = M := ⟨_, rfl⟩
  rw [hM'] at hM
  have HM := Aside0.mk hM'
  clear hb Ha HB_Wa K_Wa hM'
  have hcv := Lib.run_convert_bytes_const (P := Try.prog) w1 23 5 #[.int .u8 84, .int .u8 49] 2 2 Try.underlying23 Try.underlying5
  have z1 : (w1.alloc (.cells #[.int .u8 84, .int .u8 49] 5 (2, 3))).cell? ⟨g1, 0, none⟩ = some (.int .i64 md) := Lib.cell?_alloc_marked _ z0
  have HBx : Aside0 (Below w.heap.size w (w1.alloc (.cells #[.int .u8 84, .int .u8 49] 5 (2, 3)))) := ⟨below_step HB1.out (below_alloc (Below.refl _ _) _)⟩
  have H1x : Aside0 ((w1.alloc (.cells #[.int .u8 84, .int .u8 49] 5 (2, 3))).heap[g1]? = some (.cells (imgCs md e0 e1 A code.length c) 25 (0, 0))) := ⟨blk_below H1.out (below_alloc (Below.refl _ _) _)⟩
  have HGx : Aside0 ((w1.alloc (.cells #[.int .u8 84, .int .u8 49] 5 (2, 3))).heap[w1.heap.size]? = some (.cells #[.int .u8 84, .int .u8 49] 5 (2, 3))) := ⟨blk_new w1 _⟩
  go_wp2_with (first | ((with_reducible refine gate_dst (N := 13) rfl ?_); refine litW (w := w) rfl (N := 13) rfl #[.int .u8 M] 5 1 (by first | (go_simp; done) | (go_simp; rfl)) HBx ?_; intro gc Wc Hc Lgc HB_Wc K_Wc; have H1c := Aside0.mk (blk_below H1x.out K_Wc.out); have HGc := Aside0.mk (blk_below HGx.out K_Wc.out)) | ((with_reducible refine gate_builtin (b := .append) (xs := #[.tmp 9, .tmp 13]) rfl ?_); at_builtin; refine wpList_append_arg _ rfl (.tmp 9) (.tmp 13) 23 rfl 5 _ (.int .u8 0) 1 1 Try.underlying23 rfl rfl rfl rfl rfl (by decide) w1.heap.size 0 2 2 [.int .u8 84, .int .u8 49] rfl rfl ?_ ⟨gc, 0, none⟩ 1 1 [.int .u8 M] rfl rfl ?_ (fun u hu => by rw [List.mem_singleton.1 hu]; rfl) (fun h => absurd h (by decide)) (by simp [maxLen]) (by decide) (fun h => absurd h (by decide)) (fun _ v1 Wd how hgr => ?_)))
  · intro j u hj
    rw [Nat.zero_add, cell_in HGc.out j]
    exact List.getElem?_toArray.trans hj
  · intro j u hj
    rw [Addr.add_lit, Nat.zero_add, cell_in Hc.out j]
    exact List.getElem?_toArray.trans hj
  have hbd : Below Wc.heap.size Wc Wd := ⟨hgr.os, hgr.tape, hgr.output, hgr.size, fun i hi => hgr.block i hi (by simp)⟩
  have HB_Wd := Aside0.mk (below_step HB_Wc.out hbd)
  have H1d := Aside0.mk (blk_below H1c.out hbd)
  have hro : Kd.R (Kd.int .u8) 5 Wd Wc.heap.size (fun _ => True) v1 ([84, 49] ++ [M]) := ⟨fun _ _ => trivial, [.int .u8 84, .int .u8 49, .int .u8 M], how, Reps.one (show Kd.M (Kd.int .u8) _ _ _ 84 [.int .u8 84] from rfl) (Reps.one (show Kd.M (Kd.int .u8) _ _ _ 49 [.int .u8 49] from rfl) (Reps.one (show Kd.M (Kd.int .u8) _ _ _ M [.int .u8 M] from rfl) (Reps.none _ _)))⟩
  have HO1 := Aside0.mk (Kd.R_lower hro (below_size HB_Wc.out))
  clear hbd hro how hgr
  obtain ⟨A1, c1, ev1⟩ := Kd.R_slice HO1.out
  subst ev1
  (try simp only [Act.put, List.setIfInBounds_toArray, List.set_cons_zero, List.set_cons_succ])
  have hF0 : FP w g1 (imgCs md e0 e1 A code.length c) ([84, 49] ++ [M]) (.slice A1 ([84, 49] ++ [M]).length c1) Wd.drew := ⟨Kd.R_below HO1.out (below_drew1 (Below.refl _ _)), below_drew1 HB_Wd.out, blk_below H1d.out (below_drew1 (Below.refl _ _))⟩
  have HF0 := Aside0.mk hF0
  have hS : ∀ l v W, FP w g1 (imgCs md e0 e1 A code.length c) l v W → ImgC g1 e0 e1 A code.length c W := fun l v W h => imgC_of h.2.2
  have HS := Aside0.mk hS
  clear hF0 hS H1c HB_Wc K_Wc Hc H1 HB1 z0 z1 hcv HBx H1x HGx HGc Lgc
  refine startE (S := ImgC g1 e0 e1 A code.length c) 14 [] puttab (HS.out _ _ _ HF0.out) (fun HT => ?_)
  refine pureE 0 (some 15) (lb 14 0x1) HT ?_
  refine pureE 1 (some 16) (lb 14 0x3) HT ?_
  refine pureE 2 (some 17) (lb 14 0x7) HT ?_
  refine takeE 3 (some 18) (lb 14 0xf) HT (HS.out _ _ _ HF0.out) ?_ (hy := Or.inl ⟨by rfl, by intro w' hs; obtain ⟨s0, s1, s2⟩ := hs; go_simp; with_reducible rfl⟩)
  refine pureE 5 (some 20) (lb 14 0x2f) HT ?_
  refine pureE 6 (some 21) (lb 14 0x6f) HT ?_
  refine takeE 7 (some 22) (lb 14 0xef) HT (HS.out _ _ _ HF0.out) ?_ (hy := Or.inl ⟨by rfl, by intro w' hs; obtain ⟨s0, s1, s2⟩ := hs; go_simp; with_reducible rfl⟩)
  refine pureE 9 (some 24) (lb 14 0x2ef) HT ?_
  refine takeE 10 (some 25) (lb 14 0x6ef) HT (HS.out _ _ _ HF0.out) ?_ (hy := Or.inl ⟨by rfl, by intro w' hs; obtain ⟨s0, s1, s2⟩ := hs; go_simp; with_reducible rfl⟩)
  refine pureE 11 (some 26) (lb 14 0xeef) HT ?_
  refine callG 4 (some 19) (lb 14 0xeff) HT Try.func42 (F := FP w g1 (imgCs md e0 e1 A code.length c) ([84, 49] ++ [M] ++ b2 e0)) (two_img w g1 _ _ _ e0 _ HF0.out (by simp)) (HS.out _) (fun v2 W2 hF => ?_)
  have HF2 := Aside0.mk hF
  clear hF
  refine callG 8 (some 23) (lb 14 0xfff) HT Try.func42 (F := FP w g1 (imgCs md e0 e1 A code.length c) ([84, 49] ++ [M] ++ b2 e0 ++ b2 e1)) (two_img w g1 _ _ _ e1 _ HF2.out (by simp [b2])) (HS.out _) (fun v3 W3 hF => ?_)
  have HF3 := Aside0.mk hF
  clear hF
  refine callG 12 (some 27) (lb 14 0x1fff) HT Try.func42 (F := FP w g1 (imgCs md e0 e1 A code.length c) ([84, 49] ++ [M] ++ b2 e0 ++ b2 e1 ++ b2 (code.length : Int))) (two_img w g1 _ _ _ (code.length : Int) _ HF3.out (by simp [b2])) (HS.out _) (fun v4 W4 hF => ?_)
  have HF4 := Aside0.mk hF
  clear hF
  refine pureE 13 (some 4) (lb 14 0x3fff) HT ?_
  refine doneE HT ?_
  clear HT HS HF0 HF2 HF3
  obtain ⟨L4, hL4⟩ : ∃ l, [84, 49] ++ [M] ++ b2 e0 ++ b2 e1 ++ b2 (code.length : Int) = l := ⟨_, rfl⟩
  have hl4 : L4.length = 9 := by rw [← hL4]; rfl
  have hH : L4 ++ code = headP md e0 e1 code := by
    rw [← hL4, ← HM.out]
    rfl
  have hR2 : L4 ++ code ++ b2 (crcL 65535 (L4 ++ code) : Int) = R := by
    rw [← HRES.out, hH]
    rfl
  have HBH : Aside0 (Byts (L4 ++ code)) := ⟨by rw [hH]; exact head_byts HBY.out⟩
  have HR2 := Aside0.mk hR2
  have hl5 : (L4 ++ code).length ≤ 2000 := by rw [List.length_append]; omega
  rw [hL4] at HF4
  have HO4 := Aside0.mk HF4.out.1
  have HB4 := Aside0.mk HF4.out.2.1
  have H14 := Aside0.mk HF4.out.2.2
  obtain ⟨A4, c4, ev4⟩ := Kd.R_slice HO4.out
  subst ev4
  have z3 : W4.cell? ⟨g1, 3, none⟩ = some (.slice A code.length c) := (cell_in H14.out 3).trans rfl
  have hb9 : (L4.length + code.length) * 1 ≤ 140737488355328 := by omega
  have HB9 := Aside0.mk hb9
  obtain ⟨L5, hL5⟩ : ∃ l, L4 ++ code = l := ⟨_, rfl⟩
  rw [hL5] at HBH HR2 hl5
  have HL5 := Aside0.mk hL5
  clear hR2 hH hL4 hl4 HM hb9 hL5 HF4
  go_wp2_with (first | ((with_reducible refine gate_builtin (b := .append) (xs := #[.tmp 28, .tmp 30]) rfl ?_); at_builtin; refine Kd.R_append_rows (Kd.int .u8) (w0 := w) w.heap.size rfl (.tmp 28) (.tmp 30) 23 5 (.int .u8 0) 1 rfl Try.underlying23 info5 rfl (by decide) (by decide) _ L4 code A _ c (fun _ => True) (fun _ => False) rfl rfl HO4.out (Kd.C_below HR.out HB4.out) (fun _ _ h => h) (fun _ h => h.elim) (fun _ _ => trivial) HB4.out (below_size HB4.out) HB9.out ?_; intro v5 W5 h5 hb5 _ _; rw [HL5.out] at h5; obtain ⟨A5, c5, ev5⟩ := Kd.R_slice h5; subst ev5; have HO5 := Aside0.mk h5; have HB5 := Aside0.mk hb5; clear h5 hb5) | ((with_reducible refine gate_dst (N := 34) rfl ?_); refine litW (w := w) rfl (N := 34) rfl #[.slice A5 L5.length c5] 23 1 (by first | (go_simp; done) | (go_simp; rfl)) HB5 ?_; intro g6 W6 H6 Lg6 HB6 K6; have HO6 := Aside0.mk (Kd.R_below HO5.out K6.out)))
  refine (sum_calls g6 A5 c5 L5 W6 ((cell_in H6.out 0).trans rfl) (Kd.R_reads' HO6.out).2.2 HBH.out).mono ?_
  rintro e w' ⟨rfl, rfl⟩
  obtain ⟨S, hS⟩ : ∃ x, crcL 65535 L5 = x := ⟨_, rfl⟩
  have hS16 : S < 65536 := by rw [← hS]; exact crc_lt HBH.out
  rw [hS] at HR2 ⊢
  clear hS z3
  go_wp2_with fail
  refine (two_calls w _ L5 (S : Int) _ HO6.out HB6.out (by omega)).mono ?_
  rintro e w8 ⟨v8, rfl, h8, hb8, _⟩
  rw [HR2.out] at h8
  have HO8 := Aside0.mk h8
  have HB8 := Aside0.mk hb8
  clear h8 hb8
  go_wp2_with fail
  go_ret2
  exact ⟨_, rfl, HO8.out, HB8.out⟩
end Go.Proofs.Ytbaapakkdnhcmaa.PWe
