/- cmd.Put, cmd.Clean, of any command: walks. Helper text. -/
import Derived.Test.YtbaapakkdnhcmaaWkPlain
import Derived.Test.YtbaapakkdnhcmaaCbA
import Derived.Test.YtbaapakkdnhcmaaCcV
import Derived.Test.YtbaapakkdnhcmaaCbWrd
import Derived.Test.YtbaapakkdnhcmaaWhView
namespace Go.Proofs.Ytbaapakkdnhcmaa.PWe
open Go.RowKit Go.Proofs.Ytbaapakkdnhcmaa.Kx Go.Proofs.YtbaapakkdnhcmaaW.PrintWords Go.Proofs.YtbaapakkdnhcmaaW.PrintLast Go.Proofs.YtbaapakkdnhcmaaW.PrintMore
set_option linter.unusedVariables false
set_option linter.unusedSimpArgs false

/-- The bytes that count, of a command's seven numbers. -/
def oneB (L : List Int) (op : Int) : List Int := (offs op).map fun j => L.getD j 0 % 256
def putB (L : List Int) (op : Int) : List Int := [op % 256] ++ oneB L op ++ if goesF op = true then b2 (L.getD 6 0) else []
theorem ptrs_far {w w' : World} {v : Value} {g : Nat} {l : List Nat} (h : Ptrs w v g l) (hk : ∀ (hh : Nat) (cs : Array Value), w.heap[hh]? = some (Obj.cells cs 159 (0, 0)) → w'.heap[hh]? = some (Obj.cells cs 159 (0, 0))) : Ptrs w' v g l := by
  rcases h with h | ⟨hh, e, hne, hb⟩
  · exact .inl h
  · exact .inr ⟨hh, e, hne, hk _ _ hb⟩
theorem oneB_take (L : List Int) (op : Int) (k : Nat) (hk : k < (offs op).length) : (oneB L op).take (k + 1) = (oneB L op).take k ++ [L.getD ((offs op).getD k 0) 0 % 256] := by
  have h1 : k < (oneB L op).length := by unfold oneB; rw [List.length_map]; exact hk
  rw [List.take_add_one, List.getElem?_eq_getElem h1]
  unfold oneB
  simp [hk]
set_option maxHeartbeats 4000000 in
set_option maxRecDepth 100000 in
theorem putc_calls (a0 a1 a2 a3 a4 a5 a6 : Int) (w : World) {ok : Bool} (hok : cmd_Command_Right.f 16 a0 a1 a2 a3 a4 a5 a6 = some ok) {L : List Int} (hL : [a0, a1, a2, a3, a4, a5, a6] = L) {r : List Int} (hr : putB L a0 = r) :
    Calls Try.prog 86 #[.agg #[.int .i64 a0, .int .i64 a1, .int .i64 a2, .int .i64 a3, .int .i64 a4, .int .i64 a5, .int .i64 a6]] w fun e w' => ∃ v0_ : Value, e = .returned (.tuple #[v0_, .int .i64 (if ok = true then 0 else 2)]) ∧ Kd.R (Kd.int .u8) 5 w' w.heap.size (fun _ => True) v0_ (if ok = true then r else []) ∧ Below w.heap.size w w' := by
  have HOK := Aside0.mk hok
  have hLl : L.length = 7 := by rw [← hL]; rfl
  have hg0 : L.getD 0 0 = a0 := by rw [← hL]; rfl
  have hcs : (#[.int .i64 a0, .int .i64 a1, .int .i64 a2, .int .i64 a3, .int .i64 a4, .int .i64 a5, .int .i64 a6] : Array Value) = cc L := by rw [← hL]; rfl
  have hg6 : L.getD 6 0 = a6 := by rw [← hL]; rfl
  have HLL := Aside0.mk hLl
  have HG0 := Aside0.mk hg0
  have HG6 := Aside0.mk hg6
  have HR := Aside0.mk hr
  have HCS := Aside0.mk hcs
  have hX : IntKind.u8.wrap a0 = a0 % 256 := Go.IntKind.wrap_u8' _
  obtain ⟨X, hX'⟩ : ∃ x, a0 % 256 = x := ⟨_, rfl⟩
  rw [hX'] at hX
  have HX := Aside0.mk hX'
  have HB : Aside0 (Below w.heap.size w w) := ⟨Below.refl _ _⟩
  clear hok hLl hg0 hg6 hr hL hcs hX'
  go_enter Try.func86, Try.ntmps86
  go_wp2_with (first | ((with_reducible refine gate_dst (N := 1) rfl ?_); refine boxN (w := w) rfl (N := 1) rfl (cs := #[.int .i64 a0, .int .i64 a1, .int .i64 a2, .int .i64 a3, .int .i64 a4, .int .i64 a5, .int .i64 a6]) (t := 98) (by first | (go_simp; done) | (go_simp; rfl)) HB ?_; intro g1 Wa Ha Lg1 HB_Wa K_Wa) | ((with_reducible refine gate_dst (N := 7) rfl ?_); refine wpList_load_row rfl 98 _ rfl g1 rfl 98 _ (0, 0) _ Ha.out Try.underlying98 rfl (by kernel_rfl) ?_))
  refine (cmd_Command_Right.calls 16 a0 a1 a2 a3 a4 a5 a6 ok Wa HOK.out).mono ?_
  rintro e w1 ⟨rfl, hb⟩
  have HB1 := Aside0.mk (below_step HB_Wa.out hb)
  have H1 : Aside0 (w1.heap[g1]? = some (.cells (cc L) 98 (0, 0))) := ⟨by have h := blk_below Ha.out hb; rw [HCS.out] at h; exact h⟩
  clear hb Ha HB_Wa K_Wa
  cases ok
  · go_wp2_with fail
    go_ret2
    exact ⟨_, rfl, Kd.R_nil _ _ _ _ _, HB1.out⟩
  have x0 : w1.cell? ⟨g1, 0, none⟩ = some (.int .i64 a0) := by
    rw [cell_in H1.out 0, cc_get (by have := HLL.out; omega), HG0.out]
  go_wp2_with (first | ((with_reducible refine gate_dst (N := 13) rfl ?_); refine litN (w := w) (Kd.int .u8) 5 rfl (N := 13) rfl (xs := ([X] : List Int)) (inner := [.int .u8 X]) (by first | (go_simp; done) | (go_simp; rfl)) (Reps.one (show Kd.M (Kd.int .u8) _ _ _ X [.int .u8 X] from rfl) (Reps.none _ _)) HB1 (by simp) ?_; intro v4 W2 HO2 HB2 K2; have H2 := Aside0.mk (blk_below H1.out K2.out)))
  have hbc := bytes_any a0 g1 _ W2 H2.out (by rw [cc_get (by have := HLL.out; omega), HG0.out])
  have HBC := Aside0.mk hbc
  clear hbc x0
  refine HBC.out.mono ?_
  rintro e w3 ⟨v, rfl, hp, hb3⟩
  obtain ⟨A, rfl, hq⟩ := ptrs_form hp
  obtain ⟨n, hn⟩ : ∃ n, (offs a0).length = n := ⟨_, rfl⟩
  have hn4 : (offs a0).length ≤ 4 := offs_len a0
  have HO3 := Aside0.mk (Kd.R_below HO2.out hb3)
  have H3 := Aside0.mk (blk_below H2.out hb3)
  have HB3 := Aside0.mk (below_step HB2.out hb3)
  have HP3 : Aside0 (Ptrs w3 (.slice A n n) g1 (offs a0)) := ⟨by rw [← hn]; exact hp⟩
  have HN := Aside0.mk hn
  rw [hn] at hn4 ⊢
  clear hp hb3 hq HO2 H2 HB2 H1 HB1 hn HBC
  go_wp2_with fail
  go_loopw [4, 6, 16] (fun v4 v6 v16 wr => ∃ k : Nat, k ≤ n ∧ v16 = .int .i64 k ∧ Kd.R (Kd.int .u8) 5 wr w.heap.size (fun _ => True) v4 ([X] ++ (oneB L a0).take k) ∧ wr.heap[g1]? = some (.cells (cc L) 98 (0, 0)) ∧ Ptrs wr (.slice A n n) g1 (offs a0) ∧ Below w.heap.size w wr) (fun _ _ v16 _ => ((n : Int) - intOf v16).toNat)
  case atStart => exact ⟨0, by omega, rfl, HO3.out, H3.out, HP3.out, HB3.out⟩
  case round =>
    obtain ⟨k, hk, rfl, hR, hG, hP, hB⟩ := hrel
    clear HO3 H3 HP3 HB3
    obtain ⟨A4, c4, e4⟩ := Kd.R_slice hR
    subst e4
    obtain ⟨ys, hys⟩ : ∃ ys, [X] ++ (oneB L a0).take k = ys := ⟨_, rfl⟩
    rw [hys] at hR
    have hyl : ys.length ≤ 5 := by
      rw [← hys]
      simp [oneB]
      omega
    have HYL := Aside0.mk hyl
    have HYS := Aside0.mk hys
    rw [hys]
    have HRk := Aside0.mk hR
    have HG := Aside0.mk hG
    have HPk := Aside0.mk hP
    have HB := Aside0.mk hB
    rcases (by omega : k < n ∨ k = n) with hkn | rfl
    · have hoff := offs_at a0 (j := k) (by rw [HN.out]; exact hkn)
      obtain ⟨A', hA', hq⟩ := ptrs_form hP
      obtain ⟨hh, hA2, hne, hcell⟩ := hq k (by rw [HN.out]; exact hkn)
      have hA1 : A = some ⟨hh, 0, none⟩ := (Value.slice.inj hA').1.trans hA2
      subst hA1
      clear hA' hA2
      obtain ⟨o, ho⟩ : ∃ o, (offs a0).getD k 0 = o := ⟨_, rfl⟩
      rw [ho] at hcell hoff
      have HO := Aside0.mk ho
      have x0 : wr.cell? ⟨g1, o, none⟩ = some (.int .i64 (L.getD o 0)) := by
        rw [cell_in HG.out o, cc_get (by have := HLL.out; omega)]
      obtain ⟨x, hx⟩ : ∃ x, L.getD o 0 = x := ⟨_, rfl⟩
      rw [hx] at x0
      have HXo := Aside0.mk hx
      have hY : IntKind.u8.wrap x = x % 256 := Go.IntKind.wrap_u8' _
      obtain ⟨Y, hY'⟩ : ∃ y, x % 256 = y := ⟨_, rfl⟩
      rw [hY'] at hY
      have HY := Aside0.mk hY'
      have m1 : decide ((k : Int) < (n : Int)) = true := decide_eq_true (by omega)
      have m2 : decide (k < n) = true := decide_eq_true hkn
      clear hR hG hB hP hys hyl hoff ho hx hY' hq
      go_wp2_with (first | ((with_reducible refine gate_dst (N := 25) rfl ?_); refine litN (w := w) (Kd.int .u8) 5 rfl (N := 25) rfl (xs := ([Y] : List Int)) (inner := [.int .u8 Y]) (by first | (go_simp; done) | (go_simp; rfl)) (Reps.one (show Kd.M (Kd.int .u8) _ _ _ Y [.int .u8 Y] from rfl) (Reps.none _ _)) HB (by simp) ?_; intro va Wa Ha HB_Wa K_Wa; obtain ⟨Aa, ca, ea⟩ := Kd.R_slice Ha.out; subst ea; have Ra := Aside0.mk (Kd.R_reads' Ha.out).2.2; have HOa := Aside0.mk (Kd.R_below HRk.out K_Wa.out); have HGa := Aside0.mk (blk_below HG.out K_Wa.out); have HPa := Aside0.mk (ptrs_far HPk.out (fun _ _ h => blk_below h K_Wa.out))) | ((with_reducible refine gate_builtin (b := .append) (xs := #[.tmp 20, .tmp 25]) rfl ?_); at_builtin; refine Kd.R_append_rows (Kd.int .u8) (w0 := w) w.heap.size rfl (.tmp 20) (.tmp 25) 23 5 (.int .u8 0) 1 rfl Try.underlying23 info5 rfl (by decide) (by decide) _ ys [Y] Aa _ ca (fun _ => True) (fun _ => False) rfl rfl HOa.out Ra.out (fun _ _ h => h) (fun _ h => h.elim) (fun _ _ => trivial) HB_Wa.out (below_size HB_Wa.out) (by have := HYL.out; simp; omega) ?_; intro v1 W1 h1 hb1 hg1 _; have HR1 := Aside0.mk h1; have HB1 := Aside0.mk hb1; have HG1 := Aside0.mk (blk_grown HGa.out hg1 (Kd.R_ne HOa.out HGa.out (by decide))); have HP1 := Aside0.mk (ptrs_far HPa.out (fun _ _ h => blk_grown h hg1 (Kd.R_ne HOa.out h (by decide)))); clear h1 hb1 hg1))
      exact ⟨⟨k + 1, by omega, by simp [intOf], by rw [oneB_take L a0 k (by rw [HN.out]; exact hkn), HO.out, HXo.out, HY.out, ← List.append_assoc, HYS.out]; exact HR1.out, HG1.out, HP1.out, HB1.out⟩, by simp [intOf]; omega⟩
    · have m1 : decide ((k : Int) < (k : Int)) = false := decide_eq_false (by omega)
      have m2 : decide (k < k) = false := decide_eq_false (by omega)
      have hall : (oneB L a0).take k = oneB L a0 := List.take_of_length_le (by unfold oneB; rw [List.length_map, HN.out]; omega)
      rw [hall] at hys
      have HYS2 := Aside0.mk hys
      clear hR hG hB hP hys hyl hall HYS
      go_wp2_with fail
      refine (goes_any a0 g1 _ _ HG.out (by rw [cc_get (by have := HLL.out; omega), HG0.out])).mono ?_
      rintro e w4 ⟨rfl, hw4⟩
      obtain rfl := hw4.symm
      cases hgo : goesF a0
      · have hfin : ys = r := by rw [← HR.out, ← HYS2.out]; unfold putB; rw [HX.out, hgo, if_neg (by decide), List.append_nil]
        have HF := Aside0.mk hfin
        clear hfin hgo
        go_wp2_with fail
        go_ret2
        exact ⟨_, rfl, HF.out ▸ HRk.out, HB.out⟩
      · have x6 : wr.cell? ⟨g1, 6, none⟩ = some (.int .i64 a6) := by rw [cell_in HG.out 6, cc_get (by have := HLL.out; omega), HG6.out]
        have hU : IntKind.u8.wrap (a6 / 256) = a6 / 256 % 256 := Go.IntKind.wrap_u8' _
        have hV : IntKind.u8.wrap a6 = a6 % 256 := Go.IntKind.wrap_u8' _
        obtain ⟨U, hU'⟩ : ∃ x, a6 / 256 % 256 = x := ⟨_, rfl⟩
        obtain ⟨V, hV'⟩ : ∃ x, a6 % 256 = x := ⟨_, rfl⟩
        have hfin : ys ++ [U, V] = r := by rw [← HR.out, ← HYS2.out]; unfold putB b2; rw [HX.out, hgo, if_pos rfl, HG6.out, hU', hV']
        rw [hU'] at hU
        rw [hV'] at hV
        have HF := Aside0.mk hfin
        clear hfin hgo hU' hV'
        go_wp2_with (first | ((with_reducible refine gate_dst (N := 37) rfl ?_); refine litN (w := w) (Kd.int .u8) 5 rfl (N := 37) rfl (xs := ([U, V] : List Int)) (inner := [.int .u8 U, .int .u8 V]) (by first | (go_simp; done) | (go_simp; rfl)) (Reps.one (show Kd.M (Kd.int .u8) _ _ _ U [.int .u8 U] from rfl) (Reps.one (show Kd.M (Kd.int .u8) _ _ _ V [.int .u8 V] from rfl) (Reps.none _ _))) HB (by simp) ?_; intro va Wa Ha HB_Wa K_Wa; obtain ⟨Aa, ca, ea⟩ := Kd.R_slice Ha.out; subst ea; have Ra := Aside0.mk (Kd.R_reads' Ha.out).2.2; have HOa := Aside0.mk (Kd.R_below HRk.out K_Wa.out)) | ((with_reducible refine gate_builtin (b := .append) (xs := #[.tmp 29, .tmp 37]) rfl ?_); at_builtin; refine Kd.R_append_rows (Kd.int .u8) (w0 := w) w.heap.size rfl (.tmp 29) (.tmp 37) 23 5 (.int .u8 0) 1 rfl Try.underlying23 info5 rfl (by decide) (by decide) _ ys [U, V] Aa _ ca (fun _ => True) (fun _ => False) rfl rfl HOa.out Ra.out (fun _ _ h => h) (fun _ h => h.elim) (fun _ _ => trivial) HB_Wa.out (below_size HB_Wa.out) (by have := HYL.out; simp; omega) ?_; intro v1 W1 h1 hb1 hg1 _; have HR1 := Aside0.mk h1; have HB1 := Aside0.mk hb1; clear h1 hb1 hg1))
        go_ret2
        exact ⟨_, rfl, HF.out ▸ HR1.out, HB1.out⟩
end Go.Proofs.Ytbaapakkdnhcmaa.PWe
namespace Go.Proofs.Ytbaapakkdnhcmaa.PWe
open Go.RowKit Go.Proofs.Ytbaapakkdnhcmaa.Kx Go.Proofs.YtbaapakkdnhcmaaW.PrintWords Go.Proofs.YtbaapakkdnhcmaaW.PrintLast Go.Proofs.YtbaapakkdnhcmaaW.PrintMore
set_option linter.unusedVariables false
set_option linter.unusedSimpArgs false

def cleanK (L : List Int) (op : Int) : Nat → List Int
  | 0 => [op, 0, 0, 0, 0, 0, 0]
  | k + 1 => (cleanK L op k).set ((offs op).getD k 0) (L.getD ((offs op).getD k 0) 0)
/-- A command without what doesn't count. -/
def cleanL (L : List Int) (op : Int) : List Int := if goesF op = true then (cleanK L op (offs op).length).set 6 (L.getD 6 0) else cleanK L op (offs op).length
theorem cleanK_len (L : List Int) (op : Int) : ∀ k, (cleanK L op k).length = 7
  | 0 => rfl
  | k + 1 => by rw [cleanK, List.length_set]; exact cleanK_len L op k
theorem cleanK_zero (L : List Int) (op : Int) : ∀ k, k ≤ (offs op).length → (cleanK L op k).getD 0 0 = op
  | 0, _ => rfl
  | k + 1, h => by
    have ho := (offs_at op (j := k) (by omega)).1
    rw [cleanK, List.getD_eq_getElem?_getD, List.getElem?_set_ne (by omega), ← List.getD_eq_getElem?_getD]
    exact cleanK_zero L op k (by omega)
set_option maxHeartbeats 4000000 in
set_option maxRecDepth 100000 in
theorem clean_calls (a0 a1 a2 a3 a4 a5 a6 : Int) (w : World) {L : List Int} (hL : [a0, a1, a2, a3, a4, a5, a6] = L) {r : List Int} (hr : cleanL L a0 = r) :
    Calls Try.prog 113 #[.agg #[.int .i64 a0, .int .i64 a1, .int .i64 a2, .int .i64 a3, .int .i64 a4, .int .i64 a5, .int .i64 a6]] w fun e w' => e = .returned (.agg (cc r)) ∧ Below w.heap.size w w' := by
  have hLl : L.length = 7 := by rw [← hL]; rfl
  have hg0 : L.getD 0 0 = a0 := by rw [← hL]; rfl
  have hcs : (#[.int .i64 a0, .int .i64 a1, .int .i64 a2, .int .i64 a3, .int .i64 a4, .int .i64 a5, .int .i64 a6] : Array Value) = cc L := by rw [← hL]; rfl
  have HLL := Aside0.mk hLl
  have HG0 := Aside0.mk hg0
  have HR := Aside0.mk hr
  have HCS := Aside0.mk hcs
  have HB : Aside0 (Below w.heap.size w w) := ⟨Below.refl _ _⟩
  clear hLl hg0 hr hL hcs
  go_enter Try.func113, Try.ntmps113
  go_wp2_with (first | ((with_reducible refine gate_dst (N := 1) rfl ?_); refine boxN (w := w) rfl (N := 1) rfl (cs := #[.int .i64 a0, .int .i64 a1, .int .i64 a2, .int .i64 a3, .int .i64 a4, .int .i64 a5, .int .i64 a6]) (t := 98) (by first | (go_simp; done) | (go_simp; rfl)) HB ?_; intro g1 Wa Ha Lg1 HBa Ka; have H1 := Aside0.mk Ha.out; rw [HCS.out] at H1; have x0 : Wa.cell? ⟨g1, 0, none⟩ = some (.int .i64 a0) := (cell_in H1.out 0).trans ((cc_get (by rw [HLL.out]; decide)).trans (by rw [HG0.out]))) | ((with_reducible refine gate_dst (N := 2) rfl ?_); refine boxN (w := w) rfl (N := 2) rfl (cs := cc [0, 0, 0, 0, 0, 0, 0]) (t := 98) (by first | (go_simp; done) | (go_simp; rfl)) HBa ?_; intro g2 Wb Hb Lg2 HBb Kb; have H1b := Aside0.mk (blk_below H1.out Kb.out); have x0 : Wb.cell? ⟨g1, 0, none⟩ = some (.int .i64 a0) := (cell_in H1b.out 0).trans ((cc_get (by rw [HLL.out]; decide)).trans (by rw [HG0.out]))) | ((with_reducible refine gate_dst (N := 3) rfl ?_); refine boxN (w := w) rfl (N := 3) rfl (cs := cc [0, 0, 0, 0, 0, 0, 0]) (t := 98) (by first | (go_simp; done) | (go_simp; rfl)) HBb ?_; intro g3 Wc Hc Lg3 HBc Kc) | (refine storeCsN (w := w) rfl 98 _ _ rfl g3 (cc [a0, 0, 0, 0, 0, 0, 0]) rfl rfl 98 _ Hc (by kernel_rfl) rfl (cc_one _) HBc ⟨Lg3.out.1⟩ ?_; intro Wd Hd HBd HOd))
  have n13 : g1 ≠ g3 := fun e => by have h1 := lt_of_block H1b.out; have h2 := Lg3.out.2; omega
  have n23 : g2 ≠ g3 := fun e => by have h1 := lt_of_block Hb.out; have h2 := Lg3.out.2; omega
  have H1d := Aside0.mk ((HOd.out g1 n13).trans (blk_below H1b.out Kc.out))
  have H2d := Aside0.mk ((HOd.out g2 n23).trans (blk_below Hb.out Kc.out))
  have N13 := Aside0.mk n13
  have N23 := Aside0.mk n23
  clear x0 n13 n23 Ha HBa Ka H1 Hb HBb Kb H1b Hc HBc Kc HOd
  refine (bytes_any a0 g1 _ Wd H1d.out (by rw [cc_get (by have := HLL.out; omega), HG0.out])).mono ?_
  rintro e w4 ⟨v4, rfl, hp4, hb4⟩
  obtain ⟨A4, rfl, _⟩ := ptrs_form hp4
  have H14 := Aside0.mk (blk_below H1d.out hb4)
  have H24 := Aside0.mk (blk_below H2d.out hb4)
  have H34 := Aside0.mk (blk_below Hd.out hb4)
  have HB4 := Aside0.mk (below_step HBd.out hb4)
  have HP4 := Aside0.mk hp4
  obtain ⟨n, hn⟩ : ∃ n, (offs a0).length = n := ⟨_, rfl⟩
  have hn4 : (offs a0).length ≤ 4 := offs_len a0
  have HN := Aside0.mk hn
  rw [hn] at hn4 HP4 ⊢
  clear hp4 hb4 H1d H2d Hd HBd hn
  go_wp2_with fail
  refine (bytes_any a0 g3 _ w4 H34.out rfl).mono ?_
  rintro e w5 ⟨v5, rfl, hp5, hb5⟩
  obtain ⟨A5, rfl, _⟩ := ptrs_form hp5
  have H15 := Aside0.mk (blk_below H14.out hb5)
  have H25 := Aside0.mk (blk_below H24.out hb5)
  have H35 := Aside0.mk (blk_below H34.out hb5)
  have HB5 := Aside0.mk (below_step HB4.out hb5)
  have HP5 := Aside0.mk hp5
  have HP45 := Aside0.mk (ptrs_far HP4.out (fun _ _ h => blk_below h hb5))
  rw [HN.out] at HP5 ⊢
  clear hp5 hb5 H14 H24 H34 HB4 HP4
  go_wp2_with fail
  go_loopw [5, 6, 13] (fun v5 v6 v13 wr => ∃ k : Nat, k ≤ n ∧ v13 = .int .i64 k ∧ wr.heap[g1]? = some (.cells (cc L) 98 (0, 0)) ∧ wr.heap[g2]? = some (.cells (cc [0, 0, 0, 0, 0, 0, 0]) 98 (0, 0)) ∧ wr.heap[g3]? = some (.cells (cc (cleanK L a0 k)) 98 (0, 0)) ∧ Ptrs wr (.slice A4 n n) g1 (offs a0) ∧ Ptrs wr (.slice A5 n n) g3 (offs a0) ∧ Below w.heap.size w wr) (fun _ _ v13 _ => ((n : Int) - intOf v13).toNat)
  case atStart => exact ⟨0, by omega, rfl, H15.out, H25.out, H35.out, HP45.out, HP5.out, HB5.out⟩
  case round =>
    obtain ⟨k, hk, rfl, h1, h2, h3, hp4, hp5, hB⟩ := hrel
    clear H15 H25 H35 HP45 HP5 HB5
    have H1 := Aside0.mk h1
    have H2 := Aside0.mk h2
    have H3 := Aside0.mk h3
    have HP4 := Aside0.mk hp4
    have HP5 := Aside0.mk hp5
    have HB := Aside0.mk hB
    clear h1 h2 h3 hB
    rcases (by omega : k < n ∨ k = n) with hkn | rfl
    · have hoff := offs_at a0 (j := k) (by rw [HN.out]; exact hkn)
      obtain ⟨A', hA', hq⟩ := ptrs_form hp4
      obtain ⟨hh, hA2, hne, hcell⟩ := hq k (by rw [HN.out]; exact hkn)
      have hA1 : A4 = some ⟨hh, 0, none⟩ := (Value.slice.inj hA').1.trans hA2
      subst hA1
      clear hA' hA2
      obtain ⟨A'', hA', hq5⟩ := ptrs_form hp5
      obtain ⟨hh5, hA2, hne5, hcell5⟩ := hq5 k (by rw [HN.out]; exact hkn)
      have hA1 : A5 = some ⟨hh5, 0, none⟩ := (Value.slice.inj hA').1.trans hA2
      subst hA1
      clear hA' hA2
      obtain ⟨o, ho⟩ : ∃ o, (offs a0).getD k 0 = o := ⟨_, rfl⟩
      rw [ho] at hcell hcell5 hoff
      have HO := Aside0.mk ho
      have x0 : wr.cell? ⟨g1, o, none⟩ = some (.int .i64 (L.getD o 0)) := by
        rw [cell_in H1.out o, cc_get (by have := HLL.out; omega)]
      obtain ⟨x, hx⟩ : ∃ x, L.getD o 0 = x := ⟨_, rfl⟩
      rw [hx] at x0
      have HXo := Aside0.mk hx
      have y0 : wr.cell? ⟨g3, o, none⟩ = some (.int .i64 ((cleanK L a0 k).getD o 0)) := by
        rw [cell_in H3.out o, cc_get (by rw [cleanK_len]; omega)]
      have f0 : wr.frozen? ⟨g3, o, none⟩ = false := free_in H3.out o
      have HL3 := Aside0.mk (lt_of_block H3.out)
      have m1 : decide ((k : Int) < (n : Int)) = true := decide_eq_true (by omega)
      have m2 : decide (k < n) = true := decide_eq_true hkn
      have r1 : ((k : Int) < (n : Int)) = True := eq_true (by omega)
      have r2 : (k < n) = True := eq_true hkn
      clear hp4 hp5 hoff ho hx hq hq5
      go_wp2_with (first | (refine storeCellN (w := w) rfl rfl 3 (.tmp 25) (.tmp 24) rfl g3 o (.int .i64 x) H3 (by first | (go_simp; done) | (go_simp; rfl)) HB ⟨Lg3.out.1⟩ ?_; intro W3 HW3 HBW HOW))
      have far : ∀ (hb : Nat) (cs : Array Value), wr.heap[hb]? = some (Obj.cells cs 159 (0, 0)) → W3.heap[hb]? = some (Obj.cells cs 159 (0, 0)) := fun hb cs h => (HOW.out hb (fun e => by rw [e, H3.out] at h; injection h with h; injection h with _ h2; exact absurd h2 (by decide))).trans h
      exact ⟨⟨k + 1, by omega, by simp, (HOW.out g1 N13.out).trans H1.out, (HOW.out g2 N23.out).trans H2.out, by rw [HW3.out, cc_set, cleanK, HO.out, HXo.out], ptrs_far HP4.out far, ptrs_far HP5.out far, HBW.out⟩, by simp [intOf]; omega⟩
    · have m1 : decide ((k : Int) < (k : Int)) = false := decide_eq_false (by omega)
      have m2 : decide (k < k) = false := decide_eq_false (by omega)
      clear hp4 hp5
      go_wp2_with fail
      refine (goes_any a0 g1 _ _ H1.out (by rw [cc_get (by have := HLL.out; omega), HG0.out])).mono ?_
      rintro e w6 ⟨rfl, hw6⟩
      obtain rfl := hw6.symm
      cases hgo : goesF a0
      · have hfin : cleanK L a0 k = r := by rw [← HR.out]; unfold cleanL; rw [hgo, if_neg (by decide), HN.out]
        have hl : r.length = 7 := by rw [← hfin]; exact cleanK_len _ _ _
        have HL := Aside0.mk hl
        rw [hfin] at H3
        clear hfin hgo hl
        go_wp2_with (first | ((with_reducible refine gate_dst (N := 31) rfl ?_); refine wpList_load_row rfl 98 _ rfl g3 rfl 98 _ (0, 0) _ H3.out Try.underlying98 rfl (by rw [cc_size, HL.out]; kernel_rfl) ?_) | (refine storeCsN (w := w) rfl 98 (.tmp 2) _ rfl g2 (cc r) rfl rfl 98 _ H2 (by rw [cc_size, HL.out]; kernel_rfl) (by rw [cc_size, cc_size, HL.out]; rfl) (cc_one _) HB ⟨Lg2.out.1⟩ ?_; intro Wz Hz HBz _))
        refine bodyPost_ret (results_cell_row rfl _ _ g2 98 (cc r) (0, 0) _ rfl Hz.out Try.underlying98 rfl (by rw [cc_size, HL.out]; kernel_rfl)) rfl ⟨rfl, HBz.out⟩
      · have hfin : (cleanK L a0 k).set 6 (L.getD 6 0) = r := by rw [← HR.out]; unfold cleanL; rw [hgo, if_pos rfl, HN.out]
        have hl : r.length = 7 := by rw [← hfin, List.length_set]; exact cleanK_len _ _ _
        have HL := Aside0.mk hl
        obtain ⟨x, hx⟩ : ∃ x, L.getD 6 0 = x := ⟨_, rfl⟩
        rw [hx] at hfin
        have HF := Aside0.mk hfin
        have x6 : wr.cell? ⟨g1, 6, none⟩ = some (.int .i64 x) := by rw [cell_in H1.out 6, cc_get (by have := HLL.out; omega), hx]
        have y6 : wr.cell? ⟨g3, 6, none⟩ = some (.int .i64 ((cleanK L a0 k).getD 6 0)) := by rw [cell_in H3.out 6, cc_get (by rw [cleanK_len]; omega)]
        have f6 : wr.frozen? ⟨g3, 6, none⟩ = false := free_in H3.out 6
        clear hfin hgo hl hx
        go_wp2_with (first | (refine storeCellN (w := w) rfl rfl 3 (.tmp 30) (.tmp 29) rfl g3 6 (.int .i64 x) H3 (by first | (go_simp; done) | (go_simp; rfl)) HB ⟨Lg3.out.1⟩ ?_; intro W3 HW3 HBW HOW; have H2w := Aside0.mk ((HOW.out g2 N23.out).trans H2.out); rw [cc_set, HF.out] at HW3) | ((with_reducible refine gate_dst (N := 31) rfl ?_); refine wpList_load_row rfl 98 _ rfl g3 rfl 98 _ (0, 0) _ HW3.out Try.underlying98 rfl (by rw [cc_size, HL.out]; kernel_rfl) ?_) | (refine storeCsN (w := w) rfl 98 (.tmp 2) _ rfl g2 (cc r) rfl rfl 98 _ H2w (by rw [cc_size, HL.out]; kernel_rfl) (by rw [cc_size, cc_size, HL.out]; rfl) (cc_one _) HBW ⟨Lg2.out.1⟩ ?_; intro Wz Hz HBz _))
        refine bodyPost_ret (results_cell_row rfl _ _ g2 98 (cc r) (0, 0) _ rfl Hz.out Try.underlying98 rfl (by rw [cc_size, HL.out]; kernel_rfl)) rfl ⟨rfl, HBz.out⟩
end Go.Proofs.Ytbaapakkdnhcmaa.PWe
namespace Go.Proofs.Ytbaapakkdnhcmaa.PWe
open Go.RowKit Go.Proofs.Ytbaapakkdnhcmaa.Kx Go.Proofs.YtbaapakkdnhcmaaW.PrintWords Go.Proofs.YtbaapakkdnhcmaaW.PrintLast Go.Proofs.YtbaapakkdnhcmaaW.PrintMore
set_option linter.unusedVariables false
set_option linter.unusedSimpArgs false

/-- Where a module is among some. -/
def candP (l : List Int) (md : Int) : Int := idxP (fun x => md == x) l 0
/-- What a window's message does, for a module. -/
def opP (lf lt : List Int) (md : Int) : Int := if 0 ≤ candP lf md then 1 else if has_ lt md = true then 2 else 3
/-- The command that a window is, for a module: its seven numbers. -/
def cmdW (x : S76) (md : Int) : List Int :=
  if x.f0 = 1 then [4, 0, 0, 0, 0, x.f1, 0] else if x.f0 = 2 then [5, 0, 0, 0, 0, 0, 0]
  else cleanL [opP x.f4 x.f5 md, x.f3, x.f2, if 0 ≤ candP x.f4 md then candP x.f4 md else 0, (x.f4.length : Int), 0, 0] (opP x.f4 x.f5 md)
theorem cleanL_len (L : List Int) (op : Int) : (cleanL L op).length = 7 := by
  unfold cleanL
  split
  · rw [List.length_set, cleanK_len]
  · exact cleanK_len _ _ _
theorem cmdW_len (x : S76) (md : Int) : (cmdW x md).length = 7 := by
  unfold cmdW
  split
  · rfl
  split
  · rfl
  · exact cleanL_len _ _
set_option maxHeartbeats 4000000 in
set_option maxRecDepth 100000 in
theorem command_calls (x : S76) (A4 : Option Addr) (c4 : Nat) (A5 : Option Addr) (c5 : Nat) (md : Int) (w : World) (hr4 : Kd.C (Kd.int .i64) w A4 x.f4.length x.f4) (hr5 : Kd.C (Kd.int .i64) w A5 x.f5.length x.f5) {r : List Int} (hr : cmdW x md = r) :
    Calls Try.prog 85 #[.agg (winCs x.f0 x.f1 x.f2 x.f3 A4 x.f4.length c4 A5 x.f5.length c5), .int .i64 md] w fun e w' => e = .returned (.agg (cc r)) ∧ Below w.heap.size w w' := by
  have hl : r.length = 7 := by rw [← hr]; exact cmdW_len _ _
  obtain ⟨a0, a1, a2, a3, l4, l5⟩ := x
  dsimp only at hr4 hr5 ⊢
  unfold cmdW at hr
  dsimp only at hr
  have H4 := Aside0.mk hr4
  have H5 := Aside0.mk hr5
  have HL := Aside0.mk hl
  have HB : Aside0 (Below w.heap.size w w) := ⟨Below.refl _ _⟩
  clear hr4 hr5 hl
  by_cases h1 : a0 = 1
  · subst h1
    have e0 : [4, 0, 0, 0, 0, a1, 0] = r := by rw [← hr, if_pos rfl]
    subst e0
    clear hr
    unfold winCs
    go_enter Try.func85, Try.ntmps85
    go_wp2_with (first | ((with_reducible refine gate_dst (N := 2) rfl ?_); refine boxN (w := w) rfl (N := 2) rfl (cs := winCs _ a1 a2 a3 A4 l4.length c4 A5 l5.length c5) (t := 92) (by first | (go_simp; done) | (go_simp; rfl)) HB ?_; intro g2 Wa Ha Lg2 HBa Ka) | ((with_reducible refine gate_dst (N := 4) rfl ?_); refine boxN (w := w) rfl (N := 4) rfl (cs := cc [0, 0, 0, 0, 0, 0, 0]) (t := 98) (by first | (go_simp; done) | (go_simp; rfl)) HBa ?_; intro g4 Wb Hb Lg4 HBb Kb; have Hab := Aside0.mk (blk_below Ha.out Kb.out); obtain ⟨x0, x1, x2, x3, x4, x5⟩ := win_cells Hab.out) | (refine storeCsN (w := w) rfl 98 (.tmp 4) _ rfl g4 (cc [4, 0, 0, 0, 0, a1, 0]) rfl rfl 98 _ Hb (by first | (rw [cc_size, HL.out]; kernel_rfl) | kernel_rfl) (by first | (rw [cc_size, cc_size, HL.out]; rfl) | rfl) (cc_one _) HBb ⟨Lg4.out.1⟩ ?_; intro Wz Hz HBz _))
    refine bodyPost_ret (results_cell_row rfl _ _ g4 98 (cc [4, 0, 0, 0, 0, a1, 0]) (0, 0) _ rfl Hz.out Try.underlying98 rfl (by first | (rw [cc_size, HL.out]; kernel_rfl) | kernel_rfl)) rfl ⟨rfl, HBz.out⟩
  rw [if_neg h1] at hr
  have k1 : (a0 == 1) = false := by simpa using h1
  by_cases h2 : a0 = 2
  · subst h2
    have e0 : [5, 0, 0, 0, 0, 0, 0] = r := by rw [← hr, if_pos rfl]
    subst e0
    clear hr k1 h1
    unfold winCs
    go_enter Try.func85, Try.ntmps85
    go_wp2_with (first | ((with_reducible refine gate_dst (N := 2) rfl ?_); refine boxN (w := w) rfl (N := 2) rfl (cs := winCs _ a1 a2 a3 A4 l4.length c4 A5 l5.length c5) (t := 92) (by first | (go_simp; done) | (go_simp; rfl)) HB ?_; intro g2 Wa Ha Lg2 HBa Ka) | ((with_reducible refine gate_dst (N := 4) rfl ?_); refine boxN (w := w) rfl (N := 4) rfl (cs := cc [0, 0, 0, 0, 0, 0, 0]) (t := 98) (by first | (go_simp; done) | (go_simp; rfl)) HBa ?_; intro g4 Wb Hb Lg4 HBb Kb; have Hab := Aside0.mk (blk_below Ha.out Kb.out); obtain ⟨x0, x1, x2, x3, x4, x5⟩ := win_cells Hab.out) | (refine storeCsN (w := w) rfl 98 (.tmp 4) _ rfl g4 (cc [5, 0, 0, 0, 0, 0, 0]) rfl rfl 98 _ Hb (by first | (rw [cc_size, HL.out]; kernel_rfl) | kernel_rfl) (by first | (rw [cc_size, cc_size, HL.out]; rfl) | rfl) (cc_one _) HBb ⟨Lg4.out.1⟩ ?_; intro Wz Hz HBz _))
    refine bodyPost_ret (results_cell_row rfl _ _ g4 98 (cc [5, 0, 0, 0, 0, 0, 0]) (0, 0) _ rfl Hz.out Try.underlying98 rfl (by first | (rw [cc_size, HL.out]; kernel_rfl) | kernel_rfl)) rfl ⟨rfl, HBz.out⟩
  rw [if_neg h2] at hr
  have k2 : (a0 == 2) = false := by simpa using h2
  have HR := Aside0.mk hr
  obtain ⟨cd, hcd⟩ : ∃ c, candP l4 md = c := ⟨_, rfl⟩
  obtain ⟨hs, hhs⟩ : ∃ c, has_ l5 md = c := ⟨_, rfl⟩
  have HCD := Aside0.mk hcd
  have HHS := Aside0.mk hhs
  clear hr h1 h2 hcd hhs
  unfold winCs
  go_enter Try.func85, Try.ntmps85
  go_wp2_with (first | ((with_reducible refine gate_dst (N := 2) rfl ?_); refine boxN (w := w) rfl (N := 2) rfl (cs := winCs _ a1 a2 a3 A4 l4.length c4 A5 l5.length c5) (t := 92) (by first | (go_simp; done) | (go_simp; rfl)) HB ?_; intro g2 Wa Ha Lg2 HBa Ka) | ((with_reducible refine gate_dst (N := 4) rfl ?_); refine boxN (w := w) rfl (N := 4) rfl (cs := cc [0, 0, 0, 0, 0, 0, 0]) (t := 98) (by first | (go_simp; done) | (go_simp; rfl)) HBa ?_; intro g4 Wb Hb Lg4 HBb Kb; have Hab := Aside0.mk (blk_below Ha.out Kb.out); obtain ⟨x0, x1, x2, x3, x4, x5⟩ := win_cells Hab.out) | ((with_reducible refine gate_dst (N := 5) rfl ?_); refine boxN (w := w) rfl (N := 5) rfl (cs := cc [0, 0, 0, 0, 0, 0, 0]) (t := 98) (by first | (go_simp; done) | (go_simp; rfl)) HBb ?_; intro g5 Wc Hc Lg5 HBc Kc) | (refine storeCsN (w := w) rfl 98 (.tmp 5) _ rfl g5 (cc [3, a3, a2, 0, (l4.length : Int), 0, 0]) rfl rfl 98 _ Hc (by kernel_rfl) rfl (cc_one _) HBc ⟨Lg5.out.1⟩ ?_; intro Wd Hd HBd HOd; have n45 : g4 ≠ g5 := (fun e => by have h1 := lt_of_block Hb.out; have h2 := Lg5.out.2; omega); have n25 : g2 ≠ g5 := (fun e => by have h1 := lt_of_block Hab.out; have h2 := Lg5.out.2; omega); have N45 := Aside0.mk n45; have Had := Aside0.mk ((HOd.out g2 n25).trans (blk_below Hab.out Kc.out)); have Hbd := Aside0.mk ((HOd.out g4 n45).trans (blk_below Hb.out Kc.out)); clear n45 n25 x0 x1 x2 x3 x4 x5; obtain ⟨x0, x1, x2, x3, x4, x5⟩ := win_cells Had.out))
  refine (index_calls A4 c4 l4 md Wd (Kd.C_below H4.out HBd.out)).mono ?_
  rintro e w6 ⟨rfl, hw6⟩
  obtain rfl := hw6.symm
  rw [show idxP (fun x => md == x) l4 0 = cd from HCD.out]
  have y0 : Wd.cell? ⟨g5, 0, none⟩ = some (.int .i64 3) := (cell_in Hd.out 0).trans rfl
  have f0 : Wd.frozen? ⟨g5, 0, none⟩ = false := free_in Hd.out 0
  by_cases hc : 0 ≤ cd
  · have hr2 : cleanL [1, a3, a2, cd, (l4.length : Int), 0, 0] 1 = r := by
      have h := HR.out
      unfold opP at h
      rw [HCD.out, if_pos hc, if_pos hc] at h
      exact h
    have HR2 := Aside0.mk hr2
    have k3 : decide (0 ≤ cd) = true := decide_eq_true hc
    clear HR hr2 hc
    go_wp2_with (first | (refine storeCellN (w := w) rfl rfl 3 (.tmp 33) _ rfl g5 0 (.int .i64 1) Hd (by first | (go_simp; done) | (go_simp; rfl)) HBd ⟨Lg5.out.1⟩ ?_; intro We HWe HBWe HOWe; rw [cc_set] at HWe; replace HWe : Aside0 (We.heap[g5]? = some (.cells (cc [1, a3, a2, 0, (l4.length : Int), 0, 0]) 98 (0, 0))) := HWe; have y3 : We.cell? ⟨g5, 3, none⟩ = some (.int .i64 0) := (cell_in HWe.out 3).trans rfl; have f3 : We.frozen? ⟨g5, 3, none⟩ = false := free_in HWe.out 3; have Hbe := Aside0.mk ((HOWe.out g4 N45.out).trans Hbd.out)) | (refine storeCellN (w := w) rfl rfl 3 (.tmp 34) _ rfl g5 3 (.int .i64 cd) HWe (by first | (go_simp; done) | (go_simp; rfl)) HBWe ⟨Lg5.out.1⟩ ?_; intro Wf HWf HBWf HOWf; rw [cc_set] at HWf; replace HWf : Aside0 (Wf.heap[g5]? = some (.cells (cc [1, a3, a2, cd, (l4.length : Int), 0, 0]) 98 (0, 0))) := HWf; have Hbf := Aside0.mk ((HOWf.out g4 N45.out).trans Hbe.out)) | ((with_reducible refine gate_dst (N := 41) rfl ?_); refine wpList_load_row rfl 98 _ rfl g5 rfl 98 _ (0, 0) _ HWf.out Try.underlying98 rfl (by kernel_rfl) ?_))
    refine (clean_calls 1 a3 a2 cd (l4.length : Int) 0 0 _ rfl HR2.out).mono ?_
    rintro e w7 ⟨rfl, hb7⟩
    have HB7 := Aside0.mk (below_step HBWf.out hb7)
    have Hb7 := Aside0.mk (blk_below Hbf.out hb7)
    clear hb7
    go_wp2_with (first | (refine storeCsN (w := w) rfl 98 (.tmp 4) _ rfl g4 (cc r) rfl rfl 98 _ Hb7 (by first | (rw [cc_size, HL.out]; kernel_rfl) | kernel_rfl) (by first | (rw [cc_size, cc_size, HL.out]; rfl) | rfl) (cc_one _) HB7 ⟨Lg4.out.1⟩ ?_; intro Wz Hz HBz _))
    refine bodyPost_ret (results_cell_row rfl _ _ g4 98 (cc r) (0, 0) _ rfl Hz.out Try.underlying98 rfl (by first | (rw [cc_size, HL.out]; kernel_rfl) | kernel_rfl)) rfl ⟨rfl, HBz.out⟩
  have k3 : decide (0 ≤ cd) = false := decide_eq_false hc
  have HC := Aside0.mk hc
  clear hc
  go_wp2_with fail
  refine (contains_calls A5 c5 l5 md Wd (Kd.C_below H5.out HBd.out)).mono ?_
  rintro e w6 ⟨rfl, hw6⟩
  obtain rfl := hw6.symm
  rw [HHS.out]
  cases hs
  · have hr2 : cleanL [3, a3, a2, 0, (l4.length : Int), 0, 0] 3 = r := by
      have h := HR.out
      unfold opP at h
      rw [HCD.out, if_neg (show ¬ 0 ≤ cd by have := HC.out; omega), if_neg (show ¬ 0 ≤ cd by have := HC.out; omega), HHS.out] at h
      exact h
    have HR2 := Aside0.mk hr2
    clear HR hr2
    go_wp2_with (first | ((with_reducible refine gate_dst (N := 41) rfl ?_); refine wpList_load_row rfl 98 _ rfl g5 rfl 98 _ (0, 0) _ Hd.out Try.underlying98 rfl (by kernel_rfl) ?_))
    refine (clean_calls 3 a3 a2 0 (l4.length : Int) 0 0 _ rfl HR2.out).mono ?_
    rintro e w7 ⟨rfl, hb7⟩
    have HB7 := Aside0.mk (below_step HBd.out hb7)
    have Hb7 := Aside0.mk (blk_below Hbd.out hb7)
    clear hb7
    go_wp2_with (first | (refine storeCsN (w := w) rfl 98 (.tmp 4) _ rfl g4 (cc r) rfl rfl 98 _ Hb7 (by first | (rw [cc_size, HL.out]; kernel_rfl) | kernel_rfl) (by first | (rw [cc_size, cc_size, HL.out]; rfl) | rfl) (cc_one _) HB7 ⟨Lg4.out.1⟩ ?_; intro Wz Hz HBz _))
    refine bodyPost_ret (results_cell_row rfl _ _ g4 98 (cc r) (0, 0) _ rfl Hz.out Try.underlying98 rfl (by first | (rw [cc_size, HL.out]; kernel_rfl) | kernel_rfl)) rfl ⟨rfl, HBz.out⟩
  · have hr2 : cleanL [2, a3, a2, 0, (l4.length : Int), 0, 0] 2 = r := by
      have h := HR.out
      unfold opP at h
      rw [HCD.out, if_neg (show ¬ 0 ≤ cd by have := HC.out; omega), if_neg (show ¬ 0 ≤ cd by have := HC.out; omega), HHS.out] at h
      exact h
    have HR2 := Aside0.mk hr2
    clear HR hr2
    go_wp2_with (first | (refine storeCellN (w := w) rfl rfl 3 (.tmp 40) _ rfl g5 0 (.int .i64 2) Hd (by first | (go_simp; done) | (go_simp; rfl)) HBd ⟨Lg5.out.1⟩ ?_; intro We HWe HBWe HOWe; rw [cc_set] at HWe; replace HWe : Aside0 (We.heap[g5]? = some (.cells (cc [2, a3, a2, 0, (l4.length : Int), 0, 0]) 98 (0, 0))) := HWe; have Hbe := Aside0.mk ((HOWe.out g4 N45.out).trans Hbd.out)) | ((with_reducible refine gate_dst (N := 41) rfl ?_); refine wpList_load_row rfl 98 _ rfl g5 rfl 98 _ (0, 0) _ HWe.out Try.underlying98 rfl (by kernel_rfl) ?_))
    refine (clean_calls 2 a3 a2 0 (l4.length : Int) 0 0 _ rfl HR2.out).mono ?_
    rintro e w7 ⟨rfl, hb7⟩
    have HB7 := Aside0.mk (below_step HBWe.out hb7)
    have Hb7 := Aside0.mk (blk_below Hbe.out hb7)
    clear hb7
    go_wp2_with (first | (refine storeCsN (w := w) rfl 98 (.tmp 4) _ rfl g4 (cc r) rfl rfl 98 _ Hb7 (by first | (rw [cc_size, HL.out]; kernel_rfl) | kernel_rfl) (by first | (rw [cc_size, cc_size, HL.out]; rfl) | rfl) (cc_one _) HB7 ⟨Lg4.out.1⟩ ?_; intro Wz Hz HBz _))
    refine bodyPost_ret (results_cell_row rfl _ _ g4 98 (cc r) (0, 0) _ rfl Hz.out Try.underlying98 rfl (by first | (rw [cc_size, HL.out]; kernel_rfl) | kernel_rfl)) rfl ⟨rfl, HBz.out⟩
end Go.Proofs.Ytbaapakkdnhcmaa.PWe
namespace Go.Proofs.Ytbaapakkdnhcmaa.PWe
open Go.RowKit Go.Proofs.Ytbaapakkdnhcmaa.Kx Go.Proofs.YtbaapakkdnhcmaaW.PrintWords Go.Proofs.YtbaapakkdnhcmaaW.PrintLast Go.Proofs.YtbaapakkdnhcmaaW.PrintMore
set_option linter.unusedVariables false
set_option linter.unusedSimpArgs false

def l54 (x : S54) : List Int := [x.f0, x.f1, x.f2, x.f3, x.f4, x.f5, x.f6]
def c54 (x : S54) : List Value := (l54 x).map (Value.int .i64)
def flat54 (l : List S54) : List Value := l.flatMap c54
theorem flat_get : ∀ (l : List S54) (j : Nat) (p : S54), l[j]? = some p → ∀ (i : Nat) (u : Value), (c54 p)[i]? = some u → (flat54 l)[j * 7 + i]? = some u
  | [], j, p, h, _, _, _ => by cases h
  | x :: r, 0, p, h, i, u, hu => by
    obtain rfl : x = p := Option.some.inj h
    have hi : i < (c54 x).length := (List.getElem?_eq_some_iff.1 hu).1
    rw [flat54, List.flatMap_cons, Nat.zero_mul, Nat.zero_add, List.getElem?_append_left hi, hu]
  | x :: r, j + 1, p, h, i, u, hu => by
    have e : (j + 1) * 7 + i - (c54 x).length = j * 7 + i := by show (j + 1) * 7 + i - 7 = _; omega
    rw [flat54, List.flatMap_cons, List.getElem?_append_right (by show 7 ≤ _; omega), e]
    exact flat_get r j p h i u hu
theorem C54_block {w : World} {g : Nat} {t : TypeId} {fr : Nat × Nat} (l : List S54) (hm : l.length ≤ 9223372036854775807) (h : w.heap[g]? = some (.cells (flat54 l).toArray t fr)) : Kd.C k54 w (some ⟨g, 0, none⟩) l.length l :=
  ⟨rfl, by simpa [maxLen] using hm, fun _ => ⟨⟨g, 0, none⟩, rfl, fun j p hj => ⟨c54 p, rfl, k54_mk w p, fun i u hu => by
    rw [Addr.add_lit, cell_in h, List.getElem?_toArray]
    show (flat54 l)[0 + (j * 7 + i)]? = _
    rw [Nat.zero_add]
    exact flat_get l j p hj i u hu⟩⟩⟩
theorem rd54 {l : List S54} {i : Nat} (h : i < l.length) : rd_T54 l (i : Int) = l[i] := by
  unfold rd_T54
  rw [Int.toNat_natCast, List.getD_eq_getElem?_getD, List.getElem?_eq_getElem h]
  rfl
theorem cmd_at {W : World} {A : Option Addr} {l : List S54} (h : Kd.C k54 W A l.length l) {i : Nat} (hi : i < l.length) {x : S54} (hx : l[i] = x) : ∃ ad, A = some ad ∧ W.cell? (ad.add (i * 7)) = some (.int .i64 x.f0) ∧ W.cell? ⟨(ad.add (i * 7)).block, (ad.add (i * 7)).off + 1, none⟩ = some (.int .i64 x.f1) ∧ W.cell? ⟨(ad.add (i * 7)).block, (ad.add (i * 7)).off + 2, none⟩ = some (.int .i64 x.f2) ∧ W.cell? ⟨(ad.add (i * 7)).block, (ad.add (i * 7)).off + 3, none⟩ = some (.int .i64 x.f3) ∧ W.cell? ⟨(ad.add (i * 7)).block, (ad.add (i * 7)).off + 4, none⟩ = some (.int .i64 x.f4) ∧ W.cell? ⟨(ad.add (i * 7)).block, (ad.add (i * 7)).off + 5, none⟩ = some (.int .i64 x.f5) ∧ W.cell? ⟨(ad.add (i * 7)).block, (ad.add (i * 7)).off + 6, none⟩ = some (.int .i64 x.f6) := by
  subst hx
  have h := at_T54 h (i : Int) (by omega) (by omega)
  rw [rd54 hi, Int.toNat_natCast] at h
  exact h
def rgtS (x : S54) : Bool := rightP x.f0 x.f1 x.f2 x.f3 x.f4 x.f5 x.f6
def OkS (x : S54) : Prop := 0 ≤ x.f0 ∧ x.f0 ≤ 8 ∧ (-1000 ≤ x.f4 ∧ x.f4 ≤ 1000) ∧ (-1000 ≤ x.f2 ∧ x.f2 ≤ 1000)
/-- A command's bytes. -/
def putS (x : S54) : List Int := if rgtS x = true then putB (l54 x) x.f0 else []
theorem putS_len (x : S54) : (putS x).length ≤ 7 := by
  unfold putS
  split
  · unfold putB oneB b2
    have h := offs_len x.f0
    split
    all_goals simp
    all_goals omega
  · exact Nat.zero_le _
theorem puts_len : ∀ l : List S54, (l.flatMap putS).length ≤ 7 * l.length
  | [] => Nat.le_refl _
  | x :: r => by
    have h1 := putS_len x
    have h2 := puts_len r
    rw [List.flatMap_cons, List.length_append, List.length_cons]
    omega
set_option maxHeartbeats 4000000 in
set_option maxRecDepth 100000 in
theorem lay_calls (wb : World) (v : Value) (xs : List Int) (g c : Nat) (l : List S54) (w : World) (hO : Kd.R (Kd.int .u8) 5 w wb.heap.size (fun _ => True) v xs) (hB : Below wb.heap.size wb w) (hg : w.heap[g]? = some (.cells (flat54 l).toArray 98 (0, 0))) (hl : xs.length ≤ 10000 ∧ l.length ≤ 1000) (hok : ∀ x ∈ l, OkS x) :
    Calls Try.prog 50 #[v, .slice (some ⟨g, 0, none⟩) l.length c] w fun e w' => ∃ v', e = .returned v' ∧ Kd.R (Kd.int .u8) 5 w' wb.heap.size (fun _ => True) v' (xs ++ l.flatMap putS) ∧ Below wb.heap.size wb w' := by
  have HO := Aside0.mk hO
  have HB := Aside0.mk hB
  have HG := Aside0.mk hg
  have HOK := Aside0.mk hok
  obtain ⟨A0, c0, hv⟩ := Kd.R_slice hO
  subst hv
  have hl1 := hl.1
  have hl2 := hl.2
  clear hO hB hg hok hl
  go_enter Try.func50, Try.ntmps50
  go_wp2_with fail
  go_loopw [0, 6, 7, 8, 11] (fun v0 _ _ _ v11 wr => ∃ (i : Nat) (ys : List Int), i ≤ l.length ∧ v11 = .int .i64 (i : Int) ∧ ys.length ≤ 10000 + 7 * i ∧ Aside0 (ys ++ (l.drop i).flatMap putS = xs ++ l.flatMap putS) ∧ Kd.R (Kd.int .u8) 5 wr wb.heap.size (fun _ => True) v0 ys ∧ wr.heap[g]? = some (.cells (flat54 l).toArray 98 (0, 0)) ∧ Below wb.heap.size wb wr) (fun _ _ _ _ v11 _ => ((l.length : Int) - intOf v11).toNat)
  case atStart => exact ⟨0, xs, Nat.zero_le _, rfl, by omega, ⟨by rw [List.drop_zero]⟩, HO.out, HG.out, HB.out⟩
  case round =>
    obtain ⟨i, ys, hi, rfl, hyl, HS, ho, hg, hb⟩ := hrel
    obtain ⟨A1, c1, hv⟩ := Kd.R_slice ho
    subst hv
    have HOr := Aside0.mk ho
    have HGr := Aside0.mk hg
    have HBr := Aside0.mk hb
    clear ho hg hb HO HG HB
    by_cases hlt : i < l.length
    · have m1 : decide ((i : Int) < (l.length : Int)) = true := decide_eq_true (by omega)
      have m2 : decide (i < l.length) = true := decide_eq_true hlt
      have q1 : (0 ≤ (i : Int)) = True := eq_true (by omega)
      have q2 : ((i : Int) < (l.length : Int)) = True := eq_true (by omega)
      have q3 : (i < l.length) = True := eq_true hlt
      obtain ⟨x, hx⟩ : ∃ x, l[i] = x := ⟨_, rfl⟩
      obtain ⟨ad, hA, x0, x1, x2, x3, x4, x5, x6⟩ := cmd_at (C54_block l (by omega) HGr.out) hlt hx
      obtain rfl := Option.some.inj hA
      have hokx := HOK.out x (by rw [← hx]; exact List.getElem_mem hlt)
      have HSX : Aside0 ((ys ++ putS x) ++ (l.drop (i + 1)).flatMap putS = xs ++ l.flatMap putS) := ⟨by have h := HS.out; rw [List.drop_eq_getElem_cons hlt, hx, List.flatMap_cons, ← List.append_assoc] at h; exact h⟩
      have hrt : cmd_Command_Right.f 16 x.f0 x.f1 x.f2 x.f3 x.f4 x.f5 x.f6 = some (rgtS x) := right_f (by omega) _ _ _ _ _ _ _ hokx.1 hokx.2.1 hokx.2.2.1 hokx.2.2.2
      have hpl := putS_len x
      obtain ⟨ps, hps⟩ : ∃ p, putS x = p := ⟨_, rfl⟩
      have HPS := Aside0.mk (show (if rgtS x = true then putB (l54 x) x.f0 else []) = ps from hps)
      rw [hps] at hpl HSX
      have HRT := Aside0.mk hrt
      have hnil : (⟨g, 0, none⟩ : Addr).add (i * 7) = ⟨g, i * 7, none⟩ := by rw [Addr.add_lit, Nat.zero_add]
      rw [hnil] at x0 x1 x2 x3 x4 x5 x6
      have HLT := Aside0.mk hlt
      clear hx hokx hrt hps HS hlt hA
      go_wp2_with (first | ((with_reducible refine gate_dst (N := 6) rfl ?_); refine boxN (w := wb) rfl (N := 6) rfl (cs := cc [0, 0, 0, 0, 0, 0, 0]) (t := 98) (by first | (go_simp; done) | (go_simp; rfl)) HBr ?_; intro ga Wa Ha Lga HBa Ka) | (refine storeN (w := wb) rfl 98 _ _ rfl ga (cc (l54 x)) rfl rfl 98 _ Ha (by kernel_rfl) rfl (cc_one _) HBa Lga Ka ?_; intro Wb Hb HBb Kb; have HGb := Aside0.mk (blk_below HGr.out Kb.out); have HOb := Aside0.mk (Kd.R_below HOr.out Kb.out)) | ((with_reducible refine gate_dst (N := 16) rfl ?_); refine wpList_load_row rfl 98 _ rfl ga rfl 98 _ (0, 0) _ Hb.out Try.underlying98 rfl (by kernel_rfl) ?_))
      refine (putc_calls x.f0 x.f1 x.f2 x.f3 x.f4 x.f5 x.f6 Wb HRT.out rfl rfl).mono ?_
      rintro e w7 ⟨vp, rfl, hp, hb7⟩
      rw [show [x.f0, x.f1, x.f2, x.f3, x.f4, x.f5, x.f6] = l54 x from rfl, HPS.out] at hp
      obtain ⟨en, hen⟩ : ∃ en : Int, (if rgtS x = true then (0 : Int) else 2) = en := ⟨_, rfl⟩
      rw [hen]
      obtain ⟨Ap, cp, hvp⟩ := Kd.R_slice hp
      subst hvp
      have HRP := Aside0.mk (Kd.R_reads' hp).2.2
      have HO7 := Aside0.mk (Kd.R_below HOb.out hb7)
      have HG7 := Aside0.mk (blk_below HGb.out hb7)
      have HB7 := Aside0.mk (below_step HBb.out hb7)
      clear hp hb7 hen x0 x1 x2 x3 x4 x5 x6
      go_wp2_with (first | ((with_reducible refine gate_builtin (b := .append) (xs := #[.tmp 20, .tmp 21]) rfl ?_); at_builtin; refine Kd.R_append_rows (Kd.int .u8) (w0 := wb) wb.heap.size rfl (.tmp 20) (.tmp 21) 23 5 (.int .u8 0) 1 rfl Try.underlying23 info5 rfl (by decide) (by decide) _ ys ps Ap _ cp (fun _ => True) (fun _ => False) rfl rfl HO7.out HRP.out (fun _ _ h => h) (fun _ h => h.elim) (fun _ _ => trivial) HB7.out (below_size HB7.out) (by simp; omega) ?_; intro v8 W8 h8 hb8 hg8 _; have HO8 := Aside0.mk h8; have HB8 := Aside0.mk hb8; have HG8 := Aside0.mk (blk_grown HG7.out hg8 (Kd.R_ne HO7.out HG7.out (by decide))); clear h8 hb8 hg8))
      exact ⟨⟨i + 1, ys ++ ps, by have := HLT.out; omega, by simp, by rw [List.length_append]; omega, HSX, HO8.out, HG8.out, HB8.out⟩, by have := HLT.out; simp [intOf]; omega⟩
    · have m1 : decide ((i : Int) < (l.length : Int)) = false := decide_eq_false (by omega)
      have m2 : decide (i < l.length) = false := decide_eq_false hlt
      have hfin : ys = xs ++ l.flatMap putS := by have h := HS.out; rw [List.drop_eq_nil_of_le (by omega), List.flatMap_nil, List.append_nil] at h; exact h
      have HFIN := Aside0.mk hfin
      clear hfin HS hlt
      go_wp2_with fail
      go_ret
      exact ⟨_, rfl, HFIN.out ▸ HOr.out, HBr.out⟩
end Go.Proofs.Ytbaapakkdnhcmaa.PWe
namespace Go.Proofs.Ytbaapakkdnhcmaa.PWe
open Go.RowKit Go.Proofs.Ytbaapakkdnhcmaa.Kx Go.Proofs.YtbaapakkdnhcmaaW.PrintWords Go.Proofs.YtbaapakkdnhcmaaW.PrintLast Go.Proofs.YtbaapakkdnhcmaaW.PrintMore
set_option linter.unusedVariables false
set_option linter.unusedSimpArgs false

set_option maxHeartbeats 4000000 in
set_option maxRecDepth 100000 in
theorem growb_calls (n : Nat) (w : World) (hn : n ≤ 1000000) :
    Calls Try.prog 87 #[.slice none 0 0, .int .i64 (n : Int)] w fun e w' => ∃ v, e = .returned v ∧ Kd.R (Kd.int .u8) 5 w' w.heap.size (fun _ => True) v [] ∧ Below w.heap.size w w' := by
  have HB : Aside0 (Below w.heap.size w w) := ⟨Below.refl _ _⟩
  have h0 : decide ((n : Int) < 0) = false := decide_eq_false (by omega)
  have w0 : wrap64 ((n : Int) - 0) = (n : Int) := by unfold wrap64; omega
  by_cases hp : 0 < n
  · have h1 : decide (0 < (n : Int)) = true := decide_eq_true (by omega)
    have h2 : decide (0 < n) = true := decide_eq_true hp
    clear hp
    go_enter Try.func87, Try.ntmps87
    go_wp2_with (first | ((with_reducible refine gate_builtin (b := .append) (xs := #[.tmp 20, .tmp 21]) rfl ?_); at_builtin; refine Kd.R_append_zeros (Kd.int .u8) (w0 := w) w.heap.size rfl (.tmp 20) (.tmp 21) 23 3 5 (.int .u8 0) 1 rfl Try.underlying23 Try.underlying3 info5 rfl (by decide) (by decide) (.slice none 0 0) [] (0 : Int) (n : Int) (fun _ => True) rfl rfl (show Kd.M (Kd.int .u8) _ _ _ 0 [.int .u8 0] from rfl) (fun _ _ => trivial) (Kd.R_nil _ _ _ _ _) (by omega) HB.out (Nat.le_refl _) (by simp; omega) ?_; intro v1 w1 hr1 hb1 _ _; obtain ⟨A1, c1, e1⟩ := Kd.R_slice hr1; subst e1; have HR1 := Aside0.mk hr1; have HB1 := Aside0.mk hb1; clear hr1 hb1))
    go_ret
    exact ⟨_, rfl, Kd.R_take HR1.out (m := 0) (Nat.zero_le _), HB1.out⟩
  · have hn0 : n = 0 := by omega
    subst hn0
    clear hp
    go_enter Try.func87, Try.ntmps87
    go_wp2_with fail
    go_ret
    exact ⟨_, rfl, Kd.R_nil _ _ _ _ _, HB.out⟩
def slvb (x : Option Addr × Nat × List Int) : Value := .slice x.1 x.2.2.length x.2.1
theorem catb_sum : ∀ (E : List (Option Addr × Nat × List Int)) (i : Nat), i < E.length → ((E.take i).flatMap (·.2.2)).length + (E[i]!).2.2.length = ((E.take (i + 1)).flatMap (·.2.2)).length
  | [], i, h => by cases h
  | x :: r, 0, h => by simp
  | x :: r, i + 1, h => by
    have hr := catb_sum r i (by simpa using h)
    simp only [List.take_succ_cons, List.flatMap_cons, List.length_append, List.getElem!_cons_succ] at hr ⊢
    omega
theorem catb_le : ∀ (E : List (Option Addr × Nat × List Int)) (i : Nat), ((E.take i).flatMap (·.2.2)).length ≤ (E.flatMap (·.2.2)).length
  | [], i => by simp
  | x :: r, 0 => by simp
  | x :: r, i + 1 => by
    have hr := catb_le r i
    simp only [List.take_succ_cons, List.flatMap_cons, List.length_append] at hr ⊢
    omega
set_option maxHeartbeats 4000000 in
set_option maxRecDepth 100000 in
theorem concatb_calls (Es : List (Option Addr × Nat × List Int)) (g c : Nat) (w : World) {t : TypeId} (hg : w.heap[g]? = some (.cells (Es.map slvb).toArray t (0, 0))) (hC : ∀ x ∈ Es, Kd.C (Kd.int .u8) w x.1 x.2.2.length x.2.2) (hl : (Es.flatMap (·.2.2)).length ≤ 100000) (hE : Es.length ≤ 1000) {R : List Int} (hR : Es.flatMap (·.2.2) = R) :
    Calls Try.prog 51 #[.slice (some ⟨g, 0, none⟩) Es.length c] w fun e w' => ∃ v, e = .returned v ∧ Kd.R (Kd.int .u8) 5 w' w.heap.size (fun _ => True) v R ∧ Below w.heap.size w w' := by
  have HG := Aside0.mk hg
  have HC := Aside0.mk hC
  have HR := Aside0.mk hR
  have HL := Aside0.mk hl
  have HB : Aside0 (Below w.heap.size w w) := ⟨Below.refl _ _⟩
  clear hg hC hl hR
  go_enter Try.func51, Try.ntmps51
  go_wp2_with fail
  go_loopw [3, 5, 11] (fun v3 _ v11 wr => ∃ i : Nat, i ≤ Es.length ∧ v11 = .int .i64 (i : Int) ∧ v3 = .int .i64 ((((Es.take i).flatMap (·.2.2)).length : Nat) : Int) ∧ Below w.heap.size w wr) (fun _ _ v11 _ => ((Es.length : Int) - intOf v11).toNat)
  case atStart => exact ⟨0, Nat.zero_le _, rfl, by simp, Below.refl _ _⟩
  case round =>
    obtain ⟨i, hi, rfl, rfl, hb⟩ := hrel
    have HBr := Aside0.mk hb
    clear hb
    obtain ⟨s, hs⟩ : ∃ s, ((Es.take i).flatMap (·.2.2)).length = s := ⟨_, rfl⟩
    have hsl : s ≤ 100000 := by rw [← hs]; exact Nat.le_trans (catb_le Es i) HL.out
    rw [hs]
    have HS := Aside0.mk hs
    clear hs
    by_cases hlt : i < Es.length
    · have m1 : decide ((i : Int) < (Es.length : Int)) = true := decide_eq_true (by omega)
      have m2 : decide (i < Es.length) = true := decide_eq_true hlt
      have q1 : (0 ≤ (i : Int)) = True := eq_true (by omega)
      have q2 : ((i : Int) < (Es.length : Int)) = True := eq_true (by omega)
      have q3 : (i < Es.length) = True := eq_true hlt
      obtain ⟨x, hx⟩ : ∃ x, Es[i] = x := ⟨_, rfl⟩
      have x0 : wr.cell? ⟨g, i, none⟩ = some (.slice x.1 x.2.2.length x.2.1) := by
        rw [cell_in (blk_below HG.out HBr.out) i, List.getElem?_toArray, List.getElem?_map, List.getElem?_eq_getElem hlt, hx]
        rfl
      have hnil : (⟨g, 0, none⟩ : Addr).add i = ⟨g, i, none⟩ := by rw [Addr.add_lit, Nat.zero_add]
      obtain ⟨A, cx, xs⟩ := x
      dsimp only at x0
      have hsum := catb_sum Es i hlt
      rw [HS.out, getElem!_pos Es i hlt, hx] at hsum
      dsimp only at hsum
      have hle := Nat.le_trans (catb_le Es (i + 1)) HL.out
      have HSUM := Aside0.mk hsum
      have w0 : wrap64 ((s : Int) + (xs.length : Int)) = ((s + xs.length : Nat) : Int) := by unfold wrap64; omega
      have n0 : decide (((s + xs.length : Nat) : Int) < 0) = false := decide_eq_false (by omega)
      have n1 : decide ((s : Int) + (xs.length : Int) < 0) = false := decide_eq_false (by omega)
      have HLT := Aside0.mk hlt
      have W1 : Aside0 (wrap64 ((s : Int) + (xs.length : Int)) = (s : Int) + (xs.length : Int)) := ⟨by unfold wrap64; omega⟩
      clear hx hlt hsum hle
      go_wp2_with fail
      exact ⟨⟨i + 1, by have := HLT.out; omega, by simp, by rw [← HSUM.out, Int.natCast_add]; first | rfl | (simp; rw [W1.out]) | simp, HBr.out⟩, by have := HLT.out; simp [intOf]; omega⟩
    · have m1 : decide ((i : Int) < (Es.length : Int)) = false := decide_eq_false (by omega)
      have m2 : decide (i < Es.length) = false := decide_eq_false hlt
      have HIE : Aside0 (i = Es.length) := ⟨by omega⟩
      clear hlt
      go_wp2_with fail
      refine (growb_calls s wr (by omega)).mono ?_
      rintro e w2 ⟨v, rfl, hr2, hb2⟩
      have HR2 := Aside0.mk (Kd.R_lower hr2 (below_size HBr.out))
      have HB2 := Aside0.mk (below_step HBr.out hb2)
      obtain ⟨A2, c2, e2⟩ := Kd.R_slice hr2
      subst e2
      clear hr2 hb2
      go_wp2_with fail
      go_loopw [6, 8, 27] (fun v6 _ v27 wr => ∃ (i : Nat) (ys : List Int), i ≤ Es.length ∧ v27 = .int .i64 (i : Int) ∧ Aside0 (ys = (Es.take i).flatMap (·.2.2)) ∧ Kd.R (Kd.int .u8) 5 wr w.heap.size (fun _ => True) v6 ys ∧ Below w.heap.size w wr) (fun _ _ v27 _ => ((Es.length : Int) - intOf v27).toNat)
      case atStart => exact ⟨0, [], Nat.zero_le _, rfl, ⟨by simp⟩, HR2.out, HB2.out⟩
      case round =>
        obtain ⟨j, ys, hj, rfl, HY, ho, hb⟩ := hrel
        obtain ⟨A1, c1, e1⟩ := Kd.R_slice ho
        subst e1
        have HO := Aside0.mk ho
        have HBj := Aside0.mk hb
        have hyl : ys.length ≤ 100000 := by rw [HY.out]; exact Nat.le_trans (catb_le Es j) HL.out
        clear ho hb
        by_cases hlt : j < Es.length
        · have m1 : decide ((j : Int) < (Es.length : Int)) = true := decide_eq_true (by omega)
          have m2 : decide (j < Es.length) = true := decide_eq_true hlt
          have q1 : (0 ≤ (j : Int)) = True := eq_true (by omega)
          have q2 : ((j : Int) < (Es.length : Int)) = True := eq_true (by omega)
          have q3 : (j < Es.length) = True := eq_true hlt
          obtain ⟨x, hx⟩ : ∃ x, Es[j] = x := ⟨_, rfl⟩
          have x0 : wr.cell? ⟨g, j, none⟩ = some (.slice x.1 x.2.2.length x.2.1) := by
            rw [cell_in (blk_below HG.out HBj.out) j, List.getElem?_toArray, List.getElem?_map, List.getElem?_eq_getElem hlt, hx]
            rfl
          have hnil : (⟨g, 0, none⟩ : Addr).add j = ⟨g, j, none⟩ := by rw [Addr.add_lit, Nat.zero_add]
          have hxm : x ∈ Es := by rw [← hx]; exact List.getElem_mem hlt
          have hcx := Kd.C_below (HC.out x hxm) HBj.out
          obtain ⟨A, cx, xs⟩ := x
          dsimp only at x0 hcx
          have HCX := Aside0.mk hcx
          have hnew : ys ++ xs = (Es.take (j + 1)).flatMap (·.2.2) := by
            rw [HY.out, List.take_add_one, List.getElem?_eq_getElem hlt, hx]
            simp
          have hnl : ys.length + xs.length ≤ 100000 := by
            have h := Nat.le_trans (catb_le Es (j + 1)) HL.out
            rw [← hnew, List.length_append] at h
            exact h
          have HNEW := Aside0.mk hnew
          have HLT := Aside0.mk hlt
          clear hx hlt hxm hcx hnew
          go_wp2_with (first | ((with_reducible refine gate_builtin (b := .append) (xs := #[.tmp 31, .tmp 32]) rfl ?_); at_builtin; refine Kd.R_append_rows (Kd.int .u8) (w0 := w) w.heap.size rfl (.tmp 31) (.tmp 32) 23 5 (.int .u8 0) 1 rfl Try.underlying23 info5 rfl (by decide) (by decide) _ ys xs A _ cx (fun _ => True) (fun _ => False) rfl rfl HO.out HCX.out (fun _ _ h => h) (fun _ h => h.elim) (fun _ _ => trivial) HBj.out (below_size HBj.out) (by simp; omega) ?_; intro v8 W8 h8 hb8 hg8 _; have HO8 := Aside0.mk h8; have HB8 := Aside0.mk hb8; clear h8 hb8 hg8))
          exact ⟨⟨j + 1, ys ++ xs, by have := HLT.out; omega, by simp, HNEW, HO8.out, HB8.out⟩, by have := HLT.out; simp [intOf]; omega⟩
        · have m1 : decide ((j : Int) < (Es.length : Int)) = false := decide_eq_false (by omega)
          have m2 : decide (j < Es.length) = false := decide_eq_false hlt
          have hfin : ys = R := by rw [HY.out, List.take_of_length_le (by omega), HR.out]
          have HFIN := Aside0.mk hfin
          clear hlt hfin
          go_wp2_with fail
          go_ret
          exact ⟨_, rfl, HFIN.out ▸ HO.out, HBj.out⟩
end Go.Proofs.Ytbaapakkdnhcmaa.PWe
namespace Go.Proofs.Ytbaapakkdnhcmaa.PWe
open Go.RowKit Go.Proofs.Ytbaapakkdnhcmaa.Kx Go.Proofs.YtbaapakkdnhcmaaW.PrintWords Go.Proofs.YtbaapakkdnhcmaaW.PrintLast Go.Proofs.YtbaapakkdnhcmaaW.PrintMore
set_option linter.unusedVariables false
set_option linter.unusedSimpArgs false

def toS (L : List Int) : S54 := ⟨L.getD 0 0, L.getD 1 0, L.getD 2 0, L.getD 3 0, L.getD 4 0, L.getD 5 0, L.getD 6 0⟩
theorem toS_back {L : List Int} (h : L.length = 7) : l54 (toS L) = L := by
  match L, h with
  | [a, b, c, d, e, f, g], _ => rfl
theorem seven {L : List Int} (h : L.length = 7) : ∃ b0 b1 b2 b3 b4 b5 b6, L = [b0, b1, b2, b3, b4, b5, b6] := by
  match L, h with
  | [a, b, c, d, e, f, g], _ => exact ⟨a, b, c, d, e, f, g, rfl⟩
theorem cc_flat {L : List Int} (h : L.length = 7) : cc L = (flat54 [toS L]).toArray := by
  unfold flat54 c54
  rw [List.flatMap_cons, List.flatMap_nil, List.append_nil, toS_back h]
  first | done | rfl
def cmdS (x : S76) (md : Int) : S54 := toS (cmdW x md)
/-- The bytes of windows, for a module. -/
def bodyP (l : List S76) (md : Int) : List Int := l.flatMap (fun x => putS (cmdS x md)) ++ [7]
theorem body_len (l : List S76) (md : Int) : (l.flatMap (fun x => putS (cmdS x md))).length ≤ 7 * l.length := by
  induction l with
  | nil => exact Nat.le_refl _
  | cons x r ih =>
    have h1 := putS_len (cmdS x md)
    rw [List.flatMap_cons, List.length_append, List.length_cons]
    omega
set_option maxHeartbeats 4000000 in
set_option maxRecDepth 100000 in
theorem body_calls (A : Option Addr) (c : Nat) (l : List S76) (md : Int) (w : World) (hr : Kd.C k76 w A l.length l) (hc : l.length ≤ c) (hl : l.length ≤ 1000) (hok : ∀ x ∈ l, OkS (cmdS x md)) {R : List Int} (hR : bodyP l md = R) :
    Calls Try.prog 48 #[.slice A l.length c, .int .i64 md] w fun e w' => ∃ v, e = .returned v ∧ Kd.R (Kd.int .u8) 5 w' w.heap.size (fun _ => True) v R ∧ Below w.heap.size w w' := by
  have HLC := Aside0.mk hr
  have HOK := Aside0.mk hok
  have HR := Aside0.mk hR
  have HB : Aside0 (Below w.heap.size w w) := ⟨Below.refl _ _⟩
  clear hr hok hR
  go_enter Try.func48, Try.ntmps48
  go_wp2_with fail
  go_loopw [5, 7, 10] (fun v5 _ v10 wr => ∃ (i : Nat) (ys : List Int), i ≤ l.length ∧ v10 = .int .i64 (i : Int) ∧ ys.length ≤ 7 * i ∧ Aside0 (ys ++ (l.drop i).flatMap (fun x => putS (cmdS x md)) ++ [7] = R) ∧ Kd.R (Kd.int .u8) 5 wr w.heap.size (fun _ => True) v5 ys ∧ Below w.heap.size w wr) (fun _ _ v10 _ => ((l.length : Int) - intOf v10).toNat)
  case atStart => exact ⟨0, [], Nat.zero_le _, rfl, Nat.zero_le _, ⟨by rw [List.drop_zero, List.nil_append]; exact HR.out⟩, Kd.R_nil _ _ _ _ _, Below.refl _ _⟩
  case round =>
    obtain ⟨i, ys, hi, rfl, hyl, HS, ho, hb⟩ := hrel
    obtain ⟨A1, c1, e1⟩ := Kd.R_slice ho
    subst e1
    have HO := Aside0.mk ho
    have HBr := Aside0.mk hb
    clear ho hb
    by_cases hlt : i < l.length
    · have m1 : decide ((i : Int) < (l.length : Int)) = true := decide_eq_true (by omega)
      have m2 : decide (i < l.length) = true := decide_eq_true hlt
      have q1 : (0 ≤ (i : Int)) = True := eq_true (by omega)
      have q2 : ((i : Int) < (l.length : Int)) = True := eq_true (by omega)
      have q3 : (i < l.length) = True := eq_true hlt
      obtain ⟨x, hx⟩ : ∃ x, l[i] = x := ⟨_, rfl⟩
      obtain ⟨ad, A4, c4, A5, c5, hA, x0, x1, x2, x3, x4, x5, hl4, hr4, hl5, hr5⟩ := win_at HLC.out HBr.out hlt hx
      subst hA
      have hokx := HOK.out x (by rw [← hx]; exact List.getElem_mem hlt)
      have HSX : Aside0 ((ys ++ putS (cmdS x md)) ++ (l.drop (i + 1)).flatMap (fun x => putS (cmdS x md)) ++ [7] = R) := ⟨by have h := HS.out; rw [List.drop_eq_getElem_cons hlt, hx, List.flatMap_cons, ← List.append_assoc ys] at h; exact h⟩
      have hpl := putS_len (cmdS x md)
      obtain ⟨r, hr⟩ : ∃ r, cmdW x md = r := ⟨_, rfl⟩
      have hrl : r.length = 7 := by rw [← hr]; exact cmdW_len _ _
      obtain ⟨b0, b1, b2, b3, b4, b5, b6, hr7⟩ := seven hrl
      subst hr7
      have HRW := Aside0.mk hr
      have hcs : cmdS x md = toS [b0, b1, b2, b3, b4, b5, b6] := by unfold cmdS; rw [hr]
      rw [hcs] at hokx HSX hpl
      have HOX := Aside0.mk hokx
      have HR4 := Aside0.mk hr4
      have HR5 := Aside0.mk hr5
      have HLT := Aside0.mk hlt
      clear hx hr4 hr5 hokx hr hrl hcs hlt HS
      go_wp2_with (first | ((with_reducible refine gate_dst (N := 7) rfl ?_); refine boxN (w := w) rfl (N := 7) rfl (cs := #[.int .i64 0, .int .i64 0, .int .i64 0, .int .i64 0, .slice none 0 0, .slice none 0 0]) (t := 92) (by first | (go_simp; done) | (go_simp; rfl)) HBr ?_; intro ga Wa Ha Lga HB_Wa K_Wa) | (refine storeN (w := w) rfl 92 _ _ rfl ga (winCs x.f0 x.f1 x.f2 x.f3 A4 x.f4.length c4 A5 x.f5.length c5) rfl rfl 92 _ Ha (by kernel_rfl) rfl (by rw [← Array.all_toList]; rfl) HB_Wa Lga K_Wa ?_; intro Wb Hb HB_Wb K_Wb) | ((with_reducible refine gate_dst (N := 15) rfl ?_); refine wpList_load_row rfl 92 _ rfl ga rfl 92 _ (0, 0) _ Hb.out Try.underlying92 rfl (by kernel_rfl) ?_))
      refine (command_calls x A4 c4 A5 c5 md _ (Kd.C_below HR4.out HB_Wb.out) (Kd.C_below HR5.out HB_Wb.out) HRW.out).mono ?_
      rintro e w5 ⟨rfl, hb5⟩
      have HB5 := Aside0.mk (below_step HB_Wb.out hb5)
      have HO5 := Aside0.mk (Kd.R_below (Kd.R_below HO.out K_Wb.out) hb5)
      clear hb5 x0 x1 x2 x3 x4 x5 HB_Wa HB_Wb Hb K_Wa K_Wb Ha
      go_wp2_with (first | ((with_reducible refine gate_dst (N := 18) rfl ?_); refine litW (w := w) rfl (N := 18) rfl (cc [b0, b1, b2, b3, b4, b5, b6]) 98 1 (by first | (go_simp; done) | (go_simp; rfl)) HB5 ?_; intro g6 W6 H6 Lg6 HB6 K6; have HO6 := Aside0.mk (Kd.R_below HO5.out K6.out)))
      refine (lay_calls w _ ys g6 1 [toS [b0, b1, b2, b3, b4, b5, b6]] W6 HO6.out HB6.out H6.out ⟨by omega, by simp⟩ (fun y hy => by rw [List.mem_singleton.1 hy]; exact HOX.out)).mono ?_
      rintro e w7 ⟨v7, rfl, ho7, hb7⟩
      have HO7 := Aside0.mk ho7
      have HB7 := Aside0.mk hb7
      have efm : [toS [b0, b1, b2, b3, b4, b5, b6]].flatMap putS = putS (toS [b0, b1, b2, b3, b4, b5, b6]) := by rw [List.flatMap_cons, List.flatMap_nil, List.append_nil]
      rw [efm] at HO7
      clear ho7 hb7 efm
      go_wp2_with fail
      exact ⟨⟨i + 1, ys ++ putS (toS [b0, b1, b2, b3, b4, b5, b6]), by have := HLT.out; omega, by simp, by rw [List.length_append]; omega, HSX, HO7.out, HB7.out⟩, by have := HLT.out; simp [intOf]; omega⟩
    · have m1 : decide ((i : Int) < (l.length : Int)) = false := decide_eq_false (by omega)
      have m2 : decide (i < l.length) = false := decide_eq_false hlt
      have hfin : ys ++ [toS [7, 0, 0, 0, 0, 0, 0]].flatMap putS = R := by
        have h := HS.out
        rw [List.drop_eq_nil_of_le (by omega), List.flatMap_nil, List.append_nil] at h
        exact h
      have HFIN := Aside0.mk hfin
      clear hlt hfin HS
      go_wp2_with (first | ((with_reducible refine gate_dst (N := 23) rfl ?_); refine litW (w := w) rfl (N := 23) rfl (cc [7, 0, 0, 0, 0, 0, 0]) 98 1 (by first | (go_simp; done) | (go_simp; rfl)) HBr ?_; intro g6 W6 H6 Lg6 HB6 K6; have HO6 := Aside0.mk (Kd.R_below HO.out K6.out)))
      refine (lay_calls w _ ys g6 1 [toS [7, 0, 0, 0, 0, 0, 0]] W6 HO6.out HB6.out H6.out ⟨by omega, by simp⟩ (fun y hy => by rw [List.mem_singleton.1 hy]; unfold OkS toS; simp)).mono ?_
      rintro e w7 ⟨v7, rfl, ho7, hb7⟩
      rw [HFIN.out] at ho7
      have HO7 := Aside0.mk ho7
      have HB7 := Aside0.mk hb7
      clear ho7 hb7
      go_wp2_with fail
      go_ret
      exact ⟨_, rfl, HO7.out, HB7.out⟩
end Go.Proofs.Ytbaapakkdnhcmaa.PWe
