/- Whether good ones took unlike words: walk. Helper text. -/
import Derived.Test.YtekbaconbemgpaaAuEvt
namespace Go.Proofs.Ytekbaconbemgpaa.PWe
open Go.RowKit Go.Proofs.Ytekbaconbemgpaa.Kx Go.Proofs.YtekbaconbemgpaaW.PrintWords Go.Proofs.YtekbaconbemgpaaW.PrintLast Go.Proofs.YtekbaconbemgpaaW.PrintMore
set_option linter.unusedVariables false
set_option linter.unusedSimpArgs false

theorem equal_quiet {A B : Option Addr} {c d : Nat} {x y : List Int} {r : Bool} (W : World) (n : Nat) (hx : Kd.C (Kd.int .u8) W A x.length x) (hy : Kd.C (Kd.int .u8) W B y.length y) (hr : same_ x y = r) :
    Calls Try.prog 64 #[.slice A x.length c, .slice B y.length d] (W.drewN n) fun e w'' => e = .returned (.bool r) ∧ ∃ m, w'' = W.drewN m :=
  Calls.quiet_of_same ((equal_calls A B c d x y (W.drewN n) (Kd.C_below hx (below_drewN (Below.refl _ _) n)) (Kd.C_below hy (below_drewN (Below.refl _ _) n))).mono fun _ _ h => ⟨by rw [h.1, hr], h.2⟩)
/-- Are an event's candidate, or words, other than the first one's? -/
def unlP (a e : S95) : Bool := (e.f6 != a.f6) || !same_ e.f7 a.f7
set_option maxHeartbeats 1000000 in
set_option maxRecDepth 100000 in
theorem unl1_calls (E : List S95) (AE : Option Addr) (cE : Nat) (a e : S95) (A7 : Option Addr) (c7 : Nat) (g : Nat) (w : World) (hE : Kd.C k95 w AE E.length E) (h0 : 0 < E.length) (ha : E[0] = a) (hl : e.f7.length ≤ c7) (h7 : Kd.C (Kd.int .u8) w A7 e.f7.length e.f7) (hg : w.heap[g]? = some (.cells #[.slice AE E.length cE] 63 (0, 0))) :
    Calls Try.prog 63 #[.agg (evc e A7 c7), .pointer (some ⟨g, 0, none⟩)] w fun e' w' => e' = .returned (.bool (unlP a e)) ∧ Below w.heap.size w w' := by
  obtain ⟨ad, B7, b7, hA, x0, x1, x2, x3, x4, x5, x6, x7, l7, r7⟩ := ev_at hE (Below.refl _ _) h0 ha
  have HB7 := Aside0.mk r7
  have HE7 := Aside0.mk h7
  have HG := Aside0.mk hg
  have HB : Aside0 (Below w.heap.size w w) := ⟨Below.refl _ _⟩
  have q1 : (0 < E.length) = True := eq_true h0
  have q2 : ((0 : Int) < (E.length : Int)) = True := eq_true (by omega)
  subst hA
  clear hE ha h7 hg r7
  simp only [Nat.zero_mul, Addr.add_zero'] at x0 x1 x2 x3 x4 x5 x6 x7
  unfold unlP evc
  obtain ⟨s, hs⟩ : ∃ s, same_ e.f7 a.f7 = s := ⟨_, rfl⟩
  obtain ⟨k, hk⟩ : ∃ s, (e.f6 != a.f6) = s := ⟨_, rfl⟩
  have HSM := Aside0.mk hs
  rw [hs, hk]
  clear hs
  go_enter Try.func63, Try.ntmps63
  go_wp2_with (first | ((with_reducible refine gate_dst (N := 2) rfl ?_); refine boxN (w := w) rfl (N := 2) rfl (cs := #[.int .i64 e.f0, .int .i64 e.f1, .int .i64 e.f2, .int .i64 e.f3, .int .i64 e.f4, .int .i64 e.f5, .int .i64 e.f6, .slice A7 e.f7.length c7]) (t := 95) (by first | (go_simp; done) | (go_simp; rfl)) HB ?_; intro ga Wa Ha Lga HB_Wa K_Wa; have up : ∀ {p : Addr} {v : Value}, w.cell? p = some v → Wa.cell? p = some v := fun h => (K_Wa.out.cell (World.block_lt_of_cell? w _ h)).trans h; have u6 := up x6; have u7 := up x7; have z6 : Wa.cell? ⟨ga, 6, none⟩ = some (.int .i64 e.f6) := cell_in Ha.out 6; have z7 : Wa.cell? ⟨ga, 7, none⟩ = some (.slice A7 e.f7.length c7) := cell_in Ha.out 7; have z8 : Wa.cell? ⟨g, 0, none⟩ = some (.slice (some ad) E.length cE) := cell_in (blk_below HG.out K_Wa.out) 0; clear up))
  cases k
  · go_quiet (first | (go_at_call 64; exact equal_quiet Wa _ (Kd.C_below HE7.out K_Wa.out) (Kd.C_below HB7.out K_Wa.out) HSM.out))
    go_wp2_with fail
    go_ret
    exact ⟨rfl, below_drewN HB_Wa.out _⟩
  · go_quiet (first | (go_at_call 64; exact equal_quiet Wa _ (Kd.C_below HE7.out K_Wa.out) (Kd.C_below HB7.out K_Wa.out) HSM.out))
    go_wp2_with fail
    go_ret
    exact ⟨rfl, below_drewN HB_Wa.out _⟩
/-- Did good modules take unlike words? -/
def unlikeP (L : List S95) (G : List Int) (x : S101) : Bool := match evsP L G x 2 with
  | [] => false
  | a :: r => (a :: r).any (unlP a)
set_option maxHeartbeats 1000000 in
theorem unlike_calls (a : AudV) (v : WinV) (w : World) (ha : a.ok w) (hL64 : a.L.length ≤ 1000000) :
    Calls Try.prog 38 #[.agg a.arr, .agg v.arr] w fun e w' => e = .returned (.bool (unlikeP a.L a.G v.x)) ∧ Below w.heap.size w w' := by
  have HA := Aside0.mk ha
  have HB : Aside0 (Below w.heap.size w w) := ⟨Below.refl _ _⟩
  have HEV := Aside0.mk (fun W (hb : Below w.heap.size w W) => events_calls a v 2 W (ha.below hb) hL64)
  have hun : ∃ E r, evsP a.L a.G v.x 2 = E ∧ unlikeP a.L a.G v.x = r ∧ ((E = [] ∧ r = false) ∨ ∃ (h0 : 0 < E.length), r = E.any (unlP E[0])) := by
    refine ⟨_, _, rfl, rfl, ?_⟩
    unfold unlikeP
    cases evsP a.L a.G v.x 2 with
    | nil => exact .inl ⟨rfl, rfl⟩
    | cons b r => exact .inr ⟨by simp, rfl⟩
  obtain ⟨E, r, hE, hr, hcase⟩ := hun
  rw [hE] at HEV
  rw [hr]
  have HCASE := Aside0.mk hcase
  clear hE hr hcase ha
  go_enter Try.func38, Try.ntmps38
  go_wp2_with (first | ((with_reducible refine gate_dst (N := 2) rfl ?_); refine boxN (w := w) rfl (N := 2) rfl (cs := a.arr) (t := 97) (by first | (go_simp; done) | (go_simp; rfl)) HB ?_; intro ga Wa Ha Lga HB_Wa K_Wa) | ((with_reducible refine gate_dst (N := 3) rfl ?_); refine boxN (w := w) rfl (N := 3) rfl (cs := v.arr) (t := 101) (by first | (go_simp; done) | (go_simp; rfl)) HB_Wa ?_; intro gb Wb Hb Lgb HB_Wb K_Wb; have HGA := Aside0.mk (blk_below Ha.out K_Wb.out)) | ((with_reducible refine gate_dst (N := 6) rfl ?_); refine wpList_load_row rfl 97 _ rfl ga rfl 97 _ (0, 0) _ HGA.out Try.underlying97 rfl (by kernel_rfl) ?_) | ((with_reducible refine gate_dst (N := 7) rfl ?_); refine wpList_load_row rfl 101 _ rfl gb rfl 101 _ (0, 0) _ Hb.out Try.underlying101 rfl (by kernel_rfl) ?_))
  refine (HEV.out Wb HB_Wb.out).mono ?_
  rintro e w2 ⟨AE, cE, rfl, hcE, hEC, hb⟩
  have HB2 := Aside0.mk (below_step HB_Wb.out hb)
  have HEC := Aside0.mk hEC
  clear hb hEC
  go_wp2_with (first | ((with_reducible refine gate_dst (N := 5) rfl ?_); refine boxN (w := w) rfl (N := 5) rfl (cs := #[.slice none 0 0]) (t := 63) (by first | (go_simp; done) | (go_simp; rfl)) HB2 ?_; intro gd Wd Hd Lgd HB_Wd K_Wd; have y0 : Wd.cell? ⟨gd, 0, none⟩ = some (.slice none 0 0) := cell_in Hd.out 0; have y1 := free_in Hd.out 0))
  have he := set_in Hd.out 0 (Value.slice AE E.length cE)
  have hbe := below_set (j := 0) (v := Value.slice AE E.length cE) HB_Wd.out Lgd.out.1
  have kbe := below_set (j := 0) (v := Value.slice AE E.length cE) K_Wd.out Lgd.out.2
  obtain ⟨We, hWe⟩ : ∃ W, Wd.setCell ⟨gd, 0, none⟩ (Value.slice AE E.length cE) = W := ⟨_, rfl⟩
  rw [hWe] at he hbe kbe ⊢
  have He := Aside0.mk he
  have HB_We := Aside0.mk hbe
  have K_We := Aside0.mk kbe
  clear he hbe kbe hWe Hd HB_Wd K_Wd y0 y1
  have hcf : Calls Try.prog 62 #[.slice AE E.length cE, .func (.func 63) #[] #[.pointer (some ⟨gd, 0, none⟩)]] We fun e w' => e = .returned (.bool r) ∧ Below We.heap.size We w' := by
    have hc := Kd.C_below HEC.out K_We.out
    rcases HCASE.out with ⟨rfl, rfl⟩ | ⟨h0, rfl⟩
    · exact containsf_ev (f := 63) (caps := #[.pointer (some ⟨gd, 0, none⟩)]) Try.func63 rfl rfl (fun _ => false) AE cE [] We hc (fun x A7 c7 => #[.agg (evc x A7 c7), .pointer (some ⟨gd, 0, none⟩)]) (fun _ _ _ => by simp) (fun _ hx => nomatch hx)
    · exact containsf_ev (f := 63) (caps := #[.pointer (some ⟨gd, 0, none⟩)]) Try.func63 rfl rfl (unlP E[0]) AE cE E We hc (fun x A7 c7 => #[.agg (evc x A7 c7), .pointer (some ⟨gd, 0, none⟩)]) (fun _ _ _ => by simp) (fun x _ W A7 c7 hb hl7 h7 => unl1_calls E AE cE E[0] x A7 c7 gd W (Kd.C_below hc hb) h0 rfl hl7 h7 (blk_below He.out hb))
  refine hcf.mono ?_
  rintro e w3 ⟨rfl, hb⟩
  have HB3 := Aside0.mk (below_step HB_We.out hb)
  clear hb hcf
  go_wp2_with fail
  go_ret
  exact ⟨rfl, HB3.out⟩
end Go.Proofs.Ytekbaconbemgpaa.PWe
