/- busbarlaw35.one: walk. Helper text. -/
import Derived.Test.YtmoodblpgnnenaaDoorLsCod
import Derived.Test.YtmoodblpgnnenaaDoorLsRef
import Derived.Test.YtmoodblpgnnenaaDoorLsRgt
import Derived.Deep.RegionHeld3
import Derived.Deep.DeepCutAuto
import Derived.Test.YtmoodblpgnnenaaDoorK5
import Derived.HandedShaped
import Derived.Handed
import Derived.ProofKit
namespace Go.Proofs.YtmoodblpgnnenaaDoor.PLs
open Go.RowKit Go.Proofs.YtmoodblpgnnenaaDoor.Kx Go.Proofs.YtmoodblpgnnenaaDoor.PWe Go.Proofs.YtmoodblpgnnenaaDoorW.PrintWords Go.Proofs.YtmoodblpgnnenaaDoorW.PrintLast Go.Proofs.YtmoodblpgnnenaaDoorW.PrintMore
set_option linter.unusedVariables false
set_option linter.unusedSimpArgs false
def txtOne : List UInt8 := [48, 58, 32, 103, 97, 112, 32, 55, 10, 50, 58, 32, 101, 110, 100, 10]
def sndOne : ByteArray := ⟨#[115, 101, 110, 100, 32, 53, 54, 32, 56, 32, 49, 32, 50]⟩
theorem each_one : eachL [4, 7, 0] 4 0 = ([(0, [4, 0, 0, 0, 0, 7, 0]), (2, [0, 0, 0, 0, 0, 0, 0])], 0) := by kernel_rfl
theorem list_one : listP [4, 7, 0] = (txtOne, 0) := by
  unfold listP
  rw [show ([4, 7, 0] : List Int).length + 1 = 4 from rfl, each_one]
  have d0 := digP_small (n := 0) (by omega)
  have d2 := digP_small (n := 2) (by omega)
  have d7 := digP_small (n := 7) (by omega)
  have l1 : lineP [4, 0, 0, 0, 0, 7, 0] = vb 4 ++ 32 :: digP 7 := by kernel_rfl
  have l2 : lineP [0, 0, 0, 0, 0, 0, 0] = vb 0 := by kernel_rfl
  show (rowsP [(0, [4, 0, 0, 0, 0, 7, 0]), (2, [0, 0, 0, 0, 0, 0, 0])], (0 : Int)) = _
  have e : rowsP [(0, [4, 0, 0, 0, 0, 7, 0]), (2, [0, 0, 0, 0, 0, 0, 0])] = (digP 0 ++ ([58, 32] ++ (lineP [4, 0, 0, 0, 0, 7, 0] ++ [10]))) ++ ((digP 2 ++ ([58, 32] ++ (lineP [0, 0, 0, 0, 0, 0, 0] ++ [10]))) ++ []) := rfl
  rw [e, l1, l2, d0, d2, d7]
  rfl
theorem code_one : codeP txtOne = ([4, 7, 0], 0, 0) := by kernel_rfl
theorem parse_one : parseP sndOne.data.toList = ([1, 56, 8, 1, 2, 0, 0], 0) := by kernel_rfl
set_option maxHeartbeats 8000000 in
set_option maxRecDepth 100000 in
theorem one_calls (m : Int) (w : World) (hm : w.cell? ⟨0, 0, none⟩ = some (.int .i64 m)) :
    Calls Tryd.prog 9 #[] w fun e w' => e = .returned (.bool true) ∧ Below w.heap.size w w' := by
  have HM := Aside0.mk hm
  have HB : Aside0 (Below w.heap.size w w) := ⟨Below.refl _ _⟩
  clear hm
  go_enter Tryd.func9, Tryd.ntmps9
  go_wp2_with (first | ((with_reducible refine gate_dst (N := 9) rfl ?_); refine litN (w := w) (Kd.int .u8) 5 rfl (N := 9) rfl (xs := ([4, 7, 0] : List Int)) (inner := [.int .u8 4, .int .u8 7, .int .u8 0]) (by first | (go_simp; done) | (go_simp; rfl)) (Reps.one (show Kd.M (Kd.int .u8) _ _ _ 4 [.int .u8 4] from rfl) (Reps.one (show Kd.M (Kd.int .u8) _ _ _ 7 [.int .u8 7] from rfl) (Reps.one (show Kd.M (Kd.int .u8) _ _ _ 0 [.int .u8 0] from rfl) (Reps.none _ _)))) HB (by simp) ?_; intro va W1 Ha HB1 K1; obtain ⟨Aa, ca, ea⟩ := Kd.R_slice Ha.out; subst ea; have Ra := Aside0.mk (Kd.R_reads' Ha.out)))
  refine (list_calls Aa ca [4, 7, 0] W1 Ra.out.2.2 Ra.out.2.1 (by intro x hx; simp at hx; rcases hx with rfl | rfl | rfl <;> decide) (by decide) list_one).mono ?_
  rintro e w2 ⟨rfl, hb2⟩
  have HB2 := Aside0.mk (below_step HB1.out hb2)
  clear hb2 Ra Ha
  have HM2 := Aside0.mk ((HB2.out.cell (World.block_lt_of_cell? w _ HM.out)).trans HM.out)
  go_wp2_with fail
  refine (code_calls (strB txtOne) m w2 (by decide) HM2.out code_one).mono ?_
  rintro e w3 ⟨v3, rfl, h3, hb3⟩
  obtain ⟨A3, c3, e3⟩ := Kd.R_slice h3
  subst e3
  have H3 := Aside0.mk h3
  have HB3 := Aside0.mk (below_step HB2.out hb3)
  clear h3 hb3
  have HM3 := Aside0.mk ((HB3.out.cell (World.block_lt_of_cell? w _ HM.out)).trans HM.out)
  go_wp2_with fail
  refine (parse_calls sndOne m w3 (by decide) HM3.out parse_one).mono ?_
  rintro e w4 ⟨rfl, hb4⟩
  have H4 := Aside0.mk (Kd.R_below H3.out hb4)
  have HB4 := Aside0.mk (below_step HB3.out hb4)
  clear hb4
  go_upto_region 4 with fail
  have HCV : ∀ cs, (convert 23 9 (.slice A3 3 c3)).run Tryd.prog (w4.alloc (.cells cs 37 (0, 0))) = .ok (.string (strOfNums [4, 7, 0])) (w4.alloc (.cells cs 37 (0, 0))) := fun cs =>
    Kd.C_string (e := 5) (by kernel_rfl) (by kernel_rfl) (by kernel_rfl) (Kd.R_reads' (Kd.R_below H4.out (below_alloc (Below.refl _ _) _))).2.2
  have hcv := HCV #[.int .i64 1, .int .i64 56, .int .i64 8, .int .i64 1, .int .i64 2, .int .i64 0, .int .i64 0]
  have hst : ((strOfNums [4, 7, 0]).toList == [4, 7, 0]) = true := by kernel_rfl
  have htx : ((strB txtOne).toList == [48, 58, 32, 103, 97, 112, 32, 55, 10, 50, 58, 32, 101, 110, 100, 10]) = true := by kernel_rfl
  go_wp2_with fail
  go_ret
  exact ⟨rfl, below_alloc HB4.out _⟩
end Go.Proofs.YtmoodblpgnnenaaDoor.PLs
namespace Go.Proofs.YtmoodblpgnnenaaDoor.PLs
open Go.RowKit Go.Proofs.YtmoodblpgnnenaaDoor.Kx Go.Proofs.YtmoodblpgnnenaaDoor.PWe Go.Proofs.YtmoodblpgnnenaaDoorW.PrintWords Go.Proofs.YtmoodblpgnnenaaDoorW.PrintLast Go.Proofs.YtmoodblpgnnenaaDoorW.PrintMore
set_option linter.unusedVariables false
set_option linter.unusedSimpArgs false
def setAll : List Nat → List Nat → List Int → List Int
  | j :: js, n :: ns, C => setAll js ns (C.set j (n : Int))
  | _, _, C => C
theorem takeP_good {l : List (List UInt8)} {f : Bool} (h : (takeP l f).2.1 = true) : ∃ b p q n, l = b :: p :: q ∧ f = true ∧ numP p = some n ∧ takeP l f = (p :: q, true, (n : Int)) := by
  unfold takeP at h ⊢
  cases l with
  | nil => cases h
  | cons b r =>
    cases r with
    | nil => cases h
    | cons p q =>
      simp only [List.tail_cons] at h ⊢
      obtain ⟨h1, h2⟩ := Bool.and_eq_true_iff.1 h
      obtain ⟨n, hn⟩ := Option.isSome_iff_exists.1 h2
      exact ⟨b, p, q, n, rfl, h1, hn, by rw [h1, hn]; rfl⟩
theorem runT_false : ∀ (js : List Nat) (l : List (List UInt8)) (C : List Int), (runT js l false C).2.1 = false
  | [], _, _ => rfl
  | j :: js, l, C => by
    rw [runT]
    have h : (takeP l false).2.1 = false := by
      unfold takeP
      cases l.tail <;> simp
    rw [h]
    exact runT_false js _ _
theorem runT_inv : ∀ (js : List Nat) (l : List (List UInt8)) (f : Bool) (C : List Int), (runT js l f C).2.1 = true → (runT js l f C).1.length = 1 → f = true ∧ ∃ (a : List UInt8) (ns : List Nat), l = a :: ns.map digP ∧ ns.length = js.length ∧ (runT js l f C).2.2 = setAll js ns C ∧ ∀ n ∈ ns, n < 2147483648
  | [], l, f, C, h1, h2 => by
    have h2' : l.length = 1 := h2
    match l, h2' with
    | [a], _ => exact ⟨h1, a, [], rfl, rfl, rfl, fun n hn => by cases hn⟩
  | j :: js, l, f, C, h1, h2 => by
    rw [runT] at h1 h2 ⊢
    have hg : (takeP l f).2.1 = true := by
      cases hq : (takeP l f).2.1 with
      | true => rfl
      | false => rw [hq, runT_false] at h1; cases h1
    obtain ⟨b, p, q, n, rfl, rfl, hn, ht⟩ := takeP_good hg
    rw [ht] at h1 h2 ⊢
    dsimp only at h1 h2 ⊢
    obtain ⟨_, a, ns, hl, hlen, hC, hs⟩ := runT_inv js (p :: q) true _ h1 h2
    obtain ⟨hd, hlt⟩ := numP_some hn
    obtain ⟨rfl, rfl⟩ := List.cons.inj hl
    refine ⟨rfl, b, n :: ns, by rw [List.map_cons, hd], by simp [hlen], by rw [hC]; rfl, ?_⟩
    intro m hm
    rcases List.mem_cons.1 hm with rfl | hm
    · exact hlt
    · exact hs m hm
theorem runT_fwd : ∀ (js : List Nat) (ns : List Nat) (a : List UInt8) (C : List Int), ns.length = js.length → (∀ n ∈ ns, n < 2147483648) → ∃ a', runT js (a :: ns.map digP) true C = ([a'], true, setAll js ns C)
  | [], [], a, C, _, _ => ⟨a, rfl⟩
  | j :: js, n :: ns, a, C, h, hs => by
    have hn := numP_digP (hs n (by simp))
    have ht : takeP (a :: (n :: ns).map digP) true = (digP n :: ns.map digP, true, (n : Int)) := by
      unfold takeP
      simp only [List.map_cons, List.tail_cons, hn]
      rfl
    obtain ⟨a', h2⟩ := runT_fwd js ns (digP n) (C.set j (n : Int)) (by simpa using h) (fun m hm => hs m (List.mem_cons_of_mem _ hm))
    exact ⟨a', by rw [runT, ht]; exact h2⟩
  | [], n :: ns, _, _, h, _ => by simp at h
  | j :: js, [], _, _, h, _ => by simp at h
theorem dig_no32 {n : Nat} : 32 ∉ digP n := by
  intro h
  have h2 := (digP_val n).2.1
  rw [List.all_eq_true] at h2
  have := h2 32 h
  revert this
  decide
theorem vb_no32 {o : Nat} (h : o ≤ 8) : 32 ∉ vb o := by
  rcases (by omega : o = 0 ∨ o = 1 ∨ o = 2 ∨ o = 3 ∨ o = 4 ∨ o = 5 ∨ o = 6 ∨ o = 7 ∨ o = 8) with rfl | rfl | rfl | rfl | rfl | rfl | rfl | rfl | rfl <;> decide
theorem vIx_vb {o : Nat} (h : o ≤ 8) : vIx 9 (vb o) = some o := by
  rcases (by omega : o = 0 ∨ o = 1 ∨ o = 2 ∨ o = 3 ∨ o = 4 ∨ o = 5 ∨ o = 6 ∨ o = 7 ∨ o = 8) with rfl | rfl | rfl | rfl | rfl | rfl | rfl | rfl | rfl <;> decide
theorem spl_line {o : Nat} (h : o ≤ 8) (ns : List Nat) : spl 32 (glue 32 (vb o :: ns.map digP)) = vb o :: ns.map digP := by
  refine spl_glue 32 _ (by simp) ?_
  intro p hp
  rcases List.mem_cons.1 hp with rfl | hp
  · exact vb_no32 h
  · obtain ⟨n, _, rfl⟩ := List.mem_map.1 hp
    exact dig_no32
/-- What a line is read as. -/
theorem parse_line {a0 a1 a2 a3 a4 a5 a6 : Int} (hr : rightP a0 a1 a2 a3 a4 a5 a6 = true) : parseP (lineP [a0, a1, a2, a3, a4, a5, a6]) = (cleanL [a0, a1, a2, a3, a4, a5, a6] a0, 0) ∧ rightL (cleanL [a0, a1, a2, a3, a4, a5, a6] a0) = true := by
  obtain ⟨⟨h0, h8⟩, hsm⟩ := right_small rfl hr
  obtain ⟨o, rfl⟩ : ∃ o : Nat, a0 = (o : Int) := ⟨a0.toNat, by omega⟩
  obtain ⟨L, hL⟩ : ∃ L, [(o : Int), a1, a2, a3, a4, a5, a6] = L := ⟨_, rfl⟩
  rw [hL] at hsm ⊢
  obtain ⟨ns, hns⟩ : ∃ ns, (offN (o : Int)).map (fun j => (L.getD j 0).toNat) = ns := ⟨_, rfl⟩
  have hlp : lineP L = glue 32 (vb o :: ns.map digP) := by
    unfold lineP
    have h1 : rightL L = true := by rw [← hL]; exact hr
    have h2 : (L.getD 0 0).toNat = o := by rw [← hL]; rfl
    rw [if_pos h1, h2, ← hns, List.map_map]; rfl
  have hnl : ns.length = (offN (o : Int)).length := by rw [← hns]; simp
  have hnb : ∀ n ∈ ns, n < 2147483648 := by
    rw [← hns]; intro n hn
    obtain ⟨j, hj, rfl⟩ := List.mem_map.1 hn
    have := hsm j hj
    omega
  have hcl : setAll (offN (o : Int)) ns [(o : Int), 0, 0, 0, 0, 0, 0] = cleanL L (o : Int) ∧ rightL (cleanL L (o : Int)) = true := by
    subst hns
    subst hL
    rcases (by omega : o = 0 ∨ o = 1 ∨ o = 2 ∨ o = 3 ∨ o = 4 ∨ o = 5 ∨ o = 6 ∨ o = 7 ∨ o = 8) with rfl | rfl | rfl | rfl | rfl | rfl | rfl | rfl | rfl
    all_goals
      simp [offN] at hsm
      simp [setAll, offN, cleanL, goesF, cleanK, offs, rightL, rightP] at hr ⊢
      try omega
  obtain ⟨a', hf⟩ := runT_fwd (offN (o : Int)) ns (vb o) [(o : Int), 0, 0, 0, 0, 0, 0] hnl hnb
  have hps : spl 32 (lineP L) = vb o :: ns.map digP := by rw [hlp, spl_line (by omega)]
  have hp : parseP (lineP L) = if (runT (offN (o : Int)) (vb o :: ns.map digP) true [(o : Int), 0, 0, 0, 0, 0, 0]).2.1 = true ∧ (runT (offN (o : Int)) (vb o :: ns.map digP) true [(o : Int), 0, 0, 0, 0, 0, 0]).1.length = 1 ∧ rightL (runT (offN (o : Int)) (vb o :: ns.map digP) true [(o : Int), 0, 0, 0, 0, 0, 0]).2.2 = true then ((runT (offN (o : Int)) (vb o :: ns.map digP) true [(o : Int), 0, 0, 0, 0, 0, 0]).2.2, 0) else (zero7, 30) := by
    unfold parseP parseR
    rw [hps, List.headD_cons, vIx_vb (by omega)]
    rfl
  rw [hp, hf, hcl.1]
  exact ⟨if_pos ⟨rfl, rfl, hcl.2⟩, hcl.2⟩
/-- What is read is its own line, and clean. -/
theorem parse_back {s : List UInt8} {C : List Int} (h : parseP s = (C, 0)) : ∃ a0 a1 a2 a3 a4 a5 a6, C = [a0, a1, a2, a3, a4, a5, a6] ∧ rightP a0 a1 a2 a3 a4 a5 a6 = true ∧ lineP C = s ∧ cleanL C a0 = C := by
  unfold parseP at h
  split at h
  · rename_i hc
    obtain ⟨h1, h2, h3⟩ := hc
    have hC : (parseR s).2.2 = C := (Prod.mk.inj h).1
    unfold parseR at h1 h2 h3 hC
    obtain ⟨hf, a, ns, hl, hlen, hS, hnb⟩ := runT_inv _ _ _ _ h1 h2
    rw [hS] at hC h3
    obtain ⟨o, ho⟩ := Option.isSome_iff_exists.1 hf
    obtain ⟨ho9, hvb⟩ := vIx_lt ho
    rw [ho] at hlen hS hC h3
    have hh : (spl 32 s).headD [] = a := by rw [hl]; rfl
    rw [hh] at hvb
    have hs : s = glue 32 (vb o :: ns.map digP) := by rw [hvb, ← hl, glue_spl]
    have hlen2 : ns.length = (offN (o : Int)).length := hlen
    have hC2 : setAll (offN (o : Int)) ns [(o : Int), 0, 0, 0, 0, 0, 0] = C := hC
    have h32 : rightL C = true := by rw [← hC2]; exact h3
    clear hC h3 hS hf hl hh h1 h2 h hlen ho
    rw [hs]
    subst hC2
    rcases (by omega : o = 0 ∨ o = 1 ∨ o = 2 ∨ o = 3 ∨ o = 4 ∨ o = 5 ∨ o = 6 ∨ o = 7 ∨ o = 8) with rfl | rfl | rfl | rfl | rfl | rfl | rfl | rfl | rfl
    · match ns, hlen2 with
      | [], _ => exact ⟨_, _, _, _, _, _, _, rfl, h32, by unfold lineP; rw [if_pos h32]; rfl, rfl⟩
    · match ns, hlen2 with
      | [n1, n2, n3, n4], _ => exact ⟨_, _, _, _, _, _, _, rfl, h32, by unfold lineP; rw [if_pos h32]; rfl, rfl⟩
    · match ns, hlen2 with
      | [n1, n2, n3], _ => exact ⟨_, _, _, _, _, _, _, rfl, h32, by unfold lineP; rw [if_pos h32]; rfl, rfl⟩
    · match ns, hlen2 with
      | [n1, n2], _ => exact ⟨_, _, _, _, _, _, _, rfl, h32, by unfold lineP; rw [if_pos h32]; rfl, rfl⟩
    · match ns, hlen2 with
      | [n1], _ => exact ⟨_, _, _, _, _, _, _, rfl, h32, by unfold lineP; rw [if_pos h32]; rfl, rfl⟩
    · match ns, hlen2 with
      | [], _ => exact ⟨_, _, _, _, _, _, _, rfl, h32, by unfold lineP; rw [if_pos h32]; rfl, rfl⟩
    · match ns, hlen2 with
      | [n1], _ => exact ⟨_, _, _, _, _, _, _, rfl, h32, by unfold lineP; rw [if_pos h32]; rfl, rfl⟩
    · match ns, hlen2 with
      | [], _ => exact ⟨_, _, _, _, _, _, _, rfl, h32, by unfold lineP; rw [if_pos h32]; rfl, rfl⟩
    · match ns, hlen2 with
      | [n1], _ => exact ⟨_, _, _, _, _, _, _, rfl, h32, by unfold lineP; rw [if_pos h32]; rfl, rfl⟩
  · cases h
theorem parse_err {s : List UInt8} {C : List Int} {E : Int} (h : parseP s = (C, E)) (he : E ≠ 0) : C = zero7 ∧ E = 30 := by
  unfold parseP at h
  split at h
  · exact absurd (Prod.mk.inj h).2.symm he
  · exact ⟨(Prod.mk.inj h).1.symm, (Prod.mk.inj h).2.symm⟩
end Go.Proofs.YtmoodblpgnnenaaDoor.PLs
namespace Go.Proofs.YtmoodblpgnnenaaDoor.PLs
open Go.RowKit Go.Proofs.YtmoodblpgnnenaaDoor.Kx Go.Proofs.YtmoodblpgnnenaaDoor.PWe Go.Proofs.YtmoodblpgnnenaaDoorW.PrintWords Go.Proofs.YtmoodblpgnnenaaDoorW.PrintLast Go.Proofs.YtmoodblpgnnenaaDoorW.PrintMore
set_option linter.unusedVariables false
set_option linter.unusedSimpArgs false
theorem cells7 {w : World} {g : Nat} {a b c d e f h : Value} {T : TypeId} {fr : Nat × Nat} (hb : w.heap[g]? = some (.cells #[a, b, c, d, e, f, h] T fr)) :
    w.cell? ⟨g, 0, none⟩ = some a ∧ w.cell? ⟨g, 1, none⟩ = some b ∧ w.cell? ⟨g, 2, none⟩ = some c ∧ w.cell? ⟨g, 3, none⟩ = some d ∧ w.cell? ⟨g, 4, none⟩ = some e ∧ w.cell? ⟨g, 5, none⟩ = some f ∧ w.cell? ⟨g, 6, none⟩ = some h :=
  ⟨cell_in hb 0, cell_in hb 1, cell_in hb 2, cell_in hb 3, cell_in hb 4, cell_in hb 5, cell_in hb 6⟩
theorem blk_b {W W1 : World} {g : Nat} {o : Obj} (hb : Below W.heap.size W W1) (h : W.heap[g]? = some o) : W1.heap[g]? = some o := (hb.block g (blk_lt h)).trans h
/-- What the last region's calls keep. -/
def K3 (w0 : World) (g1 g2 g3 : Nat) (a0 a1 a2 a3 a4 a5 a6 b0 b1 b2 b3 b4 b5 b6 m : Int) (W : World) : Prop := W.cell? ⟨g1, 0, none⟩ = some (.int .i64 a0) ∧ W.cell? ⟨g1, 1, none⟩ = some (.int .i64 a1) ∧ W.cell? ⟨g1, 2, none⟩ = some (.int .i64 a2) ∧ W.cell? ⟨g1, 3, none⟩ = some (.int .i64 a3) ∧ W.cell? ⟨g1, 4, none⟩ = some (.int .i64 a4) ∧ W.cell? ⟨g1, 5, none⟩ = some (.int .i64 a5) ∧ W.cell? ⟨g1, 6, none⟩ = some (.int .i64 a6) ∧ W.cell? ⟨g2, 0, none⟩ = some (.int .i64 a0) ∧ W.cell? ⟨g2, 1, none⟩ = some (.int .i64 a1) ∧ W.cell? ⟨g2, 2, none⟩ = some (.int .i64 a2) ∧ W.cell? ⟨g2, 3, none⟩ = some (.int .i64 a3) ∧ W.cell? ⟨g2, 4, none⟩ = some (.int .i64 a4) ∧ W.cell? ⟨g2, 5, none⟩ = some (.int .i64 a5) ∧ W.cell? ⟨g2, 6, none⟩ = some (.int .i64 a6) ∧ W.cell? ⟨g3, 0, none⟩ = some (.int .i64 b0) ∧ W.cell? ⟨g3, 1, none⟩ = some (.int .i64 b1) ∧ W.cell? ⟨g3, 2, none⟩ = some (.int .i64 b2) ∧ W.cell? ⟨g3, 3, none⟩ = some (.int .i64 b3) ∧ W.cell? ⟨g3, 4, none⟩ = some (.int .i64 b4) ∧ W.cell? ⟨g3, 5, none⟩ = some (.int .i64 b5) ∧ W.cell? ⟨g3, 6, none⟩ = some (.int .i64 b6) ∧ W.cell? ⟨0, 0, none⟩ = some (.int .i64 m) ∧ Below w0.heap.size w0 W
theorem K3.on {w0 : World} {g1 g2 g3 : Nat} {a0 a1 a2 a3 a4 a5 a6 b0 b1 b2 b3 b4 b5 b6 m : Int} {W W1 : World} (h : K3 w0 g1 g2 g3 a0 a1 a2 a3 a4 a5 a6 b0 b1 b2 b3 b4 b5 b6 m W) (hb : Below W.heap.size W W1) : K3 w0 g1 g2 g3 a0 a1 a2 a3 a4 a5 a6 b0 b1 b2 b3 b4 b5 b6 m W1 := by
  unfold K3 at h ⊢
  obtain ⟨c0, c1, c2, c3, c4, c5, c6, d0, d1, d2, d3, d4, d5, d6, e0, e1, e2, e3, e4, e5, e6, hmm, HBB⟩ := h
  exact ⟨cell_below' hb c0, cell_below' hb c1, cell_below' hb c2, cell_below' hb c3, cell_below' hb c4, cell_below' hb c5, cell_below' hb c6, cell_below' hb d0, cell_below' hb d1, cell_below' hb d2, cell_below' hb d3, cell_below' hb d4, cell_below' hb d5, cell_below' hb d6, cell_below' hb e0, cell_below' hb e1, cell_below' hb e2, cell_below' hb e3, cell_below' hb e4, cell_below' hb e5, cell_below' hb e6, cell_below' hb hmm, below_step HBB hb⟩
theorem K3.m {w0 : World} {g1 g2 g3 : Nat} {a0 a1 a2 a3 a4 a5 a6 b0 b1 b2 b3 b4 b5 b6 m : Int} {W : World} (h : K3 w0 g1 g2 g3 a0 a1 a2 a3 a4 a5 a6 b0 b1 b2 b3 b4 b5 b6 m W) : W.cell? ⟨0, 0, none⟩ = some (.int .i64 m) := by
  unfold K3 at h
  obtain ⟨c0, c1, c2, c3, c4, c5, c6, d0, d1, d2, d3, d4, d5, d6, e0, e1, e2, e3, e4, e5, e6, hmm, HBB⟩ := h
  exact hmm
theorem K3.b {w0 : World} {g1 g2 g3 : Nat} {a0 a1 a2 a3 a4 a5 a6 b0 b1 b2 b3 b4 b5 b6 m : Int} {W : World} (h : K3 w0 g1 g2 g3 a0 a1 a2 a3 a4 a5 a6 b0 b1 b2 b3 b4 b5 b6 m W) : Below w0.heap.size w0 W := by
  unfold K3 at h
  obtain ⟨c0, c1, c2, c3, c4, c5, c6, d0, d1, d2, d3, d4, d5, d6, e0, e1, e2, e3, e4, e5, e6, hmm, HBB⟩ := h
  exact HBB
theorem K3.mk {w0 : World} {g1 g2 g3 : Nat} {a0 a1 a2 a3 a4 a5 a6 b0 b1 b2 b3 b4 b5 b6 m : Int} {W : World} (h1 : W.heap[g1]? = some (.cells #[.int .i64 a0, .int .i64 a1, .int .i64 a2, .int .i64 a3, .int .i64 a4, .int .i64 a5, .int .i64 a6] 37 (0, 0))) (h2 : W.heap[g2]? = some (.cells #[.int .i64 a0, .int .i64 a1, .int .i64 a2, .int .i64 a3, .int .i64 a4, .int .i64 a5, .int .i64 a6] 38 (0, 0))) (h3 : W.heap[g3]? = some (.cells #[.int .i64 b0, .int .i64 b1, .int .i64 b2, .int .i64 b3, .int .i64 b4, .int .i64 b5, .int .i64 b6] 37 (0, 0))) (hb : Below w0.heap.size w0 W) (hm : W.cell? ⟨0, 0, none⟩ = some (.int .i64 m)) : K3 w0 g1 g2 g3 a0 a1 a2 a3 a4 a5 a6 b0 b1 b2 b3 b4 b5 b6 m W := by
  obtain ⟨c0, c1, c2, c3, c4, c5, c6⟩ := cells7 h1
  obtain ⟨d0, d1, d2, d3, d4, d5, d6⟩ := cells7 h2
  obtain ⟨e0, e1, e2, e3, e4, e5, e6⟩ := cells7 h3
  unfold K3
  exact ⟨c0, c1, c2, c3, c4, c5, c6, d0, d1, d2, d3, d4, d5, d6, e0, e1, e2, e3, e4, e5, e6, hm, hb⟩
set_option maxHeartbeats 8000000 in
set_option maxRecDepth 100000 in
theorem cleanL_len7 (L : List Int) (op : Int) : (cleanL L op).length = 7 := by
  unfold cleanL
  split
  · rw [List.length_set, cleanK_len]
  · exact cleanK_len _ _ _
set_option maxHeartbeats 8000000 in
set_option maxRecDepth 100000 in
theorem lines_calls (a0 a1 a2 a3 a4 a5 a6 : Int) (m : Int) (w : World) (hm : w.cell? ⟨0, 0, none⟩ = some (.int .i64 m)) :
    Calls Tryd.prog 4 #[.agg #[.int .i64 a0, .int .i64 a1, .int .i64 a2, .int .i64 a3, .int .i64 a4, .int .i64 a5, .int .i64 a6]] w fun e w' => e = .returned (.bool true) ∧ Below w.heap.size w w' := by
  have HM := Aside0.mk hm
  obtain ⟨L, hL⟩ : ∃ L, [a0, a1, a2, a3, a4, a5, a6] = L := ⟨_, rfl⟩
  have HL := Aside0.mk hL
  obtain ⟨ok, hok⟩ : ∃ b, rightP a0 a1 a2 a3 a4 a5 a6 = b := ⟨_, rfl⟩
  have HOK := Aside0.mk hok
  obtain ⟨wq, hq⟩ : ∃ x, w.alloc (.cells #[.int .i64 a0, .int .i64 a1, .int .i64 a2, .int .i64 a3, .int .i64 a4, .int .i64 a5, .int .i64 a6] 37 (0, 0)) = x := ⟨_, rfl⟩
  have HQ := Aside0.mk hq
  have HX : Aside0 (wq.heap[w.heap.size]? = some (.cells #[.int .i64 a0, .int .i64 a1, .int .i64 a2, .int .i64 a3, .int .i64 a4, .int .i64 a5, .int .i64 a6] 37 (0, 0))) := ⟨by rw [← hq]; exact blk_new _ _⟩
  have HB : Aside0 (Below w.heap.size w wq) := ⟨by rw [← hq]; exact below_alloc (Below.refl _ _) _⟩
  clear hm hL hok hq
  go_enter Tryd.func4, Tryd.ntmps4
  go_upto_region 1 with fail
  rw [HQ.out]
  obtain ⟨c0, c1, c2, c3, c4, c5, c6⟩ := cells7 HX.out
  go_wp2_with fail
  clear c0 c1 c2 c3 c4 c5 c6
  refine (own_calls a0 a1 a2 a3 a4 a5 a6 wq).mono ?_
  rintro e w1 ⟨rfl, hb1⟩
  have HB1 := Aside0.mk (below_step HB.out hb1)
  have HX1 := Aside0.mk (blk_b hb1 HX.out)
  clear hb1
  obtain ⟨wr, hr⟩ : ∃ x, w1.alloc (.cells #[.int .i64 a0, .int .i64 a1, .int .i64 a2, .int .i64 a3, .int .i64 a4, .int .i64 a5, .int .i64 a6] 38 (0, 0)) = x := ⟨_, rfl⟩
  have HR := Aside0.mk hr
  have HXa : Aside0 (wr.heap[w.heap.size]? = some (.cells #[.int .i64 a0, .int .i64 a1, .int .i64 a2, .int .i64 a3, .int .i64 a4, .int .i64 a5, .int .i64 a6] 37 (0, 0))) := ⟨by rw [← hr]; exact blk_alloc HX1.out _⟩
  have HXb : Aside0 (wr.heap[w1.heap.size]? = some (.cells #[.int .i64 a0, .int .i64 a1, .int .i64 a2, .int .i64 a3, .int .i64 a4, .int .i64 a5, .int .i64 a6] 38 (0, 0))) := ⟨by rw [← hr]; exact blk_new _ _⟩
  have HBr : Aside0 (Below w.heap.size w wr) := ⟨by rw [← hr]; exact below_alloc HB1.out _⟩
  clear hr
  go_upto_region 2 with fail
  rw [HR.out]
  obtain ⟨c0, c1, c2, c3, c4, c5, c6⟩ := cells7 HXa.out
  go_wp2_with fail
  clear c0 c1 c2 c3 c4 c5 c6
  refine (line_calls a0 a1 a2 a3 a4 a5 a6 wr HL.out).mono ?_
  rintro e w2 ⟨rfl, hb2⟩
  have HB2 := Aside0.mk (below_step HBr.out hb2)
  have HXa2 := Aside0.mk (blk_b hb2 HXa.out)
  have HXb2 := Aside0.mk (blk_b hb2 HXb.out)
  clear hb2
  obtain ⟨c0, c1, c2, c3, c4, c5, c6⟩ := cells7 HXb2.out
  go_wp2_with fail
  clear c0 c1 c2 c3 c4 c5 c6
  refine (busbarref09_Right.calls 4 a0 a1 a2 a3 a4 a5 a6 ok w2 (by rw [refRight_f, HOK.out])).mono ?_
  rintro e w3 ⟨rfl, hb3⟩
  have HB3 := Aside0.mk (below_step HB2.out hb3)
  have HXa3 := Aside0.mk (blk_b hb3 HXa2.out)
  have HXb3 := Aside0.mk (blk_b hb3 HXb2.out)
  have HM3 := Aside0.mk ((HB3.out.cell (World.block_lt_of_cell? w _ HM.out)).trans HM.out)
  clear hb3
  cases ok with
  | false =>
    have hlp : lineP L = [] := by
      unfold lineP
      have h1 : ¬ rightL L = true := by rw [← HL.out]; show ¬ rightP a0 a1 a2 a3 a4 a5 a6 = true; rw [HOK.out]; decide
      rw [if_neg h1]
    have hle : (strB (lineP L)).toList.isEmpty = true := by rw [hlp]; kernel_rfl
    clear hlp
    go_wp2_with fail
    refine (one_calls m w3 HM3.out).mono ?_
    rintro e w4 ⟨rfl, hb4⟩
    have HB4 := Aside0.mk (below_step HB3.out hb4)
    clear hb4
    go_wp2_with fail
    go_ret
    exact ⟨rfl, HB4.out⟩
  | true =>
    obtain ⟨hp, hcr⟩ := parse_line HOK.out
    rw [HL.out] at hp hcr
    obtain ⟨b0, b1, b2, b3, b4, b5, b6, hcl⟩ := list7 (cleanL L a0) (by rw [← HL.out]; exact cleanL_len7 _ _)
    have hsz : (strB (lineP L)).size ≤ 100000 := by rw [strB_size]; have := lineP_len L (by rw [← HL.out]; rfl); omega
    have HSZ := Aside0.mk hsz
    rw [hcl] at hp
    have HP : Aside0 (parseP (strB (lineP L)).data.toList = ([b0, b1, b2, b3, b4, b5, b6], 0)) := ⟨by rw [strB_data]; exact hp⟩
    have HCL := Aside0.mk hcl
    have HRL : Aside0 (∀ W, Calls Tryd.prog 16 #[.agg #[.int .i64 a0, .int .i64 a1, .int .i64 a2, .int .i64 a3, .int .i64 a4, .int .i64 a5, .int .i64 a6]] W fun e w' => e = .returned (.string (strB (lineP L))) ∧ Below W.heap.size W w') := ⟨fun W => rline_calls a0 a1 a2 a3 a4 a5 a6 W HL.out HOK.out⟩
    have HCN : Aside0 (∀ W, Calls Tryd.prog 17 #[.agg #[.int .i64 a0, .int .i64 a1, .int .i64 a2, .int .i64 a3, .int .i64 a4, .int .i64 a5, .int .i64 a6]] W fun e w' => e = .returned (.agg #[.int .i64 b0, .int .i64 b1, .int .i64 b2, .int .i64 b3, .int .i64 b4, .int .i64 b5, .int .i64 b6]) ∧ Below W.heap.size W w') := ⟨fun W => (clean_calls a0 a1 a2 a3 a4 a5 a6 W HL.out HCL.out)⟩
    obtain ⟨S, hS⟩ : ∃ S, strB (lineP L) = S := ⟨_, rfl⟩
    rw [hS] at HP HRL HSZ
    rw [hS]
    have hss : (S.toList == S.toList) = true := beq_self_eq_true _
    clear hS hp hcr hcl hsz
    go_wp2_with fail
    refine (parse_calls S m w3 HSZ.out HM3.out HP.out).mono ?_
    rintro e w4 ⟨rfl, hb4⟩
    have HB4 := Aside0.mk (below_step HB3.out hb4)
    have HXa4 := Aside0.mk (blk_b hb4 HXa3.out)
    have HXb4 := Aside0.mk (blk_b hb4 HXb3.out)
    clear hb4
    obtain ⟨ws, hs⟩ : ∃ x, w4.alloc (.cells #[.int .i64 b0, .int .i64 b1, .int .i64 b2, .int .i64 b3, .int .i64 b4, .int .i64 b5, .int .i64 b6] 37 (0, 0)) = x := ⟨_, rfl⟩
    have HS := Aside0.mk hs
    have HXa5 : Aside0 (ws.heap[w.heap.size]? = some (.cells #[.int .i64 a0, .int .i64 a1, .int .i64 a2, .int .i64 a3, .int .i64 a4, .int .i64 a5, .int .i64 a6] 37 (0, 0))) := ⟨by rw [← hs]; exact blk_alloc HXa4.out _⟩
    have HXb5 : Aside0 (ws.heap[w1.heap.size]? = some (.cells #[.int .i64 a0, .int .i64 a1, .int .i64 a2, .int .i64 a3, .int .i64 a4, .int .i64 a5, .int .i64 a6] 38 (0, 0))) := ⟨by rw [← hs]; exact blk_alloc HXb4.out _⟩
    have HXc5 : Aside0 (ws.heap[w4.heap.size]? = some (.cells #[.int .i64 b0, .int .i64 b1, .int .i64 b2, .int .i64 b3, .int .i64 b4, .int .i64 b5, .int .i64 b6] 37 (0, 0))) := ⟨by rw [← hs]; exact blk_new _ _⟩
    have HB5 : Aside0 (Below w.heap.size w ws) := ⟨by rw [← hs]; exact below_alloc HB4.out _⟩
    clear hs
    go_upto_region 6 with fail
    rw [show cc [b0, b1, b2, b3, b4, b5, b6] = #[.int .i64 b0, .int .i64 b1, .int .i64 b2, .int .i64 b3, .int .i64 b4, .int .i64 b5, .int .i64 b6] from rfl, HS.out]
    have HONE : Aside0 (∀ W, W.cell? ⟨0, 0, none⟩ = some (.int .i64 m) → Calls Tryd.prog 9 #[] W fun e w' => e = .returned (.bool true) ∧ Below W.heap.size W w') := ⟨fun W h => one_calls m W h⟩
    have hst : K3 w w.heap.size w1.heap.size w4.heap.size a0 a1 a2 a3 a4 a5 a6 b0 b1 b2 b3 b4 b5 b6 m ws := K3.mk HXa5.out HXb5.out HXc5.out HB5.out ((HB5.out.cell (World.block_lt_of_cell? w _ HM.out)).trans HM.out)
    unfold K3 at hst
    obtain ⟨c0, c1, c2, c3, c4, c5, c6, d0, d1, d2, d3, d4, d5, d6, e0, e1, e2, e3, e4, e5, e6, hmm, HBB⟩ := hst
    go_region_held3 (fun W => W.cell? ⟨w.heap.size, 0, none⟩ = some (.int .i64 a0) ∧ W.cell? ⟨w.heap.size, 1, none⟩ = some (.int .i64 a1) ∧ W.cell? ⟨w.heap.size, 2, none⟩ = some (.int .i64 a2) ∧ W.cell? ⟨w.heap.size, 3, none⟩ = some (.int .i64 a3) ∧ W.cell? ⟨w.heap.size, 4, none⟩ = some (.int .i64 a4) ∧ W.cell? ⟨w.heap.size, 5, none⟩ = some (.int .i64 a5) ∧ W.cell? ⟨w.heap.size, 6, none⟩ = some (.int .i64 a6) ∧ W.cell? ⟨w1.heap.size, 0, none⟩ = some (.int .i64 a0) ∧ W.cell? ⟨w1.heap.size, 1, none⟩ = some (.int .i64 a1) ∧ W.cell? ⟨w1.heap.size, 2, none⟩ = some (.int .i64 a2) ∧ W.cell? ⟨w1.heap.size, 3, none⟩ = some (.int .i64 a3) ∧ W.cell? ⟨w1.heap.size, 4, none⟩ = some (.int .i64 a4) ∧ W.cell? ⟨w1.heap.size, 5, none⟩ = some (.int .i64 a5) ∧ W.cell? ⟨w1.heap.size, 6, none⟩ = some (.int .i64 a6) ∧ W.cell? ⟨w4.heap.size, 0, none⟩ = some (.int .i64 b0) ∧ W.cell? ⟨w4.heap.size, 1, none⟩ = some (.int .i64 b1) ∧ W.cell? ⟨w4.heap.size, 2, none⟩ = some (.int .i64 b2) ∧ W.cell? ⟨w4.heap.size, 3, none⟩ = some (.int .i64 b3) ∧ W.cell? ⟨w4.heap.size, 4, none⟩ = some (.int .i64 b4) ∧ W.cell? ⟨w4.heap.size, 5, none⟩ = some (.int .i64 b5) ∧ W.cell? ⟨w4.heap.size, 6, none⟩ = some (.int .i64 b6) ∧ W.cell? ⟨0, 0, none⟩ = some (.int .i64 m) ∧ Below w.heap.size w W)
      (first | assumption | exact ⟨c0, c1, c2, c3, c4, c5, c6, d0, d1, d2, d3, d4, d5, d6, e0, e1, e2, e3, e4, e5, e6, hmm, HBB⟩ | exact ⟨c0, c1, c2, c3, c4, c5, c6, d0, d1, d2, d3, d4, d5, d6, e0, e1, e2, e3, e4, e5, e6, hmm, HBB.drew⟩ | exact hk2)
      (first
        | (go_at_call 16; refine (HRL.out _).mono ?_; rintro e w2 ⟨rfl, hb2⟩; have hk2 := K3.on (by assumption) hb2; unfold K3 at hk2; clear hb2)
        | (go_at_call 17; refine (HCN.out _).mono ?_; rintro e w2 ⟨rfl, hb2⟩; have hk2 := K3.on (by assumption) hb2; unfold K3 at hk2; clear hb2)
        | (go_at_call 9; refine (HONE.out _ (by first | assumption | (have hk3 : K3 w w.heap.size w1.heap.size w4.heap.size a0 a1 a2 a3 a4 a5 a6 b0 b1 b2 b3 b4 b5 b6 m _ := (by assumption); exact K3.m hk3))).mono ?_; rintro e w2 ⟨rfl, hb2⟩; have hk2 := K3.on (by assumption) hb2; unfold K3 at hk2; clear hb2))
    go_wp2_with fail
    go_ret
    exact ⟨rfl, (have hk3 : K3 w w.heap.size w1.heap.size w4.heap.size a0 a1 a2 a3 a4 a5 a6 b0 b1 b2 b3 b4 b5 b6 m _ := (by assumption); K3.b hk3)⟩
def K1 (w0 : World) (g1 : Nat) (a0 a1 a2 a3 a4 a5 a6 m : Int) (W : World) : Prop := W.cell? ⟨g1, 0, none⟩ = some (.int .i64 a0) ∧ W.cell? ⟨g1, 1, none⟩ = some (.int .i64 a1) ∧ W.cell? ⟨g1, 2, none⟩ = some (.int .i64 a2) ∧ W.cell? ⟨g1, 3, none⟩ = some (.int .i64 a3) ∧ W.cell? ⟨g1, 4, none⟩ = some (.int .i64 a4) ∧ W.cell? ⟨g1, 5, none⟩ = some (.int .i64 a5) ∧ W.cell? ⟨g1, 6, none⟩ = some (.int .i64 a6) ∧ W.cell? ⟨0, 0, none⟩ = some (.int .i64 m) ∧ Below w0.heap.size w0 W
theorem K1.on {w0 : World} {g1 : Nat} {a0 a1 a2 a3 a4 a5 a6 m : Int} {W W1 : World} (h : K1 w0 g1 a0 a1 a2 a3 a4 a5 a6 m W) (hb : Below W.heap.size W W1) : K1 w0 g1 a0 a1 a2 a3 a4 a5 a6 m W1 := by
  unfold K1 at h ⊢
  obtain ⟨c0, c1, c2, c3, c4, c5, c6, hmm, HBB⟩ := h
  exact ⟨cell_below' hb c0, cell_below' hb c1, cell_below' hb c2, cell_below' hb c3, cell_below' hb c4, cell_below' hb c5, cell_below' hb c6, cell_below' hb hmm, below_step HBB hb⟩
theorem K1.m {w0 : World} {g1 : Nat} {a0 a1 a2 a3 a4 a5 a6 m : Int} {W : World} (h : K1 w0 g1 a0 a1 a2 a3 a4 a5 a6 m W) : W.cell? ⟨0, 0, none⟩ = some (.int .i64 m) := by
  unfold K1 at h
  obtain ⟨c0, c1, c2, c3, c4, c5, c6, hmm, HBB⟩ := h
  exact hmm
theorem K1.b {w0 : World} {g1 : Nat} {a0 a1 a2 a3 a4 a5 a6 m : Int} {W : World} (h : K1 w0 g1 a0 a1 a2 a3 a4 a5 a6 m W) : Below w0.heap.size w0 W := by
  unfold K1 at h
  obtain ⟨c0, c1, c2, c3, c4, c5, c6, hmm, HBB⟩ := h
  exact HBB
set_option maxHeartbeats 8000000 in
set_option maxRecDepth 100000 in
theorem lreads_calls (s : ByteArray) (m : Int) (w : World) (hm : w.cell? ⟨0, 0, none⟩ = some (.int .i64 m)) :
    Calls Tryd.prog 5 #[.string s] w fun e w' => e = .returned (.bool true) ∧ Below w.heap.size w w' := by
  have HM := Aside0.mk hm
  have HB : Aside0 (Below w.heap.size w w) := ⟨Below.refl _ _⟩
  clear hm
  by_cases hlt : 300 < s.size
  · have m1 : decide (300 < (s.size : Int)) = true := decide_eq_true (by omega)
    have m2 : decide (300 < s.size) = true := decide_eq_true hlt
    go_enter Tryd.func5, Tryd.ntmps5
    go_wp2_with fail
    go_ret
    exact ⟨rfl, HB.out⟩
  have m1 : decide (300 < (s.size : Int)) = false := decide_eq_false (by omega)
  have m2 : decide (300 < s.size) = false := decide_eq_false hlt
  obtain ⟨⟨C, E⟩, hR⟩ : ∃ r, parseP s.data.toList = r := ⟨_, rfl⟩
  have HP := Aside0.mk (parse_calls s m w (by omega) HM.out hR)
  by_cases hE : E = 0
  · subst hE
    obtain ⟨a0, a1, a2, a3, a4, a5, a6, rfl, hr, hlp, hcl⟩ := parse_back hR
    have HRG : Aside0 (∀ W, Calls Tryd.prog 14 #[.agg #[.int .i64 a0, .int .i64 a1, .int .i64 a2, .int .i64 a3, .int .i64 a4, .int .i64 a5, .int .i64 a6]] W fun e w' => e = .returned (.bool true) ∧ Below W.heap.size W w') := ⟨fun W => busbarref09_Right.calls 4 a0 a1 a2 a3 a4 a5 a6 true W (by rw [refRight_f, hr])⟩
    have HRL : Aside0 (∀ W, Calls Tryd.prog 16 #[.agg #[.int .i64 a0, .int .i64 a1, .int .i64 a2, .int .i64 a3, .int .i64 a4, .int .i64 a5, .int .i64 a6]] W fun e w' => e = .returned (.string s) ∧ Below W.heap.size W w') := ⟨fun W => by
      have h := rline_calls a0 a1 a2 a3 a4 a5 a6 W rfl hr
      rw [hlp, show strB s.data.toList = s from Lib.mk_data s] at h
      exact h⟩
    have HCN : Aside0 (∀ W, Calls Tryd.prog 17 #[.agg #[.int .i64 a0, .int .i64 a1, .int .i64 a2, .int .i64 a3, .int .i64 a4, .int .i64 a5, .int .i64 a6]] W fun e w' => e = .returned (.agg #[.int .i64 a0, .int .i64 a1, .int .i64 a2, .int .i64 a3, .int .i64 a4, .int .i64 a5, .int .i64 a6]) ∧ Below W.heap.size W w') := ⟨fun W => clean_calls a0 a1 a2 a3 a4 a5 a6 W rfl hcl⟩
    have HOW : Aside0 (∀ W, Calls Tryd.prog 12 #[.agg #[.int .i64 a0, .int .i64 a1, .int .i64 a2, .int .i64 a3, .int .i64 a4, .int .i64 a5, .int .i64 a6]] W fun e w' => e = .returned (.agg #[.int .i64 a0, .int .i64 a1, .int .i64 a2, .int .i64 a3, .int .i64 a4, .int .i64 a5, .int .i64 a6]) ∧ Below W.heap.size W w') := ⟨fun W => own_calls a0 a1 a2 a3 a4 a5 a6 W⟩
    have HONE : Aside0 (∀ W, W.cell? ⟨0, 0, none⟩ = some (.int .i64 m) → Calls Tryd.prog 9 #[] W fun e w' => e = .returned (.bool true) ∧ Below W.heap.size W w') := ⟨fun W h => one_calls m W h⟩
    have hss : (s.toList == s.toList) = true := beq_self_eq_true _
    clear hR hlp hcl hr hlt
    go_enter Tryd.func5, Tryd.ntmps5
    go_wp2_with fail
    refine HP.out.mono ?_
    rintro e w1 ⟨rfl, hb1⟩
    have HB1 := Aside0.mk hb1
    clear hb1 HP
    obtain ⟨wr, hr⟩ : ∃ x, w1.alloc (.cells #[.int .i64 a0, .int .i64 a1, .int .i64 a2, .int .i64 a3, .int .i64 a4, .int .i64 a5, .int .i64 a6] 37 (0, 0)) = x := ⟨_, rfl⟩
    have HR := Aside0.mk hr
    have HXa : Aside0 (wr.heap[w1.heap.size]? = some (.cells #[.int .i64 a0, .int .i64 a1, .int .i64 a2, .int .i64 a3, .int .i64 a4, .int .i64 a5, .int .i64 a6] 37 (0, 0))) := ⟨by rw [← hr]; exact blk_new _ _⟩
    have HBr : Aside0 (Below w.heap.size w wr) := ⟨by rw [← hr]; exact below_alloc HB1.out _⟩
    clear hr
    go_upto_region 6 with fail
    rw [show cc [a0, a1, a2, a3, a4, a5, a6] = #[.int .i64 a0, .int .i64 a1, .int .i64 a2, .int .i64 a3, .int .i64 a4, .int .i64 a5, .int .i64 a6] from rfl, HR.out]
    obtain ⟨c0, c1, c2, c3, c4, c5, c6⟩ := cells7 HXa.out
    have hmm := (HBr.out.cell (World.block_lt_of_cell? w _ HM.out)).trans HM.out
    have HBB := HBr.out
    go_region_held3 (fun W => W.cell? ⟨w1.heap.size, 0, none⟩ = some (.int .i64 a0) ∧ W.cell? ⟨w1.heap.size, 1, none⟩ = some (.int .i64 a1) ∧ W.cell? ⟨w1.heap.size, 2, none⟩ = some (.int .i64 a2) ∧ W.cell? ⟨w1.heap.size, 3, none⟩ = some (.int .i64 a3) ∧ W.cell? ⟨w1.heap.size, 4, none⟩ = some (.int .i64 a4) ∧ W.cell? ⟨w1.heap.size, 5, none⟩ = some (.int .i64 a5) ∧ W.cell? ⟨w1.heap.size, 6, none⟩ = some (.int .i64 a6) ∧ W.cell? ⟨0, 0, none⟩ = some (.int .i64 m) ∧ Below w.heap.size w W)
      (first | assumption | exact ⟨c0, c1, c2, c3, c4, c5, c6, hmm, HBB⟩ | exact ⟨c0, c1, c2, c3, c4, c5, c6, hmm, HBB.drew⟩ | exact hk2)
      (first
        | (go_at_call 12; refine (HOW.out _).mono ?_; rintro e w2 ⟨rfl, hb2⟩; have hk2 := K1.on (by assumption) hb2; unfold K1 at hk2; clear hb2)
        | (go_at_call 14; refine (HRG.out _).mono ?_; rintro e w2 ⟨rfl, hb2⟩; have hk2 := K1.on (by assumption) hb2; unfold K1 at hk2; clear hb2)
        | (go_at_call 16; refine (HRL.out _).mono ?_; rintro e w2 ⟨rfl, hb2⟩; have hk2 := K1.on (by assumption) hb2; unfold K1 at hk2; clear hb2)
        | (go_at_call 17; refine (HCN.out _).mono ?_; rintro e w2 ⟨rfl, hb2⟩; have hk2 := K1.on (by assumption) hb2; unfold K1 at hk2; clear hb2)
        | (go_at_call 9; refine (HONE.out _ (by first | assumption | (have hk3 : K1 w w1.heap.size a0 a1 a2 a3 a4 a5 a6 m _ := (by assumption); exact K1.m hk3))).mono ?_; rintro e w2 ⟨rfl, hb2⟩; have hk2 := K1.on (by assumption) hb2; unfold K1 at hk2; clear hb2))
    go_wp2_with fail
    go_ret
    exact ⟨rfl, (have hk3 : K1 w w1.heap.size a0 a1 a2 a3 a4 a5 a6 m _ := (by assumption); K1.b hk3)⟩
  · obtain ⟨rfl, rfl⟩ := parse_err hR hE
    clear hR hE hlt
    go_enter Tryd.func5, Tryd.ntmps5
    go_wp2_with fail
    refine HP.out.mono ?_
    rintro e w1 ⟨rfl, hb1⟩
    have HB1 := Aside0.mk hb1
    clear hb1 HP
    rw [show cc zero7 = #[.int .i64 0, .int .i64 0, .int .i64 0, .int .i64 0, .int .i64 0, .int .i64 0, .int .i64 0] from rfl]
    go_wp2_with fail
    refine (one_calls m _ (((below_alloc HB1.out _).cell (World.block_lt_of_cell? w _ HM.out)).trans HM.out)).mono ?_
    rintro e w2 ⟨rfl, hb2⟩
    have HB2 := Aside0.mk (below_step (below_alloc HB1.out _) hb2)
    clear hb2
    go_wp2_with fail
    go_ret
    exact ⟨rfl, HB2.out⟩
end Go.Proofs.YtmoodblpgnnenaaDoor.PLs
namespace Go.Proofs.YtmoodblpgnnenaaDoor.PLs
open Go.RowKit Go.Proofs.YtmoodblpgnnenaaDoor.Kx Go.Proofs.YtmoodblpgnnenaaDoor.PWe Go.Proofs.YtmoodblpgnnenaaDoorW.PrintWords Go.Proofs.YtmoodblpgnnenaaDoorW.PrintLast Go.Proofs.YtmoodblpgnnenaaDoorW.PrintMore
set_option linter.unusedVariables false
set_option linter.unusedSimpArgs false
structure C7 where
  (a0 a1 a2 a3 a4 a5 a6 : Int)
instance : Inhabited C7 := ⟨⟨0, 0, 0, 0, 0, 0, 0⟩⟩
def C7.arr (x : C7) : Array Value := #[.int .i64 x.a0, .int .i64 x.a1, .int .i64 x.a2, .int .i64 x.a3, .int .i64 x.a4, .int .i64 x.a5, .int .i64 x.a6]
def RC7 (w : World) (cs : List Value) (x : C7) : Prop := cs = x.arr.toList ∧ True
theorem vlist7 {α : Type} : ∀ (l : List α), l.length = 7 → ∃ a b c d e f g, l = [a, b, c, d, e, f, g]
  | [a, b, c, d, e, f, g], _ => ⟨a, b, c, d, e, f, g, rfl⟩
theorem opn_cmd : Opn 37 RC7 := by
  intro H enc w held fuel cs d h
  have h7 : cs.length = 7 := by rw [(opn_struct Tryd.underlying37 h).1]; kernel_rfl
  obtain ⟨x0, x1, x2, x3, x4, x5, x6, rfl⟩ := vlist7 cs h7
  obtain ⟨m0, y0, h0⟩ := opn_field Tryd.underlying37 h 0 3 0 1 (by kernel_rfl) (by kernel_rfl)
  obtain ⟨m1, y1, h1⟩ := opn_field Tryd.underlying37 h 1 3 1 1 (by kernel_rfl) (by kernel_rfl)
  obtain ⟨m2, y2, h2⟩ := opn_field Tryd.underlying37 h 2 3 2 1 (by kernel_rfl) (by kernel_rfl)
  obtain ⟨m3, y3, h3⟩ := opn_field Tryd.underlying37 h 3 3 3 1 (by kernel_rfl) (by kernel_rfl)
  obtain ⟨m4, y4, h4⟩ := opn_field Tryd.underlying37 h 4 3 4 1 (by kernel_rfl) (by kernel_rfl)
  obtain ⟨m5, y5, h5⟩ := opn_field Tryd.underlying37 h 5 3 5 1 (by kernel_rfl) (by kernel_rfl)
  obtain ⟨m6, y6, h6⟩ := opn_field Tryd.underlying37 h 6 3 6 1 (by kernel_rfl) (by kernel_rfl)
  obtain ⟨a0, e0, _⟩ := opn_int Tryd.underlying3 _ _ _ _ _ _ h0
  obtain ⟨a1, e1, _⟩ := opn_int Tryd.underlying3 _ _ _ _ _ _ h1
  obtain ⟨a2, e2, _⟩ := opn_int Tryd.underlying3 _ _ _ _ _ _ h2
  obtain ⟨a3, e3, _⟩ := opn_int Tryd.underlying3 _ _ _ _ _ _ h3
  obtain ⟨a4, e4, _⟩ := opn_int Tryd.underlying3 _ _ _ _ _ _ h4
  obtain ⟨a5, e5, _⟩ := opn_int Tryd.underlying3 _ _ _ _ _ _ h5
  obtain ⟨a6, e6, _⟩ := opn_int Tryd.underlying3 _ _ _ _ _ _ h6
  simp at e0 e1 e2 e3 e4 e5 e6
  exact ⟨⟨a0, a1, a2, a3, a4, a5, a6⟩, by rw [e0, e1, e2, e3, e4, e5, e6]; rfl, trivial⟩
theorem lines_row (x : C7) (m : Int) (w : World) (_ : True) (hm : w.cell? ⟨0, 0, none⟩ = some (.int .i64 m)) :
    Calls Tryd.prog 4 #[.agg x.arr] w fun e w' => e = .returned (.bool true) ∧ Below w.heap.size w w' := lines_calls x.a0 x.a1 x.a2 x.a3 x.a4 x.a5 x.a6 m w hm
theorem lreads_row (s : ByteArray) (m : Int) (w : World) (_ : s.size ≤ 140737488351232) (hm : w.cell? ⟨0, 0, none⟩ = some (.int .i64 m)) :
    Calls Tryd.prog 5 #[.string s] w fun e w' => e = .returned (.bool true) ∧ Below w.heap.size w w' := lreads_calls s m w hm
end Go.Proofs.YtmoodblpgnnenaaDoor.PLs
namespace Go.Proofs.YtmoodblpgnnenaaDoor.Wrap
open Go
/-- As the library's wraps, with a further condition on the start world and with the shape of the world handed on. -/
theorem handed {H : Type} {enc : TypeId × Value → H} {a : Assume} {C : Checked} {os : Os} {f : FuncId} {fn : Func} {s : ChangeSpec} {conds : List PathCond} {apart fresh handsOn again : Bool} {X : World → Array Value → Prop}
    (own : ownKnob C.prog.godebug = none) (started : os.Started) (noInit : C.prog.inits.idxOf? f = none) (hfn : C.prog.funcs[f]? = some fn)
    (witness : ∃ (w : World) (tape : Tape) (i : Input), w.os = os ∧ (w.forCall tape i).Shaped C.prog ∧ i.vars = [] ∧ Input.okWide C.prog (w.forCall tape i) .any w.heap.size f i ∧
      ((s.pre enc C.prog fn conds apart (w.forCall tape i).memory i.args ∧ X (w.forCall tape i).memory i.args) ∧ sizedMet enc C.prog fn (OpenSpec.ofChange s) apart (w.forCall tape i).memory i.args) ∧ a.holds C.prog (lone (Frame.enter C.prog f i.args .normal) [] (w.forCall tape i)))
    (contract : ∀ (W : World) (base : Nat) (args : Array Value) (ds gs : List (DataW H)) (before : List MemPlace),
      (∀ (j : Nat) t v, fn.params[j]? = some t → args[j]? = some v → Value.okWide C.prog W .any base t v) →
      DataW.Whole enc C.prog fn.params.toList s.vars apart W args.toList ds gs before →
      (DataW.weightsEach C.prog (fn.params.toList ++ s.plain.varTypes C.prog) (ds ++ gs)).all (· ≤ reachBytes) = true →
      W.ShapedOpen C.prog →
      Calls C.prog f args W fun e W' => ∃ v, e = .returned v ∧ s.post enc C.prog fn apart fresh handsOn again W args v W') :
    ReturnsInHanded a C os f .any (fun w args => (s.pre enc C.prog fn conds apart w args ∧ X w args) ∧ sizedMet enc C.prog fn (OpenSpec.ofChange s) apart w args) (s.post enc C.prog fn apart fresh handsOn again) := by
  refine returnsInHanded_of_calls own started noInit witness ?_
  intro w tape i _ hsh _ hok hpre _
  obtain ⟨_, _, _, fn', hfn', _, _, _, _, hval⟩ := hok
  have e : fn' = fn := Option.some.inj (hfn'.symm.trans hfn)
  subst e
  obtain ⟨⟨⟨ds, gs, before, hw, hc⟩, _⟩, hz⟩ := hpre
  have hw' := DataW.Whole.of_heap (w' := w.forCall tape i) (by rfl) hw
  refine (contract (w.forCall tape i) w.heap.size i.args ds gs before hval hw' (hz.weights hw) hsh).mono fun e W' ⟨v, he, hp⟩ => ?_
  subst he
  exact ChangeSpec.post_blind hp
end Go.Proofs.YtmoodblpgnnenaaDoor.Wrap
