/- listing.List: walk. Helper text. -/
import Derived.Test.YtmoodblpgnnenaaDoorLsEc
import Derived.Test.YtmoodblpgnnenaaDoorShelf
namespace Go.Proofs.YtmoodblpgnnenaaDoor.PLs
open Go.RowKit Go.Proofs.YtmoodblpgnnenaaDoor.Kx Go.Proofs.YtmoodblpgnnenaaDoor.PWe Go.Proofs.YtmoodblpgnnenaaDoorW.PrintWords Go.Proofs.YtmoodblpgnnenaaDoorW.PrintLast Go.Proofs.YtmoodblpgnnenaaDoorW.PrintMore
set_option linter.unusedVariables false
set_option linter.unusedSimpArgs false
/-- A code as lines, and the error. -/
def listP (b : List Int) : List UInt8 × Int := if (eachL b (b.length + 1) 0).2 = 0 then (rowsP (eachL b (b.length + 1) 0).1, 0) else ([], (eachL b (b.length + 1) 0).2)
def Small (pre : List (Int × List Int)) : Prop := ∀ x ∈ pre, (0 ≤ x.1 ∧ x.1 < 1000000000000000000) ∧ x.2.length = 7
theorem rowP_len {x : Int × List Int} (h : (0 ≤ x.1 ∧ x.1 < 1000000000000000000) ∧ x.2.length = 7) : (rowP x).length ≤ 140 := by
  unfold rowP
  have h1 := digP_len x.1.toNat (by omega)
  have h2 := lineP_len x.2 h.2
  simp only [List.length_append, List.length_cons, List.length_nil]
  omega
theorem rowsP_len : ∀ (pre : List (Int × List Int)), Small pre → (rowsP pre).length ≤ 140 * pre.length
  | [], _ => Nat.zero_le _
  | x :: r, h => by
    have h1 := rowsP_len r (fun y hy => h y (List.mem_cons_of_mem _ hy))
    have h2 := rowP_len (h x (by simp))
    have e : rowsP (x :: r) = rowP x ++ rowsP r := by simp [rowsP]
    rw [e, List.length_append, List.length_cons]
    omega
theorem rowsP_snoc (pre : List (Int × List Int)) (x : Int × List Int) : rowsP (pre ++ [x]) = rowsP pre ++ rowP x := by simp [rowsP]
set_option maxHeartbeats 4000000 in
set_option maxRecDepth 100000 in
theorem list_calls (A : Option Addr) (c : Nat) (b : List Int) (w : World) (hC : Kd.C (Kd.int .u8) w A b.length b) (hc : b.length ≤ c) (hby : Bytes b) (hl : b.length ≤ 100000) {T : List UInt8} {E : Int} (hT : listP b = (T, E)) :
    Calls Tryd.prog 8 #[.slice A b.length c] w fun e w' => e = .returned (.tuple #[.string (strB T), .int .i64 E]) ∧ Below w.heap.size w w' := by
  have HC := Aside0.mk hC
  have HCc := Aside0.mk hc
  have HBY := Aside0.mk hby
  have HLb := Aside0.mk hl
  obtain ⟨⟨l, E'⟩, hE⟩ : ∃ q, eachL b (b.length + 1) 0 = q := ⟨_, rfl⟩
  have HE := Aside0.mk hE
  have HT : Aside0 ((if E' = 0 then (rowsP l, (0 : Int)) else ([], E')) = (T, E)) := ⟨by rw [← hT]; unfold listP; rw [hE]⟩
  have HI0 := Aside0.mk (Lib.fresh_isBuilder 60 5 w)
  have HB0 : Aside0 (Below w.heap.size w (w.alloc (.cells #[.pointer none, .slice none 0 0] 60 (0, 0)))) := ⟨below_alloc (Below.refl _ _) _⟩
  have HEC := Aside0.mk (each_calls w (fun pre W => (Lib.IsBuilder 60 5 w.heap.size w.heap.size (Lib.byteCells (rowsP pre)) W ∧ w.heap.size ≤ W.heap.size) ∧ Small pre) 27 #[.pointer (some ⟨w.heap.size, 0, none⟩)] A c b _ hC hc hby hl HB0.out
    (fun args W => enters_ Tryd.func27 (by rfl) (by rfl) args W)
    (fun pre W W' h hb => ⟨⟨isB_below h.1.1 hb, Nat.le_trans h.1.2 hb.size⟩, h.2⟩)
    (fun pre n a0 a1 a2 a3 a4 a5 a6 W hpn hnb h hb => (list1_calls n a0 a1 a2 a3 a4 a5 a6 rfl w.heap.size w.heap.size (rowsP pre) W (by omega) h.1.1 h.1.2 (by have := rowsP_len pre h.2; omega)).mono fun e w' ⟨h1, ⟨h2, h3⟩, h4⟩ => by
      refine ⟨h1, ⟨⟨by rw [rowsP_snoc]; exact h2, Nat.le_trans h.1.2 h3.size⟩, ?_⟩, h3⟩
      intro x hx
      rcases List.mem_append.1 hx with hx | hx
      · exact h.2 x hx
      · rw [List.mem_singleton.1 hx]; exact ⟨by dsimp only; omega, rfl⟩)
    ⟨⟨HI0.out, below_size HB0.out⟩, fun x hx => by cases hx⟩ hE)
  clear hC hc hby hl hE hT
  go_enter Tryd.func8, Tryd.ntmps8
  go_wp2_with fail
  refine HEC.out.mono ?_
  rintro e w1 ⟨rfl, ⟨⟨hI1, hz1⟩, hsm⟩, hb1⟩
  have HI1 := Aside0.mk hI1
  have HZ1 := Aside0.mk hz1
  have HB1 := Aside0.mk hb1
  clear hI1 hb1 hsm hz1 HEC HI0 HB0
  by_cases h0 : E' = 0
  · subst h0
    have hT := HT.out
    rw [if_pos rfl] at hT
    obtain ⟨rfl, rfl⟩ := Prod.mk.inj hT
    clear hT HT
    go_wp2_with fail
    refine (Tryd.Builder_String_any w.heap.size w.heap.size (rowsP l) w1 HI1.out HZ1.out).mono ?_
    rintro e w2 ⟨rfl, hb2⟩
    have HB2 := Aside0.mk (HB1.out.trans hb2)
    clear hb2
    go_wp2_with fail
    go_ret2
    exact ⟨rfl, HB2.out⟩
  · have b1 : (E' == 0) = false := beq_eq_false_iff_ne.2 h0
    have b2 : decide (E' = 0) = false := decide_eq_false h0
    have b3 : (E' != 0) = true := by rw [bne, b1]; rfl
    have hT := HT.out
    rw [if_neg h0] at hT
    obtain ⟨rfl, rfl⟩ := Prod.mk.inj hT
    clear hT HT h0
    go_wp2_with fail
    go_ret2
    exact ⟨rfl, HB1.out⟩
end Go.Proofs.YtmoodblpgnnenaaDoor.PLs
