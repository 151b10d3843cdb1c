/- Health: the program's Text. Helper text. -/
import Derived.Test.YtfmepbpipknblaaHeRef
import Derived.Deep.AppendLies
import Derived.Deep.RegionHeld3
import Derived.IntWalk
namespace Go.Proofs.Ytfmepbpipknblaa.He
open Go.RowKit Go.Proofs.Ytfmepbpipknblaa.Kx Go.Proofs.Ytfmepbpipknblaa.Dc
set_option linter.unusedVariables false
set_option linter.unusedSimpArgs false

def ls (h : Nat → Int) : Nat → List (List UInt8)
  | 0 => []
  | n + 1 => ls h n ++ [nm n, Dg.dz (h n)]
theorem ls_len (h : Nat → Int) (n : Nat) : (ls h n).length = 2 * n := by
  induction n with
  | zero => rfl
  | succ n ih => rw [ls, List.length_append, ih]; simp; omega
theorem join_ls (h : Nat → Int) (n : Nat) : Lib.join (ls h (n + 1)) [32] = hx h (n + 1) := by
  induction n with
  | zero =>
    rw [ls, ls, List.nil_append, Lib.join_cons]
    simp [Lib.joinTail, hx, sp]
  | succ n ih =>
    rw [ls, Dg.join_snoc _ (fun e => by have := ls_len h (n + 1); rw [e] at this; simp at this), ih]
    conv => rhs; rw [hx]
    unfold sp
    rw [if_neg (by omega)]
theorem join7 (h : Nat → Int) : Lib.join (ls h 7) [32] = hx h 7 := join_ls h 6
theorem str_info : (Try.prog.info? 9).map (fun i => (i.zero, i.size, i.bytes)) = some (some (.string ⟨#[]⟩), 1, 16) := by kernel_rfl
def KeptT (w : World) (h : Nat → Int) (x : Int) (n : Nat) (w' : World) : Prop :=
  w'.cell? ⟨w.heap.size, n, none⟩ = some (.int .i64 x) ∧ w'.heap[w.heap.size]? = some (.cells (H7 h) 45 (0, 0)) ∧ w'.heap[w.heap.size + 1]? = some (.cells (ptrs w.heap.size) 141 (0, 0)) ∧ Below w.heap.size w w' ∧ w.heap.size + 1 + 1 ≤ w'.heap.size
theorem KeptT.on {w : World} {h : Nat → Int} {x : Int} {n : Nat} {w1 w2 : World} (k : KeptT w h x n w1) (hb : Below w1.heap.size w1 w2) : KeptT w h x n w2 :=
  ⟨cell_below' hb k.1, (hb.block _ (lt_of_block k.2.1)).trans k.2.1, (hb.block _ (lt_of_block k.2.2.1)).trans k.2.2.1, below_trans' k.2.2.2.1 hb k.2.2.2.1.size, Nat.le_trans k.2.2.2.2 hb.size⟩
theorem KeptT.alloc {w : World} {h : Nat → Int} {x : Int} {n : Nat} {w1 : World} (k : KeptT w h x n w1) (o : Obj) : KeptT w h x n (w1.alloc o) :=
  k.on ((Below.refl _ _).alloc (Nat.le_refl _) _)
theorem KeptT.grown {w : World} {h : Nat → Int} {x : Int} {n : Nat} {w2 w1 : World} {o : Obj} {v : Value} {l : List (List UInt8)} (k : KeptT w h x n w2) (ho : OwnS w2 (w.heap.size + 1 + 1) 9 v l) (hg : (w2.alloc o).grownBy w1 v.ownBlock) : KeptT w h x n w1 := by
  have k' := k.alloc o
  have hb : Below (w.heap.size + 1 + 1) (w2.alloc o) w1 := grown_own (World.ownsRow.alloc ho o) hg k'.2.2.2.2
  exact ⟨(hb.cell (by show w.heap.size < _; omega)).trans k'.1, (hb.block _ (by omega)).trans k'.2.1, (hb.block _ (by omega)).trans k'.2.2.1, k'.2.2.2.1.trans (hb.mono (by omega)), Nat.le_trans k'.2.2.2.2 hb.size⟩
set_option maxRecDepth 100000 in
set_option maxHeartbeats 4000000 in
theorem text_any (h : Nat → Int) (hh : ∀ k, h k ≤ 9223372036854775807) (w : World) : Calls Try.prog 30 #[.agg (H7 h)] w fun e w' =>
    e = .returned (.string ⟨(hx h 7).toArray⟩) ∧ Below w.heap.size w w' := by
  have HH := hid hh
  clear hh
  have hA : H7 h = #[.int .i64 (h 0), .int .i64 (h 1), .int .i64 (h 2), .int .i64 (h 3), .int .i64 (h 4), .int .i64 (h 5), .int .i64 (h 6)] := rfl
  rw [hA]
  clear hA
  go_enter Try.func30, Try.ntmps30
  go_wp2_with fail
  refine (numbers_any w.heap.size _).mono ?_
  rintro e w1 ⟨rfl, rfl⟩
  go_wp2_with fail
  go_loopw [3, 4, 5, 8] (fun l _ _ i wr => ∃ n : Nat, n ≤ 7 ∧ i = .int .i64 n ∧ OwnS wr (w.heap.size + 1 + 1) 9 l (ls h n) ∧ wr.heap[w.heap.size]? = some (.cells (H7 h) 45 (0, 0)) ∧ wr.heap[w.heap.size + 1]? = some (.cells (ptrs w.heap.size) 141 (0, 0)) ∧ Below w.heap.size w wr) (fun _ _ _ i _ => 7 - (intOf i).toNat)
  case atStart =>
    refine ⟨0, by omega, rfl, World.ownsRow_nil _ _ _ _, ?_, ?_, (((Below.refl _ _).alloc (Nat.le_refl _) _).alloc (by simp) _).drew⟩
    · exact pl (pe _ _ _ rfl)
    · exact pe _ _ _ (by simp)
  case round =>
    obtain ⟨n, hn, rfl, hO, h0, h1, hB⟩ := hrel
    have HO := hid hO
    have H0 := hid h0
    have H1 := hid h1
    have HB := hid hB
    have hsz : w.heap.size + 1 < wr.heap.size := lt_of_block h1
    have hln := ls_len h n
    clear hO h0 h1 hB
    by_cases hlt : (n : Int) < 7
    · have hn0 : (0 : Int) ≤ (n : Int) := by omega
      have f1 : wr.cell? ⟨w.heap.size, n, none⟩ = some (.int .i64 (h n)) := (cell_in H0.out n).trans (H7_at _ n (by omega))
      have f2 : wr.cell? ⟨w.heap.size + 1, n, none⟩ = some (.pointer (some ⟨w.heap.size, n, none⟩)) := (cell_in H1.out n).trans (ptrs_at _ n (by omega))
      have hox := HH.out n
      obtain ⟨x, hxx⟩ : ∃ x, h n = x := ⟨_, rfl⟩
      rw [hxx] at f1 hox
      have HX := hid hxx
      have HD := hid (fun w => digits_max x hox w)
      have HNm := hid (fun w => name_any n (by omega) w)
      obtain ⟨L, hL⟩ : ∃ L, ls h n = L := ⟨_, rfl⟩
      rw [hL] at HO hln
      have HL := hid hL
      have hlL : L.length ≤ 14 := by omega
      clear hxx hL hln
      obtain ⟨i0, hi0, hzz⟩ := Option.map_eq_some_iff.1 str_info
      simp only [Prod.mk.injEq] at hzz
      obtain ⟨hz0, hz1, hz2⟩ := hzz
      have ho : OwnS wr (w.heap.size + 1 + 1) 9 u3 L := HO.out
      have hk : KeptT w h x n wr := ⟨f1, H0.out, H1.out, HB.out, by omega⟩
      unfold KeptT at hk
      go_wp2_with fail
      have hwr : IntKind.i64.wrap ((n : Int) + 1) = (n : Int) + 1 := IntWalk.i64_in _ (by omega)
      go_region_held3 (fun w' => w'.cell? ⟨w.heap.size, n, none⟩ = some (.int .i64 x) ∧ w'.heap[w.heap.size]? = some (.cells (H7 h) 45 (0, 0)) ∧ w'.heap[w.heap.size + 1]? = some (.cells (ptrs w.heap.size) 141 (0, 0)) ∧ Below w.heap.size w w' ∧ w.heap.size + 1 + 1 ≤ w'.heap.size)
        (first | assumption | exact ⟨hk.1, hk.2.1, hk.2.2.1, hk.2.2.2.1.drew, hk.2.2.2.2⟩ | exact hk2 | exact KeptT.alloc hk2 _ | exact KeptT.grown hk2 ho2 hgrow)
        (first
          | (go_at_call 79; refine (HNm.out _).mono ?_; rintro e w2 ⟨rfl, hb2⟩; have ho2 := OwnS.below (base := w.heap.size + 1 + 1) (v := u3) (l := L) (by assumption) hb2; have hk2 := KeptT.on (by assumption) hb2; unfold KeptT at hk2; clear hb2)
          | (go_at_call 80; refine (HD.out _).mono ?_; rintro e w2 ⟨rfl, hb2⟩; have ho2 := OwnS.below (base := w.heap.size + 1 + 1) (v := u3) (l := L) (by assumption) hb2; have hk2 := KeptT.on (by assumption) hb2; unfold KeptT at hk2; clear hb2)
          | (refine step_append_lies _ (by rfl) _ _ _ (by rfl) (w.heap.size + 1 + 1) 9 i0 _ 1 16 Try.underlying142 hi0 hz0 hz1 hz2 rfl (by omega) u3 L.length (strs L) (by rfl) (World.ownsRow.alloc ho2 _) ⟨w2.heap.size, 0, none⟩ 2 2 [.string ⟨(nm n).toArray⟩, .string ⟨(Dg.dz x).toArray⟩] (by rfl) (by rfl) (World.news_of_block (heap_alloc_new w2 _)) (by simp [Value.oneCell']) (by omega) (by simp [maxLen]; omega) (by omega) (by have := hk2.2.2.2.2; simp; omega) (w2.heap.size + 1) (by simp) ?_; intro gg cap w1 hown1 hgrow hat hlt1))
      all_goals
        have hkf := KeptT.grown hk2 ho2 hgrow
        have HKf := hid hkf
        have HOf := hid hown1
        clear hkf hown1 hgrow hat hwr
        go_wp2_with fail
        refine ⟨⟨n + 1, by omega, by go_num, ?_, HKf.out.2.1, HKf.out.2.2.1, HKf.out.2.2.2.1⟩, by simp [intOf]; omega⟩
        have hls : ls h (n + 1) = L ++ [nm n, Dg.dz x] := by rw [ls, HL.out, HX.out]
        have := HOf.out
        rw [hls]
        unfold OwnS
        simpa [strs] using this
    · obtain rfl : n = 7 := by omega
      obtain ⟨g, c, rfl, hc, hg, hcell⟩ := HO.out.shape (by omega)
      rw [hln] at hc ⊢
      have hj := Try.strings_Join g 0 c ((ls h 7).map fun x => (⟨x.toArray⟩ : ByteArray)) ⟨#[32]⟩ wr hcell hg (by simp [hln]) (by rw [lens_map, hln]; omega) (by
        rw [datas_map]
        show (Lib.join (ls h 7) [32]).length ≤ _
        rw [join7]
        have := hx_len h HH.out 7
        omega)
      rw [lens_map, hln, datas_map, show (⟨#[32]⟩ : ByteArray).data.toList = [32] from rfl, join7] at hj
      obtain ⟨T, hT⟩ : ∃ T, hx h 7 = T := ⟨_, rfl⟩
      rw [hT] at hj
      have HT := hid hT
      have HJ := hid hj
      clear hj hcell hc hln HO hT
      go_wp2_with fail
      refine HJ.out.mono ?_
      rintro e w2 ⟨rfl, hb2⟩
      have HBe := hid (below_trans' HB.out hb2 HB.out.size)
      clear hb2
      go_wp2_with fail
      go_ret
      exact ⟨by rw [HT.out]; rfl, HBe.out⟩
end Go.Proofs.Ytfmepbpipknblaa.He
