/- Of of diag as a contract. Helper text. -/
import Derived.Test.YtfmepbpipknblaaDgSum
import Derived.Test.YtfmepbpipknblaaK4
namespace Go.Proofs.Ytfmepbpipknblaa.Dg
open Go.RowKit Go.Proofs.Ytfmepbpipknblaa.Kx
set_option linter.unusedVariables false
set_option linter.unusedSimpArgs false

structure Msg where
  slot : Int
  start : Int
  cand : Int
  wa : Option Addr
  n : Nat
  c : Nat
  known : Bool
  vetoed : Bool
  o0 : Int
  o1 : Int
  o2 : Int
  o3 : Int
deriving Inhabited
def Msg.cells (m : Msg) : List Value := [.int .i64 m.slot, .int .i64 m.start, .int .i64 m.cand, .slice m.wa m.n m.c, .bool m.known, .bool m.vetoed, .int .i64 m.o0, .int .i64 m.o1, .int .i64 m.o2, .int .i64 m.o3]
def RMsg (w : World) (cs : List Value) (m : Msg) : Prop := cs = m.cells
def fb (l : List Msg) : Nat → Int
  | 0 => 0
  | i + 1 => fb l i + (if (l.getD i default).known then 8 * ((l.getD i default).n : Int) else 0)
def fo (f : Msg → Int) (l : List Msg) : Nat → Int
  | 0 => 0
  | i + 1 => fo f l i + (if (l.getD i default).known then f (l.getD i default) else 0)
def Msg.fit (m : Msg) : Prop := m.n ≤ 100 ∧ (-1099511627776 ≤ m.o0 ∧ m.o0 ≤ 1099511627776) ∧ (-1099511627776 ≤ m.o1 ∧ m.o1 ≤ 1099511627776) ∧ (-1099511627776 ≤ m.o2 ∧ m.o2 ≤ 1099511627776) ∧ (-1099511627776 ≤ m.o3 ∧ m.o3 ≤ 1099511627776)
theorem fit_at {l : List Msg} (h : ∀ m ∈ l, m.fit) (i : Nat) (hi : i < l.length) : (l.getD i default).fit := by
  refine h _ ?_
  rw [List.getD_eq_getElem?_getD, List.getElem?_eq_getElem hi]
  exact List.getElem_mem hi
theorem fb_range (l : List Msg) (h : ∀ m ∈ l, m.fit) (i : Nat) (hi : i ≤ l.length) : 0 ≤ fb l i ∧ fb l i ≤ 800 * i := by
  induction i with
  | zero => exact ⟨by simp [fb], by simp [fb]⟩
  | succ i ih =>
    have := ih (by omega)
    have hf := (fit_at h i (by omega)).1
    rw [fb]
    split <;> omega
theorem fo_range (f : Msg → Int) (hf : ∀ m : Msg, m.fit → -1099511627776 ≤ f m ∧ f m ≤ 1099511627776) (l : List Msg) (h : ∀ m ∈ l, m.fit) (i : Nat) (hi : i ≤ l.length) : -(1099511627776 * (i : Int)) ≤ fo f l i ∧ fo f l i ≤ 1099511627776 * i := by
  induction i with
  | zero => exact ⟨by simp [fo], by simp [fo]⟩
  | succ i ih =>
    have := ih (by omega)
    have hf := hf _ (fit_at h i (by omega))
    rw [fo]
    split <;> omega

theorem at_elem {X : Type} {n : Nat} {R : World → List Value → X → Prop} {w : World} {A : Option Addr} {xs : List X} [Inhabited X] (h : RSl n R w A xs) (i : Nat) (hi : i < xs.length) : ∃ ad cs, A = some ad ∧ cs.length = n ∧ (∀ j, j < n → w.cell? (ad.add (i * n + j)) = cs[j]?) ∧ R w cs (xs.getD i default) := by
  obtain ⟨ad, cs, h1, h2, h3, h4⟩ := h i hi
  exact ⟨ad, cs, h1, h2, h3, by rw [List.getD_eq_getElem?_getD, List.getElem?_eq_getElem hi]; exact h4⟩

set_option maxHeartbeats 1000000 in
theorem of_any (l : List Msg) (A : Option Addr) (c : Nat) (hl : l.length ≤ 60) (hf : ∀ m ∈ l, m.fit) (w : World) (hA : RSl 10 RMsg w A l) :
    Calls Try.prog 42 #[.slice A l.length c] w fun e w' =>
    e = .returned (.agg #[.int .i64 (fb l l.length), .int .i64 (fo Msg.o0 l l.length), .int .i64 (fo Msg.o1 l l.length), .int .i64 (fo Msg.o2 l l.length), .int .i64 (fo Msg.o3 l l.length)]) ∧ Below w.heap.size w w' := by
  have HF := hid hf
  have HA := hid hA
  have HN : Hid (∃ n, l.length = n) := ⟨_, rfl⟩
  clear hf hA
  go_enter Try.func42, Try.ntmps42
  go_wp2_with fail
  go_loopw [5, 9] (fun _ i wr => ∃ n : Nat, n ≤ l.length ∧ i = .int .i64 n ∧ wr.heap[w.heap.size]? = some (.cells #[.int .i64 0, .int .i64 0, .int .i64 0, .int .i64 0, .int .i64 0] 58 (0, 0)) ∧ wr.heap[w.heap.size + 1]? = some (.cells #[.int .i64 (fb l n), .int .i64 (fo Msg.o0 l n), .int .i64 (fo Msg.o1 l n), .int .i64 (fo Msg.o2 l n), .int .i64 (fo Msg.o3 l n)] 58 (0, 0)) ∧ Below w.heap.size w wr) (fun _ i _ => l.length - (intOf i).toNat)
  case atStart =>
    refine ⟨0, by omega, rfl, ?_, ?_, ?_⟩
    · exact (Below.heap_alloc _ _ _ (by simp)).trans (heap_alloc_new _ _)
    · have := heap_alloc_new (w.alloc (.cells #[.int .i64 0, .int .i64 0, .int .i64 0, .int .i64 0, .int .i64 0] 58)) (.cells #[.int .i64 0, .int .i64 0, .int .i64 0, .int .i64 0, .int .i64 0] 58)
      simpa [fb, fo] using this
    · exact ((Below.refl _ _).alloc (Nat.le_refl _) _).alloc (by simp) _
  case round =>
    obtain ⟨n, hn, rfl, h0, h1, hB⟩ := hrel
    have H0 := hid h0
    have H1 := hid h1
    have HB := hid hB
    have hsz := lt_of_block h1
    clear h0 h1 hB
    by_cases hlt : (n : Int) < (l.length : Int)
    · obtain ⟨ad, cs, rfl, hcl, hc, hm⟩ := at_elem HA.out n (by omega)
      have hfit := fit_at HF.out n (by omega)
      have hc' : ∀ j, j < 10 → wr.cell? (ad.add (n * 10 + j)) = ((l.getD n default).cells)[j]? := fun j hj => by
        have h2 := hc j hj
        rw [hm] at h2
        rw [← h2]
        exact HB.out.cell (lt_of_cell (v := ((l.getD n default).cells)[j]'(by simpa [Msg.cells] using hj)) (by rw [h2]; exact List.getElem?_eq_getElem _))
      have HC := hid hc'
      obtain ⟨m, hme⟩ : ∃ m, l.getD n default = m := ⟨_, rfl⟩
      rw [hme] at hfit HC
      have HM := hid hme
      clear hme hc' hc hm hcl
      have hla : ((l.length : Nat) : Int) ≤ 60 := by omega
      have rb := fb_range l HF.out n hn
      have r0 := fo_range Msg.o0 (fun m h => h.2.1) l HF.out n hn
      have r1 := fo_range Msg.o1 (fun m h => h.2.2.1) l HF.out n hn
      have r2 := fo_range Msg.o2 (fun m h => h.2.2.2.1) l HF.out n hn
      have r3 := fo_range Msg.o3 (fun m h => h.2.2.2.2) l HF.out n hn
      obtain ⟨sl, st, ca, wa, wn, wc, kn, ve, p0, p1, p2, p3⟩ := m
      obtain ⟨f0, f1, f2, f3, f4⟩ := hfit
      have N : Hid (fb l (n + 1) = fb l n + (if kn then 8 * (wn : Int) else 0) ∧ fo Msg.o0 l (n + 1) = fo Msg.o0 l n + (if kn then p0 else 0) ∧ fo Msg.o1 l (n + 1) = fo Msg.o1 l n + (if kn then p1 else 0) ∧ fo Msg.o2 l (n + 1) = fo Msg.o2 l n + (if kn then p2 else 0) ∧ fo Msg.o3 l (n + 1) = fo Msg.o3 l n + (if kn then p3 else 0)) := by
        refine ⟨?_, ?_, ?_, ?_, ?_⟩
        all_goals (first | rw [fb] | rw [fo]); rw [HM.out]
      clear HM
      dsimp only at f0 f1 f2 f3 f4
      cases kn
      · go_wp2_with (refine wpList_load_cells rfl 65 _ rfl (ad.add (n * 10)) rfl [.int .i64 sl, .int .i64 st, .int .i64 ca, .slice wa wn wc, .bool false, .bool ve, .int .i64 p0, .int .i64 p1, .int .i64 p2, .int .i64 p3] _ (fun j hj => by rw [Go.Deep.add_add]; exact HC.out j hj) Try.underlying65 rfl (by kernel_rfl) ?_)
        refine ⟨⟨n + 1, by omega, by go_num, ?_, ?_, ?_⟩, by simp [intOf]; omega⟩
        · exact (Below.heap_alloc _ _ _ (by omega)).trans H0.out
        · rw [N.out.1, N.out.2.1, N.out.2.2.1, N.out.2.2.2.1, N.out.2.2.2.2]
          simp only [Bool.false_eq_true, if_false, Int.add_zero]
          exact (Below.heap_alloc _ _ _ (by omega)).trans H1.out
        · exact HB.out.alloc (by omega) _
      · obtain ⟨B, hB⟩ : ∃ x, fb l n = x := ⟨_, rfl⟩
        obtain ⟨Q0, hQ0⟩ : ∃ x, fo Msg.o0 l n = x := ⟨_, rfl⟩
        obtain ⟨Q1, hQ1⟩ : ∃ x, fo Msg.o1 l n = x := ⟨_, rfl⟩
        obtain ⟨Q2, hQ2⟩ : ∃ x, fo Msg.o2 l n = x := ⟨_, rfl⟩
        obtain ⟨Q3, hQ3⟩ : ∃ x, fo Msg.o3 l n = x := ⟨_, rfl⟩
        rw [hB] at N H1 rb
        rw [hQ0] at N H1 r0
        rw [hQ1] at N H1 r1
        rw [hQ2] at N H1 r2
        rw [hQ3] at N H1 r3
        clear hB hQ0 hQ1 hQ2 hQ3
        have H1' := fun o1 => (Below.heap_alloc wr o1 (w.heap.size + 1) (by omega)).trans H1.out
        have H1'' := hid H1'
        clear H1'
        go_wp2_with (first
          | refine wpList_load_cells rfl 65 _ rfl (ad.add (n * 10)) rfl [.int .i64 sl, .int .i64 st, .int .i64 ca, .slice wa wn wc, .bool true, .bool ve, .int .i64 p0, .int .i64 p1, .int .i64 p2, .int .i64 p3] _ (fun j hj => by rw [Go.Deep.add_add]; exact HC.out j hj) Try.underlying65 rfl (by kernel_rfl) ?_
          | refine wpList_load_row rfl 58 _ rfl (w.heap.size + 1) rfl 58 #[.int .i64 B, .int .i64 Q0, .int .i64 Q1, .int .i64 Q2, .int .i64 Q3] (0, 0) _ (H1''.out _) Try.underlying58 rfl (by kernel_rfl) ?_)
        refine (sum_any B (8 * (wn : Int)) Q0 Q1 Q2 Q3 p0 p1 p2 p3 ⟨by omega, by omega⟩ ⟨by omega, by omega⟩ ⟨by omega, by omega⟩ ⟨by omega, by omega⟩ ⟨by omega, by omega⟩ ⟨by omega, by omega⟩ ⟨by omega, by omega⟩ ⟨by omega, by omega⟩ ⟨by omega, by omega⟩ ⟨by omega, by omega⟩ _).mono ?_
        rintro e w2 ⟨rfl, hb2⟩
        have K1 := (hb2.block (w.heap.size + 1) (by simp; omega)).trans (H1''.out _)
        have K0 := (hb2.block w.heap.size (by simp; omega)).trans ((Below.heap_alloc wr _ _ (by omega)).trans H0.out)
        have hfr := fun i => free_in K1 i
        have HK1 := hid K1
        have HK0 := hid K0
        have HBs := hid (below_trans' (HB.out.alloc (by omega) _) hb2 (by simp; omega))
        clear K1 K0 hb2 H1'' H1 H0 HB HC HA
        go_wp2_with (refine wpList_store_row rfl 58 _ _ rfl (w.heap.size + 1) #[.int .i64 (B + 8 * (wn : Int)), .int .i64 (Q0 + p0), .int .i64 (Q1 + p1), .int .i64 (Q2 + p2), .int .i64 (Q3 + p3)] rfl rfl 58 _ HK1.out (by kernel_rfl) rfl (by simp [Value.oneCell']) ?_)
        refine ⟨⟨n + 1, by omega, by go_num, ?_, ?_, ?_⟩, by simp [intOf]; omega⟩
        · exact (setRow_other _ _ _ _ (by omega)).trans HK0.out
        · rw [N.out.1, N.out.2.1, N.out.2.2.1, N.out.2.2.2.1, N.out.2.2.2.2]
          exact setRow_heap _ _ _ _ _ _ HK1.out
        · exact below_setRow HBs.out (by omega)
    · obtain rfl : n = l.length := by omega
      clear hlt
      go_wp2_with (first
        | refine wpList_load_row rfl 58 _ rfl (w.heap.size + 1) rfl 58 _ (0, 0) _ H1.out Try.underlying58 rfl (by kernel_rfl) ?_
        | refine wpList_store_row rfl 58 _ _ rfl w.heap.size _ rfl rfl 58 _ H0.out (by kernel_rfl) rfl (by simp [Value.oneCell']) ?_)
      (try simp only [Exit.inBlock, Exit.then])
      refine bodyPost_ret (results_cell_row rfl _ _ w.heap.size 58 #[.int .i64 (fb l l.length), .int .i64 (fo Msg.o0 l l.length), .int .i64 (fo Msg.o1 l l.length), .int .i64 (fo Msg.o2 l l.length), .int .i64 (fo Msg.o3 l l.length)] (0, 0) _ rfl ?_ Try.underlying58 rfl (by kernel_rfl)) rfl ⟨rfl, ?_⟩
      · exact setRow_heap _ _ _ _ _ _ H0.out
      · exact below_setRow HB.out (Nat.le_refl _)
end Go.Proofs.Ytfmepbpipknblaa.Dg
