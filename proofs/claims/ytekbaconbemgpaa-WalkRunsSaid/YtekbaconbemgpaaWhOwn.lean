/- The law's Own: its walk: a list whose elements share what was there. Helper text. -/
import Derived.Test.YtekbaconbemgpaaWhView
import Derived.Test.YtekbaconbemgpaaWhDraw
import Derived.Test.YtekbaconbemgpaaWkPlain
namespace Go.Proofs.Ytekbaconbemgpaa.PWe
open Go.RowKit Go.Proofs.Ytekbaconbemgpaa.Kx Go.Proofs.YtekbaconbemgpaaW.PrintWords Go.Proofs.YtekbaconbemgpaaW.PrintLast Go.Proofs.YtekbaconbemgpaaW.PrintMore
set_option linter.unusedVariables false
set_option linter.unusedSimpArgs false

/-- Elements that are read as the world w0 reads them. -/
def kAt {α : Type} (d : Kd α) (w0 : World) : Kd α where
  sz := d.sz
  E := []
  K := fun _ x cs => d.K w0 x cs
  M := fun _ _ _ x cs => d.K w0 x cs
  K_len := fun h => d.K_len h
  K_one := fun h => d.K_one h
  K_below := fun _ h => h
  K_of_M := fun h => h
  M_mono := fun _ h => h
  M_bound := fun h => h
  M_move := fun _ h => h
  M_lower := fun _ h => h
theorem kAt_C {α : Type} {d : Kd α} {w0 w : World} {A : Option Addr} {n : Nat} {xs : List α} (h : Kd.C (kAt d w0) w A n xs) (hb : Below w0.heap.size w0 w) : Kd.C d w A n xs := ReadsRow.imp_ h (Below.refl _ _) fun _ _ hp => d.K_below hb hp
section
variable {P : Program} {ops : Array Oper} {Q : Exit → Act → World → Prop} {S : World → Prop} {w wb : World} {K : Act → World → Prop} {l' : Array Bool} {oi : Oper} {a a' : Act} {fuel : Nat} {α : Type}
/-- A list of one made in a drawn region: the world stays as it is said. -/
theorem litK (hK : Shut (∀ a' w', S w' → (S w' → wpAnyLast P .any ops Q S [] fuel l' a' w') → K a' w')) (HS : Aside0 (∀ W', Below wb.heap.size wb W' → S W')) (HB : Aside0 (Below wb.heap.size wb w)) {M : Tmp} (cs : List Value) (e : TypeId)
    (hrun : (execOp a.eval oi).run P w = .ok (.value (.slice (some ⟨w.heap.size, 0, none⟩) 1 1)) (w.alloc (.cells cs.toArray e)))
    (h : wpAnyLast P .any ops Q S [] fuel l' a' (w.alloc (.cells cs.toArray e)))
    (hw : Region.wanted oi (yielded ops a.tmps) = true := by rfl) (hd : oi.dst = some M := by rfl) (ha : a.put (some M) (.slice (some ⟨w.heap.size, 0, none⟩) 1 1) = a' := by (simp only [Act.put, List.setIfInBounds_toArray, List.set_cons_zero, List.set_cons_succ]; rfl)) :
    if Region.wanted oi (yielded ops a.tmps) = true then Oper.wp P oi a w K Q else K (a.put (some M) undef) w := by
  rw [← hd]
  refine event_step hw hrun ?_
  rw [hd, ha]
  exact hK.out _ _ (HS.out _ (below_step HB.out (below_alloc (Below.refl _ _) _))) fun _ => h
theorem appK (d : Kd α) (e : Nat) {cs : List Value} (hK : Shut (∀ a' w', S w' → (S w' → wpAnyLast P .any ops Q S [] fuel l' a' w') → K a' w')) (HS : Aside0 (∀ W', Below wb.heap.size wb W' → S W')) (HB : Aside0 (Below wb.heap.size wb w)) {M : Tmp} (s x : Operand) (t : TypeId) (z : Value) (bytes : Nat) {a' : Value → Act}
    (ho : oi.op = .call { callee := .builtin .append, args := #[s, x], argTypes := #[t, t] })
    (ht : P.underlying t = some (.slice e)) (hinfo : (P.info? e).map (fun i => (i.zero, i.size, i.bytes)) = some (some z, d.sz, bytes)) (hz : z.cells.size = d.sz) (hs0 : 0 < d.sz) (hb0 : 0 < bytes)
    {v : Value} {xs : List α} (p : α) (hs : a.eval s = v) (hx : a.eval x = .slice (some ⟨w.heap.size, 0, none⟩) 1 1) (hp : d.M w wb.heap.size (fun _ => False) p cs)
    (HO : Aside0 (d.R e w wb.heap.size (fun _ => True) v xs)) (hl : (xs.length + 1) * bytes ≤ 140737488355328)
    (h : ∀ v1 w1, Aside0 (d.R e w1 wb.heap.size (fun _ => True) v1 (xs ++ [p])) → Aside0 (Below wb.heap.size wb w1) → wpAnyLast P .any ops Q S [] fuel l' (a' v1) w1)
    (hw : Region.wanted oi (yielded ops a.tmps) = true := by rfl) (hd : oi.dst = some M := by rfl) (ha : ∀ v1 : Value, a.put (some M) v1 = a' v1 := by (intro v1; simp only [Act.put, List.setIfInBounds_toArray, List.set_cons_zero, List.set_cons_succ]; rfl)) :
    if Region.wanted oi (yielded ops a.tmps) = true then Oper.wp P oi a (w.alloc (.cells cs.toArray e)) K Q else K (a.put (some M) undef) (w.alloc (.cells cs.toArray e)) := by
  rw [← hd]
  refine Kd.R_append_step d wb.heap.size hw s x t e z bytes ho ht hinfo hz hs0 hb0 v xs p cs (fun _ => True) (fun _ => False) hs hx hp (fun _ h => h.elim) (fun _ _ => trivial) HO.out HB.out (below_size HB.out) hl fun v1 w1 h1 h2 h3 _ => ?_
  rw [hd, ha]
  exact hK.out _ _ (HS.out _ h2) fun _ => h v1 w1 ⟨h1⟩ ⟨h2⟩
end
def Cells6 (p : Addr) (v0 v1 v2 v3 v4 v5 : Value) (W : World) : Prop :=
  W.cell? p = some v0 ∧ W.cell? ⟨p.block, p.off + 1, none⟩ = some v1 ∧ W.cell? ⟨p.block, p.off + 2, none⟩ = some v2 ∧ W.cell? ⟨p.block, p.off + 3, none⟩ = some v3 ∧ W.cell? ⟨p.block, p.off + 4, none⟩ = some v4 ∧ W.cell? ⟨p.block, p.off + 5, none⟩ = some v5
def ownT : Bool × List (List Nat × List Nat) := (true, [([], []), ([], []), ([], []), ([1, 2], [1, 2]), ([3], [3]), ([4], [4]), ([], []), ([], []), ([6, 7], [6, 7]), ([8], [8]), ([9], [9]), ([], []), ([], []), ([11, 12], [11, 12]), ([13], [13]), ([14], [14]), ([], []), ([], []), ([16, 17], [16, 17]), ([18], [18]), ([19], [19]), ([], []), ([], []), ([21, 22], [21, 22]), ([23], [23]), ([24], [24]), ([], []), ([], []), ([26, 27], [26, 27]), ([28], [28]), ([29], [29]), ([5, 10, 15, 20, 25, 30], [5, 10, 15, 20, 25, 30]), ([31], [31]), ([0, 32], [0, 32]), ([33, 33, 0, 1, 2, 3, 4, 5, 6, 7, 8, 9, 10, 11, 12, 13, 14, 15, 16, 17, 18, 19, 20, 21, 22, 23, 24, 25, 26, 27, 28, 29, 30, 31, 32, 33], [0, 33])])
theorem owntab : rtab .any (opsOf Try.f14 5) = ownT := by kernel_rfl
set_option maxHeartbeats 4000000 in
set_option maxRecDepth 100000 in
theorem own_calls (A : Option Addr) (c : Nat) (l : List S76) (w : World) (hr : Kd.C k76 w A l.length l) (hc : l.length ≤ c) (hl : l.length ≤ 1000) :
    Calls Try.prog 14 #[.slice A l.length c] w fun e w' => ∃ A' c', e = .returned (.slice A' l.length c') ∧ l.length ≤ c' ∧ Kd.C k44 w' A' (l.map s44).length (l.map s44) ∧ Below w.heap.size w w' := by
  have HR := Aside0.mk hr
  clear hr
  go_enter Try.func14, Try.ntmps14
  go_wp2_with fail
  go_loopw [3, 4] (fun v3 v4 wr => ∃ i : Nat, i ≤ l.length ∧ v4 = .int .i64 (i : Int) ∧ Kd.R (kAt k44 w) 44 wr w.heap.size (fun _ => True) v3 ((l.take i).map s44) ∧ Below w.heap.size w wr) (fun _ v4 _ => ((l.length : Int) - intOf v4).toNat)
  case atStart => exact ⟨0, Nat.zero_le _, rfl, Kd.R_nil _ _ _ _ _, Below.refl _ _⟩
  case round =>
    obtain ⟨i, hi, rfl, ho, hb⟩ := hrel
    have HO := Aside0.mk ho
    have HB := Aside0.mk hb
    clear ho hb
    by_cases hlt : i < l.length
    · have m1 : decide ((i : Int) < (l.length : Int)) = true := decide_eq_true (by omega)
      have m2 : decide (i < l.length) = true := decide_eq_true hlt
      have q1 : (0 ≤ (i : Int)) = True := eq_true (by omega)
      have q2 : ((i : Int) < (l.length : Int)) = True := eq_true (by omega)
      have q3 : (i < l.length) = True := eq_true hlt
      obtain ⟨x, hx⟩ : ∃ x, l[i] = x := ⟨_, rfl⟩
      obtain ⟨ad, A4, c4, A5, c5, hA, x0, x1, x2, x3, x4, x5, hl4, hr4, hl5, hr5⟩ := win_at HR.out (Below.refl _ _) hlt hx
      subst hA
      have HS6 : Aside0 (∀ W', Below w.heap.size w W' → Cells6 (ad.add (i * 6)) (.int .i64 x.f0) (.int .i64 x.f1) (.int .i64 x.f2) (.int .i64 x.f3) (.slice A4 x.f4.length c4) (.slice A5 x.f5.length c5) W') := ⟨fun W' hb => by
        have up : ∀ {p : Addr} {v : Value}, w.cell? p = some v → W'.cell? p = some v := fun h => (hb.cell (World.block_lt_of_cell? w _ h)).trans h
        exact ⟨up x0, up x1, up x2, up x3, up x4, up x5⟩⟩
      have HK := Aside0.mk (k44_mk w (s44 x) hl4 hr4 hl5 hr5)
      have htk : (l.take (i + 1)).map s44 = (l.take i).map s44 ++ [s44 x] := by
        rw [List.take_succ_eq_append_getElem hlt, List.map_append, hx]; rfl
      have HTK := Aside0.mk htk
      clear x0 x1 x2 x3 x4 x5 hr4 hr5 hx htk
      go_wp2_with fail
      (try simp only [Act.put, List.setIfInBounds_toArray, List.set_cons_zero, List.set_cons_succ])
      refine startD 35 owntab HS6 HB (fun W1 HT B1 K1 => ?_)
      have HO1 := Aside0.mk (Kd.R_below HO.out K1.out)
      refine pureD 0 (some 11) (lb 35 0x1) HT ?_
      refine pureD 1 (some 12) (lb 35 0x3) HT ?_
      refine pureD 2 (some 13) (lb 35 0x7) HT ?_
      refine pureD 3 (some 14) (lb 35 0xf) HT ?_
      refine pureD 4 (some 15) (lb 35 0x1f) HT ?_
      refine takeD 5 (some 16) (lb 35 0x3f) HT HS6 B1 ?_
      refine pureD 6 (some 17) (lb 35 0x7f) HT ?_
      refine pureD 7 (some 18) (lb 35 0xff) HT ?_
      refine pureD 8 (some 19) (lb 35 0x1ff) HT ?_
      refine pureD 9 (some 20) (lb 35 0x3ff) HT ?_
      refine takeD 10 (some 21) (lb 35 0x7ff) HT HS6 B1 ?_
      refine pureD 11 (some 22) (lb 35 0xfff) HT ?_
      refine pureD 12 (some 23) (lb 35 0x1fff) HT ?_
      refine pureD 13 (some 24) (lb 35 0x3fff) HT ?_
      refine pureD 14 (some 25) (lb 35 0x7fff) HT ?_
      refine takeD 15 (some 26) (lb 35 0xffff) HT HS6 B1 ?_
      refine pureD 16 (some 27) (lb 35 0x1ffff) HT ?_
      refine pureD 17 (some 28) (lb 35 0x3ffff) HT ?_
      refine pureD 18 (some 29) (lb 35 0x7ffff) HT ?_
      refine pureD 19 (some 30) (lb 35 0xfffff) HT ?_
      refine takeD 20 (some 31) (lb 35 0x1fffff) HT HS6 B1 ?_
      refine pureD 21 (some 32) (lb 35 0x3fffff) HT ?_
      refine pureD 22 (some 33) (lb 35 0x7fffff) HT ?_
      refine pureD 23 (some 34) (lb 35 0xffffff) HT ?_
      refine pureD 24 (some 35) (lb 35 0x1ffffff) HT ?_
      refine takeD 25 (some 36) (lb 35 0x3ffffff) HT HS6 B1 ?_
      refine pureD 26 (some 37) (lb 35 0x7ffffff) HT ?_
      refine pureD 27 (some 38) (lb 35 0xfffffff) HT ?_
      refine pureD 28 (some 39) (lb 35 0x1fffffff) HT ?_
      refine pureD 29 (some 40) (lb 35 0x3fffffff) HT ?_
      refine takeD 30 (some 41) (lb 35 0x7fffffff) HT HS6 B1 ?_
      refine pureD 31 (some 42) (lb 35 0xffffffff) HT ?_
      refine oneD 32 (some 43) (lb 35 0x1ffffffff) HT (fun K hK => ?_)
      refine litK hK HS6 B1 [.int .i64 x.f0, .int .i64 x.f1, .int .i64 x.f2, .int .i64 x.f3, .slice A4 x.f4.length c4, .slice A5 x.f5.length c5] 44 (by first | (go_simp; done) | (go_simp; rfl)) ?_
      refine oneD 33 (some 44) (lb 35 0x3ffffffff) HT (fun K hK => ?_)
      refine appK (kAt k44 w) 44 hK HS6 B1 (.tmp 11) (.tmp 43) 35 (.agg #[.int .i64 0, .int .i64 0, .int .i64 0, .int .i64 0, .slice none 0 0, .slice none 0 0]) 80 rfl Try.underlying35 info44 rfl (show 0 < 6 by decide) (by omega) (s44 x) rfl rfl HK.out HO1 (by rw [List.length_map, List.length_take]; omega) (fun v1 W2 HO2 HB2 => ?_)
      refine pureD 34 (some 3) (lb 35 0x7ffffffff) HT ?_
      refine doneD HT ?_
      go_wp2_with fail
      exact ⟨⟨i + 1, by omega, by rw [Int.natCast_add]; rfl, by rw [HTK.out]; exact HO2.out, HB2.out⟩, by simp [intOf]; omega⟩
    · have m1 : decide ((i : Int) < (l.length : Int)) = false := decide_eq_false (by omega)
      have m2 : decide (i < l.length) = false := decide_eq_false hlt
      obtain ⟨A', c', ev⟩ := Kd.R_slice HO.out
      obtain rfl : i = l.length := by omega
      subst ev
      rw [List.take_length] at HO
      have h := Kd.R_reads' HO.out
      have hle := h.2.1
      have HC := Aside0.mk (kAt_C h.2.2 HB.out)
      have hlen : ((l.take l.length).map s44).length = l.length := by simp
      simp only [hlen]
      clear h hlt HO hlen
      go_wp2_with fail
      go_ret
      rw [List.length_map] at hle
      exact ⟨A', c', rfl, hle, HC.out, HB.out⟩
end Go.Proofs.Ytekbaconbemgpaa.PWe
