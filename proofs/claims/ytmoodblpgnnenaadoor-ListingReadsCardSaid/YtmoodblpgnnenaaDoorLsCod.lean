/- listing.Code: walk. Helper text. -/
import Derived.Test.YtmoodblpgnnenaaDoorLsLst
import Derived.Lib.Strings
namespace Go.Proofs.YtmoodblpgnnenaaDoor.PLs
open Go.RowKit Go.Proofs.YtmoodblpgnnenaaDoor.Kx Go.Proofs.YtmoodblpgnnenaaDoor.PWe Go.Proofs.YtmoodblpgnnenaaDoorW.PrintWords Go.Proofs.YtmoodblpgnnenaaDoorW.PrintLast Go.Proofs.YtmoodblpgnnenaaDoorW.PrintMore
set_option linter.unusedVariables false
set_option linter.unusedSimpArgs false
/-- The bytes of a command that is right. -/
def putL (C : List Int) : List Int := putB C (C.getD 0 0)
/-- A line is read behind so many bytes. -/
def stepC (line : List UInt8) (out : List Int) : Option (List Int) :=
  if (Lib.cut line [58, 32]).2.2 = true ∧ (numP (Lib.cut line [58, 32]).1).isSome = true ∧ numV (numP (Lib.cut line [58, 32]).1) = (out.length : Int) ∧ (parseP (Lib.cut line [58, 32]).2.1).2 = 0 then some (out ++ putL (parseP (Lib.cut line [58, 32]).2.1).1) else none
def codeR : List (List UInt8) → Nat → List Int → List Int × Int × Int
  | [], _, out => if 1024 < out.length then ([], 0, 15) else (out, 0, 0)
  | l :: ls, i, out =>
    match stepC l out with
    | none => ([], (i : Int) + 1, 30)
    | some o => codeR ls (i + 1) o
def codeP (s : List UInt8) : List Int × Int × Int := if s = [] then ([], 0, 0) else codeR (spl 10 (Lib.trimSuffix s [10])) 0 []
theorem runT_len : ∀ (js : List Nat) (l : List (List UInt8)) (f : Bool) (C : List Int), (runT js l f C).2.2.length = C.length
  | [], _, _, _ => rfl
  | j :: js, l, f, C => by rw [runT, runT_len js]; simp
theorem parseP_len (s : List UInt8) : (parseP s).1.length = 7 := by
  unfold parseP
  split
  · unfold parseR; rw [runT_len]; rfl
  · rfl
theorem parseP_right {s : List UInt8} (h : (parseP s).2 = 0) : rightL (parseP s).1 = true := by
  unfold parseP at h ⊢
  split at h
  · rename_i hc
    rw [if_pos hc]; exact hc.2.2
  · cases h
theorem offs_len4 (op : Int) : (offs op).length ≤ 4 := offs_len op
theorem putL_len (C : List Int) : (putL C).length ≤ 7 := by
  unfold putL putB oneB b2
  generalize C.getD 0 0 = op
  have := offs_len op
  split <;> simp <;> omega
theorem cut_small (line : List UInt8) : (Lib.cut line [58, 32]).1.length ≤ line.length ∧ (Lib.cut line [58, 32]).2.1.length ≤ line.length := by
  unfold Lib.cut
  split
  · exact ⟨by rw [List.length_take]; omega, by rw [List.length_drop]; omega⟩
  · exact ⟨Nat.le_refl _, Nat.zero_le _⟩
theorem trim_small (s : List UInt8) : (Lib.trimSuffix s [10]).length ≤ s.length := Lib.trimSuffix_le s [10]
theorem strB_eq (s : ByteArray) : (⟨s.data.toList.toArray⟩ : ByteArray) = s := Lib.mk_data s
set_option maxHeartbeats 8000000 in
set_option maxRecDepth 100000 in
theorem code_calls (s : ByteArray) (m : Int) (w : World) (hs : s.size ≤ 100000) (hm : w.cell? ⟨0, 0, none⟩ = some (.int .i64 m)) {O : List Int} {N E : Int} (hR : codeP s.data.toList = (O, N, E)) :
    Calls Tryd.prog 10 #[.string s] w fun e w' => ∃ v, e = .returned (.tuple #[v, .int .i64 N, .int .i64 E]) ∧ Kd.R (Kd.int .u8) 5 w' w.heap.size (fun _ => True) v O ∧ Below w.heap.size w w' := by
  have HM := Aside0.mk hm
  have HB0 : Aside0 (Below w.heap.size w w) := ⟨Below.refl _ _⟩
  have HSZ := Aside0.mk hs
  have hll : s.data.toList.length = s.size := (Lib.size_eq s).symm
  by_cases h0 : s.size = 0
  · have hl0 : s.data.toList = [] := List.eq_nil_of_length_eq_zero (by omega)
    have m1 : s.toList.isEmpty = true := by rw [Go.ByteArray.toList_eq, hl0]; rfl
    have m2 : (s.toList == []) = true := by rw [Go.ByteArray.toList_eq, hl0]; rfl
    have hE := hR
    unfold codeP at hE
    rw [if_pos hl0] at hE
    obtain ⟨rfl, h2⟩ := Prod.mk.inj hE
    obtain ⟨rfl, rfl⟩ := Prod.mk.inj h2
    clear hR hm hl0 h0 hll hs hE h2
    go_enter Tryd.func10, Tryd.ntmps10
    go_wp2_with fail
    refine bodyPost_ret (results_tmp3 rfl _ _ _) rfl ?_
    exact ⟨_, rfl, Kd.R_nil _ _ _ _ _, HB0.out⟩
  have hne : s.data.toList ≠ [] := fun e => by rw [e] at hll; simp at hll; omega
  have m1 : s.toList.isEmpty = false := by rw [Go.ByteArray.toList_eq]; cases h : s.data.toList with | nil => exact absurd h hne | cons => rfl
  have m2 : (s.toList == []) = false := by rw [Go.ByteArray.toList_eq]; cases h : s.data.toList with | nil => exact absurd h hne | cons => rfl
  obtain ⟨ls, hls⟩ : ∃ l, spl 10 (Lib.trimSuffix s.data.toList [10]) = l := ⟨_, rfl⟩
  have HR : Aside0 (codeR ls 0 [] = (O, N, E)) := ⟨by rw [← hR, ← hls]; unfold codeP; rw [if_neg hne]⟩
  obtain ⟨t, ht⟩ : ∃ t, strB (Lib.trimSuffix s.data.toList [10]) = t := ⟨_, rfl⟩
  have htl : t.data.toList = Lib.trimSuffix s.data.toList [10] := by rw [← ht, strB_data]
  have HLS : Aside0 (spl 10 t.data.toList = ls) := ⟨by rw [htl, hls]⟩
  have htz : t.size ≤ 100000 := by rw [← ht, strB_size]; have := trim_small s.data.toList; omega
  have HTZ : Aside0 (t.size < 4294967281) := ⟨by omega⟩
  have HSM : Aside0 (ls.length ≤ 100001 ∧ ∀ p ∈ ls, p.length ≤ 100000) := ⟨by
    have hz : t.data.toList.length ≤ 100000 := by rw [← Lib.size_eq]; exact htz
    rw [← HLS.out]
    refine ⟨?_, fun p hp => Nat.le_trans (spl_len_le 10 _ p hp) hz⟩
    rw [spl_len]
    have := List.count_le_length (a := (10 : UInt8)) (l := t.data.toList)
    omega⟩
  have HTR : Aside0 (Calls Tryd.prog 32 #[.string s, .string ⟨#[10]⟩] w fun e w' => e = .returned (.string t) ∧ w' = w) := ⟨by rw [← ht]; exact Tryd.strings_TrimSuffix s ⟨#[10]⟩ w (by omega)⟩
  clear hR hm hs hll h0 hne hls ht htl htz
  go_enter Tryd.func10, Tryd.ntmps10
  go_wp2_with fail
  refine HTR.out.mono ?_
  rintro e w' ⟨rfl, hww⟩
  rw [hww]
  clear hww w'
  go_wp2_with fail
  refine (split_new t 10 m _ HTZ.out HM.out).mono ?_
  rintro e w1 ⟨gs, rfl, hgs, hsb, hb1⟩
  rw [HLS.out] at hsb ⊢
  have HPC := Aside0.mk (pcR_block hsb)
  have HB1 := Aside0.mk hb1
  clear hsb hb1 hgs HTR
  go_wp2_with fail
  have hcell : ∀ W, Below w1.heap.size w1 W → ∀ (i : Nat) p, ls[i]? = some p → W.cell? ⟨gs, i, none⟩ = some (.string (strB p)) := fun W hb i p hp => by
    obtain ⟨g, o, e, hc⟩ := (HPC.out.kept (ks_below hb)).at_ hp
    cases e
    rwa [Nat.zero_add] at hc
  have HCL := Aside0.mk hcell
  clear hcell
  go_loopw [5, 7, 8, 9, 10, 11, 12, 13, 14, 15, 16, 17, 25] (fun v5 _ _ _ _ _ _ _ _ _ _ _ v25 wr => ∃ (i : Nat) (out : List Int), i ≤ ls.length ∧ v25 = .int .i64 (i : Int) ∧ Aside0 (codeR (ls.drop i) i out = (O, N, E) ∧ out.length ≤ 7 * i) ∧ Aside0 (Kd.R (Kd.int .u8) 5 wr w1.heap.size (fun _ => True) v5 out) ∧ Aside0 (Below w1.heap.size w1 wr)) (fun _ _ _ _ _ _ _ _ _ _ _ _ v25 _ => ((ls.length : Int) - intOf v25).toNat)
  case atStart => exact ⟨0, [], Nat.zero_le _, rfl, ⟨HR.out, Nat.le_refl _⟩, ⟨Kd.R_nil _ _ _ _ _⟩, ⟨Below.refl _ _⟩⟩
  case round =>
    obtain ⟨i, out, hi, rfl, HRr, HO, HBr⟩ := hrel
    obtain ⟨A5, c5, e5⟩ := Kd.R_slice HO.out
    subst e5
    by_cases hlt : i < ls.length
    · have q1 : decide ((i : Int) < (ls.length : Int)) = true := decide_eq_true (by omega)
      have q2 : decide (i < ls.length) = true := decide_eq_true hlt
      have z1 : (0 ≤ (i : Int)) = True := eq_true (by omega)
      have z2 : ((i : Int) < (ls.length : Int)) = True := eq_true (by omega)
      have z3 : (i < ls.length) = True := eq_true hlt
      obtain ⟨p, hp⟩ : ∃ p, ls[i] = p := ⟨_, rfl⟩
      have hpm : p ∈ ls := by rw [← hp]; exact List.getElem_mem hlt
      have hpl := HSM.out.2 p hpm
      have y0 := HCL.out wr HBr.out i p (by rw [List.getElem?_eq_getElem hlt, hp])
      have hcr := HRr.out.1
      rw [List.drop_eq_getElem_cons hlt, hp, codeR] at hcr
      obtain ⟨⟨ca, cr, is⟩, hcut⟩ : ∃ q, Lib.cut p [58, 32] = q := ⟨_, rfl⟩
      have hcs := cut_small p
      obtain ⟨NN, hNN⟩ : ∃ n, numP ca = n := ⟨_, rfl⟩
      obtain ⟨⟨C, E'⟩, hPP⟩ : ∃ q, parseP cr = q := ⟨_, rfl⟩
      have hst : stepC p out = if is = true ∧ NN.isSome = true ∧ numV NN = (out.length : Int) ∧ E' = 0 then some (out ++ putL C) else none := by
        unfold stepC; rw [hcut]; dsimp only; rw [hNN, hPP]
      rw [hst] at hcr
      have hC7 : C.length = 7 := by have := parseP_len cr; rw [hPP] at this; exact this
      have hrg : E' = 0 → rightL C = true := fun e => by have := parseP_right (s := cr); rw [hPP] at this; exact this e
      obtain ⟨x0, x1, x2, x3, x4, x5, x6, rfl⟩ := list7 C hC7
      rw [hcut] at hcs
      dsimp only at hcs
      obtain ⟨P, hP⟩ : ∃ P, strB p = P := ⟨_, rfl⟩
      obtain ⟨CA, hCA⟩ : ∃ P, strB ca = P := ⟨_, rfl⟩
      obtain ⟨CR, hCR⟩ : ∃ P, strB cr = P := ⟨_, rfl⟩
      have HP1 : Aside0 (P.size < 4294967281) := ⟨by rw [← hP, strB_size]; omega⟩
      have HCA1 : Aside0 (CA.size ≤ 4000000000) := ⟨by rw [← hCA, strB_size]; have := hcs.1; omega⟩
      have HCR1 : Aside0 (CR.size ≤ 100000) := ⟨by rw [← hCR, strB_size]; have := hcs.2; omega⟩
      have HCU : Aside0 (Lib.cut P.data.toList (⟨#[58, 32]⟩ : ByteArray).data.toList = (ca, cr, is)) := ⟨by rw [← hP, strB_data]; exact hcut⟩
      have HNU : Aside0 (numP CA.data.toList = NN) := ⟨by rw [← hCA, strB_data]; exact hNN⟩
      have HPU : Aside0 (parseP CR.data.toList = ([x0, x1, x2, x3, x4, x5, x6], E')) := ⟨by rw [← hCR, strB_data]; exact hPP⟩
      have HCA2 : Aside0 ((⟨ca.toArray⟩ : ByteArray) = CA) := ⟨hCA⟩
      have HCR2 : Aside0 ((⟨cr.toArray⟩ : ByteArray) = CR) := ⟨hCR⟩
      rw [hP] at y0
      have HX := Aside0.mk hcr
      have HRG := Aside0.mk hrg
      have HOL := Aside0.mk HRr.out.2
      have HLT := Aside0.mk hlt
      have HMr := Aside0.mk ((HBr.out.cell (World.block_lt_of_cell? w1 _ ((HB1.out.cell (World.block_lt_of_cell? w _ HM.out)).trans HM.out))).trans ((HB1.out.cell (World.block_lt_of_cell? w _ HM.out)).trans HM.out))
      clear hp hpm hpl hcr hcut hcs hNN hPP hst hC7 hrg hP hCA hCR hlt HRr
      go_wp2_with fail
      refine (Tryd.strings_Cut P ⟨#[58, 32]⟩ m wr HP1.out HMr.out).mono ?_
      rintro e w2 ⟨rfl, nd, rfl⟩
      rw [HCU.out]
      dsimp only
      rw [HCA2.out, HCR2.out]
      have hb2 : Below wr.heap.size wr (wr.drewN nd) := below_drewN (Below.refl _ _) nd
      have HO2 := Aside0.mk (Kd.R_below HO.out hb2)
      have HB2 := Aside0.mk (below_step HBr.out hb2)
      have HM2 := Aside0.mk ((hb2.cell (World.block_lt_of_cell? wr _ HMr.out)).trans HMr.out)
      obtain ⟨w2, hw2⟩ : ∃ W, wr.drewN nd = W := ⟨_, rfl⟩
      rw [hw2] at HO2 HB2 HM2 ⊢
      clear hw2 hb2 y0
      go_wp2_with fail
      refine (number_calls CA HCA1.out w2 HNU.out).mono ?_
      rintro e w3 ⟨rfl, hb3⟩
      have HO3 := Aside0.mk (Kd.R_below HO2.out hb3)
      have HB3 := Aside0.mk (below_step HB2.out hb3)
      have HM3 := Aside0.mk ((hb3.cell (World.block_lt_of_cell? w2 _ HM2.out)).trans HM2.out)
      clear hb3
      go_wp2_with fail
      refine (parse_calls CR m w3 HCR1.out HM3.out HPU.out).mono ?_
      rintro e w4 ⟨rfl, hb4⟩
      have HO4 := Aside0.mk (Kd.R_below HO3.out hb4)
      have HB4 := Aside0.mk (below_step HB3.out hb4)
      have hcc : cc [x0, x1, x2, x3, x4, x5, x6] = #[.int .i64 x0, .int .i64 x1, .int .i64 x2, .int .i64 x3, .int .i64 x4, .int .i64 x5, .int .i64 x6] := rfl
      rw [hcc]
      have hk5 : Below w4.heap.size w4 (w4.alloc (.cells #[.int .i64 x0, .int .i64 x1, .int .i64 x2, .int .i64 x3, .int .i64 x4, .int .i64 x5, .int .i64 x6] 37 (0, 0))) := below_alloc (Below.refl _ _) _
      have HO5 := Aside0.mk (Kd.R_below HO4.out hk5)
      have HB5 := Aside0.mk (below_step HB4.out hk5)
      clear hb4 hcc hk5
      obtain ⟨so, hso⟩ : ∃ b, NN.isSome = b := ⟨_, rfl⟩
      obtain ⟨nv, hnv⟩ : ∃ n, numV NN = n := ⟨_, rfl⟩
      rw [hso, hnv] at HX
      rw [hso, hnv]
      clear hso hnv
      have hdec : (is = false ∨ is = true ∧ so = false ∨ is = true ∧ so = true ∧ nv ≠ (out.length : Int) ∨ is = true ∧ so = true ∧ nv = (out.length : Int) ∧ E' ≠ 0) ∨ (is = true ∧ so = true ∧ nv = (out.length : Int) ∧ E' = 0) := by
        cases is <;> cases so <;> by_cases h1 : nv = (out.length : Int) <;> by_cases h2 : E' = 0 <;> simp [h1, h2]
      rcases hdec with hbad | ⟨rfl, rfl, hn, he⟩
      · have hx := HX.out
        rw [if_neg (by rintro ⟨h1, h2, h3, h4⟩; rcases hbad with h | ⟨_, h⟩ | ⟨_, _, h⟩ | ⟨_, _, _, h⟩ <;> simp_all)] at hx
        dsimp only at hx
        obtain ⟨rfl, hx2⟩ := Prod.mk.inj hx
        obtain ⟨rfl, rfl⟩ := Prod.mk.inj hx2
        clear hx hx2 HX
        have hi1 : wrap64 ((i : Int) + 1) = (i : Int) + 1 := PWe.wr (by have := HLT.out; have := HSM.out.1; omega) (by have := HLT.out; have := HSM.out.1; omega)
        rcases hbad with rfl | ⟨rfl, rfl⟩ | ⟨rfl, rfl, h3⟩ | ⟨rfl, rfl, h3, h4⟩
        · go_wp2_with fail
          refine bodyPost_ret (results_tmp3 rfl _ _ _) rfl ?_
          exact ⟨.slice none 0 0, by show Ending.returned (.tuple #[.slice none 0 0, .int .i64 (wrap64 ((i : Int) + 1)), .int .i64 30]) = _; rw [hi1], Kd.R_nil _ _ _ _ _, below_step HB1.out HB5.out⟩
        · go_wp2_with fail
          refine bodyPost_ret (results_tmp3 rfl _ _ _) rfl ?_
          exact ⟨.slice none 0 0, by show Ending.returned (.tuple #[.slice none 0 0, .int .i64 (wrap64 ((i : Int) + 1)), .int .i64 30]) = _; rw [hi1], Kd.R_nil _ _ _ _ _, below_step HB1.out HB5.out⟩
        · have n1 : (nv == (out.length : Int)) = false := beq_eq_false_iff_ne.2 h3
          have n2 : decide (nv = (out.length : Int)) = false := decide_eq_false h3
          have n3 : (nv != (out.length : Int)) = true := by rw [bne, n1]; rfl
          clear h3
          go_wp2_with fail
          refine bodyPost_ret (results_tmp3 rfl _ _ _) rfl ?_
          exact ⟨.slice none 0 0, by show Ending.returned (.tuple #[.slice none 0 0, .int .i64 (wrap64 ((i : Int) + 1)), .int .i64 30]) = _; rw [hi1], Kd.R_nil _ _ _ _ _, below_step HB1.out HB5.out⟩
        · have n1 : (nv == (out.length : Int)) = true := beq_iff_eq.2 h3
          have n2 : decide (nv = (out.length : Int)) = true := decide_eq_true h3
          have n3 : (nv != (out.length : Int)) = false := by rw [bne, n1]; rfl
          have k1 : (E' == 0) = false := beq_eq_false_iff_ne.2 h4
          have k2 : decide (E' = 0) = false := decide_eq_false h4
          have k3 : (E' != 0) = true := by rw [bne, k1]; rfl
          clear h3 h4
          go_wp2_with fail
          refine bodyPost_ret (results_tmp3 rfl _ _ _) rfl ?_
          exact ⟨.slice none 0 0, by show Ending.returned (.tuple #[.slice none 0 0, .int .i64 (wrap64 ((i : Int) + 1)), .int .i64 30]) = _; rw [hi1], Kd.R_nil _ _ _ _ _, below_step HB1.out HB5.out⟩
      · have hx := HX.out
        rw [if_pos ⟨rfl, rfl, hn, he⟩] at hx
        dsimp only at hx
        have hrg := HRG.out he
        have HX2 := Aside0.mk hx
        have n1 : (nv == (out.length : Int)) = true := beq_iff_eq.2 hn
        have n2 : decide (nv = (out.length : Int)) = true := decide_eq_true hn
        have n3 : (nv != (out.length : Int)) = false := by rw [bne, n1]; rfl
        have HRT : Aside0 (cmd_Command_Right.f 16 x0 x1 x2 x3 x4 x5 x6 = some true) := ⟨by rw [right_all (by omega)]; exact congrArg some hrg⟩
        have HPL := Aside0.mk (putL_len [x0, x1, x2, x3, x4, x5, x6])
        obtain ⟨pb, hpb⟩ : ∃ q, putL [x0, x1, x2, x3, x4, x5, x6] = q := ⟨_, rfl⟩
        rw [hpb] at HX2 HPL
        have HPB : Aside0 (putB [x0, x1, x2, x3, x4, x5, x6] x0 = pb) := ⟨by rw [← hpb]; rfl⟩
        clear hx HX hn hrg hpb
        subst he
        go_wp2_with fail
        refine (putc_calls x0 x1 x2 x3 x4 x5 x6 _ HRT.out rfl HPB.out).mono ?_
        rintro e w6 ⟨v6, rfl, hr6, hb6⟩
        rw [if_pos rfl] at hr6
        obtain ⟨A6, c6, e6⟩ := Kd.R_slice hr6
        subst e6
        have HR6 := Aside0.mk (Kd.R_reads' hr6).2.2
        have HO6 := Aside0.mk (Kd.R_below HO5.out hb6)
        have HB6 := Aside0.mk (below_step HB5.out hb6)
        clear hr6 hb6 HO HO2 HO3 HO4 HO5 HB2 HB3 HB4 HB5 HBr
        have hi1 : wrap64 ((i : Int) + 1) = (i : Int) + 1 := PWe.wr (by have := HLT.out; have := HSM.out.1; omega) (by have := HLT.out; have := HSM.out.1; omega)
        go_wp2_with (first | ((with_reducible refine gate_builtin (b := .append) (xs := #[.tmp 69, .tmp 70]) rfl ?_); at_builtin; refine Kd.R_append_rows (Kd.int .u8) (w0 := w1) w1.heap.size rfl (.tmp 69) (.tmp 70) 23 5 (.int .u8 0) 1 rfl Tryd.underlying23 info5 rfl (by decide) (by decide) _ out pb A6 _ c6 (fun _ => True) (fun _ => False) rfl rfl HO6.out HR6.out (fun _ _ h => h) (fun _ h => h.elim) (fun _ _ => trivial) HB6.out (below_size HB6.out) (by have := HOL.out; have := HPL.out; have := HSM.out.1; have := HLT.out; simp; omega) ?_; intro v7 W7 h7 hb7 hg7 _; have HR7 := Aside0.mk h7; have HB7 := Aside0.mk hb7; clear h7 hb7 hg7))
        exact ⟨⟨i + 1, out ++ pb, HLT.out, by rw [hi1]; rfl, ⟨HX2.out, by rw [List.length_append]; have := HOL.out; have := HPL.out; omega⟩, HR7, HB7⟩, by rw [hi1]; have := HLT.out; simp [intOf]; omega⟩
    · have q1 : decide ((i : Int) < (ls.length : Int)) = false := decide_eq_false (by omega)
      have q2 : decide (i < ls.length) = false := decide_eq_false hlt
      have hcr := HRr.out.1
      rw [List.drop_eq_nil_of_le (by omega), codeR] at hcr
      have HX := Aside0.mk hcr
      clear hcr
      by_cases hl : 1024 < out.length
      · have l1 : decide (1024 < (out.length : Int)) = true := decide_eq_true (by omega)
        have l2 : decide (1024 < out.length) = true := decide_eq_true hl
        have hx := HX.out
        rw [if_pos hl] at hx
        obtain ⟨rfl, hx2⟩ := Prod.mk.inj hx
        obtain ⟨rfl, rfl⟩ := Prod.mk.inj hx2
        clear hx hx2 HX hl HRr
        go_wp2_with fail
        refine bodyPost_ret (results_tmp3 rfl _ _ _) rfl ?_
        exact ⟨_, rfl, Kd.R_nil _ _ _ _ _, below_step HB1.out HBr.out⟩
      · have l1 : decide (1024 < (out.length : Int)) = false := decide_eq_false (by omega)
        have l2 : decide (1024 < out.length) = false := decide_eq_false hl
        have hx := HX.out
        rw [if_neg hl] at hx
        obtain ⟨rfl, hx2⟩ := Prod.mk.inj hx
        obtain ⟨rfl, rfl⟩ := Prod.mk.inj hx2
        clear hx hx2 HX hl HRr
        go_wp2_with fail
        refine bodyPost_ret (results_tmp3 rfl _ _ _) rfl ?_
        exact ⟨_, rfl, Kd.R_lower HO.out (below_size HB1.out), below_step HB1.out HBr.out⟩
end Go.Proofs.YtmoodblpgnnenaaDoor.PLs
