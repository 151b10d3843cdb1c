/- A number put into a list that rises: walk. Helper text. -/
import Derived.Test.YtekbaconbemgpaaAuIns
namespace Go.Proofs.Ytekbaconbemgpaa.PWe
open Go.RowKit Go.Proofs.Ytekbaconbemgpaa.Kx Go.Proofs.YtekbaconbemgpaaW.PrintWords Go.Proofs.YtekbaconbemgpaaW.PrintLast Go.Proofs.YtekbaconbemgpaaW.PrintMore
set_option linter.unusedVariables false
set_option linter.unusedSimpArgs false

def putL (l : List Int) (n : Int) : List Int := if has_ l n = true then l else insL l (lowP l n) n
theorem has_iff {l : List Int} {n : Int} : has_ l n = true ↔ n ∈ l := by
  unfold has_
  rw [List.any_eq_true]
  constructor
  · rintro ⟨x, hx, he⟩
    have : n = x := by simpa using he
    rw [this]; exact hx
  · exact fun h => ⟨n, h, by simp⟩
theorem mem_insL {l : List Int} {i : Nat} {n x : Int} (h : x ∈ insL l i n) : x = n ∨ x ∈ l := by
  unfold insL at h
  rcases List.mem_append.1 h with h | h
  · exact .inr (List.mem_of_mem_take h)
  · rcases List.mem_cons.1 h with h | h
    · exact .inl h
    · exact .inr (List.mem_of_mem_drop h)
theorem ins_sorted {n : Int} : ∀ {l : List Int}, l.Pairwise (· < ·) → n ∉ l → (insL l (lowP l n) n).Pairwise (· < ·)
  | [], _, _ => by simp [insL, lowP]
  | x :: r, hs, hn => by
    have hs := List.pairwise_cons.1 hs
    have hxn : x ≠ n := fun e => hn (by rw [e]; simp)
    by_cases h : x < n
    · have e : lowP (x :: r) n = lowP r n + 1 := by
        unfold lowP
        rw [List.takeWhile_cons_of_pos (by simpa using h)]; rfl
      have ih := ins_sorted hs.2 (fun hm => hn (List.mem_cons_of_mem _ hm))
      rw [e]
      show (x :: insL r (lowP r n) n).Pairwise (· < ·)
      refine List.pairwise_cons.2 ⟨fun y hy => ?_, ih⟩
      rcases mem_insL hy with rfl | hy
      · exact h
      · exact hs.1 y hy
    · have e : lowP (x :: r) n = 0 := by
        unfold lowP
        rw [List.takeWhile_cons_of_neg (by simpa using h)]; rfl
      rw [e]
      show (n :: x :: r).Pairwise (· < ·)
      refine List.pairwise_cons.2 ⟨fun y hy => ?_, List.pairwise_cons.2 hs⟩
      rcases List.mem_cons.1 hy with rfl | hy
      · omega
      · have := hs.1 y hy
        omega
theorem putL_sorted {l : List Int} {n : Int} (hs : l.Pairwise (· < ·)) : (putL l n).Pairwise (· < ·) := by
  unfold putL
  split
  · exact hs
  · rename_i h
    exact ins_sorted hs (fun hm => h (has_iff.2 hm))
theorem lowP_le (l : List Int) (n : Int) : lowP l n ≤ l.length := (List.takeWhile_sublist _).length_le
theorem putL_len (l : List Int) (n : Int) : (putL l n).length ≤ l.length + 1 := by
  unfold putL
  split
  · omega
  · rw [insL_len n (lowP_le l n)]; omega
set_option maxHeartbeats 1000000 in
theorem put_calls (v : Value) (l : List Int) (n : Int) (base : Nat) (ok : Nat → Prop) (w : World) (hv : Kd.R (Kd.int .i64) 3 w base ok v l) (hl : l.length ≤ 999999) (hs : l.Pairwise (· < ·)) (hbase : base ≤ w.heap.size) (hfresh : ∀ k, w.heap.size ≤ k → ok k) :
    Calls Try.prog 81 #[v, .int .i64 n] w fun e w' => ∃ v1, e = .returned v1 ∧ Kd.R (Kd.int .i64) 3 w' base ok v1 (putL l n) ∧ w.grownBy w' v.ownBlock ∧ (v1.ownBlock = v.ownBlock ∨ ∃ b, v1.ownBlock = some b ∧ w.heap.size ≤ b) := by
  obtain ⟨A, c, rfl⟩ := Kd.R_slice hv
  have HV := Aside0.mk hv
  have HS := Aside0.mk hs
  have HOK := Aside0.mk hfresh
  have HBC := Aside0.mk (binary_calls A c l n w (Kd.R_reads' hv).2.2 (by omega) hs)
  obtain ⟨P, hP⟩ : ∃ P, putL l n = P := ⟨_, rfl⟩
  rw [hP]
  unfold putL at hP
  have hlow := lowP_le l n
  obtain ⟨i, hi⟩ : ∃ i, lowP l n = i := ⟨_, rfl⟩
  obtain ⟨b, hb⟩ : ∃ b, has_ l n = b := ⟨_, rfl⟩
  rw [hi, hb] at hP HBC
  rw [hi] at hlow
  have HP := Aside0.mk hP
  clear hv hs hfresh hP hi hb
  go_enter Try.func81, Try.ntmps81
  go_wp2_with fail
  refine HBC.out.mono ?_
  rintro e w2 ⟨rfl, rfl⟩
  cases b
  · have hPi : insL l i n = P := HP.out
    subst hPi
    go_wp2_with fail
    have hsz : (w2.alloc (.cells #[.int .i64 n] 3)).heap.size = w2.heap.size + 1 := by simp
    have hx := blk_new w2 (.cells #[.int .i64 n] 3)
    have ho := (Kd.own_of_R HV.out).alloc (.cells #[.int .i64 n] 3)
    refine (insert_calls _ l i n w2.heap.size base _ hlow (by omega) ho hx (fun e => ?_) (by omega)).mono ?_
    · have := Kd.R_lt HV.out _ e
      omega
    rintro e w3 ⟨v1, rfl, ho1, hg, hat⟩
    have hga : w2.grownBy w3 (Value.slice A l.length c).ownBlock := World.grownBy.trans (World.grownBy_alloc w2 _ _) hg
    have hat2 : v1.ownBlock = (Value.slice A l.length c).ownBlock ∨ ∃ b, v1.ownBlock = some b ∧ w2.heap.size ≤ b := hat.imp id fun h => ⟨_, h, by omega⟩
    have hR1 := Aside0.mk (Kd.R_of_own (h1 := fun _ => rfl) (ok := ok) ho1 (fun k hk => by
      rcases hat2 with e | ⟨b, e, hb⟩
      · exact HV.out.1 k (by rw [← e]; exact hk)
      · rw [e] at hk
        injection hk with hk
        exact HOK.out k (by omega)))
    have HG := Aside0.mk hga
    have HAT := Aside0.mk hat2
    clear ho1 hg hat hga hat2 hx ho
    go_wp2_with fail
    go_ret
    exact ⟨v1, rfl, hR1.out, HG.out, HAT.out⟩
  · have hPi : l = P := HP.out
    subst hPi
    go_wp2_with fail
    go_ret
    exact ⟨_, rfl, HV.out, grown_refl _ _, .inl rfl⟩
end Go.Proofs.Ytekbaconbemgpaa.PWe
