/- The plain law of IntrinsicSizes: what the trees come to answers as the statement says. No condition. -/
import Derived.Test.YtbebnjiolaomdaaGreatT
import Derived.Test.YtbebnjiolaomdaaGreatKin0
import Derived.Test.YtbebnjiolaomdaaGreatKr6
import Derived.Test.YtbebnjiolaomdaaGreatKsame
set_option linter.unusedVariables false
set_option linter.unusedSimpArgs false
set_option maxRecDepth 10000
namespace Go.Proofs.YtbebnjiolaomdaaGreat
open Go Go.Proofs.YtbebnjiolaomdaaGreat.Sx Go.Proofs.YtbebnjiolaomdaaGreat.M Go.Proofs.YtbebnjiolaomdaaGreat.T
theorem light_sp (s : List Sz) (a : List Int) (ws : List Wn) : Says tr c_law24_light [rowOf eSz s, ints a, rowOf eWn ws] [B (decide (s.length ≤ 60) && decide (a.length ≤ 60) && decide (ws.length ≤ 60))] := by
 refine Says.of (t := law24_light) rfl ?_
 rw [u_law24_light]
 have h : ∀ x : Nat, decide ((x : Int) ≤ 60) = decide (x ≤ 60) := fun x => by rw [decide_eq_decide]; omega
 simp (disch := first | omega | (simp only [ln0]; omega)) only [rs, reduceIte, Nat.reduceAdd, h]
theorem PureIntrinsicSizes : Pure_IntrinsicSizes := by
 intro p0 p1 p2 p3 hp0 _ hb0 hp1 hw1 hb1 hp2 hw2 hb2 hp3 hw3
 obtain ⟨s, rfl⟩ := sz_open hp0
 obtain ⟨a, rfl⟩ := ints_open hp1
 obtain ⟨ws, rfl⟩ := wn_open hp2
 obtain ⟨mode, rfl⟩ := int_open hp3
 refine Says.told (tr := tr) (f := c_law24_IntrinsicSizes) (args := [rowOf eSz s, ints a, rowOf eWn ws, I mode]) ?_
 refine Says.of (t := law24_IntrinsicSizes) rfl ?_
 rw [u_law24_IntrinsicSizes]
 simp (disch := first | omega | (simp only [ln0]; omega)) only [rs, reduceIte, Nat.reduceAdd, xcall_of (light_sp s a ws), xcall_of lives_sp, bx, reduceCtorEq, forall_const, ne_eq]
 refine br_split ?_ ?_ <;> intro _
 · rename_i hlen
   have hs : s.length ≤ 60 := by omega
   have ha : a.length ≤ 60 := by omega
   have hwl : ws.length ≤ 60 := by omega
   have h1 := isize_sp s a ws mode (by omega) (by omega)
   have h2 := rsize_size s a ws mode (by omega) (by omega) (by omega)
   have he : (if goodI s a ws mode = true then sizeR24 s a ws mode else []) = (sizeR s a ws mode).1 ∧ (if goodI s a ws mode = true then (0 : Int) else 2) = (sizeR s a ws mode).2 ∧ (sizeR s a ws mode).1.length ≤ 60 := by
    unfold sizeR
    by_cases hg : goodI s a ws mode = true
    · have hl := sizeR_len s a ws mode hg
      unfold sizeR at hl
      rw [if_pos hg] at hl
      rw [if_pos hg, if_pos hg, if_pos hg, size_is hg hs]
      exact ⟨rfl, rfl, by rw [hl]; exact hs⟩
    · rw [if_neg hg, if_neg hg, if_neg hg]
      exact ⟨rfl, rfl, by simp⟩
   rw [he.1, he.2.1] at h2
   have h3 := same_sp (sizeR s a ws mode).1 (sizeR s a ws mode).1 (by omega)
   simp (disch := first | omega | (simp only [ln0]; omega)) only [rs, reduceIte, Nat.reduceAdd, xcall_of h1, xcall_of h2, xcall_of h3, beq_self_eq_true, decide_true, Bool.and_true, xcall_of lives_sp, bx, reduceCtorEq, forall_const, ne_eq]
   try rw [br_pos rfl]
   try rfl
 · trivial
end Go.Proofs.YtbebnjiolaomdaaGreat
