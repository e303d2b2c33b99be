/- The plain law of IntrinsicMore: what the trees come to answers as the statement says. No condition. -/
import Derived.Test.YtbebnjiolaomdaaT
import Derived.Test.YtbebnjiolaomdaaKin0
import Derived.Test.YtbebnjiolaomdaaKbd
set_option linter.unusedVariables false
set_option linter.unusedSimpArgs false
set_option maxRecDepth 10000
namespace Go.Proofs.Ytbebnjiolaomdaa
open Go Go.Proofs.Ytbebnjiolaomdaa.Sx Go.Proofs.Ytbebnjiolaomdaa.M Go.Proofs.Ytbebnjiolaomdaa.T
theorem light_sp (s : List Sz) (a : List Int) (ws : List Wn) : Says tr c_law24_light [rowOf eSz s, ints a, rowOf eWn ws] [B (decide (s.length ≤ 60) && decide (a.length ≤ 60) && decide (ws.length ≤ 60))] := by
  refine Says.of (t := law24_light) rfl ?_
  rw [u_law24_light]
  have h : ∀ x : Nat, decide ((x : Int) ≤ 60) = decide (x ≤ 60) := fun x => by rw [decide_eq_decide]; omega
  simp (disch := first | omega | (simp only [ln0]; omega)) only [rs0, rs1, rs2, rs3, rs4, rs5, rs6, rs7, reduceIte, Nat.reduceAdd, h]
theorem PureIntrinsicMore : Pure_IntrinsicMore := by
  intro p0 p1 p2 p3 hp0 _ hb0 hp1 hw1 hb1 hp2 hw2 hb2 hp3 hw3
  obtain ⟨s, rfl⟩ := sz_open hp0
  obtain ⟨a, rfl⟩ := ints_open hp1
  obtain ⟨ws, rfl⟩ := wn_open hp2
  obtain ⟨mode, rfl⟩ := int_open hp3
  refine Says.told (tr := tr) (f := c_law24_IntrinsicMore) (args := [rowOf eSz s, ints a, rowOf eWn ws, I mode]) ?_
  refine Says.of (t := law24_IntrinsicMore) rfl ?_
  rw [u_law24_IntrinsicMore]
  simp (disch := first | omega | (simp only [ln0]; omega)) only [rs0, rs1, rs2, rs3, rs4, rs5, rs6, rs7, reduceIte, Nat.reduceAdd, xcall_of (light_sp s a ws), xcall_of lives_sp, bx0, bx1, bx2, bx3, reduceCtorEq, forall_const, ne_eq]
  refine br_split ?_ ?_ <;> intro _
  · rename_i hlen
    have hs : s.length ≤ 60 := by omega
    have ha : a.length ≤ 60 := by omega
    simp (disch := first | omega | (simp only [ln0]; omega)) only [rs0, rs1, rs2, rs3, rs4, rs5, rs6, rs7, reduceIte, Nat.reduceAdd, xcall_of (isize_sp s a ws mode (by omega) (by omega)), bx0, bx1, bx2, bx3, reduceCtorEq, forall_const, ne_eq]
    unfold sizeR
    by_cases hg : goodI s a ws mode = true
    · rw [if_pos hg]
      obtain ⟨hf, hb⟩ := good_fit hg hs
      have hu := sizeS_up hf hb (decide (mode ≠ 0)) (decide (mode = 2))
      have hl := sizeS_lim hf hb (decide (mode ≠ 0)) (decide (mode = 2))
      have hul := hu.1
      have hu2 := hu.2
      simp only
      generalize sizeS s a ws (decide (mode ≠ 0)) (decide (mode = 2)) = R at *
      rw [br_neg (by simp [hul])]
      have key : ∀ j, j ≤ R.length → Run tr law24_IntrinsicMore_l0 [rowOf eSz s, ints a, rowOf eWn ws, I mode, B (decide (s.length ≤ 60) && decide (a.length ≤ 60) && decide (ws.length ≤ 60)), rowOf eSz R, I 0, I j] [.loop law24_IntrinsicMore_l0 [rowOf eSz s, ints a, rowOf eWn ws, I mode, B (decide (s.length ≤ 60) && decide (a.length ≤ 60) && decide (ws.length ≤ 60)), rowOf eSz R, I 0]] [B true] := by
        refine xup_ind fun j hj ih => ?_
        rw [u_law24_IntrinsicMore_l0]
        by_cases h : j < R.length
        · have hjs : j < s.length := by omega
          have ih' := ih h
          obtain ⟨u1, u2, u3, u4, u5, u6, u7⟩ := hu2 j hjs h
          obtain ⟨l1, l2⟩ := hl _ (List.getElem_mem h)
          have hlf : (R[j].fit == s[j].fit) = true := by rw [u4]; simp
          simp (disch := first | omega | (simp only [ln0]; omega)) only [rs0, rs1, rs2, rs3, rs4, rs5, rs6, rs7, reduceIte, Nat.reduceAdd, h, hjs, sz_at0, sz_at1, sz_at2, sz_at3, sz_at4, sz_at5, sz_at6, sz_snoc, sz_set, sz_put5, sz_put6, bx0, bx1, bx2, bx3, reduceCtorEq, forall_const, ne_eq, on_beq, hlf, u4, beq_self_eq_true]
          rw [br_neg (by omega)]
          exact ih'
        · have h' : ¬ j < s.length := by omega
          simp (disch := first | omega | (simp only [ln0]; omega)) only [rs0, rs1, rs2, rs3, rs4, rs5, rs6, rs7, reduceIte, Nat.reduceAdd, h, h', hul, xcall_of lives_sp, bx0, bx1, bx2, bx3, reduceCtorEq, forall_const, ne_eq, beq_self_eq_true]
          try rw [br_pos trivial]
          try trivial
      exact key 0 (Nat.zero_le _)
    · rw [if_neg hg]
      simp only
      rw [br_pos (by simp)]
      simp (disch := first | omega | (simp only [ln0]; omega)) only [rs0, rs1, rs2, rs3, rs4, rs5, rs6, rs7, reduceIte, Nat.reduceAdd, bx0, bx1, bx2, bx3, reduceCtorEq, forall_const, ne_eq, xcall_of lives_sp]
      try rw [br_pos (by simp)]
      try trivial
  · trivial
end Go.Proofs.Ytbebnjiolaomdaa
