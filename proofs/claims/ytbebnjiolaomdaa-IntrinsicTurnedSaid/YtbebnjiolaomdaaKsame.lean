/- What the test whether two rows of sized tracks are the same comes to. No condition beyond what it states. -/
import Derived.Test.YtbebnjiolaomdaaT
import Derived.Test.YtbebnjiolaomdaaKw
set_option linter.unusedVariables false
set_option linter.unusedSimpArgs false
namespace Go.Proofs.Ytbebnjiolaomdaa.T
open Go Go.Proofs.Ytbebnjiolaomdaa.Sx Go.Proofs.Ytbebnjiolaomdaa.M
theorem same_sp (a b : List Sz) (hl : a.length ≤ 1000000000) : Says tr c_ref22_Same [rowOf eSz a, rowOf eSz b] [B (decide (a = b))] := by
 refine Says.of (t := ref22_Same) rfl ?_
 rw [u_ref22_Same]
 simp (disch := first | omega | (simp only [ln0]; omega)) only [rs, reduceIte, Nat.reduceAdd, bx, reduceCtorEq, forall_const, ne_eq, Int.natCast_inj]
 refine br_split ?_ ?_ <;> intro _
 · rename_i h
   have : a ≠ b := by rintro rfl; exact h rfl
   simp only [this, decide_false]
 · rename_i h
   simp only [Classical.not_not] at h
   have key := xup_ind (n := a.length) (P := fun i => decide (a.drop i = b.drop i) = decide (a = b) → Run tr ref22_Same_l0 [rowOf eSz a, rowOf eSz b, I i] [.loop ref22_Same_l0 [rowOf eSz a, rowOf eSz b]] [B (decide (a = b))]) ?_ 0 (Nat.zero_le _)
   · simpa using key rfl
   intro i hi ih hall
   rw [u_ref22_Same_l0]
   by_cases hi' : i < a.length
   · have hib : i < b.length := by omega
     rw [List.drop_eq_getElem_cons hi', List.drop_eq_getElem_cons hib] at hall
     have e : ((a[i].mn = b[i].mn) ∧ (a[i].mx = b[i].mx) ∧ (a[i].fr = b[i].fr) ∧ (a[i].fit = b[i].fit) ∧ (a[i].cap = b[i].cap) ∧ (a[i].base = b[i].base) ∧ (a[i].lim = b[i].lim)) ↔ a[i] = b[i] := by
      cases ha : a[i]
      cases hb : b[i]
      simp
     simp (disch := first | omega | (simp only [ln0]; omega)) only [rs, reduceIte, Nat.reduceAdd, hi', hib, sz_at0, sz_at1, sz_at2, sz_at3, sz_at4, sz_at5, sz_at6, sz_snoc, sz_set, sz_put5, sz_put6, bx, reduceCtorEq, forall_const, ne_eq, e]
     refine br_split ?_ ?_ <;> intro _
     · rename_i hc
       refine ih hi' ?_
       rw [← hall, hc]
       simp only [List.cons.injEq, true_and]
     · rename_i hc
       rw [← hall]
       simp only [List.cons.injEq, hc, false_and, decide_false]
   · rw [List.drop_of_length_le (by omega), List.drop_of_length_le (by omega)] at hall
     simp (disch := first | omega | (simp only [ln0]; omega)) only [rs, reduceIte, Nat.reduceAdd, hi']
     rw [← hall]
     rfl
end Go.Proofs.Ytbebnjiolaomdaa.T
