/- What the trees of small functions come to: whether a sized track may be, raising, lengths. No condition beyond what each states. -/
import Derived.Test.YtbebnjiolaomdaaT
import Derived.Test.YtbebnjiolaomdaaKw
set_option linter.unusedVariables false
set_option linter.unusedSimpArgs false
namespace Go.Proofs.Ytbebnjiolaomdaa.T
open Go Go.Proofs.Ytbebnjiolaomdaa.Sx Go.Proofs.Ytbebnjiolaomdaa.M
theorem bg1_sp (a lo hi : Int) : Says tr c_base_Good_1 [I a, I lo, I hi] [B (decide (lo ≤ a) && decide (a ≤ hi))] := by
 refine Says.of (t := base_Good_1) rfl ?_
 rw [u_base_Good_1]
 simp (disch := first | omega | (simp only [ln0]; omega)) only [rs, reduceIte, Nat.reduceAdd, ge_iff_le]
theorem bgood_sp (x : Sz) : Says tr c_base_Good (eSz x) [B (decide (Gd x))] := by
 refine Says.of (t := base_Good) rfl ?_
 rw [u_base_Good]
 obtain ⟨mn, mx, fr, fit, cap, base, lim⟩ := x
 simp only [eSz]
 simp (disch := first | omega | (simp only [ln0]; omega)) only [rs, reduceIte, Nat.reduceAdd, xcall_of (bg1_sp _ _ _), base_Good_j0, List.length_cons, List.length_nil, bx, reduceCtorEq, forall_const, ne_eq]
 unfold Gd
 cases fit <;> (repeat' (refine br_split ?_ ?_ <;> intro _)) <;> simp only [xbret, bx, reduceCtorEq, forall_const, ne_eq] at * <;> omega
theorem braise_sp (x : Sz) : Says tr c_base_Raise (eSz x) (eSz { x with lim := max x.lim x.base }) := by
 refine Says.of (t := base_Raise) rfl ?_
 rw [u_base_Raise]
 simp only [eSz]
 simp (disch := first | omega | (simp only [ln0]; omega)) only [rs, reduceIte, Nat.reduceAdd, base_Raise_j0]
 refine br_split ?_ ?_ <;> intro _
 · have : max x.lim x.base = x.base := by omega
   rw [this]
 · have : max x.lim x.base = x.lim := by omega
   rw [this]
theorem is_sp (x : Int) : Says tr c_fixed_Is [I x] [B (decide (-68719476736 ≤ x) && decide (x ≤ 68719476736))] := by
 refine Says.of (t := fixed_Is) rfl ?_
 rw [u_fixed_Is]
 simp (disch := first | omega | (simp only [ln0]; omega)) only [rs, reduceIte, Nat.reduceAdd, ge_iff_le]
end Go.Proofs.Ytbebnjiolaomdaa.T
