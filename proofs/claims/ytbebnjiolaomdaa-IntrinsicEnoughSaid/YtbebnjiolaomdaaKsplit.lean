/- What the trees of Split come to: alike parts. No condition beyond what each states. -/
import Derived.Test.YtbebnjiolaomdaaT
import Derived.Test.YtbebnjiolaomdaaKw
import Derived.Test.YtbebnjiolaomdaaMspread
set_option linter.unusedVariables false
set_option linter.unusedSimpArgs false
namespace Go.Proofs.Ytbebnjiolaomdaa.T
open Go Go.Proofs.Ytbebnjiolaomdaa.Sx Go.Proofs.Ytbebnjiolaomdaa.M
theorem splits_eq {n p : Int} (hn : 0 ≤ n) (hp : 1 ≤ p) (hp1 : p ≤ 65536) : splitS n p = (List.range p.toNat).map (spl n p) := by
 unfold splitS
 rw [if_neg (by omega)]
theorem split_sp (n p : Int) (hn1 : n ≤ 9223372036854775806) : Says tr c_fixed_Split [I n, I p] [ints (splitS n p)] := by
 refine Says.of (t := fixed_Split) rfl ?_
 rw [u_fixed_Split]
 by_cases hbad : n < 0 ∨ p < 1 ∨ 65536 < p
 · have e : splitS n p = [] := by unfold splitS; rw [if_pos hbad]
   have hc : (n < 0 ∨ p < 1) ∨ p > 65536 := by omega
   simp (disch := first | omega | (simp only [ln0]; omega)) only [rs, reduceIte, Nat.reduceAdd, bx, reduceCtorEq, forall_const, ne_eq, e]
   simp only [gt_iff_lt] at hc
   simp only [hc, br_true]
 · have hc : ¬ ((n < 0 ∨ p < 1) ∨ 65536 < p) := by omega
   have hp0 : 0 ≤ p := by omega
   have hp1 : p ≤ 17592186044416 := by omega
   have hq0 : 0 ≤ n / p := Int.ediv_nonneg (by omega) (by omega)
   have hq1 : n / p ≤ n := Int.ediv_le_self p (by omega)
   have hdiv : n.tdiv p = n / p := Int.tdiv_eq_ediv_of_nonneg (by omega)
   have hmod : n.tmod p = n % p := Int.tmod_eq_emod_of_nonneg (by omega)
   simp (disch := first | omega | (simp only [ln0]; omega)) only [rs, reduceIte, Nat.reduceAdd, bx, reduceCtorEq, forall_const, ne_eq, hc, hp0, hp1]
   rw [splits_eq (by omega) (by omega) (by omega)]
   have hl : ((List.range p.toNat).map (spl n p)).length = (List.replicate p.toNat (0 : Int)).length := by simp
   have key := xup_ind (n := p.toNat) (P := fun i => Run tr fixed_Split_l0 [I n, I p, I i, ints (mix ((List.range p.toNat).map (spl n p)) (List.replicate p.toNat 0) i)] [.loop fixed_Split_l0 [I n, I p]] [ints ((List.range p.toNat).map (spl n p))]) ?_ 0 (Nat.zero_le _)
   · simpa [mix_zero] using key
   intro i hi ih
   rw [u_fixed_Split_l0]
   by_cases h : i < p.toNat
   · have hm := mix_len hl i
     rw [List.length_replicate] at hm
     have hne : p ≠ 0 := by omega
     have hset := mix_set (a := (List.range p.toNat).map (spl n p)) (s := List.replicate p.toNat (0 : Int)) (v := spl n p i) hl (by simpa using h) (by simp)
     have hs : spl n p i = n / p + (if (i : Int) < n % p then 1 else 0) := rfl
     rw [hs] at hset
     simp (disch := first | omega | (simp only [ln0]; omega)) only [rs, reduceIte, Nat.reduceAdd, h, hm, hne, hdiv, hmod, fixed_Split_j1, bne_iff_ne, ne_eq, not_false_eq_true, List.length_set, List.getElem_set_self, List.set_set]
     refine br_split ?_ ?_ <;> intro _
     · rename_i hlt
       rw [if_pos hlt] at hset
       rw [hset]
       exact ih h
     · rename_i hlt
       rw [if_neg hlt, Int.add_zero] at hset
       rw [hset]
       exact ih h
   · have : i = p.toNat := by omega
     subst this
     simp (disch := first | omega | (simp only [ln0]; omega)) only [rs, reduceIte, Nat.reduceAdd, Nat.lt_irrefl]
     rw [mix_full' hl (by simp)]
end Go.Proofs.Ytbebnjiolaomdaa.T
