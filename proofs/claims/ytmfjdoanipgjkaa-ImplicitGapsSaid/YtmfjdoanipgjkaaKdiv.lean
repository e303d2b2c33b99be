/- What the trees of the quotients rounded down come to, by a number above 0. No condition beyond what each states. -/
import Derived.Test.YtmfjdoanipgjkaaT
import Derived.Test.YtmfjdoanipgjkaaKw
set_option linter.unusedVariables false
set_option linter.unusedSimpArgs false
namespace Go.Proofs.Ytmfjdoanipgjkaa.T
open Go Go.Proofs.Ytmfjdoanipgjkaa.Sx Go.Proofs.Ytmfjdoanipgjkaa.M
theorem tdiv_pos (a b : Int) (hb : 0 < b) : (if ¬ a.tmod b = 0 ∧ a < 0 then a.tdiv b - 1 else a.tdiv b) = a / b ∧ -((if a < 0 then -a else a)) ≤ a.tdiv b ∧ a.tdiv b ≤ (if a < 0 then -a else a) := by
  have h1 := Int.mul_ediv_add_emod a b
  have h2 := Int.emod_nonneg a (b := b) (by omega)
  have h3 := Int.emod_lt_of_pos a hb
  by_cases ha : 0 ≤ a
  · have e1 : a.tdiv b = a / b := Int.tdiv_eq_ediv_of_nonneg ha
    have h4 : 0 ≤ a / b := Int.ediv_nonneg ha (by omega)
    have h5 : a / b ≤ a := Int.ediv_le_self _ ha
    rw [if_neg (by omega), e1, if_neg (by omega)]
    omega
  · obtain ⟨m, rfl⟩ : ∃ m, a = -m := ⟨-a, by omega⟩
    have hm : 0 ≤ m := by omega
    have e1 : (-m).tdiv b = -(m / b) := by rw [Int.neg_tdiv, Int.tdiv_eq_ediv_of_nonneg hm]
    have e2 : (-m).tmod b = -(m % b) := by rw [Int.neg_tmod, Int.tmod_eq_emod_of_nonneg hm]
    have g1 := Int.mul_ediv_add_emod m b
    have g2 := Int.emod_nonneg m (b := b) (by omega)
    have g3 := Int.emod_lt_of_pos m hb
    have h4 : 0 ≤ m / b := Int.ediv_nonneg hm (by omega)
    have h5 : m / b ≤ m := Int.ediv_le_self _ hm
    rw [e1, e2]
    refine ⟨?_, by rw [if_pos (by omega)]; omega, by rw [if_pos (by omega)]; omega⟩
    by_cases hz : m % b = 0
    · rw [if_neg (by omega)]
      have e : -m = 0 + b * (-(m / b)) := by rw [Int.mul_neg]; omega
      rw [e, Int.add_mul_ediv_left _ _ (by omega)]
      simp
    · rw [if_pos ⟨by omega, by omega⟩]
      have e0 : b * (-(m / b) - 1) = -(b * (m / b)) - b := by rw [Int.mul_sub, Int.mul_neg, Int.mul_one]
      have e : -m = (b - m % b) + b * (-(m / b) - 1) := by omega
      have e1 : (b - m % b) / b = 0 := Int.ediv_eq_zero_of_lt (by omega) (by omega)
      rw [e, Int.add_mul_ediv_left _ _ (by omega), e1]
      omega
theorem div_sp (a b : Int) (ha : -4611686018427387904 ≤ a ∧ a ≤ 4611686018427387904) (hb : 0 < b) : Says tr c_fixed_Div [I a, I b] [I (a / b)] := by
  refine Says.of (t := fixed_Div) rfl ?_
  rw [u_fixed_Div]
  obtain ⟨h1, h2, h3⟩ := tdiv_pos a b hb
  have hb0 : ¬ b = 0 := by omega
  have hb1 : ¬ b = -1 := by omega
  have hb2 : ¬ b < 0 := by omega
  have hlo : -4611686018427387904 ≤ a.tdiv b ∧ a.tdiv b ≤ 4611686018427387904 := by
    revert h2 h3
    split <;> omega
  simp (disch := first | omega | (simp only [List.length_set, List.length_map, List.length_replicate, List.length_append, List.length_modify]; omega)) only [xrun_ret, run_ite, run_fail, run_letj, xrun_loop, run_jump, xrun_call, jmp_join, jmp_loop, br_fail, br_true, br_false, xden_var, den_int, den_bool, den_str, den_nil, den_nilc, den_un, den_bin, den_tri, xon_and, xon_or, on_beq, xon_not, on_len, on_neg, on_conv, on_max, on_min, on_snoc, on_cat, on_cons, on_make, on_copy, on_plus, on_minus, on_cell, on_sel, on_slice, on_set, on_put, on_cmp, on_ar, ev_lss, ev_leq, ev_gtr, ev_geq, ev_eql, ev_neq, ar_add, ar_sub, ar_mul, ar_quo, ar_rem, pi_int, b_bool, r_row, c_cells, rowOf_r, List.map_cons, List.map_nil, List.cons_append, List.nil_append, List.getD_cons_zero, List.getD_cons_succ, List.getElem?_cons_zero, List.getElem?_cons_succ, List.take_zero, List.take_succ_cons, List.length_map, Int.toNat_natCast, decide_eq_true_eq, Int.ofNat_lt, Int.ofNat_le, xnat_nonneg, true_and, and_true, if_true, if_false, reduceIte, wrap_in, xints_at, xbools_at, xints_set, xints_snoc, xints_make, xints_nil, xbools_set, xbools_snoc, xbools_make, xcopy_make, List.length_replicate, List.length_cons, List.length_nil, Nat.reduceAdd, Bool.not_and, Bool.not_or, Bool.not_not, Bool.and_eq_true, Bool.or_eq_true, Bool.not_eq_true', Bool.and_eq_false_imp, Bool.or_eq_false_iff, decide_eq_false_iff_not, decide_eq_true_eq, beq_iff_eq, beq_eq_false_iff_ne, bne_iff_ne, bne_eq_false_iff_eq, ne_eq, gt_iff_lt, ge_iff_le, Bool.false_eq_true, Bool.true_eq_false, beq_self_eq_true, beq_true, beq_false, Bool.not_false, Bool.not_true, Bool.false_and, Bool.true_and, Bool.and_true, Bool.and_false, Bool.or_true, Bool.true_or, Bool.or_false, Bool.false_or, false_and, true_and, and_false, and_true, or_false, or_true, false_or, true_or, not_true_eq_false, not_false_eq_true, false_iff, iff_false, true_iff, iff_true, forall_const, false_imp_iff, true_imp_iff, reduceCtorEq, imp_false, hb0, hb1, hb2, decide_false, u_fixed_Div_j0]
  rw [← h1]
  refine br_split ?_ ?_ <;> intro _
  · rename_i h; rw [if_pos h]
  · rename_i h; rw [if_neg h]
end Go.Proofs.Ytmfjdoanipgjkaa.T
