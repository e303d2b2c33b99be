/- What the reference's tree comes to that finds how much one fr is, by what is wanted. No condition beyond what each states. -/
import Derived.Test.YtpaabecgngbjcaaT
import Derived.Test.YtpaabecgngbjcaaKflg
set_option linter.unusedVariables false
set_option linter.unusedSimpArgs false
set_option maxRecDepth 10000
namespace Go.Proofs.Ytpaabecgngbjcaa.T
open Go Go.Proofs.Ytpaabecgngbjcaa.Sx Go.Proofs.Ytpaabecgngbjcaa.M

theorem rg4_run (s : List Sz) (a : List Int) (ws : List Wn) (p3 p4 p5 : PV) (n : Int) (k : Nat) (J0 : JT) (r : List PV) (hl : s.length ≤ 10000) (ha : a.all lenB = true) (hal : a.length = s.length) (hwl : ws.length ≤ 4096) (h : k < ws.length) (fm to : Nat) (hfm : ws[k].fm = fm) (hto : ws[k].to = to) (hft : fm < to) (hts : to ≤ s.length) :
    ∀ i, i ≤ to → fm + 1 ≤ i → ∀ x : Int, 0 ≤ x → x ≤ 68719476736 →
      Run tr ref26_Grow_l3 [rowOf eSz s, ints a, rowOf eWn ws, p3, p4, p5, I (k + 1 : Nat), I (max n (unitS ((s.drop fm).take (to - fm)) (lessS x ((a.drop i).take (to - i)))))] [J0, .loop ref26_Grow_l3 [rowOf eSz s, ints a, rowOf eWn ws, p3, p4, p5]] r →
      Run tr ref26_Grow_l4 [rowOf eSz s, ints a, rowOf eWn ws, p3, p4, p5, I k, I n, I i, I x] [J0, .loop ref26_Grow_l3 [rowOf eSz s, ints a, rowOf eWn ws, p3, p4, p5], .loop ref26_Grow_l4 [rowOf eSz s, ints a, rowOf eWn ws, p3, p4, p5, I k, I n]] r := by
  refine xup_ind fun i hi ih => ?_
  intro hfi x hx0 hx1 hrun
  by_cases hc : i < to
  · have hia : i < a.length := by omega
    have hg := List.all_eq_true.1 ha _ (List.getElem_mem hia)
    simp only [lenB, Bool.and_eq_true, decide_eq_true_eq] at hg
    have e : (a.drop i).take (to - i) = a[i] :: (a.drop (i + 1)).take (to - (i + 1)) := by
      rw [List.drop_eq_getElem_cons hia, show to - i = (to - (i + 1)) + 1 by omega, List.take_succ_cons]
    rw [e] at hrun
    simp only [lessS] at hrun
    have hn := ih hc (by omega) (max 0 (x - a[i])) (by omega) (by omega) hrun
    have em : (if x - a[i] > 0 then x - a[i] else 0) = max 0 (x - a[i]) := by omega
    rw [u_ref26_Grow_l4]
    simp (disch := first | omega | (simp only [List.length_set, List.length_map, List.length_replicate, List.length_append, List.length_modify]; omega)) only [xrun_ret, run_ite, run_fail, run_letj, xrun_loop, run_jump, xrun_call, jmp_join, jmp_loop, br_fail, br_true, br_false, xden_var, den_int, den_bool, den_str, den_nil, den_nilc, den_un, den_bin, den_tri, xon_and, xon_or, on_beq, xon_not, on_len, on_neg, on_conv, on_max, on_min, on_snoc, on_cat, on_cons, on_make, on_copy, on_plus, on_minus, on_cell, on_sel, on_slice, on_set, on_put, on_cmp, on_ar, ev_lss, ev_leq, ev_gtr, ev_geq, ev_eql, ev_neq, ar_add, ar_sub, ar_mul, ar_quo, ar_rem, pi_int, b_bool, r_row, c_cells, rowOf_r, List.map_cons, List.map_nil, List.cons_append, List.nil_append, List.getD_cons_zero, List.getD_cons_succ, List.getElem?_cons_zero, List.getElem?_cons_succ, List.take_zero, List.take_succ_cons, List.length_map, Int.toNat_natCast, decide_eq_true_eq, Int.ofNat_lt, Int.ofNat_le, xnat_nonneg, true_and, and_true, if_true, if_false, reduceIte, wrap_in, xints_at, xbools_at, xints_set, xints_snoc, xints_make, xints_nil, xbools_set, xbools_snoc, xbools_make, xcopy_make, List.length_replicate, List.length_cons, List.length_nil, Nat.reduceAdd, h, hc, wn_at1 _ _ h, hto, hia, em, Bool.not_and, Bool.not_or, Bool.not_not, Bool.and_eq_true, Bool.or_eq_true, Bool.not_eq_true', Bool.and_eq_false_imp, Bool.or_eq_false_iff, decide_eq_false_iff_not, decide_eq_true_eq, beq_iff_eq, beq_eq_false_iff_ne, bne_iff_ne, bne_eq_false_iff_eq, ne_eq, gt_iff_lt, ge_iff_le, Bool.false_eq_true, Bool.true_eq_false, beq_self_eq_true, beq_true, beq_false, Bool.not_false, Bool.not_true, Bool.false_and, Bool.true_and, Bool.and_true, Bool.and_false, Bool.or_true, Bool.true_or, Bool.or_false, Bool.false_or, false_and, true_and, and_false, and_true, or_false, or_true, false_or, true_or, not_true_eq_false, not_false_eq_true, false_iff, iff_false, true_iff, iff_true, forall_const, false_imp_iff, true_imp_iff, reduceCtorEq, imp_false]
    first | exact hn | exact ⟨by omega, hn⟩
  · obtain rfl : i = to := by omega
    simp only [Nat.sub_self, List.take_zero, lessS] at hrun
    have hunit := runit_sp ((s.drop fm).take (i - fm)) x (by simp; omega)
    have e0 : ((i : Int) - (fm : Int)).toNat = i - fm := by omega
    have em : (if unitS ((s.drop fm).take (i - fm)) x > n then unitS ((s.drop fm).take (i - fm)) x else n) = max n (unitS ((s.drop fm).take (i - fm)) x) := by omega
    have g1 : (fm : Int) ≤ i := by omega
    rw [u_ref26_Grow_l4]
    simp (disch := first | omega | (simp only [List.length_set, List.length_map, List.length_replicate, List.length_append, List.length_modify]; omega)) only [xrun_ret, run_ite, run_fail, run_letj, xrun_loop, run_jump, xrun_call, jmp_join, jmp_loop, br_fail, br_true, br_false, xden_var, den_int, den_bool, den_str, den_nil, den_nilc, den_un, den_bin, den_tri, xon_and, xon_or, on_beq, xon_not, on_len, on_neg, on_conv, on_max, on_min, on_snoc, on_cat, on_cons, on_make, on_copy, on_plus, on_minus, on_cell, on_sel, on_slice, on_set, on_put, on_cmp, on_ar, ev_lss, ev_leq, ev_gtr, ev_geq, ev_eql, ev_neq, ar_add, ar_sub, ar_mul, ar_quo, ar_rem, pi_int, b_bool, r_row, c_cells, rowOf_r, List.map_cons, List.map_nil, List.cons_append, List.nil_append, List.getD_cons_zero, List.getD_cons_succ, List.getElem?_cons_zero, List.getElem?_cons_succ, List.take_zero, List.take_succ_cons, List.length_map, Int.toNat_natCast, decide_eq_true_eq, Int.ofNat_lt, Int.ofNat_le, xnat_nonneg, true_and, and_true, if_true, if_false, reduceIte, wrap_in, xints_at, xbools_at, xints_set, xints_snoc, xints_make, xints_nil, xbools_set, xbools_snoc, xbools_make, xcopy_make, List.length_replicate, List.length_cons, List.length_nil, Nat.reduceAdd, h, hc, wn_at0 _ _ h, wn_at1 _ _ h, hto, hfm, hts, g1, e0, row_sl, xcall_of hunit, em, Bool.not_and, Bool.not_or, Bool.not_not, Bool.and_eq_true, Bool.or_eq_true, Bool.not_eq_true', Bool.and_eq_false_imp, Bool.or_eq_false_iff, decide_eq_false_iff_not, decide_eq_true_eq, beq_iff_eq, beq_eq_false_iff_ne, bne_iff_ne, bne_eq_false_iff_eq, ne_eq, gt_iff_lt, ge_iff_le, Bool.false_eq_true, Bool.true_eq_false, beq_self_eq_true, beq_true, beq_false, Bool.not_false, Bool.not_true, Bool.false_and, Bool.true_and, Bool.and_true, Bool.and_false, Bool.or_true, Bool.true_or, Bool.or_false, Bool.false_or, false_and, true_and, and_false, and_true, or_false, or_true, false_or, true_or, not_true_eq_false, not_false_eq_true, false_iff, iff_false, true_iff, iff_true, forall_const, false_imp_iff, true_imp_iff, reduceCtorEq, imp_false]
    first | exact hrun | exact ⟨by omega, hrun⟩
end Go.Proofs.Ytpaabecgngbjcaa.T
