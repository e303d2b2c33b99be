/- What the tree comes to that lets tracks grow by what was found for each. No condition beyond what each states. -/
import Derived.Test.YtpaabecgngbjcaaT
import Derived.Test.YtpaabecgngbjcaaKflb
set_option linter.unusedVariables false
set_option linter.unusedSimpArgs false
set_option maxRecDepth 10000
namespace Go.Proofs.Ytpaabecgngbjcaa.T
open Go Go.Proofs.Ytpaabecgngbjcaa.Sx Go.Proofs.Ytpaabecgngbjcaa.M

theorem gl6_run (s : List Sz) (p1 p2 p3 p4 p5 p6 p7 p8 : PV) (xs : List (List PV)) (J0 J1 J2 : JT) (hl : s.length ≤ 10000) :
    ∀ j, j ≤ s.length → ∀ pre : List Sz, pre.length = j →
      Run tr flex_Grow_l6 [rowOf eSz s, p1, p2, p3, p4, p5, p6, p7, p8, .row xs, I j, rowOf eSz (pre ++ s.drop j)] [J0, J1, J2, .loop flex_Grow_l6 [rowOf eSz s, p1, p2, p3, p4, p5, p6, p7, p8, .row xs]] [rowOf eSz (pre ++ growS (mapGet xs) j (s.drop j))] := by
  refine xup_ind fun j hj ih => ?_
  intro pre hp
  by_cases h : j < s.length
  · have hd := List.drop_eq_getElem_cons h
    have hlen : j < (pre ++ s.drop j).length := by simp; omega
    have hat : (pre ++ s.drop j)[j]'hlen = s[j] := by
      rw [List.getElem_append_right (by omega)]
      simp [hp]
    have hg : growS (mapGet xs) j (s.drop j) = raiseS s[j] (mapGet xs j) :: growS (mapGet xs) (j + 1) (s.drop (j + 1)) := by rw [hd]; rfl
    have hset : (pre ++ s.drop j).set j (raiseS s[j] (mapGet xs j)) = (pre ++ [raiseS s[j] (mapGet xs j)]) ++ s.drop (j + 1) := by
      rw [hd, List.set_append_right _ _ (by omega), hp, Nat.sub_self]
      simp only [List.set_cons_zero, List.append_assoc, List.singleton_append]
    have hi := ih h (pre ++ [raiseS s[j] (mapGet xs j)]) (by simp [hp])
    rw [← hset] at hi
    rw [hg, show pre ++ raiseS s[j] (mapGet xs j) :: growS (mapGet xs) (j + 1) (s.drop (j + 1)) = (pre ++ [raiseS s[j] (mapGet xs j)]) ++ growS (mapGet xs) (j + 1) (s.drop (j + 1)) by simp]
    generalize (pre ++ [raiseS s[j] (mapGet xs j)]) ++ growS (mapGet xs) (j + 1) (s.drop (j + 1)) = R at hi
    generalize pre ++ s.drop j = T at hlen hat hi
    generalize hv : mapGet xs (j : Int) = v at hi
    have hb := braise_sp ⟨s[j].mn, s[j].mx, s[j].fr, s[j].fit, s[j].cap, max s[j].base v, s[j].lim⟩
    have em : (if v > s[j].base then v else s[j].base) = max s[j].base v := by omega
    have hlen2 : j < (T.modify j fun y => { y with base := max s[j].base v }).length := by simpa using hlen
    have hat2 : (T.modify j fun y => { y with base := max s[j].base v })[j]'hlen2 = ⟨s[j].mn, s[j].mx, s[j].fr, s[j].fit, s[j].cap, max s[j].base v, s[j].lim⟩ := by
      rw [List.getElem_modify, if_pos rfl, hat]
    rw [u_flex_Grow_l6]
    simp (disch := first | omega | (simp only [List.length_set, List.length_map, List.length_replicate, List.length_append, List.length_modify]; omega)) only [xrun_ret, run_ite, run_fail, run_letj, xrun_loop, run_jump, xrun_call, jmp_join, jmp_loop, br_fail, br_true, br_false, xden_var, den_int, den_bool, den_str, den_nil, den_nilc, den_un, den_bin, den_tri, xon_and, xon_or, on_beq, xon_not, on_len, on_neg, on_conv, on_max, on_min, on_snoc, on_cat, on_cons, on_make, on_copy, on_plus, on_minus, on_cell, on_sel, on_slice, on_set, on_put, on_cmp, on_ar, ev_lss, ev_leq, ev_gtr, ev_geq, ev_eql, ev_neq, ar_add, ar_sub, ar_mul, ar_quo, ar_rem, pi_int, b_bool, r_row, c_cells, rowOf_r, List.map_cons, List.map_nil, List.cons_append, List.nil_append, List.getD_cons_zero, List.getD_cons_succ, List.getElem?_cons_zero, List.getElem?_cons_succ, List.take_zero, List.take_succ_cons, List.length_map, Int.toNat_natCast, decide_eq_true_eq, Int.ofNat_lt, Int.ofNat_le, xnat_nonneg, true_and, and_true, if_true, if_false, reduceIte, wrap_in, xints_at, xbools_at, xints_set, xints_snoc, xints_make, xints_nil, xbools_set, xbools_snoc, xbools_make, xcopy_make, List.length_replicate, List.length_cons, List.length_nil, Nat.reduceAdd, h, hlen, sz_at0, sz_at1, sz_at2, sz_at3, sz_at4, sz_at5, sz_at6, sz_snoc, sz_set, sz_put5, sz_put6, hat, mget_on, hv, em, hlen2, hat2, xcall_of hb, Bool.not_and, Bool.not_or, Bool.not_not, Bool.and_eq_true, Bool.or_eq_true, Bool.not_eq_true', Bool.and_eq_false_imp, Bool.or_eq_false_iff, decide_eq_false_iff_not, decide_eq_true_eq, beq_iff_eq, beq_eq_false_iff_ne, bne_iff_ne, bne_eq_false_iff_eq, ne_eq, gt_iff_lt, ge_iff_le, Bool.false_eq_true, Bool.true_eq_false, beq_self_eq_true, beq_true, beq_false, Bool.not_false, Bool.not_true, Bool.false_and, Bool.true_and, Bool.and_true, Bool.and_false, Bool.or_true, Bool.true_or, Bool.or_false, Bool.false_or, false_and, true_and, and_false, and_true, or_false, or_true, false_or, true_or, not_true_eq_false, not_false_eq_true, false_iff, iff_false, true_iff, iff_true, forall_const, false_imp_iff, true_imp_iff, reduceCtorEq, imp_false]
    try (refine ⟨by omega, by omega, ?_⟩)
    have hme : (T.modify j fun y => { y with base := max s[j].base v }) = T.set j ⟨s[j].mn, s[j].mx, s[j].fr, s[j].fit, s[j].cap, max s[j].base v, s[j].lim⟩ := by
      apply List.ext_getElem (by simp)
      intro i h1 h2
      rw [List.getElem_set, List.getElem_modify]
      split
      · rename_i hij
        subst hij
        rw [hat]
      · rfl
    rw [hme, List.set_set]
    by_cases hc : max s[j].lim (max s[j].base v) = s[j].lim
    · rw [br_pos hc]
      have e : raiseS s[j] v = ⟨s[j].mn, s[j].mx, s[j].fr, s[j].fit, s[j].cap, max s[j].base v, s[j].lim⟩ := by unfold raiseS; rw [hc]
      rw [e] at hi
      rw [u_flex_Grow_j7]
      try simp (disch := first | omega | (simp only [List.length_set, List.length_map, List.length_replicate, List.length_append, List.length_modify]; omega)) only [xrun_ret, run_ite, run_fail, run_letj, xrun_loop, run_jump, xrun_call, jmp_join, jmp_loop, br_fail, br_true, br_false, xden_var, den_int, den_bool, den_str, den_nil, den_nilc, den_un, den_bin, den_tri, xon_and, xon_or, on_beq, xon_not, on_len, on_neg, on_conv, on_max, on_min, on_snoc, on_cat, on_cons, on_make, on_copy, on_plus, on_minus, on_cell, on_sel, on_slice, on_set, on_put, on_cmp, on_ar, ev_lss, ev_leq, ev_gtr, ev_geq, ev_eql, ev_neq, ar_add, ar_sub, ar_mul, ar_quo, ar_rem, pi_int, b_bool, r_row, c_cells, rowOf_r, List.map_cons, List.map_nil, List.cons_append, List.nil_append, List.getD_cons_zero, List.getD_cons_succ, List.getElem?_cons_zero, List.getElem?_cons_succ, List.take_zero, List.take_succ_cons, List.length_map, Int.toNat_natCast, decide_eq_true_eq, Int.ofNat_lt, Int.ofNat_le, xnat_nonneg, true_and, and_true, if_true, if_false, reduceIte, wrap_in, xints_at, xbools_at, xints_set, xints_snoc, xints_make, xints_nil, xbools_set, xbools_snoc, xbools_make, xcopy_make, List.length_replicate, List.length_cons, List.length_nil, Nat.reduceAdd]
      first | exact hi | exact ⟨by omega, hi⟩
    · rw [br_neg hc]
      have e : raiseS s[j] v = ⟨s[j].mn, s[j].mx, s[j].fr, s[j].fit, s[j].cap, max s[j].base v, max s[j].lim (max s[j].base v)⟩ := rfl
      rw [e] at hi
      rw [u_flex_Grow_j7]
      try simp (disch := first | omega | (simp only [List.length_set, List.length_map, List.length_replicate, List.length_append, List.length_modify]; omega)) only [xrun_ret, run_ite, run_fail, run_letj, xrun_loop, run_jump, xrun_call, jmp_join, jmp_loop, br_fail, br_true, br_false, xden_var, den_int, den_bool, den_str, den_nil, den_nilc, den_un, den_bin, den_tri, xon_and, xon_or, on_beq, xon_not, on_len, on_neg, on_conv, on_max, on_min, on_snoc, on_cat, on_cons, on_make, on_copy, on_plus, on_minus, on_cell, on_sel, on_slice, on_set, on_put, on_cmp, on_ar, ev_lss, ev_leq, ev_gtr, ev_geq, ev_eql, ev_neq, ar_add, ar_sub, ar_mul, ar_quo, ar_rem, pi_int, b_bool, r_row, c_cells, rowOf_r, List.map_cons, List.map_nil, List.cons_append, List.nil_append, List.getD_cons_zero, List.getD_cons_succ, List.getElem?_cons_zero, List.getElem?_cons_succ, List.take_zero, List.take_succ_cons, List.length_map, Int.toNat_natCast, decide_eq_true_eq, Int.ofNat_lt, Int.ofNat_le, xnat_nonneg, true_and, and_true, if_true, if_false, reduceIte, wrap_in, xints_at, xbools_at, xints_set, xints_snoc, xints_make, xints_nil, xbools_set, xbools_snoc, xbools_make, xcopy_make, List.length_replicate, List.length_cons, List.length_nil, Nat.reduceAdd]
      first | exact hi | exact ⟨by omega, hi⟩
  · have e1 : s.drop j = [] := List.drop_of_length_le (by omega)
    rw [e1]
    simp only [growS]
    rw [u_flex_Grow_l6]
    simp (disch := first | omega | (simp only [List.length_set, List.length_map, List.length_replicate, List.length_append, List.length_modify]; omega)) only [xrun_ret, run_ite, run_fail, run_letj, xrun_loop, run_jump, xrun_call, jmp_join, jmp_loop, br_fail, br_true, br_false, xden_var, den_int, den_bool, den_str, den_nil, den_nilc, den_un, den_bin, den_tri, xon_and, xon_or, on_beq, xon_not, on_len, on_neg, on_conv, on_max, on_min, on_snoc, on_cat, on_cons, on_make, on_copy, on_plus, on_minus, on_cell, on_sel, on_slice, on_set, on_put, on_cmp, on_ar, ev_lss, ev_leq, ev_gtr, ev_geq, ev_eql, ev_neq, ar_add, ar_sub, ar_mul, ar_quo, ar_rem, pi_int, b_bool, r_row, c_cells, rowOf_r, List.map_cons, List.map_nil, List.cons_append, List.nil_append, List.getD_cons_zero, List.getD_cons_succ, List.getElem?_cons_zero, List.getElem?_cons_succ, List.take_zero, List.take_succ_cons, List.length_map, Int.toNat_natCast, decide_eq_true_eq, Int.ofNat_lt, Int.ofNat_le, xnat_nonneg, true_and, and_true, if_true, if_false, reduceIte, wrap_in, xints_at, xbools_at, xints_set, xints_snoc, xints_make, xints_nil, xbools_set, xbools_snoc, xbools_make, xcopy_make, List.length_replicate, List.length_cons, List.length_nil, Nat.reduceAdd, h]
end Go.Proofs.Ytpaabecgngbjcaa.T
