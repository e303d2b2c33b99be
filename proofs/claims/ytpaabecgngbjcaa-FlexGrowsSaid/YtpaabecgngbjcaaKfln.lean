/- What the trees come to that give flexible tracks what is left. No condition beyond what each states. -/
import Derived.Test.YtpaabecgngbjcaaT
import Derived.Test.YtpaabecgngbjcaaKflm
set_option linter.unusedVariables false
set_option linter.unusedSimpArgs false
set_option maxRecDepth 10000
namespace Go.Proofs.Ytpaabecgngbjcaa.T
open Go Go.Proofs.Ytpaabecgngbjcaa.Sx Go.Proofs.Ytpaabecgngbjcaa.M

theorem mput_on2 (m : List (List PV)) (a b : Int) : BO.mput.on (.row m) (.cells [I a, I b]) = .row ([I a, I b] :: m) := rfl
/-- The first loop: each one's part, and its weight. -/
theorem ff1_run (s : List Sz) (st : List Bool) (p1 p2 p3 p4 : PV) (L N : Int) (r : List PV) (hs : s.all okF = true) (hl : s.length ≤ 10000) (hL : 0 ≤ L ∧ L ≤ 68719476736) (hN : 0 ≤ N ∧ N ≤ 109951162777600) :
    ∀ k, k ≤ (whoF 0 s st).length → ∀ m : List (List PV), m.length ≤ k →
      Run tr (.letj flex_Fill_j2 (.ite (cmp .geq (v 6) (n 1000)) (.call c_fixed_Share [(v 5), (v 9)] 1 (.loop [(n 0), (v 10)] flex_Fill_l5)) (.jump 1 [(v 10)]))) [rowOf eSz s, p1, p2, p3, p4, I L, I N, ints (whoF 0 s st), I (whoF 0 s st).length, ints (frF s st), .row (pushP (((whoF 0 s st).drop k).zip (((frF s st).drop k).map (partF L N))) m)] [.loop flex_Fill_l1 [rowOf eSz s, p1, p2, p3, p4, I L, I N, ints (whoF 0 s st)]] r →
      Run tr flex_Fill_l1 [rowOf eSz s, p1, p2, p3, p4, I L, I N, ints (whoF 0 s st), I k, ints (mix (frF s st) (List.replicate (whoF 0 s st).length 0) k), .row m] [.loop flex_Fill_l1 [rowOf eSz s, p1, p2, p3, p4, I L, I N, ints (whoF 0 s st)]] r := by
  have hfl := frF_len s st 0
  have hfl2 : (frF s st).length = (List.replicate (whoF 0 s st).length (0 : Int)).length := by simp [hfl]
  have hwl := (whoF_in s st 0).1
  refine xup_ind fun k hk ih => ?_
  intro m hm hrun
  by_cases h : k < (whoF 0 s st).length
  · obtain ⟨q, hq, hqs, hkf, hfr⟩ := who_at s st 0 k h
    rw [Nat.zero_add] at hq
    have hok := okF_in (List.all_eq_true.1 hs _ (List.getElem_mem hqs))
    have hcall := part_sp L N s[q].fr (whoF 0 s st) hL hN hok.2.2.2
    have hb := md_in L s[q].fr (max N 1000)
    have hb1 : -9223372036854775808 ≤ partF L N s[q].fr := hb.1
    have hb2 : partF L N s[q].fr ≤ 9223372036854775807 := hb.2
    rw [List.drop_eq_getElem_cons h, List.drop_eq_getElem_cons hkf, List.map_cons, List.zip_cons_cons, pushP, hq, ← hfr] at hrun
    have hi := ih h ([I q, I (partF L N s[q].fr)] :: m) (by simp; omega) hrun
    have hms := mix_set hfl2 (i := k) (by simpa using h) hfr
    have hml : k < (mix (frF s st) (List.replicate (whoF 0 s st).length 0) k).length := by rw [mix_len hfl2]; simpa using h
    rw [← hms] at hi
    generalize mix (frF s st) (List.replicate (whoF 0 s st).length 0) k = X at hi hml
    rw [u_flex_Fill_l1]
    simp (disch := first | omega | (simp only [List.length_set, List.length_map, List.length_replicate, List.length_append, List.length_modify]; omega)) only [xrun_ret, run_ite, run_fail, run_letj, xrun_loop, run_jump, xrun_call, jmp_join, jmp_loop, br_fail, br_true, br_false, xden_var, den_int, den_bool, den_str, den_nil, den_nilc, den_un, den_bin, den_tri, xon_and, xon_or, on_beq, xon_not, on_len, on_neg, on_conv, on_max, on_min, on_snoc, on_cat, on_cons, on_make, on_copy, on_plus, on_minus, on_cell, on_sel, on_slice, on_set, on_put, on_cmp, on_ar, ev_lss, ev_leq, ev_gtr, ev_geq, ev_eql, ev_neq, ar_add, ar_sub, ar_mul, ar_quo, ar_rem, pi_int, b_bool, r_row, c_cells, rowOf_r, List.map_cons, List.map_nil, List.cons_append, List.nil_append, List.getD_cons_zero, List.getD_cons_succ, List.getElem?_cons_zero, List.getElem?_cons_succ, List.take_zero, List.take_succ_cons, List.length_map, Int.toNat_natCast, decide_eq_true_eq, Int.ofNat_lt, Int.ofNat_le, xnat_nonneg, true_and, and_true, if_true, if_false, reduceIte, wrap_in, xints_at, xbools_at, xints_set, xints_snoc, xints_make, xints_nil, xbools_set, xbools_snoc, xbools_make, xcopy_make, List.length_replicate, List.length_cons, List.length_nil, Nat.reduceAdd, h, hq, hqs, hml, sz_at0, sz_at1, sz_at2, sz_at3, sz_at4, sz_at5, sz_at6, sz_snoc, sz_set, sz_put5, sz_put6, xcall_of hcall, Bool.not_and, Bool.not_or, Bool.not_not, Bool.and_eq_true, Bool.or_eq_true, Bool.not_eq_true', Bool.and_eq_false_imp, Bool.or_eq_false_iff, decide_eq_false_iff_not, decide_eq_true_eq, beq_iff_eq, beq_eq_false_iff_ne, bne_iff_ne, bne_eq_false_iff_eq, ne_eq, gt_iff_lt, ge_iff_le, Bool.false_eq_true, Bool.true_eq_false, beq_self_eq_true, beq_true, beq_false, Bool.not_false, Bool.not_true, Bool.false_and, Bool.true_and, Bool.and_true, Bool.and_false, Bool.or_true, Bool.true_or, Bool.or_false, Bool.false_or, false_and, true_and, and_false, and_true, or_false, or_true, false_or, true_or, not_true_eq_false, not_false_eq_true, false_iff, iff_false, true_iff, iff_true, forall_const, false_imp_iff, true_imp_iff, reduceCtorEq, imp_false]
    try (refine ⟨by omega, by omega, by omega, by omega, by omega, ?_⟩)
    rw [mput_on2]
    first | exact hi | exact ⟨by omega, hi⟩
  · have e1 : (whoF 0 s st).drop k = [] := List.drop_of_length_le (by omega)
    have e2 : mix (frF s st) (List.replicate (whoF 0 s st).length (0 : Int)) k = frF s st := mix_full' hfl2 (by simp; omega)
    rw [e1] at hrun
    simp only [List.zip_nil_left, pushP] at hrun
    obtain rfl : k = (whoF 0 s st).length := by omega
    rw [e2]
    rw [u_flex_Fill_l1]
    simp only [run_ite, xden_var, den_bin, den_un, on_cmp, ev_lss, List.getD_cons_succ, List.getD_cons_zero, pi_int, b_bool, on_len, rowOf_r, List.length_map]
    rw [br_neg (by simp)]
    exact hrun
/-- The second loop: what each is given, where there are parts enough. -/
theorem ff5_run (s : List Sz) (p1 p2 p3 p4 p5 p6 p8 p9 p10 : PV) (who vs : List Int) (J0 : JT) (r : List PV) (hw : ∀ x ∈ who, 0 ≤ x ∧ x ≤ 10000) (hwl : who.length ≤ 10000) (hv : vs.length = who.length) (hvb : ∀ x ∈ vs, -9223372036854775808 ≤ x ∧ x ≤ 9223372036854775807) :
    ∀ k, k ≤ who.length → ∀ m : List (List PV), m.length ≤ 10000 + k →
      Run tr flex_Fill_j2 [rowOf eSz s, p1, p2, p3, p4, p5, p6, ints who, p8, p9, p10, .row (pushP ((who.drop k).zip (vs.drop k)) m)] [J0] r →
      Run tr flex_Fill_l5 [rowOf eSz s, p1, p2, p3, p4, p5, p6, ints who, p8, p9, p10, ints vs, I k, .row m] [J0, .join flex_Fill_j2 [rowOf eSz s, p1, p2, p3, p4, p5, p6, ints who, p8, p9, p10], .loop flex_Fill_l5 [rowOf eSz s, p1, p2, p3, p4, p5, p6, ints who, p8, p9, p10, ints vs]] r := by
  refine xup_ind fun k hk ih => ?_
  intro m hm hrun
  by_cases h : k < who.length
  · have hkv : k < vs.length := by omega
    have g1 := hw _ (List.getElem_mem h)
    have g2 := hvb _ (List.getElem_mem hkv)
    rw [List.drop_eq_getElem_cons h, List.drop_eq_getElem_cons hkv, List.zip_cons_cons, pushP] at hrun
    have hi := ih h ([I who[k], I vs[k]] :: m) (by simp; omega) hrun
    rw [u_flex_Fill_l5]
    simp (disch := first | omega | (simp only [List.length_set, List.length_map, List.length_replicate, List.length_append, List.length_modify]; omega)) only [xrun_ret, run_ite, run_fail, run_letj, xrun_loop, run_jump, xrun_call, jmp_join, jmp_loop, br_fail, br_true, br_false, xden_var, den_int, den_bool, den_str, den_nil, den_nilc, den_un, den_bin, den_tri, xon_and, xon_or, on_beq, xon_not, on_len, on_neg, on_conv, on_max, on_min, on_snoc, on_cat, on_cons, on_make, on_copy, on_plus, on_minus, on_cell, on_sel, on_slice, on_set, on_put, on_cmp, on_ar, ev_lss, ev_leq, ev_gtr, ev_geq, ev_eql, ev_neq, ar_add, ar_sub, ar_mul, ar_quo, ar_rem, pi_int, b_bool, r_row, c_cells, rowOf_r, List.map_cons, List.map_nil, List.cons_append, List.nil_append, List.getD_cons_zero, List.getD_cons_succ, List.getElem?_cons_zero, List.getElem?_cons_succ, List.take_zero, List.take_succ_cons, List.length_map, Int.toNat_natCast, decide_eq_true_eq, Int.ofNat_lt, Int.ofNat_le, xnat_nonneg, true_and, and_true, if_true, if_false, reduceIte, wrap_in, xints_at, xbools_at, xints_set, xints_snoc, xints_make, xints_nil, xbools_set, xbools_snoc, xbools_make, xcopy_make, List.length_replicate, List.length_cons, List.length_nil, Nat.reduceAdd, h, hkv, Bool.not_and, Bool.not_or, Bool.not_not, Bool.and_eq_true, Bool.or_eq_true, Bool.not_eq_true', Bool.and_eq_false_imp, Bool.or_eq_false_iff, decide_eq_false_iff_not, decide_eq_true_eq, beq_iff_eq, beq_eq_false_iff_ne, bne_iff_ne, bne_eq_false_iff_eq, ne_eq, gt_iff_lt, ge_iff_le, Bool.false_eq_true, Bool.true_eq_false, beq_self_eq_true, beq_true, beq_false, Bool.not_false, Bool.not_true, Bool.false_and, Bool.true_and, Bool.and_true, Bool.and_false, Bool.or_true, Bool.true_or, Bool.or_false, Bool.false_or, false_and, true_and, and_false, and_true, or_false, or_true, false_or, true_or, not_true_eq_false, not_false_eq_true, false_iff, iff_false, true_iff, iff_true, forall_const, false_imp_iff, true_imp_iff, reduceCtorEq, imp_false]
    try (refine ⟨by omega, by omega, by omega, by omega, by omega, ?_⟩)
    try rw [mput_on2]
    first | exact hi | exact ⟨by omega, hi⟩
  · have e1 : who.drop k = [] := List.drop_of_length_le (by omega)
    rw [e1] at hrun
    simp only [List.zip_nil_left, pushP] at hrun
    have hkv : ¬ k < vs.length := by omega
    rw [u_flex_Fill_l5]
    simp (disch := first | omega | (simp only [List.length_set, List.length_map, List.length_replicate, List.length_append, List.length_modify]; omega)) only [xrun_ret, run_ite, run_fail, run_letj, xrun_loop, run_jump, xrun_call, jmp_join, jmp_loop, br_fail, br_true, br_false, xden_var, den_int, den_bool, den_str, den_nil, den_nilc, den_un, den_bin, den_tri, xon_and, xon_or, on_beq, xon_not, on_len, on_neg, on_conv, on_max, on_min, on_snoc, on_cat, on_cons, on_make, on_copy, on_plus, on_minus, on_cell, on_sel, on_slice, on_set, on_put, on_cmp, on_ar, ev_lss, ev_leq, ev_gtr, ev_geq, ev_eql, ev_neq, ar_add, ar_sub, ar_mul, ar_quo, ar_rem, pi_int, b_bool, r_row, c_cells, rowOf_r, List.map_cons, List.map_nil, List.cons_append, List.nil_append, List.getD_cons_zero, List.getD_cons_succ, List.getElem?_cons_zero, List.getElem?_cons_succ, List.take_zero, List.take_succ_cons, List.length_map, Int.toNat_natCast, decide_eq_true_eq, Int.ofNat_lt, Int.ofNat_le, xnat_nonneg, true_and, and_true, if_true, if_false, reduceIte, wrap_in, xints_at, xbools_at, xints_set, xints_snoc, xints_make, xints_nil, xbools_set, xbools_snoc, xbools_make, xcopy_make, List.length_replicate, List.length_cons, List.length_nil, Nat.reduceAdd, hkv]
    first | exact hrun | exact ⟨by omega, hrun⟩
end Go.Proofs.Ytpaabecgngbjcaa.T
