/- The plain law of FlexTells: what the trees come to answers as the statement says. No condition. -/
import Derived.Test.YtpaabecgngbjcaaT
import Derived.Test.YtpaabecgngbjcaaKflo
import Derived.Test.YtpaabecgngbjcaaKflv
import Derived.Test.YtpaabecgngbjcaaKsame
set_option linter.unusedVariables false
set_option linter.unusedSimpArgs false
namespace Go.Proofs.Ytpaabecgngbjcaa
open Go Go.Proofs.Ytpaabecgngbjcaa.Sx Go.Proofs.Ytpaabecgngbjcaa.M Go.Proofs.Ytpaabecgngbjcaa.T
theorem growV_len : ∀ (s : List Sz) (vs : List Int), (growV s vs).length ≤ s.length
  | [], _ => by simp [growV]
  | _ :: _, [] => by simp [growV]
  | x :: s, v :: vs => by simp [growV, growV_len s vs]
theorem fillR_len (s : List Sz) (a : List Int) (size : Int) : (fillR s a size).length ≤ s.length := by
  unfold fillR
  split
  · exact growV_len _ _
  · omega
theorem growR_len (s : List Sz) (a : List Int) (ws : List Wn) : (growR s a ws).length ≤ s.length := by
  unfold growR growU
  split <;> simp
theorem PureFlexTells : Pure_FlexTells := by
  intro p0 p1 p2 p3 hp0 _ hb0 hp1 hw1 hb1 hp2 hw2 hb2 hp3 hw3
  obtain ⟨s, rfl⟩ := sz_open hp0
  obtain ⟨a, rfl⟩ := ints_open hp1
  obtain ⟨ws, rfl⟩ := wn_open hp2
  obtain ⟨size, rfl⟩ := int_open hp3
  refine Says.told (tr := tr) (f := c_law26_FlexTells) (args := [rowOf eSz s, ints a, rowOf eWn ws, I size]) ?_
  refine Says.of (t := law26_FlexTells) rfl ?_
  rw [u_law26_FlexTells]
  simp (disch := first | omega | (simp only [List.length_set, List.length_map, List.length_replicate, List.length_append, List.length_modify]; omega)) only [xrun_ret, run_ite, run_fail, run_letj, xrun_loop, run_jump, xrun_call, jmp_join, jmp_loop, br_fail, br_true, br_false, xden_var, den_int, den_bool, den_str, den_nil, den_nilc, den_un, den_bin, den_tri, xon_and, xon_or, on_beq, xon_not, on_len, on_neg, on_conv, on_max, on_min, on_snoc, on_cat, on_cons, on_make, on_copy, on_plus, on_minus, on_cell, on_sel, on_slice, on_set, on_put, on_cmp, on_ar, ev_lss, ev_leq, ev_gtr, ev_geq, ev_eql, ev_neq, ar_add, ar_sub, ar_mul, ar_quo, ar_rem, pi_int, b_bool, r_row, c_cells, rowOf_r, List.map_cons, List.map_nil, List.cons_append, List.nil_append, List.getD_cons_zero, List.getD_cons_succ, List.getElem?_cons_zero, List.getElem?_cons_succ, List.take_zero, List.take_succ_cons, List.length_map, Int.toNat_natCast, decide_eq_true_eq, Int.ofNat_lt, Int.ofNat_le, xnat_nonneg, true_and, and_true, if_true, if_false, reduceIte, wrap_in, xints_at, xbools_at, xints_set, xints_snoc, xints_make, xints_nil, xbools_set, xbools_snoc, xbools_make, xcopy_make, List.length_replicate, List.length_cons, List.length_nil, Nat.reduceAdd, xcall_of lives_sp, Bool.not_and, Bool.not_or, Bool.not_not, Bool.and_eq_true, Bool.or_eq_true, Bool.not_eq_true', Bool.and_eq_false_imp, Bool.or_eq_false_iff, decide_eq_false_iff_not, decide_eq_true_eq, beq_iff_eq, beq_eq_false_iff_ne, bne_iff_ne, bne_eq_false_iff_eq, ne_eq, gt_iff_lt, ge_iff_le, Bool.false_eq_true, Bool.true_eq_false, beq_self_eq_true, beq_true, beq_false, Bool.not_false, Bool.not_true, Bool.false_and, Bool.true_and, Bool.and_true, Bool.and_false, Bool.or_true, Bool.true_or, Bool.or_false, Bool.false_or, false_and, true_and, and_false, and_true, or_false, or_true, false_or, true_or, not_true_eq_false, not_false_eq_true, false_iff, iff_false, true_iff, iff_true, forall_const, false_imp_iff, true_imp_iff, reduceCtorEq, imp_false]
  refine br_split ?_ ?_ <;> intro _
  · trivial
  rename_i hlen
  have g1 := fillR_len s a size
  have g2 := growR_len s a ws
  simp (disch := first | omega | (simp only [List.length_set, List.length_map, List.length_replicate, List.length_append, List.length_modify]; omega)) only [xrun_ret, run_ite, run_fail, run_letj, xrun_loop, run_jump, xrun_call, jmp_join, jmp_loop, br_fail, br_true, br_false, xden_var, den_int, den_bool, den_str, den_nil, den_nilc, den_un, den_bin, den_tri, xon_and, xon_or, on_beq, xon_not, on_len, on_neg, on_conv, on_max, on_min, on_snoc, on_cat, on_cons, on_make, on_copy, on_plus, on_minus, on_cell, on_sel, on_slice, on_set, on_put, on_cmp, on_ar, ev_lss, ev_leq, ev_gtr, ev_geq, ev_eql, ev_neq, ar_add, ar_sub, ar_mul, ar_quo, ar_rem, pi_int, b_bool, r_row, c_cells, rowOf_r, List.map_cons, List.map_nil, List.cons_append, List.nil_append, List.getD_cons_zero, List.getD_cons_succ, List.getElem?_cons_zero, List.getElem?_cons_succ, List.take_zero, List.take_succ_cons, List.length_map, Int.toNat_natCast, decide_eq_true_eq, Int.ofNat_lt, Int.ofNat_le, xnat_nonneg, true_and, and_true, if_true, if_false, reduceIte, wrap_in, xints_at, xbools_at, xints_set, xints_snoc, xints_make, xints_nil, xbools_set, xbools_snoc, xbools_make, xcopy_make, List.length_replicate, List.length_cons, List.length_nil, Nat.reduceAdd, xcall_of (unit_sp s size (by omega)), xcall_of (runit_sp s size (by omega)), xcall_of (ffill_sp s a size (by omega) (by omega)), xcall_of (rfill_sp s a size (by omega) (by omega)), xcall_of (same_sp (fillR s a size) (fillR s a size) (by omega)), xcall_of (fgrow_sp s a ws (by omega) (by omega) (by omega)), xcall_of (rgrow_sp s a ws (by omega) (by omega) (by omega)), xcall_of (same_sp (growR s a ws) (growR s a ws) (by omega)), Bool.not_and, Bool.not_or, Bool.not_not, Bool.and_eq_true, Bool.or_eq_true, Bool.not_eq_true', Bool.and_eq_false_imp, Bool.or_eq_false_iff, decide_eq_false_iff_not, decide_eq_true_eq, beq_iff_eq, beq_eq_false_iff_ne, bne_iff_ne, bne_eq_false_iff_eq, ne_eq, gt_iff_lt, ge_iff_le, Bool.false_eq_true, Bool.true_eq_false, beq_self_eq_true, beq_true, beq_false, Bool.not_false, Bool.not_true, Bool.false_and, Bool.true_and, Bool.and_true, Bool.and_false, Bool.or_true, Bool.true_or, Bool.or_false, Bool.false_or, false_and, true_and, and_false, and_true, or_false, or_true, false_or, true_or, not_true_eq_false, not_false_eq_true, false_iff, iff_false, true_iff, iff_true, forall_const, false_imp_iff, true_imp_iff, reduceCtorEq, imp_false, decide_true, xcall_of lives_sp]
end Go.Proofs.Ytpaabecgngbjcaa
