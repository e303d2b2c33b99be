/- The plain law of ContentStarts: what the trees come to answers as the statement says. No condition. -/
import Derived.Test.YtbkohlhonhmhmaaT
import Derived.Test.YtbkohlhonhmhmaaKcontent
set_option linter.unusedVariables false
set_option linter.unusedSimpArgs false
set_option maxRecDepth 10000
namespace Go.Proofs.Ytbkohlhonhmhmaa
open Go Go.Proofs.Ytbkohlhonhmhmaa.Sx Go.Proofs.Ytbkohlhonhmhmaa.M Go.Proofs.Ytbkohlhonhmhmaa.T
theorem lives_sp : Says tr c_law28_lives [] [B true] := says_of_run (t := law28_lives) rfl (n := 300) (by decide +kernel)
theorem PureContentStarts : Pure_ContentStarts := by
  intro q0 p1 p2 p3 hq0 hw0 hp1 hw1 hb1 hp2 hw2 hp3 hw3
  obtain ⟨low, l, g, a, rfl, h1, h2, h3, _, _, _, _⟩ := trks_open hq0 hw0
  obtain ⟨low, rfl⟩ := int_open h1
  obtain ⟨g, rfl⟩ := bools_open h2
  obtain ⟨a, rfl⟩ := ints_open h3
  obtain ⟨s, rfl⟩ := ints_open hp1
  obtain ⟨size, rfl⟩ := int_open hp2
  obtain ⟨al, rfl⟩ := int_open hp3
  refine Says.told (tr := tr) (f := c_law28_ContentStarts) (args := [I low, rowOf eTr l, bools g, ints a, ints s, I size, I al]) ?_
  refine Says.of (t := law28_ContentStarts) rfl ?_
  rw [u_law28_ContentStarts]
  simp (disch := first | omega | (simp only [List.length_set, List.length_map, List.length_replicate, List.length_append, List.length_modify]; omega)) only [xrun_ret, run_ite, run_fail, run_letj, xrun_loop, run_jump, xrun_call, jmp_join, jmp_loop, br_fail, br_true, br_false, xden_var, den_int, den_bool, den_str, den_nil, den_nilc, den_un, den_bin, den_tri, xon_and, xon_or, on_beq, xon_not, on_len, on_neg, on_conv, on_max, on_min, on_snoc, on_cat, on_cons, on_make, on_copy, on_plus, on_minus, on_cell, on_sel, on_slice, on_set, on_put, on_cmp, on_ar, ev_lss, ev_leq, ev_gtr, ev_geq, ev_eql, ev_neq, ar_add, ar_sub, ar_mul, ar_quo, ar_rem, pi_int, b_bool, r_row, c_cells, rowOf_r, List.map_cons, List.map_nil, List.cons_append, List.nil_append, List.getD_cons_zero, List.getD_cons_succ, List.getElem?_cons_zero, List.getElem?_cons_succ, List.take_zero, List.take_succ_cons, List.length_map, Int.toNat_natCast, decide_eq_true_eq, Int.ofNat_lt, Int.ofNat_le, xnat_nonneg, true_and, and_true, if_true, if_false, reduceIte, wrap_in, xints_at, xbools_at, xints_set, xints_snoc, xints_make, xints_nil, xbools_set, xbools_snoc, xbools_make, xcopy_make, List.length_replicate, List.length_cons, List.length_nil, Nat.reduceAdd, xcall_of lives_sp, Bool.not_and, Bool.not_or, Bool.not_not, Bool.and_eq_true, Bool.or_eq_true, Bool.not_eq_true', Bool.and_eq_false_imp, Bool.or_eq_false_iff, decide_eq_false_iff_not, decide_eq_true_eq, beq_iff_eq, beq_eq_false_iff_ne, bne_iff_ne, bne_eq_false_iff_eq, ne_eq, gt_iff_lt, ge_iff_le, Bool.false_eq_true, Bool.true_eq_false, beq_self_eq_true, beq_true, beq_false, Bool.not_false, Bool.not_true, Bool.false_and, Bool.true_and, Bool.and_true, Bool.and_false, Bool.or_true, Bool.true_or, Bool.or_false, Bool.false_or, false_and, true_and, and_false, and_true, or_false, or_true, false_or, true_or, not_true_eq_false, not_false_eq_true, false_iff, iff_false, true_iff, iff_true, forall_const, false_imp_iff, true_imp_iff, reduceCtorEq, imp_false]
  refine br_split ?_ ?_ <;> intro _
  · trivial
  rename_i hlen
  have hrl : (startS low l g a s size al).1.length ≤ 1000000000 := by
    unfold startS
    split
    · simp
    split
    · simp
    · rename_i h1 h2
      have hok : SumOk low l g a s := by
        refine Classical.byContradiction fun hno => ?_
        simp [tkSum, hno] at h2
      have := begS_length al (size - (tkSum low l g a s).1) (ngo g) (-1) 0 g a s (by rw [hok.1.2.1, hok.2.1]) (by rw [hok.1.2.2.1, hok.2.1])
      simp only [this]
      omega
  simp (disch := first | omega | (simp only [List.length_set, List.length_map, List.length_replicate, List.length_append, List.length_modify]; omega)) only [xrun_ret, run_ite, run_fail, run_letj, xrun_loop, run_jump, xrun_call, jmp_join, jmp_loop, br_fail, br_true, br_false, xden_var, den_int, den_bool, den_str, den_nil, den_nilc, den_un, den_bin, den_tri, xon_and, xon_or, on_beq, xon_not, on_len, on_neg, on_conv, on_max, on_min, on_snoc, on_cat, on_cons, on_make, on_copy, on_plus, on_minus, on_cell, on_sel, on_slice, on_set, on_put, on_cmp, on_ar, ev_lss, ev_leq, ev_gtr, ev_geq, ev_eql, ev_neq, ar_add, ar_sub, ar_mul, ar_quo, ar_rem, pi_int, b_bool, r_row, c_cells, rowOf_r, List.map_cons, List.map_nil, List.cons_append, List.nil_append, List.getD_cons_zero, List.getD_cons_succ, List.getElem?_cons_zero, List.getElem?_cons_succ, List.take_zero, List.take_succ_cons, List.length_map, Int.toNat_natCast, decide_eq_true_eq, Int.ofNat_lt, Int.ofNat_le, xnat_nonneg, true_and, and_true, if_true, if_false, reduceIte, wrap_in, xints_at, xbools_at, xints_set, xints_snoc, xints_make, xints_nil, xbools_set, xbools_snoc, xbools_make, xcopy_make, List.length_replicate, List.length_cons, List.length_nil, Nat.reduceAdd, xcall_of (starts_sp low l g a s size al (by omega)), xcall_of (rstarts_sp low l g a s size al), xcall_of (rints_sp _ (startS low l g a s size al).1 hrl), Bool.not_and, Bool.not_or, Bool.not_not, Bool.and_eq_true, Bool.or_eq_true, Bool.not_eq_true', Bool.and_eq_false_imp, Bool.or_eq_false_iff, decide_eq_false_iff_not, decide_eq_true_eq, beq_iff_eq, beq_eq_false_iff_ne, bne_iff_ne, bne_eq_false_iff_eq, ne_eq, gt_iff_lt, ge_iff_le, Bool.false_eq_true, Bool.true_eq_false, beq_self_eq_true, beq_true, beq_false, Bool.not_false, Bool.not_true, Bool.false_and, Bool.true_and, Bool.and_true, Bool.and_false, Bool.or_true, Bool.true_or, Bool.or_false, Bool.false_or, false_and, true_and, and_false, and_true, or_false, or_true, false_or, true_or, not_true_eq_false, not_false_eq_true, false_iff, iff_false, true_iff, iff_true, forall_const, false_imp_iff, true_imp_iff, reduceCtorEq, imp_false, decide_true, xcall_of lives_sp]
end Go.Proofs.Ytbkohlhonhmhmaa
