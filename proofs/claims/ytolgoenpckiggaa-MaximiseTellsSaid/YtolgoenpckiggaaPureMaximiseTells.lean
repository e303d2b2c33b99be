/- The plain law of MaximiseTells: what the trees come to answers as the statement says. No condition. -/
import Derived.Test.YtolgoenpckiggaaT
import Derived.Test.YtolgoenpckiggaaKtells25
set_option linter.unusedVariables false
set_option linter.unusedSimpArgs false
namespace Go.Proofs.Ytolgoenpckiggaa
open Go Go.Proofs.Ytolgoenpckiggaa.Sx Go.Proofs.Ytolgoenpckiggaa.M Go.Proofs.Ytolgoenpckiggaa.T
theorem grow_both (s : List Sz) (free : Int) (hm : s.length ≤ 300) : ∃ l, Says tr c_maximise_Grow [rowOf eSz s, I free] [rowOf eSz l] ∧ Says tr c_ref25_Grow [rowOf eSz s, I free] [rowOf eSz l] ∧ l.length = s.length := by
  by_cases h : GrowOk s free
  · obtain ⟨got, h1, h2⟩ := grow_ok s free (by omega) h
    obtain ⟨got', h1', h2'⟩ := rgrow_ok s free (by omega) h
    have hrl : (roomL s).length = s.length := by simp [roomL]
    have := isup_length h1
    rw [isup_unique h1' h1] at h2'
    exact ⟨_, h2, h2', grown_length (by omega)⟩
  · exact ⟨s, grow_bad s free (by omega) h, rgrow_bad s free (by omega) h, rfl⟩
theorem full_both (s : List Sz) (hm : s.length ≤ 300) : ∃ l, Says tr c_maximise_Full [rowOf eSz s] [rowOf eSz l] ∧ Says tr c_ref25_Full [rowOf eSz s] [rowOf eSz l] ∧ l.length = s.length := by
  by_cases h : ∀ x ∈ s, Gd x
  · exact ⟨_, full_ok s (by omega) h, rfull_ok s (by omega) h, by simp⟩
  · exact ⟨s, full_bad s (by omega) h, rfull_bad s (by omega) h, rfl⟩
theorem stretch_both (s : List Sz) (free : Int) (hm : s.length ≤ 300) : ∃ l, Says tr c_maximise_Stretch [rowOf eSz s, I free] [rowOf eSz l] ∧ Says tr c_ref25_Stretch [rowOf eSz s, I free] [rowOf eSz l] ∧ l.length = s.length := by
  by_cases h : GrowOk s free
  · exact ⟨_, stretch_ok s free (by omega) h, rstretch_ok s free (by omega) h, stret_length (got_in s free h.2.1 h.2.2).1⟩
  · exact ⟨s, stretch_bad s free (by omega) h, rstretch_bad s free (by omega) h, rfl⟩
theorem PureMaximiseTells : Pure_MaximiseTells := by
  intro p0 p1 p2 hp0 _ hb0 hp1 hw1 hb1 hp2 hw2
  obtain ⟨s, rfl⟩ := sz_open hp0
  obtain ⟨ahead, rfl⟩ := ints_open hp1
  obtain ⟨free, rfl⟩ := int_open hp2
  refine Says.told (tr := tr) (f := c_law25_MaximiseTells) (args := [rowOf eSz s, ints ahead, I free]) ?_
  refine Says.of (t := law25_MaximiseTells) rfl ?_
  rw [u_law25_MaximiseTells]
  simp (disch := first | omega | (simp only [List.length_set, List.length_map, List.length_replicate, List.length_append, List.length_modify]; omega)) only [xrun_ret, run_ite, run_fail, run_letj, xrun_loop, run_jump, xrun_call, jmp_join, jmp_loop, br_fail, br_true, br_false, xden_var, den_int, den_bool, den_str, den_nil, den_nilc, den_un, den_bin, den_tri, xon_and, xon_or, on_beq, xon_not, on_len, on_neg, on_conv, on_max, on_min, on_snoc, on_cat, on_cons, on_make, on_copy, on_plus, on_minus, on_cell, on_sel, on_slice, on_set, on_put, on_cmp, on_ar, ev_lss, ev_leq, ev_gtr, ev_geq, ev_eql, ev_neq, ar_add, ar_sub, ar_mul, ar_quo, ar_rem, pi_int, b_bool, r_row, c_cells, rowOf_r, List.map_cons, List.map_nil, List.cons_append, List.nil_append, List.getD_cons_zero, List.getD_cons_succ, List.getElem?_cons_zero, List.getElem?_cons_succ, List.take_zero, List.take_succ_cons, List.length_map, Int.toNat_natCast, decide_eq_true_eq, Int.ofNat_lt, Int.ofNat_le, xnat_nonneg, true_and, and_true, if_true, if_false, reduceIte, wrap_in, xints_at, xbools_at, xints_set, xints_snoc, xints_make, xints_nil, xbools_set, xbools_snoc, xbools_make, xcopy_make, List.length_replicate, List.length_cons, List.length_nil, Nat.reduceAdd, xcall_of lives_sp, Bool.not_and, Bool.not_or, Bool.not_not, Bool.and_eq_true, Bool.or_eq_true, Bool.not_eq_true', Bool.and_eq_false_imp, Bool.or_eq_false_iff, decide_eq_false_iff_not, decide_eq_true_eq, beq_iff_eq, beq_eq_false_iff_ne, bne_iff_ne, bne_eq_false_iff_eq, ne_eq, gt_iff_lt, ge_iff_le, Bool.false_eq_true, Bool.true_eq_false, beq_self_eq_true, beq_true, beq_false, Bool.not_false, Bool.not_true, Bool.false_and, Bool.true_and, Bool.and_true, Bool.and_false, Bool.or_true, Bool.true_or, Bool.or_false, Bool.false_or, false_and, true_and, and_false, and_true, or_false, or_true, false_or, true_or, not_true_eq_false, not_false_eq_true, false_iff, iff_false, true_iff, iff_true, forall_const, false_imp_iff, true_imp_iff, reduceCtorEq, imp_false]
  refine br_split ?_ ?_ <;> intro _
  · trivial
  rename_i hlen
  obtain ⟨l1, g1, g2, g3⟩ := grow_both s free (by omega)
  obtain ⟨l2, f1, f2, f3⟩ := full_both s (by omega)
  obtain ⟨l3, s1, s2, s3⟩ := stretch_both s free (by omega)
  simp (disch := first | omega | (simp only [List.length_set, List.length_map, List.length_replicate, List.length_append, List.length_modify]; omega)) only [xrun_ret, run_ite, run_fail, run_letj, xrun_loop, run_jump, xrun_call, jmp_join, jmp_loop, br_fail, br_true, br_false, xden_var, den_int, den_bool, den_str, den_nil, den_nilc, den_un, den_bin, den_tri, xon_and, xon_or, on_beq, xon_not, on_len, on_neg, on_conv, on_max, on_min, on_snoc, on_cat, on_cons, on_make, on_copy, on_plus, on_minus, on_cell, on_sel, on_slice, on_set, on_put, on_cmp, on_ar, ev_lss, ev_leq, ev_gtr, ev_geq, ev_eql, ev_neq, ar_add, ar_sub, ar_mul, ar_quo, ar_rem, pi_int, b_bool, r_row, c_cells, rowOf_r, List.map_cons, List.map_nil, List.cons_append, List.nil_append, List.getD_cons_zero, List.getD_cons_succ, List.getElem?_cons_zero, List.getElem?_cons_succ, List.take_zero, List.take_succ_cons, List.length_map, Int.toNat_natCast, decide_eq_true_eq, Int.ofNat_lt, Int.ofNat_le, xnat_nonneg, true_and, and_true, if_true, if_false, reduceIte, wrap_in, xints_at, xbools_at, xints_set, xints_snoc, xints_make, xints_nil, xbools_set, xbools_snoc, xbools_make, xcopy_make, List.length_replicate, List.length_cons, List.length_nil, Nat.reduceAdd, xcall_of (total_sp s ahead (by omega) (by omega)), xcall_of (rtotal_sp s ahead (by omega) (by omega)), Bool.not_and, Bool.not_or, Bool.not_not, Bool.and_eq_true, Bool.or_eq_true, Bool.not_eq_true', Bool.and_eq_false_imp, Bool.or_eq_false_iff, decide_eq_false_iff_not, decide_eq_true_eq, beq_iff_eq, beq_eq_false_iff_ne, bne_iff_ne, bne_eq_false_iff_eq, ne_eq, gt_iff_lt, ge_iff_le, Bool.false_eq_true, Bool.true_eq_false, beq_self_eq_true, beq_true, beq_false, Bool.not_false, Bool.not_true, Bool.false_and, Bool.true_and, Bool.and_true, Bool.and_false, Bool.or_true, Bool.true_or, Bool.or_false, Bool.false_or, false_and, true_and, and_false, and_true, or_false, or_true, false_or, true_or, not_true_eq_false, not_false_eq_true, false_iff, iff_false, true_iff, iff_true, forall_const, false_imp_iff, true_imp_iff, reduceCtorEq, imp_false, xcall_of g1, xcall_of g2, xcall_of f1, xcall_of f2, xcall_of s1, xcall_of s2, xcall_of (same_sp l1 l1 (by omega)), xcall_of (same_sp l2 l2 (by omega)), xcall_of (same_sp l3 l3 (by omega)), decide_true, xcall_of lives_sp]
end Go.Proofs.Ytolgoenpckiggaa
