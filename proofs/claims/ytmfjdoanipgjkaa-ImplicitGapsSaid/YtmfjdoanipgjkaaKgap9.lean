/- What the tree comes to that tells all tracks along an axis: what is handed looked at first; the sum of the gaps. No condition beyond what each states. -/
import Derived.Test.YtmfjdoanipgjkaaT
import Derived.Test.YtmfjdoanipgjkaaKgap8
set_option linter.unusedVariables false
set_option linter.unusedSimpArgs false
set_option maxRecDepth 10000
namespace Go.Proofs.Ytmfjdoanipgjkaa.T
open Go Go.Proofs.Ytmfjdoanipgjkaa.Sx Go.Proofs.Ytmfjdoanipgjkaa.M

theorem l11_run (xs : List (List PV)) (T : List Tr) (F To lines : Int) (A : List Tr) (l : List Cl) (rows : Bool) (gap : Int) (w : Bool) (J0 J1 : JT) (hA : A.length ≤ 1000) : ∀ j, j ≤ A.length → ∃ x : Int, ∀ r, Run tr implicit_Tracks_j10 [.row xs, rowOf eTr T, I F, I To, I lines, rowOf eTr A, rowOf eCl l, B rows, I gap, B w, I x] [J0, J1] r → Run tr implicit_Tracks_l11 [.row xs, rowOf eTr T, I F, I To, I lines, rowOf eTr A, rowOf eCl l, B rows, I gap, B w, I j] [J0, J1, .join implicit_Tracks_j10 [.row xs, rowOf eTr T, I F, I To, I lines, rowOf eTr A, rowOf eCl l, B rows, I gap, B w], .loop implicit_Tracks_l11 [.row xs, rowOf eTr T, I F, I To, I lines, rowOf eTr A, rowOf eCl l, B rows, I gap, B w]] r := by
  refine xup_ind fun j hj ih => ?_
  by_cases h : j < A.length
  · have h1 := tk1_sp A[j]
    cases hr : rtB A[j] with
    | true =>
      obtain ⟨x, hx⟩ := ih h
      refine ⟨x, fun r hh => ?_⟩
      rw [u_implicit_Tracks_l11]
      rw [hr] at h1
      simp (disch := first | omega | (simp only [List.length_set, List.length_map, List.length_replicate, List.length_append, List.length_modify]; omega)) only [xrun_ret, run_ite, run_fail, run_letj, xrun_loop, run_jump, xrun_call, jmp_join, jmp_loop, br_fail, br_true, br_false, xden_var, den_int, den_bool, den_str, den_nil, den_nilc, den_un, den_bin, den_tri, xon_and, xon_or, on_beq, xon_not, on_len, on_neg, on_conv, on_max, on_min, on_snoc, on_cat, on_cons, on_make, on_copy, on_plus, on_minus, on_cell, on_sel, on_slice, on_set, on_put, on_cmp, on_ar, ev_lss, ev_leq, ev_gtr, ev_geq, ev_eql, ev_neq, ar_add, ar_sub, ar_mul, ar_quo, ar_rem, pi_int, b_bool, r_row, c_cells, rowOf_r, List.map_cons, List.map_nil, List.cons_append, List.nil_append, List.getD_cons_zero, List.getD_cons_succ, List.getElem?_cons_zero, List.getElem?_cons_succ, List.take_zero, List.take_succ_cons, List.length_map, Int.toNat_natCast, decide_eq_true_eq, Int.ofNat_lt, Int.ofNat_le, xnat_nonneg, true_and, and_true, if_true, if_false, reduceIte, wrap_in, xints_at, xbools_at, xints_set, xints_snoc, xints_make, xints_nil, xbools_set, xbools_snoc, xbools_make, xcopy_make, List.length_replicate, List.length_cons, List.length_nil, Nat.reduceAdd, h, tr_at0, tr_at1, tr_at2, tr_at3, tr_at4, tr_at5, tr_at6, tr_snoc, xcall_of h1, Bool.not_true, Bool.false_eq_true]
      repeat rw [br_neg (by simp)]
      exact hx r hh
    | false =>
      refine ⟨j, fun r hh => ?_⟩
      rw [u_implicit_Tracks_l11]
      rw [hr] at h1
      simp (disch := first | omega | (simp only [List.length_set, List.length_map, List.length_replicate, List.length_append, List.length_modify]; omega)) only [xrun_ret, run_ite, run_fail, run_letj, xrun_loop, run_jump, xrun_call, jmp_join, jmp_loop, br_fail, br_true, br_false, xden_var, den_int, den_bool, den_str, den_nil, den_nilc, den_un, den_bin, den_tri, xon_and, xon_or, on_beq, xon_not, on_len, on_neg, on_conv, on_max, on_min, on_snoc, on_cat, on_cons, on_make, on_copy, on_plus, on_minus, on_cell, on_sel, on_slice, on_set, on_put, on_cmp, on_ar, ev_lss, ev_leq, ev_gtr, ev_geq, ev_eql, ev_neq, ar_add, ar_sub, ar_mul, ar_quo, ar_rem, pi_int, b_bool, r_row, c_cells, rowOf_r, List.map_cons, List.map_nil, List.cons_append, List.nil_append, List.getD_cons_zero, List.getD_cons_succ, List.getElem?_cons_zero, List.getElem?_cons_succ, List.take_zero, List.take_succ_cons, List.length_map, Int.toNat_natCast, decide_eq_true_eq, Int.ofNat_lt, Int.ofNat_le, xnat_nonneg, true_and, and_true, if_true, if_false, reduceIte, wrap_in, xints_at, xbools_at, xints_set, xints_snoc, xints_make, xints_nil, xbools_set, xbools_snoc, xbools_make, xcopy_make, List.length_replicate, List.length_cons, List.length_nil, Nat.reduceAdd, h, tr_at0, tr_at1, tr_at2, tr_at3, tr_at4, tr_at5, tr_at6, tr_snoc, xcall_of h1, Bool.not_false]
      exact hh
  · refine ⟨-1, fun r hh => ?_⟩
    rw [u_implicit_Tracks_l11]
    simp (disch := first | omega | (simp only [List.length_set, List.length_map, List.length_replicate, List.length_append, List.length_modify]; omega)) only [xrun_ret, run_ite, run_fail, run_letj, xrun_loop, run_jump, xrun_call, jmp_join, jmp_loop, br_fail, br_true, br_false, xden_var, den_int, den_bool, den_str, den_nil, den_nilc, den_un, den_bin, den_tri, xon_and, xon_or, on_beq, xon_not, on_len, on_neg, on_conv, on_max, on_min, on_snoc, on_cat, on_cons, on_make, on_copy, on_plus, on_minus, on_cell, on_sel, on_slice, on_set, on_put, on_cmp, on_ar, ev_lss, ev_leq, ev_gtr, ev_geq, ev_eql, ev_neq, ar_add, ar_sub, ar_mul, ar_quo, ar_rem, pi_int, b_bool, r_row, c_cells, rowOf_r, List.map_cons, List.map_nil, List.cons_append, List.nil_append, List.getD_cons_zero, List.getD_cons_succ, List.getElem?_cons_zero, List.getElem?_cons_succ, List.take_zero, List.take_succ_cons, List.length_map, Int.toNat_natCast, decide_eq_true_eq, Int.ofNat_lt, Int.ofNat_le, xnat_nonneg, true_and, and_true, if_true, if_false, reduceIte, wrap_in, xints_at, xbools_at, xints_set, xints_snoc, xints_make, xints_nil, xbools_set, xbools_snoc, xbools_make, xcopy_make, List.length_replicate, List.length_cons, List.length_nil, Nat.reduceAdd, h]
    exact hh
/-- What comes of it. -/
def TkRes (l : List Cl) (rows : Bool) (gap low : Int) (L : List Tr) (G : List Bool) (Aa : List Int) (e : Int) : Prop := (¬ e = 0 → L = []) ∧ (e = 0 → TkIs l rows gap low L G Aa)
theorem j1_run (xs : List (List PV)) (T : List Tr) (F To lines : Int) (A : List Tr) (l : List Cl) (rows : Bool) (gap : Int) (w : Bool) (hl : l.length ≤ 100000) (hw : w = false → T.length ≤ 10000 ∧ (F = 0 ∧ To = 0 ∨ 0 ≤ F ∧ F < To ∧ To ≤ T.length) ∧ 0 ≤ gap ∧ gap ≤ 68719476736) :
    ∃ (low : Int) (L : List Tr) (G : List Bool) (Aa : List Int) (e : Int), Run tr implicit_Tracks_j1 [.row xs, rowOf eTr T, I F, I To, I lines, rowOf eTr A, rowOf eCl l, B rows, I gap, B w] [.join implicit_Tracks_j0 [.row xs, rowOf eTr T, I F, I To, I lines, rowOf eTr A, rowOf eCl l, B rows, I gap]] [I low, rowOf eTr L, bools G, ints Aa, I e] ∧ TkRes l rows gap low L G Aa e := by
  have hj0 : Run tr implicit_Tracks_j0 [.row xs, rowOf eTr T, I F, I To, I lines, rowOf eTr A, rowOf eCl l, B rows, I gap] [] [I 0, rowOf eTr [], bools [], ints [], I 2] := by
    rw [u_implicit_Tracks_j0]
    simp (disch := first | omega | (simp only [List.length_set, List.length_map, List.length_replicate, List.length_append, List.length_modify]; omega)) only [xrun_ret, run_ite, run_fail, run_letj, xrun_loop, run_jump, xrun_call, jmp_join, jmp_loop, br_fail, br_true, br_false, xden_var, den_int, den_bool, den_str, den_nil, den_nilc, den_un, den_bin, den_tri, xon_and, xon_or, on_beq, xon_not, on_len, on_neg, on_conv, on_max, on_min, on_snoc, on_cat, on_cons, on_make, on_copy, on_plus, on_minus, on_cell, on_sel, on_slice, on_set, on_put, on_cmp, on_ar, ev_lss, ev_leq, ev_gtr, ev_geq, ev_eql, ev_neq, ar_add, ar_sub, ar_mul, ar_quo, ar_rem, pi_int, b_bool, r_row, c_cells, rowOf_r, List.map_cons, List.map_nil, List.cons_append, List.nil_append, List.getD_cons_zero, List.getD_cons_succ, List.getElem?_cons_zero, List.getElem?_cons_succ, List.take_zero, List.take_succ_cons, List.length_map, Int.toNat_natCast, decide_eq_true_eq, Int.ofNat_lt, Int.ofNat_le, xnat_nonneg, true_and, and_true, if_true, if_false, reduceIte, wrap_in, xints_at, xbools_at, xints_set, xints_snoc, xints_make, xints_nil, xbools_set, xbools_snoc, xbools_make, xcopy_make, List.length_replicate, List.length_cons, List.length_nil, Nat.reduceAdd]
    rfl
  have herr : TkRes l rows gap 0 [] [] [] 2 := ⟨fun _ => rfl, fun h => by cases h⟩
  cases w with
  | true =>
    refine ⟨0, [], [], [], 2, ?_, herr⟩
    rw [u_implicit_Tracks_j1]
    simp (disch := first | omega | (simp only [List.length_set, List.length_map, List.length_replicate, List.length_append, List.length_modify]; omega)) only [xrun_ret, run_ite, run_fail, run_letj, xrun_loop, run_jump, xrun_call, jmp_join, jmp_loop, br_fail, br_true, br_false, xden_var, den_int, den_bool, den_str, den_nil, den_nilc, den_un, den_bin, den_tri, xon_and, xon_or, on_beq, xon_not, on_len, on_neg, on_conv, on_max, on_min, on_snoc, on_cat, on_cons, on_make, on_copy, on_plus, on_minus, on_cell, on_sel, on_slice, on_set, on_put, on_cmp, on_ar, ev_lss, ev_leq, ev_gtr, ev_geq, ev_eql, ev_neq, ar_add, ar_sub, ar_mul, ar_quo, ar_rem, pi_int, b_bool, r_row, c_cells, rowOf_r, List.map_cons, List.map_nil, List.cons_append, List.nil_append, List.getD_cons_zero, List.getD_cons_succ, List.getElem?_cons_zero, List.getElem?_cons_succ, List.take_zero, List.take_succ_cons, List.length_map, Int.toNat_natCast, decide_eq_true_eq, Int.ofNat_lt, Int.ofNat_le, xnat_nonneg, true_and, and_true, if_true, if_false, reduceIte, wrap_in, xints_at, xbools_at, xints_set, xints_snoc, xints_make, xints_nil, xbools_set, xbools_snoc, xbools_make, xcopy_make, List.length_replicate, List.length_cons, List.length_nil, Nat.reduceAdd]
    exact hj0
  | false =>
    obtain ⟨w1, w2, w3⟩ := hw rfl
    by_cases hc : lines ≤ T.length ∨ 10001 < lines
    · refine ⟨0, [], [], [], 2, ?_, herr⟩
      rw [u_implicit_Tracks_j1]
      simp (disch := first | omega | (simp only [List.length_set, List.length_map, List.length_replicate, List.length_append, List.length_modify]; omega)) only [xrun_ret, run_ite, run_fail, run_letj, xrun_loop, run_jump, xrun_call, jmp_join, jmp_loop, br_fail, br_true, br_false, xden_var, den_int, den_bool, den_str, den_nil, den_nilc, den_un, den_bin, den_tri, xon_and, xon_or, on_beq, xon_not, on_len, on_neg, on_conv, on_max, on_min, on_snoc, on_cat, on_cons, on_make, on_copy, on_plus, on_minus, on_cell, on_sel, on_slice, on_set, on_put, on_cmp, on_ar, ev_lss, ev_leq, ev_gtr, ev_geq, ev_eql, ev_neq, ar_add, ar_sub, ar_mul, ar_quo, ar_rem, pi_int, b_bool, r_row, c_cells, rowOf_r, List.map_cons, List.map_nil, List.cons_append, List.nil_append, List.getD_cons_zero, List.getD_cons_succ, List.getElem?_cons_zero, List.getElem?_cons_succ, List.take_zero, List.take_succ_cons, List.length_map, Int.toNat_natCast, decide_eq_true_eq, Int.ofNat_lt, Int.ofNat_le, xnat_nonneg, true_and, and_true, if_true, if_false, reduceIte, wrap_in, xints_at, xbools_at, xints_set, xints_snoc, xints_make, xints_nil, xbools_set, xbools_snoc, xbools_make, xcopy_make, List.length_replicate, List.length_cons, List.length_nil, Nat.reduceAdd, Bool.not_and, Bool.not_or, Bool.not_not, Bool.and_eq_true, Bool.or_eq_true, Bool.not_eq_true', Bool.and_eq_false_imp, Bool.or_eq_false_iff, decide_eq_false_iff_not, decide_eq_true_eq, beq_iff_eq, beq_eq_false_iff_ne, bne_iff_ne, bne_eq_false_iff_eq, ne_eq, gt_iff_lt, ge_iff_le, Bool.false_eq_true, Bool.true_eq_false, beq_self_eq_true, beq_true, beq_false, Bool.not_false, Bool.not_true, Bool.false_and, Bool.true_and, Bool.and_true, Bool.and_false, Bool.or_true, Bool.true_or, Bool.or_false, Bool.false_or, false_and, true_and, and_false, and_true, or_false, or_true, false_or, true_or, not_true_eq_false, not_false_eq_true, false_iff, iff_false, true_iff, iff_true, forall_const, false_imp_iff, true_imp_iff, reduceCtorEq, imp_false]
      rw [br_pos hc]
      exact hj0
    · by_cases ha : (A.length : Int) < 1 ∨ 256 < (A.length : Int)
      · refine ⟨0, [], [], [], 2, ?_, herr⟩
        rw [u_implicit_Tracks_j1]
        simp (disch := first | omega | (simp only [List.length_set, List.length_map, List.length_replicate, List.length_append, List.length_modify]; omega)) only [xrun_ret, run_ite, run_fail, run_letj, xrun_loop, run_jump, xrun_call, jmp_join, jmp_loop, br_fail, br_true, br_false, xden_var, den_int, den_bool, den_str, den_nil, den_nilc, den_un, den_bin, den_tri, xon_and, xon_or, on_beq, xon_not, on_len, on_neg, on_conv, on_max, on_min, on_snoc, on_cat, on_cons, on_make, on_copy, on_plus, on_minus, on_cell, on_sel, on_slice, on_set, on_put, on_cmp, on_ar, ev_lss, ev_leq, ev_gtr, ev_geq, ev_eql, ev_neq, ar_add, ar_sub, ar_mul, ar_quo, ar_rem, pi_int, b_bool, r_row, c_cells, rowOf_r, List.map_cons, List.map_nil, List.cons_append, List.nil_append, List.getD_cons_zero, List.getD_cons_succ, List.getElem?_cons_zero, List.getElem?_cons_succ, List.take_zero, List.take_succ_cons, List.length_map, Int.toNat_natCast, decide_eq_true_eq, Int.ofNat_lt, Int.ofNat_le, xnat_nonneg, true_and, and_true, if_true, if_false, reduceIte, wrap_in, xints_at, xbools_at, xints_set, xints_snoc, xints_make, xints_nil, xbools_set, xbools_snoc, xbools_make, xcopy_make, List.length_replicate, List.length_cons, List.length_nil, Nat.reduceAdd, Bool.not_and, Bool.not_or, Bool.not_not, Bool.and_eq_true, Bool.or_eq_true, Bool.not_eq_true', Bool.and_eq_false_imp, Bool.or_eq_false_iff, decide_eq_false_iff_not, decide_eq_true_eq, beq_iff_eq, beq_eq_false_iff_ne, bne_iff_ne, bne_eq_false_iff_eq, ne_eq, gt_iff_lt, ge_iff_le, Bool.false_eq_true, Bool.true_eq_false, beq_self_eq_true, beq_true, beq_false, Bool.not_false, Bool.not_true, Bool.false_and, Bool.true_and, Bool.and_true, Bool.and_false, Bool.or_true, Bool.true_or, Bool.or_false, Bool.false_or, false_and, true_and, and_false, and_true, or_false, or_true, false_or, true_or, not_true_eq_false, not_false_eq_true, false_iff, iff_false, true_iff, iff_true, forall_const, false_imp_iff, true_imp_iff, reduceCtorEq, imp_false]
        rw [br_neg hc, br_pos ha]
        rw [u_implicit_Tracks_j2]
        simp (disch := first | omega | (simp only [List.length_set, List.length_map, List.length_replicate, List.length_append, List.length_modify]; omega)) only [xrun_ret, run_ite, run_fail, run_letj, xrun_loop, run_jump, xrun_call, jmp_join, jmp_loop, br_fail, br_true, br_false, xden_var, den_int, den_bool, den_str, den_nil, den_nilc, den_un, den_bin, den_tri, xon_and, xon_or, on_beq, xon_not, on_len, on_neg, on_conv, on_max, on_min, on_snoc, on_cat, on_cons, on_make, on_copy, on_plus, on_minus, on_cell, on_sel, on_slice, on_set, on_put, on_cmp, on_ar, ev_lss, ev_leq, ev_gtr, ev_geq, ev_eql, ev_neq, ar_add, ar_sub, ar_mul, ar_quo, ar_rem, pi_int, b_bool, r_row, c_cells, rowOf_r, List.map_cons, List.map_nil, List.cons_append, List.nil_append, List.getD_cons_zero, List.getD_cons_succ, List.getElem?_cons_zero, List.getElem?_cons_succ, List.take_zero, List.take_succ_cons, List.length_map, Int.toNat_natCast, decide_eq_true_eq, Int.ofNat_lt, Int.ofNat_le, xnat_nonneg, true_and, and_true, if_true, if_false, reduceIte, wrap_in, xints_at, xbools_at, xints_set, xints_snoc, xints_make, xints_nil, xbools_set, xbools_snoc, xbools_make, xcopy_make, List.length_replicate, List.length_cons, List.length_nil, Nat.reduceAdd]
        exact hj0
      · obtain ⟨x, hx⟩ := l11_run xs T F To lines A l rows gap false (.join implicit_Tracks_j0 [.row xs, rowOf eTr T, I F, I To, I lines, rowOf eTr A, rowOf eCl l, B rows, I gap]) (.join implicit_Tracks_j2 [.row xs, rowOf eTr T, I F, I To, I lines, rowOf eTr A, rowOf eCl l, B rows, I gap, B false]) (by omega) 0 (Nat.zero_le _)
        by_cases hx0 : 0 ≤ x
        · refine ⟨0, [], [], [], 2, ?_, herr⟩
          rw [u_implicit_Tracks_j1]
          simp (disch := first | omega | (simp only [List.length_set, List.length_map, List.length_replicate, List.length_append, List.length_modify]; omega)) only [xrun_ret, run_ite, run_fail, run_letj, xrun_loop, run_jump, xrun_call, jmp_join, jmp_loop, br_fail, br_true, br_false, xden_var, den_int, den_bool, den_str, den_nil, den_nilc, den_un, den_bin, den_tri, xon_and, xon_or, on_beq, xon_not, on_len, on_neg, on_conv, on_max, on_min, on_snoc, on_cat, on_cons, on_make, on_copy, on_plus, on_minus, on_cell, on_sel, on_slice, on_set, on_put, on_cmp, on_ar, ev_lss, ev_leq, ev_gtr, ev_geq, ev_eql, ev_neq, ar_add, ar_sub, ar_mul, ar_quo, ar_rem, pi_int, b_bool, r_row, c_cells, rowOf_r, List.map_cons, List.map_nil, List.cons_append, List.nil_append, List.getD_cons_zero, List.getD_cons_succ, List.getElem?_cons_zero, List.getElem?_cons_succ, List.take_zero, List.take_succ_cons, List.length_map, Int.toNat_natCast, decide_eq_true_eq, Int.ofNat_lt, Int.ofNat_le, xnat_nonneg, true_and, and_true, if_true, if_false, reduceIte, wrap_in, xints_at, xbools_at, xints_set, xints_snoc, xints_make, xints_nil, xbools_set, xbools_snoc, xbools_make, xcopy_make, List.length_replicate, List.length_cons, List.length_nil, Nat.reduceAdd, Bool.not_and, Bool.not_or, Bool.not_not, Bool.and_eq_true, Bool.or_eq_true, Bool.not_eq_true', Bool.and_eq_false_imp, Bool.or_eq_false_iff, decide_eq_false_iff_not, decide_eq_true_eq, beq_iff_eq, beq_eq_false_iff_ne, bne_iff_ne, bne_eq_false_iff_eq, ne_eq, gt_iff_lt, ge_iff_le, Bool.false_eq_true, Bool.true_eq_false, beq_self_eq_true, beq_true, beq_false, Bool.not_false, Bool.not_true, Bool.false_and, Bool.true_and, Bool.and_true, Bool.and_false, Bool.or_true, Bool.true_or, Bool.or_false, Bool.false_or, false_and, true_and, and_false, and_true, or_false, or_true, false_or, true_or, not_true_eq_false, not_false_eq_true, false_iff, iff_false, true_iff, iff_true, forall_const, false_imp_iff, true_imp_iff, reduceCtorEq, imp_false]
          rw [br_neg hc, br_neg ha]
          refine hx _ ?_
          rw [u_implicit_Tracks_j10]
          simp (disch := first | omega | (simp only [List.length_set, List.length_map, List.length_replicate, List.length_append, List.length_modify]; omega)) only [xrun_ret, run_ite, run_fail, run_letj, xrun_loop, run_jump, xrun_call, jmp_join, jmp_loop, br_fail, br_true, br_false, xden_var, den_int, den_bool, den_str, den_nil, den_nilc, den_un, den_bin, den_tri, xon_and, xon_or, on_beq, xon_not, on_len, on_neg, on_conv, on_max, on_min, on_snoc, on_cat, on_cons, on_make, on_copy, on_plus, on_minus, on_cell, on_sel, on_slice, on_set, on_put, on_cmp, on_ar, ev_lss, ev_leq, ev_gtr, ev_geq, ev_eql, ev_neq, ar_add, ar_sub, ar_mul, ar_quo, ar_rem, pi_int, b_bool, r_row, c_cells, rowOf_r, List.map_cons, List.map_nil, List.cons_append, List.nil_append, List.getD_cons_zero, List.getD_cons_succ, List.getElem?_cons_zero, List.getElem?_cons_succ, List.take_zero, List.take_succ_cons, List.length_map, Int.toNat_natCast, decide_eq_true_eq, Int.ofNat_lt, Int.ofNat_le, xnat_nonneg, true_and, and_true, if_true, if_false, reduceIte, wrap_in, xints_at, xbools_at, xints_set, xints_snoc, xints_make, xints_nil, xbools_set, xbools_snoc, xbools_make, xcopy_make, List.length_replicate, List.length_cons, List.length_nil, Nat.reduceAdd, ge_iff_le, hx0, decide_true]
          rw [u_implicit_Tracks_j2]
          simp (disch := first | omega | (simp only [List.length_set, List.length_map, List.length_replicate, List.length_append, List.length_modify]; omega)) only [xrun_ret, run_ite, run_fail, run_letj, xrun_loop, run_jump, xrun_call, jmp_join, jmp_loop, br_fail, br_true, br_false, xden_var, den_int, den_bool, den_str, den_nil, den_nilc, den_un, den_bin, den_tri, xon_and, xon_or, on_beq, xon_not, on_len, on_neg, on_conv, on_max, on_min, on_snoc, on_cat, on_cons, on_make, on_copy, on_plus, on_minus, on_cell, on_sel, on_slice, on_set, on_put, on_cmp, on_ar, ev_lss, ev_leq, ev_gtr, ev_geq, ev_eql, ev_neq, ar_add, ar_sub, ar_mul, ar_quo, ar_rem, pi_int, b_bool, r_row, c_cells, rowOf_r, List.map_cons, List.map_nil, List.cons_append, List.nil_append, List.getD_cons_zero, List.getD_cons_succ, List.getElem?_cons_zero, List.getElem?_cons_succ, List.take_zero, List.take_succ_cons, List.length_map, Int.toNat_natCast, decide_eq_true_eq, Int.ofNat_lt, Int.ofNat_le, xnat_nonneg, true_and, and_true, if_true, if_false, reduceIte, wrap_in, xints_at, xbools_at, xints_set, xints_snoc, xints_make, xints_nil, xbools_set, xbools_snoc, xbools_make, xcopy_make, List.length_replicate, List.length_cons, List.length_nil, Nat.reduceAdd]
          exact hj0
        · obtain ⟨low, L, G, Aa, h1, h2⟩ := j2_run xs T F To lines A l rows gap false (.join implicit_Tracks_j0 [.row xs, rowOf eTr T, I F, I To, I lines, rowOf eTr A, rowOf eCl l, B rows, I gap]) (by omega) w1 hl w2 (by omega) w3
          refine ⟨low, L, G, Aa, 0, ?_, ⟨fun h => absurd rfl h, fun _ => h1⟩⟩
          rw [u_implicit_Tracks_j1]
          simp (disch := first | omega | (simp only [List.length_set, List.length_map, List.length_replicate, List.length_append, List.length_modify]; omega)) only [xrun_ret, run_ite, run_fail, run_letj, xrun_loop, run_jump, xrun_call, jmp_join, jmp_loop, br_fail, br_true, br_false, xden_var, den_int, den_bool, den_str, den_nil, den_nilc, den_un, den_bin, den_tri, xon_and, xon_or, on_beq, xon_not, on_len, on_neg, on_conv, on_max, on_min, on_snoc, on_cat, on_cons, on_make, on_copy, on_plus, on_minus, on_cell, on_sel, on_slice, on_set, on_put, on_cmp, on_ar, ev_lss, ev_leq, ev_gtr, ev_geq, ev_eql, ev_neq, ar_add, ar_sub, ar_mul, ar_quo, ar_rem, pi_int, b_bool, r_row, c_cells, rowOf_r, List.map_cons, List.map_nil, List.cons_append, List.nil_append, List.getD_cons_zero, List.getD_cons_succ, List.getElem?_cons_zero, List.getElem?_cons_succ, List.take_zero, List.take_succ_cons, List.length_map, Int.toNat_natCast, decide_eq_true_eq, Int.ofNat_lt, Int.ofNat_le, xnat_nonneg, true_and, and_true, if_true, if_false, reduceIte, wrap_in, xints_at, xbools_at, xints_set, xints_snoc, xints_make, xints_nil, xbools_set, xbools_snoc, xbools_make, xcopy_make, List.length_replicate, List.length_cons, List.length_nil, Nat.reduceAdd, Bool.not_and, Bool.not_or, Bool.not_not, Bool.and_eq_true, Bool.or_eq_true, Bool.not_eq_true', Bool.and_eq_false_imp, Bool.or_eq_false_iff, decide_eq_false_iff_not, decide_eq_true_eq, beq_iff_eq, beq_eq_false_iff_ne, bne_iff_ne, bne_eq_false_iff_eq, ne_eq, gt_iff_lt, ge_iff_le, Bool.false_eq_true, Bool.true_eq_false, beq_self_eq_true, beq_true, beq_false, Bool.not_false, Bool.not_true, Bool.false_and, Bool.true_and, Bool.and_true, Bool.and_false, Bool.or_true, Bool.true_or, Bool.or_false, Bool.false_or, false_and, true_and, and_false, and_true, or_false, or_true, false_or, true_or, not_true_eq_false, not_false_eq_true, false_iff, iff_false, true_iff, iff_true, forall_const, false_imp_iff, true_imp_iff, reduceCtorEq, imp_false]
          rw [br_neg hc, br_neg ha]
          refine hx _ ?_
          rw [u_implicit_Tracks_j10]
          simp (disch := first | omega | (simp only [List.length_set, List.length_map, List.length_replicate, List.length_append, List.length_modify]; omega)) only [xrun_ret, run_ite, run_fail, run_letj, xrun_loop, run_jump, xrun_call, jmp_join, jmp_loop, br_fail, br_true, br_false, xden_var, den_int, den_bool, den_str, den_nil, den_nilc, den_un, den_bin, den_tri, xon_and, xon_or, on_beq, xon_not, on_len, on_neg, on_conv, on_max, on_min, on_snoc, on_cat, on_cons, on_make, on_copy, on_plus, on_minus, on_cell, on_sel, on_slice, on_set, on_put, on_cmp, on_ar, ev_lss, ev_leq, ev_gtr, ev_geq, ev_eql, ev_neq, ar_add, ar_sub, ar_mul, ar_quo, ar_rem, pi_int, b_bool, r_row, c_cells, rowOf_r, List.map_cons, List.map_nil, List.cons_append, List.nil_append, List.getD_cons_zero, List.getD_cons_succ, List.getElem?_cons_zero, List.getElem?_cons_succ, List.take_zero, List.take_succ_cons, List.length_map, Int.toNat_natCast, decide_eq_true_eq, Int.ofNat_lt, Int.ofNat_le, xnat_nonneg, true_and, and_true, if_true, if_false, reduceIte, wrap_in, xints_at, xbools_at, xints_set, xints_snoc, xints_make, xints_nil, xbools_set, xbools_snoc, xbools_make, xcopy_make, List.length_replicate, List.length_cons, List.length_nil, Nat.reduceAdd, ge_iff_le, hx0, decide_false]
          exact h2
theorem itracks_sp (xs : List (List PV)) (T : List Tr) (F To lines : Int) (A : List Tr) (l : List Cl) (rows : Bool) (gap : Int) (hT : T.length ≤ 1000000) (hl : l.length ≤ 100000) :
    ∃ (low : Int) (L : List Tr) (G : List Bool) (Aa : List Int) (e : Int), Says tr c_implicit_Tracks [.row xs, rowOf eTr T, I F, I To, I lines, rowOf eTr A, rowOf eCl l, B rows, I gap] [I low, rowOf eTr L, bools G, ints Aa, I e] ∧ TkRes l rows gap low L G Aa e := by
  obtain ⟨b, hb, hbT⟩ := egood_sp xs T F To hT
  cases b with
  | false =>
    obtain ⟨low, L, G, Aa, e, h1, h2⟩ := j1_run xs T F To lines A l rows gap true hl (fun h => by cases h)
    refine ⟨low, L, G, Aa, e, Says.of (t := implicit_Tracks) rfl ?_, h2⟩
    rw [u_implicit_Tracks]
    simp (disch := first | omega | (simp only [List.length_set, List.length_map, List.length_replicate, List.length_append, List.length_modify]; omega)) only [xrun_ret, run_ite, run_fail, run_letj, xrun_loop, run_jump, xrun_call, jmp_join, jmp_loop, br_fail, br_true, br_false, xden_var, den_int, den_bool, den_str, den_nil, den_nilc, den_un, den_bin, den_tri, xon_and, xon_or, on_beq, xon_not, on_len, on_neg, on_conv, on_max, on_min, on_snoc, on_cat, on_cons, on_make, on_copy, on_plus, on_minus, on_cell, on_sel, on_slice, on_set, on_put, on_cmp, on_ar, ev_lss, ev_leq, ev_gtr, ev_geq, ev_eql, ev_neq, ar_add, ar_sub, ar_mul, ar_quo, ar_rem, pi_int, b_bool, r_row, c_cells, rowOf_r, List.map_cons, List.map_nil, List.cons_append, List.nil_append, List.getD_cons_zero, List.getD_cons_succ, List.getElem?_cons_zero, List.getElem?_cons_succ, List.take_zero, List.take_succ_cons, List.length_map, Int.toNat_natCast, decide_eq_true_eq, Int.ofNat_lt, Int.ofNat_le, xnat_nonneg, true_and, and_true, if_true, if_false, reduceIte, wrap_in, xints_at, xbools_at, xints_set, xints_snoc, xints_make, xints_nil, xbools_set, xbools_snoc, xbools_make, xcopy_make, List.length_replicate, List.length_cons, List.length_nil, Nat.reduceAdd, xcall_of hb, Bool.false_eq_true]
    repeat rw [br_neg (by simp)]
    exact h1
  | true =>
    obtain ⟨q1, q2⟩ := hbT rfl
    have hin := iwithin_sp gap
    obtain ⟨low, L, G, Aa, e, h1, h2⟩ := j1_run xs T F To lines A l rows gap (!inB gap) hl (fun h => ⟨q1, q2, by simp [inB] at h; omega, by simp [inB] at h; omega⟩)
    refine ⟨low, L, G, Aa, e, Says.of (t := implicit_Tracks) rfl ?_, h2⟩
    rw [u_implicit_Tracks]
    simp (disch := first | omega | (simp only [List.length_set, List.length_map, List.length_replicate, List.length_append, List.length_modify]; omega)) only [xrun_ret, run_ite, run_fail, run_letj, xrun_loop, run_jump, xrun_call, jmp_join, jmp_loop, br_fail, br_true, br_false, xden_var, den_int, den_bool, den_str, den_nil, den_nilc, den_un, den_bin, den_tri, xon_and, xon_or, on_beq, xon_not, on_len, on_neg, on_conv, on_max, on_min, on_snoc, on_cat, on_cons, on_make, on_copy, on_plus, on_minus, on_cell, on_sel, on_slice, on_set, on_put, on_cmp, on_ar, ev_lss, ev_leq, ev_gtr, ev_geq, ev_eql, ev_neq, ar_add, ar_sub, ar_mul, ar_quo, ar_rem, pi_int, b_bool, r_row, c_cells, rowOf_r, List.map_cons, List.map_nil, List.cons_append, List.nil_append, List.getD_cons_zero, List.getD_cons_succ, List.getElem?_cons_zero, List.getElem?_cons_succ, List.take_zero, List.take_succ_cons, List.length_map, Int.toNat_natCast, decide_eq_true_eq, Int.ofNat_lt, Int.ofNat_le, xnat_nonneg, true_and, and_true, if_true, if_false, reduceIte, wrap_in, xints_at, xbools_at, xints_set, xints_snoc, xints_make, xints_nil, xbools_set, xbools_snoc, xbools_make, xcopy_make, List.length_replicate, List.length_cons, List.length_nil, Nat.reduceAdd, xcall_of hb, xcall_of hin]
    exact h1

/-! ### The sum of the gaps -/

def cntF : List Bool → Nat
  | [] => 0
  | true :: r => cntF r
  | false :: r => cntF r + 1
theorem cntF_le : ∀ (g : List Bool), cntF g ≤ g.length
  | [] => Nat.le_refl _
  | true :: r => by simp only [cntF, List.length_cons]; have := cntF_le r; omega
  | false :: r => by simp only [cntF, List.length_cons]; have := cntF_le r; omega
def sumL : List Int → Int
  | [] => 0
  | x :: r => x + sumL r
theorem sumL_set : ∀ (A : List Int) (i : Nat) (x : Int), A[i]? = some 0 → sumL (A.set i x) = sumL A + x
  | [], i, x, h => by simp at h
  | a :: r, 0, x, h => by simp at h; subst h; simp [sumL]; omega
  | a :: r, i + 1, x, h => by
    simp only [List.set_cons_succ, sumL]
    rw [sumL_set r i x (by simpa using h)]
    omega
theorem fill_sum (gap : Int) : ∀ (g : List Bool) (i : Nat) (b : Bool) (A : List Int), A.length = i + g.length → (∀ p, i ≤ p → p < A.length → A[p]? = some 0) →
    sumL (fillA gap g i b A) = sumL A + gap * ((if b then cntF g else cntF g - 1 : Nat) : Int)
  | [], i, b, A, _, _ => by cases b <;> simp [fillA, cntF]
  | true :: r, i, b, A, hl, h => by
    simp only [fillA, cntF]
    exact fill_sum gap r (i + 1) b A (by simp at hl; omega) (fun p hp => h p (by omega))
  | false :: r, i, b, A, hl, h => by
    simp only [fillA, cntF]
    cases b with
    | true =>
      simp only [if_true]
      rw [fill_sum gap r (i + 1) true (A.set i gap) (by simp at hl ⊢; omega) (fun p hp hlt => by rw [List.getElem?_set_ne (by omega)]; exact h p (by omega) (by simpa using hlt)), sumL_set A i gap (h i (Nat.le_refl _) (by simp at hl; omega))]
      simp only [if_true]
      rw [show ((cntF r + 1 : Nat) : Int) = (cntF r : Int) + 1 by omega, Int.mul_add, Int.mul_one]
      omega
    | false =>
      simp only [Bool.false_eq_true, if_false, Nat.add_sub_cancel]
      rw [fill_sum gap r (i + 1) true A (by simp at hl; omega) (fun p hp => h p (by omega))]
      simp
theorem fill_mem (gap : Int) : ∀ (g : List Bool) (i : Nat) (b : Bool) (A : List Int), ∀ x ∈ fillA gap g i b A, x ∈ A ∨ x = gap
  | [], i, b, A, x, h => .inl h
  | true :: r, i, b, A, x, h => fill_mem gap r (i + 1) b A x h
  | false :: r, i, b, A, x, h => by
    rw [fillA] at h
    rcases fill_mem gap r (i + 1) true _ x h with h | h
    · split at h
      · rcases List.mem_or_eq_of_mem_set h with h | h
        · exact .inl h
        · exact .inr h
      · exact .inl h
    · exact .inr h
theorem fill_len (gap : Int) : ∀ (g : List Bool) (i : Nat) (b : Bool) (A : List Int), (fillA gap g i b A).length = A.length
  | [], i, b, A => rfl
  | true :: r, i, b, A => by rw [fillA]; exact fill_len gap r (i + 1) b A
  | false :: r, i, b, A => by rw [fillA, fill_len gap r (i + 1)]; split <;> simp
theorem totW_sum : ∀ (l : List Int) (n : Int), 0 ≤ n → n + 68719476736 * l.length ≤ 4611686018427387904 → (∀ x ∈ l, 0 ≤ x ∧ x ≤ 68719476736) → totW n l = n + sumL l
  | [], n, _, _, _ => by simp [totW, sumL]
  | x :: r, n, h0, h1, hx => by
    obtain ⟨x0, x1⟩ := hx x List.mem_cons_self
    simp only [List.length_cons] at h1
    rw [totW, sumL, wrap_in (by omega) (by omega), totW_sum r (n + x) (by omega) (by omega) (fun y hy => hx y (List.mem_cons_of_mem _ hy))]
    omega
theorem gaps_tot {l : List Cl} {rows : Bool} {gap low : Int} {L : List Tr} {G : List Bool} {Aa : List Int} (h : TkIs l rows gap low L G Aa) : totW 0 Aa = gap * ((cntF G - 1 : Nat) : Int) ∧ Aa.length = G.length := by
  obtain ⟨h1, h2, h3, h4, h5, h6, h7, h8⟩ := h
  have hlen : Aa.length = G.length := by rw [h7, fill_len]; simp
  refine ⟨?_, hlen⟩
  rw [totW_sum Aa 0 (Int.le_refl _) (by omega) (fun x hx => by
    rw [h7] at hx
    rcases fill_mem gap G 0 false _ x hx with hx | rfl
    · rw [List.mem_replicate] at hx; omega
    · omega), h7, fill_sum gap G 0 false _ (by simp) (fun p _ hp => by rw [List.getElem?_replicate]; rw [if_pos (by simpa using hp)])]
  have hz : ∀ n : Nat, sumL (List.replicate n 0) = 0 := by
    intro n
    induction n with
    | zero => rfl
    | succ n ih => simp [List.replicate_succ, sumL, ih]
  rw [hz]
  simp
end Go.Proofs.Ytmfjdoanipgjkaa.T
