/- What the trees come to that tell whether tracks, and what is wanted of them, may be. No condition beyond what each states. -/
import Derived.Test.YtpaabecgngbjcaaT
import Derived.Test.YtpaabecgngbjcaaKbase
import Derived.Test.YtpaabecgngbjcaaKrmul
set_option linter.unusedVariables false
set_option linter.unusedSimpArgs false
set_option maxRecDepth 10000
namespace Go.Proofs.Ytpaabecgngbjcaa.T
open Go Go.Proofs.Ytpaabecgngbjcaa.Sx Go.Proofs.Ytpaabecgngbjcaa.M

def isB (x : Int) : Bool := decide (-68719476736 ≤ x) && decide (x ≤ 68719476736)
def okF (x : Sz) : Bool := decide (Gd x) && isB x.base
theorem fr1_sp (x : Sz) : Says tr c_flex_right_1 (eSz x) [B (!okF x)] := by
  refine Says.of (t := flex_right_1) rfl ?_
  rw [u_flex_right_1]
  have h := bgood_sp x
  simp (disch := first | omega | (simp only [List.length_set, List.length_map, List.length_replicate, List.length_append, List.length_modify]; omega)) only [xrun_ret, run_ite, run_fail, run_letj, xrun_loop, run_jump, xrun_call, jmp_join, jmp_loop, br_fail, br_true, br_false, xden_var, den_int, den_bool, den_str, den_nil, den_nilc, den_un, den_bin, den_tri, xon_and, xon_or, on_beq, xon_not, on_len, on_neg, on_conv, on_max, on_min, on_snoc, on_cat, on_cons, on_make, on_copy, on_plus, on_minus, on_cell, on_sel, on_slice, on_set, on_put, on_cmp, on_ar, ev_lss, ev_leq, ev_gtr, ev_geq, ev_eql, ev_neq, ar_add, ar_sub, ar_mul, ar_quo, ar_rem, pi_int, b_bool, r_row, c_cells, rowOf_r, List.map_cons, List.map_nil, List.cons_append, List.nil_append, List.getD_cons_zero, List.getD_cons_succ, List.getElem?_cons_zero, List.getElem?_cons_succ, List.take_zero, List.take_succ_cons, List.length_map, Int.toNat_natCast, decide_eq_true_eq, Int.ofNat_lt, Int.ofNat_le, xnat_nonneg, true_and, and_true, if_true, if_false, reduceIte, wrap_in, xints_at, xbools_at, xints_set, xints_snoc, xints_make, xints_nil, xbools_set, xbools_snoc, xbools_make, xcopy_make, List.length_replicate, List.length_cons, List.length_nil, Nat.reduceAdd, xcall_of h, xcall_of (is_sp _), decide_eq_true_eq]
  unfold okF isB
  by_cases hg : Gd x
  · rw [br_pos hg]
    simp [hg]
  · rw [br_neg hg]
    simp [hg]
def rightB (s : List Sz) (space : Int) : Bool := decide (0 ≤ space) && decide (space ≤ 68719476736) && s.all okF
theorem fright_sp (s : List Sz) (space : Int) (hs : s.length ≤ 1000000) : Says tr c_flex_right [rowOf eSz s, I space] [B (rightB s space)] := by
  refine Says.of (t := flex_right) rfl ?_
  rw [u_flex_right]
  have hl : ∀ j, j ≤ s.length → ∃ x : Int, (decide (0 ≤ x) = !(s.drop j).all okF) ∧ ∀ r, Run tr flex_right_j0 [rowOf eSz s, I space, B true, I x] [] r → Run tr flex_right_l1 [rowOf eSz s, I space, B true, I j] [.join flex_right_j0 [rowOf eSz s, I space, B true], .loop flex_right_l1 [rowOf eSz s, I space, B true]] r := by
    refine xup_ind fun j hj ih => ?_
    by_cases h : j < s.length
    · have h1 := fr1_sp s[j]
      rw [List.drop_eq_getElem_cons h]
      cases hr : okF s[j] with
      | true =>
        obtain ⟨x, hx1, hx⟩ := ih h
        refine ⟨x, by rw [hx1, List.all_cons, hr, Bool.true_and], fun r hh => ?_⟩
        rw [u_flex_right_l1]
        rw [hr] at h1
        simp (disch := first | omega | (simp only [List.length_set, List.length_map, List.length_replicate, List.length_append, List.length_modify]; omega)) only [xrun_ret, run_ite, run_fail, run_letj, xrun_loop, run_jump, xrun_call, jmp_join, jmp_loop, br_fail, br_true, br_false, xden_var, den_int, den_bool, den_str, den_nil, den_nilc, den_un, den_bin, den_tri, xon_and, xon_or, on_beq, xon_not, on_len, on_neg, on_conv, on_max, on_min, on_snoc, on_cat, on_cons, on_make, on_copy, on_plus, on_minus, on_cell, on_sel, on_slice, on_set, on_put, on_cmp, on_ar, ev_lss, ev_leq, ev_gtr, ev_geq, ev_eql, ev_neq, ar_add, ar_sub, ar_mul, ar_quo, ar_rem, pi_int, b_bool, r_row, c_cells, rowOf_r, List.map_cons, List.map_nil, List.cons_append, List.nil_append, List.getD_cons_zero, List.getD_cons_succ, List.getElem?_cons_zero, List.getElem?_cons_succ, List.take_zero, List.take_succ_cons, List.length_map, Int.toNat_natCast, decide_eq_true_eq, Int.ofNat_lt, Int.ofNat_le, xnat_nonneg, true_and, and_true, if_true, if_false, reduceIte, wrap_in, xints_at, xbools_at, xints_set, xints_snoc, xints_make, xints_nil, xbools_set, xbools_snoc, xbools_make, xcopy_make, List.length_replicate, List.length_cons, List.length_nil, Nat.reduceAdd, h, sz_at0, sz_at1, sz_at2, sz_at3, sz_at4, sz_at5, sz_at6, sz_snoc, sz_set, sz_put5, sz_put6, xcall_of h1, Bool.not_true, Bool.false_eq_true]
        repeat rw [br_neg (by simp)]
        exact hx r hh
      | false =>
        refine ⟨j, by rw [List.all_cons, hr, Bool.false_and]; exact decide_eq_true (by omega), fun r hh => ?_⟩
        rw [u_flex_right_l1]
        rw [hr] at h1
        simp (disch := first | omega | (simp only [List.length_set, List.length_map, List.length_replicate, List.length_append, List.length_modify]; omega)) only [xrun_ret, run_ite, run_fail, run_letj, xrun_loop, run_jump, xrun_call, jmp_join, jmp_loop, br_fail, br_true, br_false, xden_var, den_int, den_bool, den_str, den_nil, den_nilc, den_un, den_bin, den_tri, xon_and, xon_or, on_beq, xon_not, on_len, on_neg, on_conv, on_max, on_min, on_snoc, on_cat, on_cons, on_make, on_copy, on_plus, on_minus, on_cell, on_sel, on_slice, on_set, on_put, on_cmp, on_ar, ev_lss, ev_leq, ev_gtr, ev_geq, ev_eql, ev_neq, ar_add, ar_sub, ar_mul, ar_quo, ar_rem, pi_int, b_bool, r_row, c_cells, rowOf_r, List.map_cons, List.map_nil, List.cons_append, List.nil_append, List.getD_cons_zero, List.getD_cons_succ, List.getElem?_cons_zero, List.getElem?_cons_succ, List.take_zero, List.take_succ_cons, List.length_map, Int.toNat_natCast, decide_eq_true_eq, Int.ofNat_lt, Int.ofNat_le, xnat_nonneg, true_and, and_true, if_true, if_false, reduceIte, wrap_in, xints_at, xbools_at, xints_set, xints_snoc, xints_make, xints_nil, xbools_set, xbools_snoc, xbools_make, xcopy_make, List.length_replicate, List.length_cons, List.length_nil, Nat.reduceAdd, h, sz_at0, sz_at1, sz_at2, sz_at3, sz_at4, sz_at5, sz_at6, sz_snoc, sz_set, sz_put5, sz_put6, xcall_of h1, Bool.not_false]
        exact hh
    · refine ⟨-1, by rw [List.drop_of_length_le (by omega)]; rfl, fun r hh => ?_⟩
      rw [u_flex_right_l1]
      simp (disch := first | omega | (simp only [List.length_set, List.length_map, List.length_replicate, List.length_append, List.length_modify]; omega)) only [xrun_ret, run_ite, run_fail, run_letj, xrun_loop, run_jump, xrun_call, jmp_join, jmp_loop, br_fail, br_true, br_false, xden_var, den_int, den_bool, den_str, den_nil, den_nilc, den_un, den_bin, den_tri, xon_and, xon_or, on_beq, xon_not, on_len, on_neg, on_conv, on_max, on_min, on_snoc, on_cat, on_cons, on_make, on_copy, on_plus, on_minus, on_cell, on_sel, on_slice, on_set, on_put, on_cmp, on_ar, ev_lss, ev_leq, ev_gtr, ev_geq, ev_eql, ev_neq, ar_add, ar_sub, ar_mul, ar_quo, ar_rem, pi_int, b_bool, r_row, c_cells, rowOf_r, List.map_cons, List.map_nil, List.cons_append, List.nil_append, List.getD_cons_zero, List.getD_cons_succ, List.getElem?_cons_zero, List.getElem?_cons_succ, List.take_zero, List.take_succ_cons, List.length_map, Int.toNat_natCast, decide_eq_true_eq, Int.ofNat_lt, Int.ofNat_le, xnat_nonneg, true_and, and_true, if_true, if_false, reduceIte, wrap_in, xints_at, xbools_at, xints_set, xints_snoc, xints_make, xints_nil, xbools_set, xbools_snoc, xbools_make, xcopy_make, List.length_replicate, List.length_cons, List.length_nil, Nat.reduceAdd, h]
      exact hh
  obtain ⟨x, hx1, hx⟩ := hl 0 (Nat.zero_le _)
  rw [List.drop_zero] at hx1
  simp (disch := first | omega | (simp only [List.length_set, List.length_map, List.length_replicate, List.length_append, List.length_modify]; omega)) only [xrun_ret, run_ite, run_fail, run_letj, xrun_loop, run_jump, xrun_call, jmp_join, jmp_loop, br_fail, br_true, br_false, xden_var, den_int, den_bool, den_str, den_nil, den_nilc, den_un, den_bin, den_tri, xon_and, xon_or, on_beq, xon_not, on_len, on_neg, on_conv, on_max, on_min, on_snoc, on_cat, on_cons, on_make, on_copy, on_plus, on_minus, on_cell, on_sel, on_slice, on_set, on_put, on_cmp, on_ar, ev_lss, ev_leq, ev_gtr, ev_geq, ev_eql, ev_neq, ar_add, ar_sub, ar_mul, ar_quo, ar_rem, pi_int, b_bool, r_row, c_cells, rowOf_r, List.map_cons, List.map_nil, List.cons_append, List.nil_append, List.getD_cons_zero, List.getD_cons_succ, List.getElem?_cons_zero, List.getElem?_cons_succ, List.take_zero, List.take_succ_cons, List.length_map, Int.toNat_natCast, decide_eq_true_eq, Int.ofNat_lt, Int.ofNat_le, xnat_nonneg, true_and, and_true, if_true, if_false, reduceIte, wrap_in, xints_at, xbools_at, xints_set, xints_snoc, xints_make, xints_nil, xbools_set, xbools_snoc, xbools_make, xcopy_make, List.length_replicate, List.length_cons, List.length_nil, Nat.reduceAdd, xcall_of (is_sp _), Bool.not_and, Bool.not_or, Bool.not_not, Bool.and_eq_true, Bool.or_eq_true, Bool.not_eq_true', Bool.and_eq_false_imp, Bool.or_eq_false_iff, decide_eq_false_iff_not, decide_eq_true_eq, beq_iff_eq, beq_eq_false_iff_ne, bne_iff_ne, bne_eq_false_iff_eq, ne_eq, gt_iff_lt, ge_iff_le, Bool.false_eq_true, Bool.true_eq_false, beq_self_eq_true, beq_true, beq_false, Bool.not_false, Bool.not_true, Bool.false_and, Bool.true_and, Bool.and_true, Bool.and_false, Bool.or_true, Bool.true_or, Bool.or_false, Bool.false_or, false_and, true_and, and_false, and_true, or_false, or_true, false_or, true_or, not_true_eq_false, not_false_eq_true, false_iff, iff_false, true_iff, iff_true, forall_const, false_imp_iff, true_imp_iff, reduceCtorEq, imp_false]
  unfold rightB
  by_cases h0 : 0 ≤ space
  · rw [br_pos h0]
    by_cases h1 : space ≤ 68719476736
    · rw [br_pos (by omega)]
      have hb : (decide (-68719476736 ≤ space) && decide (space ≤ 68719476736)) = true := by simp; omega
      rw [hb]
      refine hx _ ?_
      rw [u_flex_right_j0]
      simp (disch := first | omega | (simp only [List.length_set, List.length_map, List.length_replicate, List.length_append, List.length_modify]; omega)) only [xrun_ret, run_ite, run_fail, run_letj, xrun_loop, run_jump, xrun_call, jmp_join, jmp_loop, br_fail, br_true, br_false, xden_var, den_int, den_bool, den_str, den_nil, den_nilc, den_un, den_bin, den_tri, xon_and, xon_or, on_beq, xon_not, on_len, on_neg, on_conv, on_max, on_min, on_snoc, on_cat, on_cons, on_make, on_copy, on_plus, on_minus, on_cell, on_sel, on_slice, on_set, on_put, on_cmp, on_ar, ev_lss, ev_leq, ev_gtr, ev_geq, ev_eql, ev_neq, ar_add, ar_sub, ar_mul, ar_quo, ar_rem, pi_int, b_bool, r_row, c_cells, rowOf_r, List.map_cons, List.map_nil, List.cons_append, List.nil_append, List.getD_cons_zero, List.getD_cons_succ, List.getElem?_cons_zero, List.getElem?_cons_succ, List.take_zero, List.take_succ_cons, List.length_map, Int.toNat_natCast, decide_eq_true_eq, Int.ofNat_lt, Int.ofNat_le, xnat_nonneg, true_and, and_true, if_true, if_false, reduceIte, wrap_in, xints_at, xbools_at, xints_set, xints_snoc, xints_make, xints_nil, xbools_set, xbools_snoc, xbools_make, xcopy_make, List.length_replicate, List.length_cons, List.length_nil, Nat.reduceAdd, ge_iff_le]
      rw [hx1]
      simp [h0, h1]
    · rw [br_neg (by omega)]
      simp [h0, h1]
  · rw [br_neg h0]
    simp [h0]
theorem ris01_sp (x : Int) : Says tr c_ref01_Is [I x] [B (decide (-68719476736 ≤ x) && decide (x ≤ 68719476736))] := by
  refine Says.of (t := ref01_Is) rfl ?_
  rw [u_ref01_Is]
  simp (disch := first | omega | (simp only [List.length_set, List.length_map, List.length_replicate, List.length_append, List.length_modify]; omega)) only [xrun_ret, run_ite, run_fail, run_letj, xrun_loop, run_jump, xrun_call, jmp_join, jmp_loop, br_fail, br_true, br_false, xden_var, den_int, den_bool, den_str, den_nil, den_nilc, den_un, den_bin, den_tri, xon_and, xon_or, on_beq, xon_not, on_len, on_neg, on_conv, on_max, on_min, on_snoc, on_cat, on_cons, on_make, on_copy, on_plus, on_minus, on_cell, on_sel, on_slice, on_set, on_put, on_cmp, on_ar, ev_lss, ev_leq, ev_gtr, ev_geq, ev_eql, ev_neq, ar_add, ar_sub, ar_mul, ar_quo, ar_rem, pi_int, b_bool, r_row, c_cells, rowOf_r, List.map_cons, List.map_nil, List.cons_append, List.nil_append, List.getD_cons_zero, List.getD_cons_succ, List.getElem?_cons_zero, List.getElem?_cons_succ, List.take_zero, List.take_succ_cons, List.length_map, Int.toNat_natCast, decide_eq_true_eq, Int.ofNat_lt, Int.ofNat_le, xnat_nonneg, true_and, and_true, if_true, if_false, reduceIte, wrap_in, xints_at, xbools_at, xints_set, xints_snoc, xints_make, xints_nil, xbools_set, xbools_snoc, xbools_make, xcopy_make, List.length_replicate, List.length_cons, List.length_nil, Nat.reduceAdd, ge_iff_le]
theorem rright_sp (s : List Sz) (space : Int) (hs : s.length ≤ 1000000) : Says tr c_ref26_right [rowOf eSz s, I space] [B (rightB s space)] := by
  refine Says.of (t := ref26_right) rfl ?_
  rw [u_ref26_right]
  simp (disch := first | omega | (simp only [List.length_set, List.length_map, List.length_replicate, List.length_append, List.length_modify]; omega)) only [xrun_ret, run_ite, run_fail, run_letj, xrun_loop, run_jump, xrun_call, jmp_join, jmp_loop, br_fail, br_true, br_false, xden_var, den_int, den_bool, den_str, den_nil, den_nilc, den_un, den_bin, den_tri, xon_and, xon_or, on_beq, xon_not, on_len, on_neg, on_conv, on_max, on_min, on_snoc, on_cat, on_cons, on_make, on_copy, on_plus, on_minus, on_cell, on_sel, on_slice, on_set, on_put, on_cmp, on_ar, ev_lss, ev_leq, ev_gtr, ev_geq, ev_eql, ev_neq, ar_add, ar_sub, ar_mul, ar_quo, ar_rem, pi_int, b_bool, r_row, c_cells, rowOf_r, List.map_cons, List.map_nil, List.cons_append, List.nil_append, List.getD_cons_zero, List.getD_cons_succ, List.getElem?_cons_zero, List.getElem?_cons_succ, List.take_zero, List.take_succ_cons, List.length_map, Int.toNat_natCast, decide_eq_true_eq, Int.ofNat_lt, Int.ofNat_le, xnat_nonneg, true_and, and_true, if_true, if_false, reduceIte, wrap_in, xints_at, xbools_at, xints_set, xints_snoc, xints_make, xints_nil, xbools_set, xbools_snoc, xbools_make, xcopy_make, List.length_replicate, List.length_cons, List.length_nil, Nat.reduceAdd]
  have key := xup_ind (n := s.length) (P := fun j => (s.drop j).all okF = s.all okF → Run tr ref26_right_l0 [rowOf eSz s, I space, I j] [.loop ref26_right_l0 [rowOf eSz s, I space]] [B (rightB s space)]) ?_ 0 (Nat.zero_le _)
  · exact key rfl
  intro j hj ih hall
  rw [u_ref26_right_l0]
  by_cases h : j < s.length
  · rw [List.drop_eq_getElem_cons h, List.all_cons] at hall
    have h1 := rgood_sp s[j]
    have hj1 : ∀ b : Bool, okF s[j] = !b → Run tr ref26_right_j1 [rowOf eSz s, I space, I j, B b] [.loop ref26_right_l0 [rowOf eSz s, I space]] [B (rightB s space)] := by
      intro b hb
      rw [u_ref26_right_j1]
      cases b with
      | true =>
        rw [hb] at hall
        simp (disch := first | omega | (simp only [List.length_set, List.length_map, List.length_replicate, List.length_append, List.length_modify]; omega)) only [xrun_ret, run_ite, run_fail, run_letj, xrun_loop, run_jump, xrun_call, jmp_join, jmp_loop, br_fail, br_true, br_false, xden_var, den_int, den_bool, den_str, den_nil, den_nilc, den_un, den_bin, den_tri, xon_and, xon_or, on_beq, xon_not, on_len, on_neg, on_conv, on_max, on_min, on_snoc, on_cat, on_cons, on_make, on_copy, on_plus, on_minus, on_cell, on_sel, on_slice, on_set, on_put, on_cmp, on_ar, ev_lss, ev_leq, ev_gtr, ev_geq, ev_eql, ev_neq, ar_add, ar_sub, ar_mul, ar_quo, ar_rem, pi_int, b_bool, r_row, c_cells, rowOf_r, List.map_cons, List.map_nil, List.cons_append, List.nil_append, List.getD_cons_zero, List.getD_cons_succ, List.getElem?_cons_zero, List.getElem?_cons_succ, List.take_zero, List.take_succ_cons, List.length_map, Int.toNat_natCast, decide_eq_true_eq, Int.ofNat_lt, Int.ofNat_le, xnat_nonneg, true_and, and_true, if_true, if_false, reduceIte, wrap_in, xints_at, xbools_at, xints_set, xints_snoc, xints_make, xints_nil, xbools_set, xbools_snoc, xbools_make, xcopy_make, List.length_replicate, List.length_cons, List.length_nil, Nat.reduceAdd]
        unfold rightB
        rw [← hall]
        simp
      | false =>
        rw [hb] at hall
        have := ih h (by simpa using hall)
        simp (disch := first | omega | (simp only [List.length_set, List.length_map, List.length_replicate, List.length_append, List.length_modify]; omega)) only [xrun_ret, run_ite, run_fail, run_letj, xrun_loop, run_jump, xrun_call, jmp_join, jmp_loop, br_fail, br_true, br_false, xden_var, den_int, den_bool, den_str, den_nil, den_nilc, den_un, den_bin, den_tri, xon_and, xon_or, on_beq, xon_not, on_len, on_neg, on_conv, on_max, on_min, on_snoc, on_cat, on_cons, on_make, on_copy, on_plus, on_minus, on_cell, on_sel, on_slice, on_set, on_put, on_cmp, on_ar, ev_lss, ev_leq, ev_gtr, ev_geq, ev_eql, ev_neq, ar_add, ar_sub, ar_mul, ar_quo, ar_rem, pi_int, b_bool, r_row, c_cells, rowOf_r, List.map_cons, List.map_nil, List.cons_append, List.nil_append, List.getD_cons_zero, List.getD_cons_succ, List.getElem?_cons_zero, List.getElem?_cons_succ, List.take_zero, List.take_succ_cons, List.length_map, Int.toNat_natCast, decide_eq_true_eq, Int.ofNat_lt, Int.ofNat_le, xnat_nonneg, true_and, and_true, if_true, if_false, reduceIte, wrap_in, xints_at, xbools_at, xints_set, xints_snoc, xints_make, xints_nil, xbools_set, xbools_snoc, xbools_make, xcopy_make, List.length_replicate, List.length_cons, List.length_nil, Nat.reduceAdd, Bool.false_eq_true]
        repeat rw [br_neg (by simp)]
        exact this
    simp (disch := first | omega | (simp only [List.length_set, List.length_map, List.length_replicate, List.length_append, List.length_modify]; omega)) only [xrun_ret, run_ite, run_fail, run_letj, xrun_loop, run_jump, xrun_call, jmp_join, jmp_loop, br_fail, br_true, br_false, xden_var, den_int, den_bool, den_str, den_nil, den_nilc, den_un, den_bin, den_tri, xon_and, xon_or, on_beq, xon_not, on_len, on_neg, on_conv, on_max, on_min, on_snoc, on_cat, on_cons, on_make, on_copy, on_plus, on_minus, on_cell, on_sel, on_slice, on_set, on_put, on_cmp, on_ar, ev_lss, ev_leq, ev_gtr, ev_geq, ev_eql, ev_neq, ar_add, ar_sub, ar_mul, ar_quo, ar_rem, pi_int, b_bool, r_row, c_cells, rowOf_r, List.map_cons, List.map_nil, List.cons_append, List.nil_append, List.getD_cons_zero, List.getD_cons_succ, List.getElem?_cons_zero, List.getElem?_cons_succ, List.take_zero, List.take_succ_cons, List.length_map, Int.toNat_natCast, decide_eq_true_eq, Int.ofNat_lt, Int.ofNat_le, xnat_nonneg, true_and, and_true, if_true, if_false, reduceIte, wrap_in, xints_at, xbools_at, xints_set, xints_snoc, xints_make, xints_nil, xbools_set, xbools_snoc, xbools_make, xcopy_make, List.length_replicate, List.length_cons, List.length_nil, Nat.reduceAdd, h, sz_at0, sz_at1, sz_at2, sz_at3, sz_at4, sz_at5, sz_at6, sz_snoc, sz_set, sz_put5, sz_put6, xcall_of h1, xcall_of (ris01_sp _), decide_eq_true_eq]
    by_cases hg : Gd s[j]
    · rw [br_pos hg]
      refine hj1 _ ?_
      unfold okF isB
      simp [hg]
    · rw [br_neg hg]
      refine hj1 true ?_
      unfold okF
      simp [hg]
  · rw [List.drop_of_length_le (by omega)] at hall
    simp (disch := first | omega | (simp only [List.length_set, List.length_map, List.length_replicate, List.length_append, List.length_modify]; omega)) only [xrun_ret, run_ite, run_fail, run_letj, xrun_loop, run_jump, xrun_call, jmp_join, jmp_loop, br_fail, br_true, br_false, xden_var, den_int, den_bool, den_str, den_nil, den_nilc, den_un, den_bin, den_tri, xon_and, xon_or, on_beq, xon_not, on_len, on_neg, on_conv, on_max, on_min, on_snoc, on_cat, on_cons, on_make, on_copy, on_plus, on_minus, on_cell, on_sel, on_slice, on_set, on_put, on_cmp, on_ar, ev_lss, ev_leq, ev_gtr, ev_geq, ev_eql, ev_neq, ar_add, ar_sub, ar_mul, ar_quo, ar_rem, pi_int, b_bool, r_row, c_cells, rowOf_r, List.map_cons, List.map_nil, List.cons_append, List.nil_append, List.getD_cons_zero, List.getD_cons_succ, List.getElem?_cons_zero, List.getElem?_cons_succ, List.take_zero, List.take_succ_cons, List.length_map, Int.toNat_natCast, decide_eq_true_eq, Int.ofNat_lt, Int.ofNat_le, xnat_nonneg, true_and, and_true, if_true, if_false, reduceIte, wrap_in, xints_at, xbools_at, xints_set, xints_snoc, xints_make, xints_nil, xbools_set, xbools_snoc, xbools_make, xcopy_make, List.length_replicate, List.length_cons, List.length_nil, Nat.reduceAdd, h, ge_iff_le]
    unfold rightB
    rw [← hall]
    simp
end Go.Proofs.Ytpaabecgngbjcaa.T
