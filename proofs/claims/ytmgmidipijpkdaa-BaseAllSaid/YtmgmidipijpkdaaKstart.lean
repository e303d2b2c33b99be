/- What the trees come to that tell how tracks begin: parts of lengths, sizes resolved, kinds; a track, and all of them. No condition beyond what each states. -/
import Derived.Test.YtmgmidipijpkdaaT
import Derived.Test.YtmgmidipijpkdaaKbase
import Derived.Test.YtmgmidipijpkdaaKtrk
import Derived.Test.YtmgmidipijpkdaaKrmul
set_option linter.unusedVariables false
set_option linter.unusedSimpArgs false
namespace Go.Proofs.Ytmgmidipijpkdaa.T
open Go Go.Proofs.Ytmgmidipijpkdaa.Sx Go.Proofs.Ytmgmidipijpkdaa.M

def I64 (x : Int) : Prop := -9223372036854775808 ≤ x ∧ x ≤ 9223372036854775807
/-- A part of a length. -/
def pct (a b : Int) : Int × Int :=
  if ¬ (-68719476736 ≤ b ∧ b ≤ 68719476736) ∨ a < -1073741824 ∨ 1073741824 < a then (0, 2)
  else if (md b a 100000).2 ≠ 0 ∨ ¬ (-68719476736 ≤ (md b a 100000).1 ∧ (md b a 100000).1 ≤ 68719476736) then (0, 10) else ((md b a 100000).1, 0)
theorem pct_pos {a b : Int} (ha : 0 ≤ a ∧ a ≤ 1073741824) (hb : 0 ≤ b ∧ b ≤ 68719476736) : 0 ≤ (pct a b).1 ∧ (pct a b).1 ≤ 68719476736 := by
  have hp : b * a ≤ 68719476736 * 1073741824 := Int.mul_le_mul hb.2 ha.2 ha.1 (by decide)
  have hq : b * a / 100000 < 9223372036854775808 := by
    rw [Int.ediv_lt_iff_lt_mul (by decide)]
    omega
  have h0 : 0 ≤ b * a / 100000 := Int.ediv_nonneg (Int.mul_nonneg hb.1 ha.1) (by decide)
  have hm := md_pos hb.1 ha.1 (by decide : (0 : Int) < 100000) hq
  unfold pct
  rw [hm]
  simp only
  split
  · simp
  · split
    · simp
    · rename_i h1
      simp only
      omega
theorem pct_sp (a b : Int) (ha : I64 a) (hb : I64 b) : Says tr c_fixed_Percent [I a, I b] [I (pct a b).1, I (pct a b).2] := by
  refine Says.of (t := fixed_Percent) rfl ?_
  rw [u_fixed_Percent]
  unfold pct
  simp (disch := first | omega | (simp only [List.length_set, List.length_map, List.length_replicate, List.length_append, List.length_modify]; omega)) only [xrun_ret, run_ite, run_fail, run_letj, xrun_loop, run_jump, xrun_call, jmp_join, jmp_loop, br_fail, br_true, br_false, xden_var, den_int, den_bool, den_str, den_nil, den_nilc, den_un, den_bin, den_tri, xon_and, xon_or, on_beq, xon_not, on_len, on_neg, on_conv, on_max, on_min, on_snoc, on_cat, on_cons, on_make, on_copy, on_plus, on_minus, on_cell, on_sel, on_slice, on_set, on_put, on_cmp, on_ar, ev_lss, ev_leq, ev_gtr, ev_geq, ev_eql, ev_neq, ar_add, ar_sub, ar_mul, ar_quo, ar_rem, pi_int, b_bool, r_row, c_cells, rowOf_r, List.map_cons, List.map_nil, List.cons_append, List.nil_append, List.getD_cons_zero, List.getD_cons_succ, List.getElem?_cons_zero, List.getElem?_cons_succ, List.take_zero, List.take_succ_cons, List.length_map, Int.toNat_natCast, decide_eq_true_eq, Int.ofNat_lt, Int.ofNat_le, xnat_nonneg, true_and, and_true, if_true, if_false, reduceIte, wrap_in, xints_at, xbools_at, xints_set, xints_snoc, xints_make, xints_nil, xbools_set, xbools_snoc, xbools_make, xcopy_make, List.length_replicate, List.length_cons, List.length_nil, Nat.reduceAdd, xcall_of (is_sp _), Bool.not_and, Bool.not_or, Bool.not_not, Bool.and_eq_true, Bool.or_eq_true, Bool.not_eq_true', Bool.and_eq_false_imp, Bool.or_eq_false_iff, decide_eq_false_iff_not, decide_eq_true_eq, beq_iff_eq, beq_eq_false_iff_ne, bne_iff_ne, bne_eq_false_iff_eq, ne_eq, gt_iff_lt, ge_iff_le, Bool.false_eq_true, Bool.true_eq_false, beq_self_eq_true, beq_true, beq_false, Bool.not_false, Bool.not_true, Bool.false_and, Bool.true_and, Bool.and_true, Bool.and_false, Bool.or_true, Bool.true_or, Bool.or_false, Bool.false_or, false_and, true_and, and_false, and_true, or_false, or_true, false_or, true_or, not_true_eq_false, not_false_eq_true, false_iff, iff_false, true_iff, iff_true, forall_const, false_imp_iff, true_imp_iff, reduceCtorEq, imp_false]
  refine br_split ?_ ?_ <;> intro _
  · rename_i h
    rw [if_pos (by omega)]
  · rename_i h
    rw [if_neg (by omega)]
    simp (disch := first | omega | (simp only [List.length_set, List.length_map, List.length_replicate, List.length_append, List.length_modify]; omega)) only [xrun_ret, run_ite, run_fail, run_letj, xrun_loop, run_jump, xrun_call, jmp_join, jmp_loop, br_fail, br_true, br_false, xden_var, den_int, den_bool, den_str, den_nil, den_nilc, den_un, den_bin, den_tri, xon_and, xon_or, on_beq, xon_not, on_len, on_neg, on_conv, on_max, on_min, on_snoc, on_cat, on_cons, on_make, on_copy, on_plus, on_minus, on_cell, on_sel, on_slice, on_set, on_put, on_cmp, on_ar, ev_lss, ev_leq, ev_gtr, ev_geq, ev_eql, ev_neq, ar_add, ar_sub, ar_mul, ar_quo, ar_rem, pi_int, b_bool, r_row, c_cells, rowOf_r, List.map_cons, List.map_nil, List.cons_append, List.nil_append, List.getD_cons_zero, List.getD_cons_succ, List.getElem?_cons_zero, List.getElem?_cons_succ, List.take_zero, List.take_succ_cons, List.length_map, Int.toNat_natCast, decide_eq_true_eq, Int.ofNat_lt, Int.ofNat_le, xnat_nonneg, true_and, and_true, if_true, if_false, reduceIte, wrap_in, xints_at, xbools_at, xints_set, xints_snoc, xints_make, xints_nil, xbools_set, xbools_snoc, xbools_make, xcopy_make, List.length_replicate, List.length_cons, List.length_nil, Nat.reduceAdd, xcall_of (muldiv_sp b a 100000 hb ha (by omega)), xcall_of (is_sp _), Bool.not_and, Bool.not_or, Bool.not_not, Bool.and_eq_true, Bool.or_eq_true, Bool.not_eq_true', Bool.and_eq_false_imp, Bool.or_eq_false_iff, decide_eq_false_iff_not, decide_eq_true_eq, beq_iff_eq, beq_eq_false_iff_ne, bne_iff_ne, bne_eq_false_iff_eq, ne_eq, gt_iff_lt, ge_iff_le, Bool.false_eq_true, Bool.true_eq_false, beq_self_eq_true, beq_true, beq_false, Bool.not_false, Bool.not_true, Bool.false_and, Bool.true_and, Bool.and_true, Bool.and_false, Bool.or_true, Bool.true_or, Bool.or_false, Bool.false_or, false_and, true_and, and_false, and_true, or_false, or_true, false_or, true_or, not_true_eq_false, not_false_eq_true, false_iff, iff_false, true_iff, iff_true, forall_const, false_imp_iff, true_imp_iff, reduceCtorEq, imp_false, u_fixed_Percent_j0]
    by_cases h1 : (md b a 100000).2 = 0
    · rw [br_neg (by simp [h1])]
      by_cases h2 : -68719476736 ≤ (md b a 100000).1 ∧ (md b a 100000).1 ≤ 68719476736
      · rw [if_neg (by omega)]
        rw [br_neg (by omega)]
      · rw [if_pos (by omega)]
        rw [br_pos (by omega)]
    · rw [br_pos h1, if_pos (Or.inl h1)]
theorem ris_sp (x : Int) : Says tr c_ref01_Is [I x] [B (decide (-68719476736 ≤ x) && decide (x ≤ 68719476736))] := by
  refine Says.of (t := ref01_Is) rfl ?_
  rw [u_ref01_Is]
  simp (disch := first | omega | (simp only [List.length_set, List.length_map, List.length_replicate, List.length_append, List.length_modify]; omega)) only [xrun_ret, run_ite, run_fail, run_letj, xrun_loop, run_jump, xrun_call, jmp_join, jmp_loop, br_fail, br_true, br_false, xden_var, den_int, den_bool, den_str, den_nil, den_nilc, den_un, den_bin, den_tri, xon_and, xon_or, on_beq, xon_not, on_len, on_neg, on_conv, on_max, on_min, on_snoc, on_cat, on_cons, on_make, on_copy, on_plus, on_minus, on_cell, on_sel, on_slice, on_set, on_put, on_cmp, on_ar, ev_lss, ev_leq, ev_gtr, ev_geq, ev_eql, ev_neq, ar_add, ar_sub, ar_mul, ar_quo, ar_rem, pi_int, b_bool, r_row, c_cells, rowOf_r, List.map_cons, List.map_nil, List.cons_append, List.nil_append, List.getD_cons_zero, List.getD_cons_succ, List.getElem?_cons_zero, List.getElem?_cons_succ, List.take_zero, List.take_succ_cons, List.length_map, Int.toNat_natCast, decide_eq_true_eq, Int.ofNat_lt, Int.ofNat_le, xnat_nonneg, true_and, and_true, if_true, if_false, reduceIte, wrap_in, xints_at, xbools_at, xints_set, xints_snoc, xints_make, xints_nil, xbools_set, xbools_snoc, xbools_make, xcopy_make, List.length_replicate, List.length_cons, List.length_nil, Nat.reduceAdd, ge_iff_le]
theorem rpct_sp (a b : Int) (ha : I64 a) (hb : I64 b) : Says tr c_ref01_Percent [I a, I b] [I (pct a b).1, I (pct a b).2] := by
  refine Says.of (t := ref01_Percent) rfl ?_
  rw [u_ref01_Percent]
  unfold pct
  simp (disch := first | omega | (simp only [List.length_set, List.length_map, List.length_replicate, List.length_append, List.length_modify]; omega)) only [xrun_ret, run_ite, run_fail, run_letj, xrun_loop, run_jump, xrun_call, jmp_join, jmp_loop, br_fail, br_true, br_false, xden_var, den_int, den_bool, den_str, den_nil, den_nilc, den_un, den_bin, den_tri, xon_and, xon_or, on_beq, xon_not, on_len, on_neg, on_conv, on_max, on_min, on_snoc, on_cat, on_cons, on_make, on_copy, on_plus, on_minus, on_cell, on_sel, on_slice, on_set, on_put, on_cmp, on_ar, ev_lss, ev_leq, ev_gtr, ev_geq, ev_eql, ev_neq, ar_add, ar_sub, ar_mul, ar_quo, ar_rem, pi_int, b_bool, r_row, c_cells, rowOf_r, List.map_cons, List.map_nil, List.cons_append, List.nil_append, List.getD_cons_zero, List.getD_cons_succ, List.getElem?_cons_zero, List.getElem?_cons_succ, List.take_zero, List.take_succ_cons, List.length_map, Int.toNat_natCast, decide_eq_true_eq, Int.ofNat_lt, Int.ofNat_le, xnat_nonneg, true_and, and_true, if_true, if_false, reduceIte, wrap_in, xints_at, xbools_at, xints_set, xints_snoc, xints_make, xints_nil, xbools_set, xbools_snoc, xbools_make, xcopy_make, List.length_replicate, List.length_cons, List.length_nil, Nat.reduceAdd, xcall_of (ris_sp _), Bool.not_and, Bool.not_or, Bool.not_not, Bool.and_eq_true, Bool.or_eq_true, Bool.not_eq_true', Bool.and_eq_false_imp, Bool.or_eq_false_iff, decide_eq_false_iff_not, decide_eq_true_eq, beq_iff_eq, beq_eq_false_iff_ne, bne_iff_ne, bne_eq_false_iff_eq, ne_eq, gt_iff_lt, ge_iff_le, Bool.false_eq_true, Bool.true_eq_false, beq_self_eq_true, beq_true, beq_false, Bool.not_false, Bool.not_true, Bool.false_and, Bool.true_and, Bool.and_true, Bool.and_false, Bool.or_true, Bool.true_or, Bool.or_false, Bool.false_or, false_and, true_and, and_false, and_true, or_false, or_true, false_or, true_or, not_true_eq_false, not_false_eq_true, false_iff, iff_false, true_iff, iff_true, forall_const, false_imp_iff, true_imp_iff, reduceCtorEq, imp_false]
  refine br_split ?_ ?_ <;> intro _
  · rename_i h
    rw [if_pos (by omega)]
  · rename_i h
    rw [if_neg (by omega)]
    simp (disch := first | omega | (simp only [List.length_set, List.length_map, List.length_replicate, List.length_append, List.length_modify]; omega)) only [xrun_ret, run_ite, run_fail, run_letj, xrun_loop, run_jump, xrun_call, jmp_join, jmp_loop, br_fail, br_true, br_false, xden_var, den_int, den_bool, den_str, den_nil, den_nilc, den_un, den_bin, den_tri, xon_and, xon_or, on_beq, xon_not, on_len, on_neg, on_conv, on_max, on_min, on_snoc, on_cat, on_cons, on_make, on_copy, on_plus, on_minus, on_cell, on_sel, on_slice, on_set, on_put, on_cmp, on_ar, ev_lss, ev_leq, ev_gtr, ev_geq, ev_eql, ev_neq, ar_add, ar_sub, ar_mul, ar_quo, ar_rem, pi_int, b_bool, r_row, c_cells, rowOf_r, List.map_cons, List.map_nil, List.cons_append, List.nil_append, List.getD_cons_zero, List.getD_cons_succ, List.getElem?_cons_zero, List.getElem?_cons_succ, List.take_zero, List.take_succ_cons, List.length_map, Int.toNat_natCast, decide_eq_true_eq, Int.ofNat_lt, Int.ofNat_le, xnat_nonneg, true_and, and_true, if_true, if_false, reduceIte, wrap_in, xints_at, xbools_at, xints_set, xints_snoc, xints_make, xints_nil, xbools_set, xbools_snoc, xbools_make, xcopy_make, List.length_replicate, List.length_cons, List.length_nil, Nat.reduceAdd, xcall_of (rmuldiv_sp b a 100000 hb ha (by omega)), xcall_of (ris_sp _), Bool.not_and, Bool.not_or, Bool.not_not, Bool.and_eq_true, Bool.or_eq_true, Bool.not_eq_true', Bool.and_eq_false_imp, Bool.or_eq_false_iff, decide_eq_false_iff_not, decide_eq_true_eq, beq_iff_eq, beq_eq_false_iff_ne, bne_iff_ne, bne_eq_false_iff_eq, ne_eq, gt_iff_lt, ge_iff_le, Bool.false_eq_true, Bool.true_eq_false, beq_self_eq_true, beq_true, beq_false, Bool.not_false, Bool.not_true, Bool.false_and, Bool.true_and, Bool.and_true, Bool.and_false, Bool.or_true, Bool.true_or, Bool.or_false, Bool.false_or, false_and, true_and, and_false, and_true, or_false, or_true, false_or, true_or, not_true_eq_false, not_false_eq_true, false_iff, iff_false, true_iff, iff_true, forall_const, false_imp_iff, true_imp_iff, reduceCtorEq, imp_false, u_ref01_Percent_j0]
    by_cases h1 : (md b a 100000).2 = 0
    · rw [br_neg (by simp [h1])]
      by_cases h2 : -68719476736 ≤ (md b a 100000).1 ∧ (md b a 100000).1 ≤ 68719476736
      · rw [if_neg (by omega)]
        rw [br_neg (by omega)]
      · rw [if_pos (by omega)]
        rw [br_pos (by omega)]
    · rw [br_pos h1, if_pos (Or.inl h1)]
/-- A size, resolved: how much, whether it is told, what is wrong. -/
def resS (k n b : Int) (d : Bool) : Int × Bool × Int :=
  if k = 2 then (n, true, 0) else if k = 3 ∧ d = true then ((pct n b).1, decide ((pct n b).2 = 0), (pct n b).2) else (0, false, 0)
theorem res_sp (k n b : Int) (d : Bool) (hn : I64 n) (hb : I64 b) : Says tr c_value_Resolve [I k, I n, I b, B d] [I (resS k n b d).1, B (resS k n b d).2.1, I (resS k n b d).2.2] := by
  refine Says.of (t := value_Resolve) rfl ?_
  rw [u_value_Resolve]
  unfold resS
  simp (disch := first | omega | (simp only [List.length_set, List.length_map, List.length_replicate, List.length_append, List.length_modify]; omega)) only [xrun_ret, run_ite, run_fail, run_letj, xrun_loop, run_jump, xrun_call, jmp_join, jmp_loop, br_fail, br_true, br_false, xden_var, den_int, den_bool, den_str, den_nil, den_nilc, den_un, den_bin, den_tri, xon_and, xon_or, on_beq, xon_not, on_len, on_neg, on_conv, on_max, on_min, on_snoc, on_cat, on_cons, on_make, on_copy, on_plus, on_minus, on_cell, on_sel, on_slice, on_set, on_put, on_cmp, on_ar, ev_lss, ev_leq, ev_gtr, ev_geq, ev_eql, ev_neq, ar_add, ar_sub, ar_mul, ar_quo, ar_rem, pi_int, b_bool, r_row, c_cells, rowOf_r, List.map_cons, List.map_nil, List.cons_append, List.nil_append, List.getD_cons_zero, List.getD_cons_succ, List.getElem?_cons_zero, List.getElem?_cons_succ, List.take_zero, List.take_succ_cons, List.length_map, Int.toNat_natCast, decide_eq_true_eq, Int.ofNat_lt, Int.ofNat_le, xnat_nonneg, true_and, and_true, if_true, if_false, reduceIte, wrap_in, xints_at, xbools_at, xints_set, xints_snoc, xints_make, xints_nil, xbools_set, xbools_snoc, xbools_make, xcopy_make, List.length_replicate, List.length_cons, List.length_nil, Nat.reduceAdd, Bool.not_and, Bool.not_or, Bool.not_not, Bool.and_eq_true, Bool.or_eq_true, Bool.not_eq_true', Bool.and_eq_false_imp, Bool.or_eq_false_iff, decide_eq_false_iff_not, decide_eq_true_eq, beq_iff_eq, beq_eq_false_iff_ne, bne_iff_ne, bne_eq_false_iff_eq, ne_eq, gt_iff_lt, ge_iff_le, Bool.false_eq_true, Bool.true_eq_false, beq_self_eq_true, beq_true, beq_false, Bool.not_false, Bool.not_true, Bool.false_and, Bool.true_and, Bool.and_true, Bool.and_false, Bool.or_true, Bool.true_or, Bool.or_false, Bool.false_or, false_and, true_and, and_false, and_true, or_false, or_true, false_or, true_or, not_true_eq_false, not_false_eq_true, false_iff, iff_false, true_iff, iff_true, forall_const, false_imp_iff, true_imp_iff, reduceCtorEq, imp_false, xcall_of (pct_sp n b hn hb)]
  by_cases h1 : k = 2
  · rw [br_pos h1, if_pos h1]
  rw [br_neg h1, if_neg h1]
  by_cases h2 : k = 3 ∧ d = true
  · rw [br_pos h2, if_pos h2]
    rfl
  · rw [br_neg h2, if_neg h2]
theorem rres_sp (k n b : Int) (d : Bool) (hn : I64 n) (hb : I64 b) : Says tr c_ref05_Resolve [I k, I n, I b, B d] [I (resS k n b d).1, B (resS k n b d).2.1, I (resS k n b d).2.2] := by
  refine Says.of (t := ref05_Resolve) rfl ?_
  rw [u_ref05_Resolve]
  unfold resS
  simp (disch := first | omega | (simp only [List.length_set, List.length_map, List.length_replicate, List.length_append, List.length_modify]; omega)) only [xrun_ret, run_ite, run_fail, run_letj, xrun_loop, run_jump, xrun_call, jmp_join, jmp_loop, br_fail, br_true, br_false, xden_var, den_int, den_bool, den_str, den_nil, den_nilc, den_un, den_bin, den_tri, xon_and, xon_or, on_beq, xon_not, on_len, on_neg, on_conv, on_max, on_min, on_snoc, on_cat, on_cons, on_make, on_copy, on_plus, on_minus, on_cell, on_sel, on_slice, on_set, on_put, on_cmp, on_ar, ev_lss, ev_leq, ev_gtr, ev_geq, ev_eql, ev_neq, ar_add, ar_sub, ar_mul, ar_quo, ar_rem, pi_int, b_bool, r_row, c_cells, rowOf_r, List.map_cons, List.map_nil, List.cons_append, List.nil_append, List.getD_cons_zero, List.getD_cons_succ, List.getElem?_cons_zero, List.getElem?_cons_succ, List.take_zero, List.take_succ_cons, List.length_map, Int.toNat_natCast, decide_eq_true_eq, Int.ofNat_lt, Int.ofNat_le, xnat_nonneg, true_and, and_true, if_true, if_false, reduceIte, wrap_in, xints_at, xbools_at, xints_set, xints_snoc, xints_make, xints_nil, xbools_set, xbools_snoc, xbools_make, xcopy_make, List.length_replicate, List.length_cons, List.length_nil, Nat.reduceAdd, Bool.not_and, Bool.not_or, Bool.not_not, Bool.and_eq_true, Bool.or_eq_true, Bool.not_eq_true', Bool.and_eq_false_imp, Bool.or_eq_false_iff, decide_eq_false_iff_not, decide_eq_true_eq, beq_iff_eq, beq_eq_false_iff_ne, bne_iff_ne, bne_eq_false_iff_eq, ne_eq, gt_iff_lt, ge_iff_le, Bool.false_eq_true, Bool.true_eq_false, beq_self_eq_true, beq_true, beq_false, Bool.not_false, Bool.not_true, Bool.false_and, Bool.true_and, Bool.and_true, Bool.and_false, Bool.or_true, Bool.true_or, Bool.or_false, Bool.false_or, false_and, true_and, and_false, and_true, or_false, or_true, false_or, true_or, not_true_eq_false, not_false_eq_true, false_iff, iff_false, true_iff, iff_true, forall_const, false_imp_iff, true_imp_iff, reduceCtorEq, imp_false, xcall_of (rpct_sp n b hn hb)]
  by_cases h1 : k = 2
  · rw [br_pos h1, if_pos h1]
  rw [br_neg h1, if_neg h1]
  by_cases h2 : k = 3 ∧ d = true
  · rw [br_pos h2, if_pos h2]
    rfl
  · rw [br_neg h2, if_neg h2]
/-- A size's kind. -/
def kindS (k : Int) (d : Bool) : Int := if k = 2 ∨ k = 3 ∧ d = true then 1 else if k = 4 then 3 else if k = 5 then 4 else if k = 6 then 5 else 2
theorem kind_sp (k n : Int) (d : Bool) : Says tr c_base_kind [I k, I n, B d] [I (kindS k d)] := by
  refine Says.of (t := base_kind) rfl ?_
  rw [u_base_kind]
  unfold kindS
  simp (disch := first | omega | (simp only [List.length_set, List.length_map, List.length_replicate, List.length_append, List.length_modify]; omega)) only [xrun_ret, run_ite, run_fail, run_letj, xrun_loop, run_jump, xrun_call, jmp_join, jmp_loop, br_fail, br_true, br_false, xden_var, den_int, den_bool, den_str, den_nil, den_nilc, den_un, den_bin, den_tri, xon_and, xon_or, on_beq, xon_not, on_len, on_neg, on_conv, on_max, on_min, on_snoc, on_cat, on_cons, on_make, on_copy, on_plus, on_minus, on_cell, on_sel, on_slice, on_set, on_put, on_cmp, on_ar, ev_lss, ev_leq, ev_gtr, ev_geq, ev_eql, ev_neq, ar_add, ar_sub, ar_mul, ar_quo, ar_rem, pi_int, b_bool, r_row, c_cells, rowOf_r, List.map_cons, List.map_nil, List.cons_append, List.nil_append, List.getD_cons_zero, List.getD_cons_succ, List.getElem?_cons_zero, List.getElem?_cons_succ, List.take_zero, List.take_succ_cons, List.length_map, Int.toNat_natCast, decide_eq_true_eq, Int.ofNat_lt, Int.ofNat_le, xnat_nonneg, true_and, and_true, if_true, if_false, reduceIte, wrap_in, xints_at, xbools_at, xints_set, xints_snoc, xints_make, xints_nil, xbools_set, xbools_snoc, xbools_make, xcopy_make, List.length_replicate, List.length_cons, List.length_nil, Nat.reduceAdd, Bool.not_and, Bool.not_or, Bool.not_not, Bool.and_eq_true, Bool.or_eq_true, Bool.not_eq_true', Bool.and_eq_false_imp, Bool.or_eq_false_iff, decide_eq_false_iff_not, decide_eq_true_eq, beq_iff_eq, beq_eq_false_iff_ne, bne_iff_ne, bne_eq_false_iff_eq, ne_eq, gt_iff_lt, ge_iff_le, Bool.false_eq_true, Bool.true_eq_false, beq_self_eq_true, beq_true, beq_false, Bool.not_false, Bool.not_true, Bool.false_and, Bool.true_and, Bool.and_true, Bool.and_false, Bool.or_true, Bool.true_or, Bool.or_false, Bool.false_or, false_and, true_and, and_false, and_true, or_false, or_true, false_or, true_or, not_true_eq_false, not_false_eq_true, false_iff, iff_false, true_iff, iff_true, forall_const, false_imp_iff, true_imp_iff, reduceCtorEq, imp_false, u_base_kind_j0]
  by_cases h4 : k = 4
  · subst h4; rw [br_pos rfl]; simp
  by_cases h5 : k = 5
  · subst h5; rw [br_neg (by decide), br_pos rfl]; simp
  by_cases h6 : k = 6
  · subst h6; rw [br_neg (by decide), br_neg (by decide), br_pos rfl]; simp
  rw [br_neg h4, br_neg h5, br_neg h6]
  by_cases h3 : k = 3
  · subst h3; rw [br_pos rfl]
    cases d <;> simp [br_true, br_false]
  by_cases h2 : k = 2
  · subst h2; simp [br_pos, br_neg]
  · simp [h2, h3, h4, h5, h6, br_false]
theorem rkind_sp (k n : Int) (d : Bool) : Says tr c_ref22_Kind [I k, I n, B d] [I (kindS k d)] := by
  refine Says.of (t := ref22_Kind) rfl ?_
  rw [u_ref22_Kind]
  unfold kindS
  simp (disch := first | omega | (simp only [List.length_set, List.length_map, List.length_replicate, List.length_append, List.length_modify]; omega)) only [xrun_ret, run_ite, run_fail, run_letj, xrun_loop, run_jump, xrun_call, jmp_join, jmp_loop, br_fail, br_true, br_false, xden_var, den_int, den_bool, den_str, den_nil, den_nilc, den_un, den_bin, den_tri, xon_and, xon_or, on_beq, xon_not, on_len, on_neg, on_conv, on_max, on_min, on_snoc, on_cat, on_cons, on_make, on_copy, on_plus, on_minus, on_cell, on_sel, on_slice, on_set, on_put, on_cmp, on_ar, ev_lss, ev_leq, ev_gtr, ev_geq, ev_eql, ev_neq, ar_add, ar_sub, ar_mul, ar_quo, ar_rem, pi_int, b_bool, r_row, c_cells, rowOf_r, List.map_cons, List.map_nil, List.cons_append, List.nil_append, List.getD_cons_zero, List.getD_cons_succ, List.getElem?_cons_zero, List.getElem?_cons_succ, List.take_zero, List.take_succ_cons, List.length_map, Int.toNat_natCast, decide_eq_true_eq, Int.ofNat_lt, Int.ofNat_le, xnat_nonneg, true_and, and_true, if_true, if_false, reduceIte, wrap_in, xints_at, xbools_at, xints_set, xints_snoc, xints_make, xints_nil, xbools_set, xbools_snoc, xbools_make, xcopy_make, List.length_replicate, List.length_cons, List.length_nil, Nat.reduceAdd, Bool.not_and, Bool.not_or, Bool.not_not, Bool.and_eq_true, Bool.or_eq_true, Bool.not_eq_true', Bool.and_eq_false_imp, Bool.or_eq_false_iff, decide_eq_false_iff_not, decide_eq_true_eq, beq_iff_eq, beq_eq_false_iff_ne, bne_iff_ne, bne_eq_false_iff_eq, ne_eq, gt_iff_lt, ge_iff_le, Bool.false_eq_true, Bool.true_eq_false, beq_self_eq_true, beq_true, beq_false, Bool.not_false, Bool.not_true, Bool.false_and, Bool.true_and, Bool.and_true, Bool.and_false, Bool.or_true, Bool.true_or, Bool.or_false, Bool.false_or, false_and, true_and, and_false, and_true, or_false, or_true, false_or, true_or, not_true_eq_false, not_false_eq_true, false_iff, iff_false, true_iff, iff_true, forall_const, false_imp_iff, true_imp_iff, reduceCtorEq, imp_false]
  by_cases h1 : k = 2 ∨ k = 3 ∧ d = true
  · rw [br_pos h1, if_pos h1]
  rw [br_neg h1, if_neg h1]
  by_cases h4 : k = 4
  · rw [br_pos h4, if_pos h4]
  rw [br_neg h4, if_neg h4]
  by_cases h5 : k = 5
  · rw [br_pos h5, if_pos h5]
  rw [br_neg h5, if_neg h5]
  by_cases h6 : k = 6
  · rw [br_pos h6, if_pos h6]
  rw [br_neg h6, if_neg h6]
def zSz : Sz := ⟨0, 0, 0, false, 0, 0, 0⟩
/-- How a track begins. -/
def begin1 (x : Tr) (size : Int) (d : Bool) : Sz :=
  let b := (resS x.k0 x.n0 size d).1
  let l := if (resS x.k1 x.n1 size d).2.1 = true then (resS x.k1 x.n1 size d).1 else 1125899906842624
  let f := x.fit && (resS x.k2 x.n2 size d).2.1
  { mn := kindS x.k0 d, mx := kindS x.k1 d, fr := if kindS x.k1 d = 5 then x.n1 else 0, fit := f, cap := if f = true then (resS x.k2 x.n2 size d).1 else 0, base := b, lim := max l b }
def startT (x : Tr) (size : Int) (d : Bool) : Sz × Int :=
  if rtB x = false ∨ d = true ∧ (size < 0 ∨ 68719476736 < size) then (zSz, 2)
  else if (resS x.k0 x.n0 size d).2.2 ≠ 0 then (zSz, (resS x.k0 x.n0 size d).2.2)
  else if (resS x.k1 x.n1 size d).2.2 ≠ 0 then (zSz, (resS x.k1 x.n1 size d).2.2)
  else if (resS x.k2 x.n2 size d).2.2 ≠ 0 then (zSz, (resS x.k2 x.n2 size d).2.2)
  else (begin1 x size d, 0)
@[reducible] def eSt (r : Sz × Int) : List PV := [I r.1.mn, I r.1.mx, I r.1.fr, B r.1.fit, I r.1.cap, I r.1.base, I r.1.lim, I r.2]
def TrIn (x : Tr) : Prop := I64 x.n0 ∧ I64 x.n1 ∧ I64 x.n2
theorem res_kind {k n b : Int} {d : Bool} (h : (resS k n b d).2.2 = 0) : ((resS k n b d).2.1 = true ↔ kindS k d = 1) ∧ (kindS k d ≠ 1 → (resS k n b d).1 = 0) := by
  unfold resS at h ⊢
  unfold kindS
  by_cases h1 : k = 2
  · simp [h1]
  rw [if_neg h1] at h ⊢
  by_cases h2 : k = 3 ∧ d = true
  · rw [if_pos h2] at h ⊢
    simp only at h
    simp [h, h2]
  · rw [if_neg h2] at h ⊢
    have : ¬ (k = 2 ∨ k = 3 ∧ d = true) := fun hh => hh.elim h1 h2
    rw [if_neg this]
    refine ⟨?_, fun _ => rfl⟩
    constructor
    · intro hh; cases hh
    · intro hh
      split at hh
      · cases hh
      split at hh
      · cases hh
      split at hh <;> cases hh
theorem start_sp (x : Tr) (size : Int) (d : Bool) (hx : TrIn x) (hs : I64 size) : Says tr c_base_Start [I x.k0, I x.n0, I x.k1, I x.n1, B x.fit, I x.k2, I x.n2, I size, B d] (eSt (startT x size d)) := by
  refine Says.of (t := base_Start) rfl ?_
  rw [u_base_Start]
  have hright := right_tr_sp x
  have hr0 := res_sp x.k0 x.n0 size d hx.1 hs
  have hr1 := res_sp x.k1 x.n1 size d hx.2.1 hs
  have hr2 := res_sp x.k2 x.n2 size d hx.2.2 hs
  have hj0 : ∀ (b : Bool), (b = true ↔ (rtB x = false ∨ d = true ∧ (size < 0 ∨ 68719476736 < size))) → Run tr base_Start_j0 [I x.k0, I x.n0, I x.k1, I x.n1, B x.fit, I x.k2, I x.n2, I size, B d, B b] [] (eSt (startT x size d)) := by
    intro b hb
    unfold startT
    rw [u_base_Start_j0]
    simp (disch := first | omega | (simp only [List.length_set, List.length_map, List.length_replicate, List.length_append, List.length_modify]; omega)) only [xrun_ret, run_ite, run_fail, run_letj, xrun_loop, run_jump, xrun_call, jmp_join, jmp_loop, br_fail, br_true, br_false, xden_var, den_int, den_bool, den_str, den_nil, den_nilc, den_un, den_bin, den_tri, xon_and, xon_or, on_beq, xon_not, on_len, on_neg, on_conv, on_max, on_min, on_snoc, on_cat, on_cons, on_make, on_copy, on_plus, on_minus, on_cell, on_sel, on_slice, on_set, on_put, on_cmp, on_ar, ev_lss, ev_leq, ev_gtr, ev_geq, ev_eql, ev_neq, ar_add, ar_sub, ar_mul, ar_quo, ar_rem, pi_int, b_bool, r_row, c_cells, rowOf_r, List.map_cons, List.map_nil, List.cons_append, List.nil_append, List.getD_cons_zero, List.getD_cons_succ, List.getElem?_cons_zero, List.getElem?_cons_succ, List.take_zero, List.take_succ_cons, List.length_map, Int.toNat_natCast, decide_eq_true_eq, Int.ofNat_lt, Int.ofNat_le, xnat_nonneg, true_and, and_true, if_true, if_false, reduceIte, wrap_in, xints_at, xbools_at, xints_set, xints_snoc, xints_make, xints_nil, xbools_set, xbools_snoc, xbools_make, xcopy_make, List.length_replicate, List.length_cons, List.length_nil, Nat.reduceAdd, xcall_of hr0, xcall_of hr1, xcall_of hr2, Bool.not_and, Bool.not_or, Bool.not_not, Bool.and_eq_true, Bool.or_eq_true, Bool.not_eq_true', Bool.and_eq_false_imp, Bool.or_eq_false_iff, decide_eq_false_iff_not, decide_eq_true_eq, beq_iff_eq, beq_eq_false_iff_ne, bne_iff_ne, bne_eq_false_iff_eq, ne_eq, gt_iff_lt, ge_iff_le, Bool.false_eq_true, Bool.true_eq_false, beq_self_eq_true, beq_true, beq_false, Bool.not_false, Bool.not_true, Bool.false_and, Bool.true_and, Bool.and_true, Bool.and_false, Bool.or_true, Bool.true_or, Bool.or_false, Bool.false_or, false_and, true_and, and_false, and_true, or_false, or_true, false_or, true_or, not_true_eq_false, not_false_eq_true, false_iff, iff_false, true_iff, iff_true, forall_const, false_imp_iff, true_imp_iff, reduceCtorEq, imp_false]
    by_cases h : b = true
    · rw [br_pos h, if_pos (hb.1 h)]
      rfl
    rw [br_neg h, if_neg (fun hh => h (hb.2 hh))]
    by_cases h0 : ¬ (resS x.k0 x.n0 size d).2.2 = 0
    · rw [br_pos h0, if_pos h0]
      rfl
    rw [br_neg h0, if_neg h0]
    by_cases h1 : ¬ (resS x.k1 x.n1 size d).2.2 = 0
    · rw [br_pos h1, if_pos h1]
      rfl
    rw [br_neg h1, if_neg h1]
    by_cases h2 : ¬ (resS x.k2 x.n2 size d).2.2 = 0
    · rw [br_pos h2, if_pos h2]
      rfl
    rw [br_neg h2, if_neg h2]
    simp (disch := first | omega | (simp only [List.length_set, List.length_map, List.length_replicate, List.length_append, List.length_modify]; omega)) only [xrun_ret, run_ite, run_fail, run_letj, xrun_loop, run_jump, xrun_call, jmp_join, jmp_loop, br_fail, br_true, br_false, xden_var, den_int, den_bool, den_str, den_nil, den_nilc, den_un, den_bin, den_tri, xon_and, xon_or, on_beq, xon_not, on_len, on_neg, on_conv, on_max, on_min, on_snoc, on_cat, on_cons, on_make, on_copy, on_plus, on_minus, on_cell, on_sel, on_slice, on_set, on_put, on_cmp, on_ar, ev_lss, ev_leq, ev_gtr, ev_geq, ev_eql, ev_neq, ar_add, ar_sub, ar_mul, ar_quo, ar_rem, pi_int, b_bool, r_row, c_cells, rowOf_r, List.map_cons, List.map_nil, List.cons_append, List.nil_append, List.getD_cons_zero, List.getD_cons_succ, List.getElem?_cons_zero, List.getElem?_cons_succ, List.take_zero, List.take_succ_cons, List.length_map, Int.toNat_natCast, decide_eq_true_eq, Int.ofNat_lt, Int.ofNat_le, xnat_nonneg, true_and, and_true, if_true, if_false, reduceIte, wrap_in, xints_at, xbools_at, xints_set, xints_snoc, xints_make, xints_nil, xbools_set, xbools_snoc, xbools_make, xcopy_make, List.length_replicate, List.length_cons, List.length_nil, Nat.reduceAdd, xcall_of (kind_sp x.k0 x.n0 d), xcall_of (kind_sp x.k1 x.n1 d)]
    -- the three tests, one behind the other
    have hfin : ∀ (l f : Int) (ft : Bool) (c : Int) (p q r : PV), Run tr base_Start_j3 [I x.k0, I x.n0, I x.k1, I x.n1, B x.fit, I x.k2, I x.n2, I size, B d, B b, I (resS x.k0 x.n0 size d).1, B (resS x.k0 x.n0 size d).2.1, I (resS x.k0 x.n0 size d).2.2, I (resS x.k1 x.n1 size d).1, B (resS x.k1 x.n1 size d).2.1, I (resS x.k1 x.n1 size d).2.2, I (resS x.k2 x.n2 size d).1, B (resS x.k2 x.n2 size d).2.1, I (resS x.k2 x.n2 size d).2.2, I (kindS x.k0 d), I (kindS x.k1 d), I l, I f, B ft, I c] [] (eSt ({ mn := kindS x.k0 d, mx := kindS x.k1 d, fr := f, fit := ft, cap := c, base := (resS x.k0 x.n0 size d).1, lim := max l (resS x.k0 x.n0 size d).1 }, 0)) := by
      intro l f ft c p q r
      have hra := braise_sp { mn := kindS x.k0 d, mx := kindS x.k1 d, fr := f, fit := ft, cap := c, base := (resS x.k0 x.n0 size d).1, lim := l }
      rw [u_base_Start_j3]
      simp (disch := first | omega | (simp only [List.length_set, List.length_map, List.length_replicate, List.length_append, List.length_modify]; omega)) only [xrun_ret, run_ite, run_fail, run_letj, xrun_loop, run_jump, xrun_call, jmp_join, jmp_loop, br_fail, br_true, br_false, xden_var, den_int, den_bool, den_str, den_nil, den_nilc, den_un, den_bin, den_tri, xon_and, xon_or, on_beq, xon_not, on_len, on_neg, on_conv, on_max, on_min, on_snoc, on_cat, on_cons, on_make, on_copy, on_plus, on_minus, on_cell, on_sel, on_slice, on_set, on_put, on_cmp, on_ar, ev_lss, ev_leq, ev_gtr, ev_geq, ev_eql, ev_neq, ar_add, ar_sub, ar_mul, ar_quo, ar_rem, pi_int, b_bool, r_row, c_cells, rowOf_r, List.map_cons, List.map_nil, List.cons_append, List.nil_append, List.getD_cons_zero, List.getD_cons_succ, List.getElem?_cons_zero, List.getElem?_cons_succ, List.take_zero, List.take_succ_cons, List.length_map, Int.toNat_natCast, decide_eq_true_eq, Int.ofNat_lt, Int.ofNat_le, xnat_nonneg, true_and, and_true, if_true, if_false, reduceIte, wrap_in, xints_at, xbools_at, xints_set, xints_snoc, xints_make, xints_nil, xbools_set, xbools_snoc, xbools_make, xcopy_make, List.length_replicate, List.length_cons, List.length_nil, Nat.reduceAdd, xcall_of hra]
    have hj2 : ∀ (l f : Int), Run tr base_Start_j2 [I x.k0, I x.n0, I x.k1, I x.n1, B x.fit, I x.k2, I x.n2, I size, B d, B b, I (resS x.k0 x.n0 size d).1, B (resS x.k0 x.n0 size d).2.1, I (resS x.k0 x.n0 size d).2.2, I (resS x.k1 x.n1 size d).1, B (resS x.k1 x.n1 size d).2.1, I (resS x.k1 x.n1 size d).2.2, I (resS x.k2 x.n2 size d).1, B (resS x.k2 x.n2 size d).2.1, I (resS x.k2 x.n2 size d).2.2, I (kindS x.k0 d), I (kindS x.k1 d), I l, I f] [] (eSt ({ mn := kindS x.k0 d, mx := kindS x.k1 d, fr := f, fit := x.fit && (resS x.k2 x.n2 size d).2.1, cap := if (x.fit && (resS x.k2 x.n2 size d).2.1) = true then (resS x.k2 x.n2 size d).1 else 0, base := (resS x.k0 x.n0 size d).1, lim := max l (resS x.k0 x.n0 size d).1 }, 0)) := by
      intro l f
      rw [u_base_Start_j2]
      simp (disch := first | omega | (simp only [List.length_set, List.length_map, List.length_replicate, List.length_append, List.length_modify]; omega)) only [xrun_ret, run_ite, run_fail, run_letj, xrun_loop, run_jump, xrun_call, jmp_join, jmp_loop, br_fail, br_true, br_false, xden_var, den_int, den_bool, den_str, den_nil, den_nilc, den_un, den_bin, den_tri, xon_and, xon_or, on_beq, xon_not, on_len, on_neg, on_conv, on_max, on_min, on_snoc, on_cat, on_cons, on_make, on_copy, on_plus, on_minus, on_cell, on_sel, on_slice, on_set, on_put, on_cmp, on_ar, ev_lss, ev_leq, ev_gtr, ev_geq, ev_eql, ev_neq, ar_add, ar_sub, ar_mul, ar_quo, ar_rem, pi_int, b_bool, r_row, c_cells, rowOf_r, List.map_cons, List.map_nil, List.cons_append, List.nil_append, List.getD_cons_zero, List.getD_cons_succ, List.getElem?_cons_zero, List.getElem?_cons_succ, List.take_zero, List.take_succ_cons, List.length_map, Int.toNat_natCast, decide_eq_true_eq, Int.ofNat_lt, Int.ofNat_le, xnat_nonneg, true_and, and_true, if_true, if_false, reduceIte, wrap_in, xints_at, xbools_at, xints_set, xints_snoc, xints_make, xints_nil, xbools_set, xbools_snoc, xbools_make, xcopy_make, List.length_replicate, List.length_cons, List.length_nil, Nat.reduceAdd]
      cases hf : (x.fit && (resS x.k2 x.n2 size d).2.1) with
      | true => rw [br_pos rfl]; simpa using hfin l f true (resS x.k2 x.n2 size d).1 .bad .bad .bad
      | false => rw [br_neg (by simp)]; simpa using hfin l f false 0 .bad .bad .bad
    have hj1 : ∀ (l : Int), Run tr base_Start_j1 [I x.k0, I x.n0, I x.k1, I x.n1, B x.fit, I x.k2, I x.n2, I size, B d, B b, I (resS x.k0 x.n0 size d).1, B (resS x.k0 x.n0 size d).2.1, I (resS x.k0 x.n0 size d).2.2, I (resS x.k1 x.n1 size d).1, B (resS x.k1 x.n1 size d).2.1, I (resS x.k1 x.n1 size d).2.2, I (resS x.k2 x.n2 size d).1, B (resS x.k2 x.n2 size d).2.1, I (resS x.k2 x.n2 size d).2.2, I (kindS x.k0 d), I (kindS x.k1 d), I l] [] (eSt ({ mn := kindS x.k0 d, mx := kindS x.k1 d, fr := if kindS x.k1 d = 5 then x.n1 else 0, fit := x.fit && (resS x.k2 x.n2 size d).2.1, cap := if (x.fit && (resS x.k2 x.n2 size d).2.1) = true then (resS x.k2 x.n2 size d).1 else 0, base := (resS x.k0 x.n0 size d).1, lim := max l (resS x.k0 x.n0 size d).1 }, 0)) := by
      intro l
      rw [u_base_Start_j1]
      simp (disch := first | omega | (simp only [List.length_set, List.length_map, List.length_replicate, List.length_append, List.length_modify]; omega)) only [xrun_ret, run_ite, run_fail, run_letj, xrun_loop, run_jump, xrun_call, jmp_join, jmp_loop, br_fail, br_true, br_false, xden_var, den_int, den_bool, den_str, den_nil, den_nilc, den_un, den_bin, den_tri, xon_and, xon_or, on_beq, xon_not, on_len, on_neg, on_conv, on_max, on_min, on_snoc, on_cat, on_cons, on_make, on_copy, on_plus, on_minus, on_cell, on_sel, on_slice, on_set, on_put, on_cmp, on_ar, ev_lss, ev_leq, ev_gtr, ev_geq, ev_eql, ev_neq, ar_add, ar_sub, ar_mul, ar_quo, ar_rem, pi_int, b_bool, r_row, c_cells, rowOf_r, List.map_cons, List.map_nil, List.cons_append, List.nil_append, List.getD_cons_zero, List.getD_cons_succ, List.getElem?_cons_zero, List.getElem?_cons_succ, List.take_zero, List.take_succ_cons, List.length_map, Int.toNat_natCast, decide_eq_true_eq, Int.ofNat_lt, Int.ofNat_le, xnat_nonneg, true_and, and_true, if_true, if_false, reduceIte, wrap_in, xints_at, xbools_at, xints_set, xints_snoc, xints_make, xints_nil, xbools_set, xbools_snoc, xbools_make, xcopy_make, List.length_replicate, List.length_cons, List.length_nil, Nat.reduceAdd, Bool.not_and, Bool.not_or, Bool.not_not, Bool.and_eq_true, Bool.or_eq_true, Bool.not_eq_true', Bool.and_eq_false_imp, Bool.or_eq_false_iff, decide_eq_false_iff_not, decide_eq_true_eq, beq_iff_eq, beq_eq_false_iff_ne, bne_iff_ne, bne_eq_false_iff_eq, ne_eq, gt_iff_lt, ge_iff_le, Bool.false_eq_true, Bool.true_eq_false, beq_self_eq_true, beq_true, beq_false, Bool.not_false, Bool.not_true, Bool.false_and, Bool.true_and, Bool.and_true, Bool.and_false, Bool.or_true, Bool.true_or, Bool.or_false, Bool.false_or, false_and, true_and, and_false, and_true, or_false, or_true, false_or, true_or, not_true_eq_false, not_false_eq_true, false_iff, iff_false, true_iff, iff_true, forall_const, false_imp_iff, true_imp_iff, reduceCtorEq, imp_false]
      by_cases h5 : kindS x.k1 d = 5
      · rw [br_pos h5, if_pos h5]; simpa only [Bool.and_eq_true] using hj2 l x.n1
      · rw [br_neg h5, if_neg h5]; simpa only [Bool.and_eq_true] using hj2 l 0
    unfold begin1
    cases hl : (resS x.k1 x.n1 size d).2.1 with
    | true =>
      rw [hl] at hj1
      rw [br_pos rfl]
      simpa using hj1 (resS x.k1 x.n1 size d).1
    | false =>
      rw [hl] at hj1
      rw [br_neg (by simp)]
      simpa using hj1 1125899906842624
  simp (disch := first | omega | (simp only [List.length_set, List.length_map, List.length_replicate, List.length_append, List.length_modify]; omega)) only [xrun_ret, run_ite, run_fail, run_letj, xrun_loop, run_jump, xrun_call, jmp_join, jmp_loop, br_fail, br_true, br_false, xden_var, den_int, den_bool, den_str, den_nil, den_nilc, den_un, den_bin, den_tri, xon_and, xon_or, on_beq, xon_not, on_len, on_neg, on_conv, on_max, on_min, on_snoc, on_cat, on_cons, on_make, on_copy, on_plus, on_minus, on_cell, on_sel, on_slice, on_set, on_put, on_cmp, on_ar, ev_lss, ev_leq, ev_gtr, ev_geq, ev_eql, ev_neq, ar_add, ar_sub, ar_mul, ar_quo, ar_rem, pi_int, b_bool, r_row, c_cells, rowOf_r, List.map_cons, List.map_nil, List.cons_append, List.nil_append, List.getD_cons_zero, List.getD_cons_succ, List.getElem?_cons_zero, List.getElem?_cons_succ, List.take_zero, List.take_succ_cons, List.length_map, Int.toNat_natCast, decide_eq_true_eq, Int.ofNat_lt, Int.ofNat_le, xnat_nonneg, true_and, and_true, if_true, if_false, reduceIte, wrap_in, xints_at, xbools_at, xints_set, xints_snoc, xints_make, xints_nil, xbools_set, xbools_snoc, xbools_make, xcopy_make, List.length_replicate, List.length_cons, List.length_nil, Nat.reduceAdd, xcall_of hright, xcall_of (is_sp size), Bool.not_and, Bool.not_or, Bool.not_not, Bool.and_eq_true, Bool.or_eq_true, Bool.not_eq_true', Bool.and_eq_false_imp, Bool.or_eq_false_iff, decide_eq_false_iff_not, decide_eq_true_eq, beq_iff_eq, beq_eq_false_iff_ne, bne_iff_ne, bne_eq_false_iff_eq, ne_eq, gt_iff_lt, ge_iff_le, Bool.false_eq_true, Bool.true_eq_false, beq_self_eq_true, beq_true, beq_false, Bool.not_false, Bool.not_true, Bool.false_and, Bool.true_and, Bool.and_true, Bool.and_false, Bool.or_true, Bool.true_or, Bool.or_false, Bool.false_or, false_and, true_and, and_false, and_true, or_false, or_true, false_or, true_or, not_true_eq_false, not_false_eq_true, false_iff, iff_false, true_iff, iff_true, forall_const, false_imp_iff, true_imp_iff, reduceCtorEq, imp_false]
  refine br_split ?_ ?_ <;> intro _
  · rename_i h
    refine hj0 _ ?_
    simp only [Bool.not_and, Bool.not_or, Bool.not_not, Bool.and_eq_true, Bool.or_eq_true, Bool.not_eq_true', Bool.and_eq_false_imp, Bool.or_eq_false_iff, decide_eq_false_iff_not, decide_eq_true_eq, beq_iff_eq, beq_eq_false_iff_ne, bne_iff_ne, bne_eq_false_iff_eq, ne_eq, gt_iff_lt, ge_iff_le, Bool.false_eq_true, Bool.true_eq_false, beq_self_eq_true, beq_true, beq_false, Bool.not_false, Bool.not_true, Bool.false_and, Bool.true_and, Bool.and_true, Bool.and_false, Bool.or_true, Bool.true_or, Bool.or_false, Bool.false_or, false_and, true_and, and_false, and_true, or_false, or_true, false_or, true_or, not_true_eq_false, not_false_eq_true, false_iff, iff_false, true_iff, iff_true, forall_const, false_imp_iff, true_imp_iff, reduceCtorEq, imp_false]
    simp [h]
    omega
  · rename_i h
    refine hj0 _ ?_
    cases hr : rtB x <;> cases d <;> simp [hr] at h ⊢
    omega
theorem rstart_sp (x : Tr) (size : Int) (d : Bool) (hx : TrIn x) (hs : I64 size) : Says tr c_ref22_Start [I x.k0, I x.n0, I x.k1, I x.n1, B x.fit, I x.k2, I x.n2, I size, B d] (eSt (startT x size d)) := by
  refine Says.of (t := ref22_Start) rfl ?_
  rw [u_ref22_Start]
  have hright := rright_tr_sp x
  have hr0 := rres_sp x.k0 x.n0 size d hx.1 hs
  have hr1 := rres_sp x.k1 x.n1 size d hx.2.1 hs
  have hr2 := rres_sp x.k2 x.n2 size d hx.2.2 hs
  simp (disch := first | omega | (simp only [List.length_set, List.length_map, List.length_replicate, List.length_append, List.length_modify]; omega)) only [xrun_ret, run_ite, run_fail, run_letj, xrun_loop, run_jump, xrun_call, jmp_join, jmp_loop, br_fail, br_true, br_false, xden_var, den_int, den_bool, den_str, den_nil, den_nilc, den_un, den_bin, den_tri, xon_and, xon_or, on_beq, xon_not, on_len, on_neg, on_conv, on_max, on_min, on_snoc, on_cat, on_cons, on_make, on_copy, on_plus, on_minus, on_cell, on_sel, on_slice, on_set, on_put, on_cmp, on_ar, ev_lss, ev_leq, ev_gtr, ev_geq, ev_eql, ev_neq, ar_add, ar_sub, ar_mul, ar_quo, ar_rem, pi_int, b_bool, r_row, c_cells, rowOf_r, List.map_cons, List.map_nil, List.cons_append, List.nil_append, List.getD_cons_zero, List.getD_cons_succ, List.getElem?_cons_zero, List.getElem?_cons_succ, List.take_zero, List.take_succ_cons, List.length_map, Int.toNat_natCast, decide_eq_true_eq, Int.ofNat_lt, Int.ofNat_le, xnat_nonneg, true_and, and_true, if_true, if_false, reduceIte, wrap_in, xints_at, xbools_at, xints_set, xints_snoc, xints_make, xints_nil, xbools_set, xbools_snoc, xbools_make, xcopy_make, List.length_replicate, List.length_cons, List.length_nil, Nat.reduceAdd, xcall_of hright, xcall_of hr0, xcall_of hr1, xcall_of hr2, Bool.not_and, Bool.not_or, Bool.not_not, Bool.and_eq_true, Bool.or_eq_true, Bool.not_eq_true', Bool.and_eq_false_imp, Bool.or_eq_false_iff, decide_eq_false_iff_not, decide_eq_true_eq, beq_iff_eq, beq_eq_false_iff_ne, bne_iff_ne, bne_eq_false_iff_eq, ne_eq, gt_iff_lt, ge_iff_le, Bool.false_eq_true, Bool.true_eq_false, beq_self_eq_true, beq_true, beq_false, Bool.not_false, Bool.not_true, Bool.false_and, Bool.true_and, Bool.and_true, Bool.and_false, Bool.or_true, Bool.true_or, Bool.or_false, Bool.false_or, false_and, true_and, and_false, and_true, or_false, or_true, false_or, true_or, not_true_eq_false, not_false_eq_true, false_iff, iff_false, true_iff, iff_true, forall_const, false_imp_iff, true_imp_iff, reduceCtorEq, imp_false]
  unfold startT
  by_cases h : rtB x = false ∨ d = true ∧ (size < 0 ∨ 68719476736 < size)
  · rw [br_pos h, if_pos h]
    rfl
  rw [br_neg h, if_neg h]
  by_cases h0 : ¬ (resS x.k0 x.n0 size d).2.2 = 0
  · rw [br_pos h0, if_pos h0]
    rfl
  rw [br_neg h0, if_neg h0]
  by_cases h1 : ¬ (resS x.k1 x.n1 size d).2.2 = 0
  · rw [br_pos h1, if_pos h1]
    rfl
  rw [br_neg h1, if_neg h1]
  by_cases h2 : ¬ (resS x.k2 x.n2 size d).2.2 = 0
  · rw [br_pos h2, if_pos h2]
    rfl
  rw [br_neg h2, if_neg h2]
  simp (disch := first | omega | (simp only [List.length_set, List.length_map, List.length_replicate, List.length_append, List.length_modify]; omega)) only [xrun_ret, run_ite, run_fail, run_letj, xrun_loop, run_jump, xrun_call, jmp_join, jmp_loop, br_fail, br_true, br_false, xden_var, den_int, den_bool, den_str, den_nil, den_nilc, den_un, den_bin, den_tri, xon_and, xon_or, on_beq, xon_not, on_len, on_neg, on_conv, on_max, on_min, on_snoc, on_cat, on_cons, on_make, on_copy, on_plus, on_minus, on_cell, on_sel, on_slice, on_set, on_put, on_cmp, on_ar, ev_lss, ev_leq, ev_gtr, ev_geq, ev_eql, ev_neq, ar_add, ar_sub, ar_mul, ar_quo, ar_rem, pi_int, b_bool, r_row, c_cells, rowOf_r, List.map_cons, List.map_nil, List.cons_append, List.nil_append, List.getD_cons_zero, List.getD_cons_succ, List.getElem?_cons_zero, List.getElem?_cons_succ, List.take_zero, List.take_succ_cons, List.length_map, Int.toNat_natCast, decide_eq_true_eq, Int.ofNat_lt, Int.ofNat_le, xnat_nonneg, true_and, and_true, if_true, if_false, reduceIte, wrap_in, xints_at, xbools_at, xints_set, xints_snoc, xints_make, xints_nil, xbools_set, xbools_snoc, xbools_make, xcopy_make, List.length_replicate, List.length_cons, List.length_nil, Nat.reduceAdd, xcall_of (rkind_sp x.k0 x.n0 d), xcall_of (rkind_sp x.k1 x.n1 d), Bool.not_and, Bool.not_or, Bool.not_not, Bool.and_eq_true, Bool.or_eq_true, Bool.not_eq_true', Bool.and_eq_false_imp, Bool.or_eq_false_iff, decide_eq_false_iff_not, decide_eq_true_eq, beq_iff_eq, beq_eq_false_iff_ne, bne_iff_ne, bne_eq_false_iff_eq, ne_eq, gt_iff_lt, ge_iff_le, Bool.false_eq_true, Bool.true_eq_false, beq_self_eq_true, beq_true, beq_false, Bool.not_false, Bool.not_true, Bool.false_and, Bool.true_and, Bool.and_true, Bool.and_false, Bool.or_true, Bool.true_or, Bool.or_false, Bool.false_or, false_and, true_and, and_false, and_true, or_false, or_true, false_or, true_or, not_true_eq_false, not_false_eq_true, false_iff, iff_false, true_iff, iff_true, forall_const, false_imp_iff, true_imp_iff, reduceCtorEq, imp_false]
  have g0 := res_kind (Classical.not_not.1 h0)
  have g1 := res_kind (Classical.not_not.1 h1)
  have hfin : ∀ (b l f : Int) (ft : Bool) (c : Int), b = (resS x.k0 x.n0 size d).1 → l = (if (resS x.k1 x.n1 size d).2.1 = true then (resS x.k1 x.n1 size d).1 else 1125899906842624) → f = (if kindS x.k1 d = 5 then x.n1 else 0) → ft = (x.fit && (resS x.k2 x.n2 size d).2.1) → c = (if (x.fit && (resS x.k2 x.n2 size d).2.1) = true then (resS x.k2 x.n2 size d).1 else 0) →
      Run tr ref22_Start_j3 [I x.k0, I x.n0, I x.k1, I x.n1, B x.fit, I x.k2, I x.n2, I size, B d, B (rtB x), I (resS x.k0 x.n0 size d).1, B (resS x.k0 x.n0 size d).2.1, I (resS x.k0 x.n0 size d).2.2, I (resS x.k1 x.n1 size d).1, B (resS x.k1 x.n1 size d).2.1, I (resS x.k1 x.n1 size d).2.2, I (resS x.k2 x.n2 size d).1, B (resS x.k2 x.n2 size d).2.1, I (resS x.k2 x.n2 size d).2.2, I (kindS x.k0 d), I (kindS x.k1 d), I b, I l, I f, B ft, I c] [] (eSt (begin1 x size d, 0)) := by
    intro b l f ft c e1 e2 e3 e4 e5
    have hra := rraise_sp { mn := kindS x.k0 d, mx := kindS x.k1 d, fr := f, fit := ft, cap := c, base := b, lim := l }
    rw [u_ref22_Start_j3]
    simp (disch := first | omega | (simp only [List.length_set, List.length_map, List.length_replicate, List.length_append, List.length_modify]; omega)) only [xrun_ret, run_ite, run_fail, run_letj, xrun_loop, run_jump, xrun_call, jmp_join, jmp_loop, br_fail, br_true, br_false, xden_var, den_int, den_bool, den_str, den_nil, den_nilc, den_un, den_bin, den_tri, xon_and, xon_or, on_beq, xon_not, on_len, on_neg, on_conv, on_max, on_min, on_snoc, on_cat, on_cons, on_make, on_copy, on_plus, on_minus, on_cell, on_sel, on_slice, on_set, on_put, on_cmp, on_ar, ev_lss, ev_leq, ev_gtr, ev_geq, ev_eql, ev_neq, ar_add, ar_sub, ar_mul, ar_quo, ar_rem, pi_int, b_bool, r_row, c_cells, rowOf_r, List.map_cons, List.map_nil, List.cons_append, List.nil_append, List.getD_cons_zero, List.getD_cons_succ, List.getElem?_cons_zero, List.getElem?_cons_succ, List.take_zero, List.take_succ_cons, List.length_map, Int.toNat_natCast, decide_eq_true_eq, Int.ofNat_lt, Int.ofNat_le, xnat_nonneg, true_and, and_true, if_true, if_false, reduceIte, wrap_in, xints_at, xbools_at, xints_set, xints_snoc, xints_make, xints_nil, xbools_set, xbools_snoc, xbools_make, xcopy_make, List.length_replicate, List.length_cons, List.length_nil, Nat.reduceAdd, xcall_of hra]
    subst e1 e2 e3 e4 e5
    rfl
  have hj2 : ∀ (b l f : Int), b = (resS x.k0 x.n0 size d).1 → l = (if (resS x.k1 x.n1 size d).2.1 = true then (resS x.k1 x.n1 size d).1 else 1125899906842624) → f = (if kindS x.k1 d = 5 then x.n1 else 0) →
      Run tr ref22_Start_j2 [I x.k0, I x.n0, I x.k1, I x.n1, B x.fit, I x.k2, I x.n2, I size, B d, B (rtB x), I (resS x.k0 x.n0 size d).1, B (resS x.k0 x.n0 size d).2.1, I (resS x.k0 x.n0 size d).2.2, I (resS x.k1 x.n1 size d).1, B (resS x.k1 x.n1 size d).2.1, I (resS x.k1 x.n1 size d).2.2, I (resS x.k2 x.n2 size d).1, B (resS x.k2 x.n2 size d).2.1, I (resS x.k2 x.n2 size d).2.2, I (kindS x.k0 d), I (kindS x.k1 d), I b, I l, I f] [] (eSt (begin1 x size d, 0)) := by
    intro b l f e1 e2 e3
    rw [u_ref22_Start_j2]
    simp (disch := first | omega | (simp only [List.length_set, List.length_map, List.length_replicate, List.length_append, List.length_modify]; omega)) only [xrun_ret, run_ite, run_fail, run_letj, xrun_loop, run_jump, xrun_call, jmp_join, jmp_loop, br_fail, br_true, br_false, xden_var, den_int, den_bool, den_str, den_nil, den_nilc, den_un, den_bin, den_tri, xon_and, xon_or, on_beq, xon_not, on_len, on_neg, on_conv, on_max, on_min, on_snoc, on_cat, on_cons, on_make, on_copy, on_plus, on_minus, on_cell, on_sel, on_slice, on_set, on_put, on_cmp, on_ar, ev_lss, ev_leq, ev_gtr, ev_geq, ev_eql, ev_neq, ar_add, ar_sub, ar_mul, ar_quo, ar_rem, pi_int, b_bool, r_row, c_cells, rowOf_r, List.map_cons, List.map_nil, List.cons_append, List.nil_append, List.getD_cons_zero, List.getD_cons_succ, List.getElem?_cons_zero, List.getElem?_cons_succ, List.take_zero, List.take_succ_cons, List.length_map, Int.toNat_natCast, decide_eq_true_eq, Int.ofNat_lt, Int.ofNat_le, xnat_nonneg, true_and, and_true, if_true, if_false, reduceIte, wrap_in, xints_at, xbools_at, xints_set, xints_snoc, xints_make, xints_nil, xbools_set, xbools_snoc, xbools_make, xcopy_make, List.length_replicate, List.length_cons, List.length_nil, Nat.reduceAdd]
    by_cases hf : (x.fit && (resS x.k2 x.n2 size d).2.1) = true
    · rw [br_pos hf]; exact hfin b l f true (resS x.k2 x.n2 size d).1 e1 e2 e3 hf.symm (by rw [if_pos hf])
    · rw [br_neg hf]; exact hfin b l f false 0 e1 e2 e3 (by simpa using hf) (by rw [if_neg hf])
  have hj1 : ∀ (b l : Int), b = (resS x.k0 x.n0 size d).1 → l = (if (resS x.k1 x.n1 size d).2.1 = true then (resS x.k1 x.n1 size d).1 else 1125899906842624) →
      Run tr ref22_Start_j1 [I x.k0, I x.n0, I x.k1, I x.n1, B x.fit, I x.k2, I x.n2, I size, B d, B (rtB x), I (resS x.k0 x.n0 size d).1, B (resS x.k0 x.n0 size d).2.1, I (resS x.k0 x.n0 size d).2.2, I (resS x.k1 x.n1 size d).1, B (resS x.k1 x.n1 size d).2.1, I (resS x.k1 x.n1 size d).2.2, I (resS x.k2 x.n2 size d).1, B (resS x.k2 x.n2 size d).2.1, I (resS x.k2 x.n2 size d).2.2, I (kindS x.k0 d), I (kindS x.k1 d), I b, I l] [] (eSt (begin1 x size d, 0)) := by
    intro b l e1 e2
    rw [u_ref22_Start_j1]
    simp (disch := first | omega | (simp only [List.length_set, List.length_map, List.length_replicate, List.length_append, List.length_modify]; omega)) only [xrun_ret, run_ite, run_fail, run_letj, xrun_loop, run_jump, xrun_call, jmp_join, jmp_loop, br_fail, br_true, br_false, xden_var, den_int, den_bool, den_str, den_nil, den_nilc, den_un, den_bin, den_tri, xon_and, xon_or, on_beq, xon_not, on_len, on_neg, on_conv, on_max, on_min, on_snoc, on_cat, on_cons, on_make, on_copy, on_plus, on_minus, on_cell, on_sel, on_slice, on_set, on_put, on_cmp, on_ar, ev_lss, ev_leq, ev_gtr, ev_geq, ev_eql, ev_neq, ar_add, ar_sub, ar_mul, ar_quo, ar_rem, pi_int, b_bool, r_row, c_cells, rowOf_r, List.map_cons, List.map_nil, List.cons_append, List.nil_append, List.getD_cons_zero, List.getD_cons_succ, List.getElem?_cons_zero, List.getElem?_cons_succ, List.take_zero, List.take_succ_cons, List.length_map, Int.toNat_natCast, decide_eq_true_eq, Int.ofNat_lt, Int.ofNat_le, xnat_nonneg, true_and, and_true, if_true, if_false, reduceIte, wrap_in, xints_at, xbools_at, xints_set, xints_snoc, xints_make, xints_nil, xbools_set, xbools_snoc, xbools_make, xcopy_make, List.length_replicate, List.length_cons, List.length_nil, Nat.reduceAdd, Bool.not_and, Bool.not_or, Bool.not_not, Bool.and_eq_true, Bool.or_eq_true, Bool.not_eq_true', Bool.and_eq_false_imp, Bool.or_eq_false_iff, decide_eq_false_iff_not, decide_eq_true_eq, beq_iff_eq, beq_eq_false_iff_ne, bne_iff_ne, bne_eq_false_iff_eq, ne_eq, gt_iff_lt, ge_iff_le, Bool.false_eq_true, Bool.true_eq_false, beq_self_eq_true, beq_true, beq_false, Bool.not_false, Bool.not_true, Bool.false_and, Bool.true_and, Bool.and_true, Bool.and_false, Bool.or_true, Bool.true_or, Bool.or_false, Bool.false_or, false_and, true_and, and_false, and_true, or_false, or_true, false_or, true_or, not_true_eq_false, not_false_eq_true, false_iff, iff_false, true_iff, iff_true, forall_const, false_imp_iff, true_imp_iff, reduceCtorEq, imp_false]
    by_cases h5 : kindS x.k1 d = 5
    · rw [br_pos h5]; exact hj2 b l x.n1 e1 e2 (by rw [if_pos h5])
    · rw [br_neg h5]; exact hj2 b l 0 e1 e2 (by rw [if_neg h5])
  have hj0 : ∀ (b : Int), b = (resS x.k0 x.n0 size d).1 →
      Run tr ref22_Start_j0 [I x.k0, I x.n0, I x.k1, I x.n1, B x.fit, I x.k2, I x.n2, I size, B d, B (rtB x), I (resS x.k0 x.n0 size d).1, B (resS x.k0 x.n0 size d).2.1, I (resS x.k0 x.n0 size d).2.2, I (resS x.k1 x.n1 size d).1, B (resS x.k1 x.n1 size d).2.1, I (resS x.k1 x.n1 size d).2.2, I (resS x.k2 x.n2 size d).1, B (resS x.k2 x.n2 size d).2.1, I (resS x.k2 x.n2 size d).2.2, I (kindS x.k0 d), I (kindS x.k1 d), I b] [] (eSt (begin1 x size d, 0)) := by
    intro b e1
    rw [u_ref22_Start_j0]
    simp (disch := first | omega | (simp only [List.length_set, List.length_map, List.length_replicate, List.length_append, List.length_modify]; omega)) only [xrun_ret, run_ite, run_fail, run_letj, xrun_loop, run_jump, xrun_call, jmp_join, jmp_loop, br_fail, br_true, br_false, xden_var, den_int, den_bool, den_str, den_nil, den_nilc, den_un, den_bin, den_tri, xon_and, xon_or, on_beq, xon_not, on_len, on_neg, on_conv, on_max, on_min, on_snoc, on_cat, on_cons, on_make, on_copy, on_plus, on_minus, on_cell, on_sel, on_slice, on_set, on_put, on_cmp, on_ar, ev_lss, ev_leq, ev_gtr, ev_geq, ev_eql, ev_neq, ar_add, ar_sub, ar_mul, ar_quo, ar_rem, pi_int, b_bool, r_row, c_cells, rowOf_r, List.map_cons, List.map_nil, List.cons_append, List.nil_append, List.getD_cons_zero, List.getD_cons_succ, List.getElem?_cons_zero, List.getElem?_cons_succ, List.take_zero, List.take_succ_cons, List.length_map, Int.toNat_natCast, decide_eq_true_eq, Int.ofNat_lt, Int.ofNat_le, xnat_nonneg, true_and, and_true, if_true, if_false, reduceIte, wrap_in, xints_at, xbools_at, xints_set, xints_snoc, xints_make, xints_nil, xbools_set, xbools_snoc, xbools_make, xcopy_make, List.length_replicate, List.length_cons, List.length_nil, Nat.reduceAdd, Bool.not_and, Bool.not_or, Bool.not_not, Bool.and_eq_true, Bool.or_eq_true, Bool.not_eq_true', Bool.and_eq_false_imp, Bool.or_eq_false_iff, decide_eq_false_iff_not, decide_eq_true_eq, beq_iff_eq, beq_eq_false_iff_ne, bne_iff_ne, bne_eq_false_iff_eq, ne_eq, gt_iff_lt, ge_iff_le, Bool.false_eq_true, Bool.true_eq_false, beq_self_eq_true, beq_true, beq_false, Bool.not_false, Bool.not_true, Bool.false_and, Bool.true_and, Bool.and_true, Bool.and_false, Bool.or_true, Bool.true_or, Bool.or_false, Bool.false_or, false_and, true_and, and_false, and_true, or_false, or_true, false_or, true_or, not_true_eq_false, not_false_eq_true, false_iff, iff_false, true_iff, iff_true, forall_const, false_imp_iff, true_imp_iff, reduceCtorEq, imp_false]
    by_cases h5 : kindS x.k1 d = 1
    · rw [br_pos h5]; exact hj1 b _ e1 (by rw [if_pos (g1.1.2 h5)])
    · rw [br_neg h5]; exact hj1 b _ e1 (by rw [if_neg (fun hh => h5 (g1.1.1 hh))])
  by_cases h5 : kindS x.k0 d = 1
  · rw [br_pos h5]; exact hj0 _ rfl
  · rw [br_neg h5]; exact hj0 _ (g0.2 h5).symm
/-! ### All tracks -/
def startA (l : List Tr) (g : List Bool) (size : Int) (d : Bool) : List (Sz × Int) := List.zipWith (fun x b => startT (if b = true then ⟨2, 0, 2, 0, false, 0, 0⟩ else x) size d) l g
def firstE : List (Sz × Int) → Int
  | [] => 0
  | r :: rs => if r.2 ≠ 0 then r.2 else firstE rs
def allT (low : Int) (l : List Tr) (g : List Bool) (a : List Int) (size : Int) (d : Bool) : List Sz × Int :=
  if ¬ TkOk low l g a then ([], 2) else if firstE (startA l g size d) ≠ 0 then ([], firstE (startA l g size d)) else ((startA l g size d).map Prod.fst, 0)
theorem all_sp (low : Int) (l : List Tr) (g : List Bool) (a : List Int) (size : Int) (d : Bool) (hl : l.length ≤ 1000000000) (hx : ∀ x ∈ l, TrIn x) (hs : I64 size) : Says tr c_base_All [I low, rowOf eTr l, bools g, ints a, I size, B d] [rowOf eSz (allT low l g a size d).1, I (allT low l g a size d).2] := by
  refine Says.of (t := base_All) rfl ?_
  rw [u_base_All]
  simp (disch := first | omega | (simp only [List.length_set, List.length_map, List.length_replicate, List.length_append, List.length_modify]; omega)) only [xrun_ret, run_ite, run_fail, run_letj, xrun_loop, run_jump, xrun_call, jmp_join, jmp_loop, br_fail, br_true, br_false, xden_var, den_int, den_bool, den_str, den_nil, den_nilc, den_un, den_bin, den_tri, xon_and, xon_or, on_beq, xon_not, on_len, on_neg, on_conv, on_max, on_min, on_snoc, on_cat, on_cons, on_make, on_copy, on_plus, on_minus, on_cell, on_sel, on_slice, on_set, on_put, on_cmp, on_ar, ev_lss, ev_leq, ev_gtr, ev_geq, ev_eql, ev_neq, ar_add, ar_sub, ar_mul, ar_quo, ar_rem, pi_int, b_bool, r_row, c_cells, rowOf_r, List.map_cons, List.map_nil, List.cons_append, List.nil_append, List.getD_cons_zero, List.getD_cons_succ, List.getElem?_cons_zero, List.getElem?_cons_succ, List.take_zero, List.take_succ_cons, List.length_map, Int.toNat_natCast, decide_eq_true_eq, Int.ofNat_lt, Int.ofNat_le, xnat_nonneg, true_and, and_true, if_true, if_false, reduceIte, wrap_in, xints_at, xbools_at, xints_set, xints_snoc, xints_make, xints_nil, xbools_set, xbools_snoc, xbools_make, xcopy_make, List.length_replicate, List.length_cons, List.length_nil, Nat.reduceAdd, xcall_of (tgood_sp low l g a), Bool.not_and, Bool.not_or, Bool.not_not, Bool.and_eq_true, Bool.or_eq_true, Bool.not_eq_true', Bool.and_eq_false_imp, Bool.or_eq_false_iff, decide_eq_false_iff_not, decide_eq_true_eq, beq_iff_eq, beq_eq_false_iff_ne, bne_iff_ne, bne_eq_false_iff_eq, ne_eq, gt_iff_lt, ge_iff_le, Bool.false_eq_true, Bool.true_eq_false, beq_self_eq_true, beq_true, beq_false, Bool.not_false, Bool.not_true, Bool.false_and, Bool.true_and, Bool.and_true, Bool.and_false, Bool.or_true, Bool.true_or, Bool.or_false, Bool.false_or, false_and, true_and, and_false, and_true, or_false, or_true, false_or, true_or, not_true_eq_false, not_false_eq_true, false_iff, iff_false, true_iff, iff_true, forall_const, false_imp_iff, true_imp_iff, reduceCtorEq, imp_false]
  unfold allT
  by_cases hok : ¬ TkOk low l g a
  · rw [br_neg hok, if_pos hok]
    rfl
  rw [Classical.not_not] at hok
  rw [br_pos hok, if_neg (fun h => h hok)]
  have hgl : g.length = l.length := hok.2.1
  have hl2 : (l.length : Int) ≤ 2513169434916 := by omega
  have hal : (startA l g size d).length = l.length := by simp [startA, hgl]
  obtain ⟨L, hL⟩ : ∃ L, startA l g size d = L := ⟨_, rfl⟩
  have hLi : ∀ (i : Nat) (h : i < l.length) (h' : i < L.length) (h'' : i < g.length), L[i] = startT (if g[i] = true then ⟨2, 0, 2, 0, false, 0, 0⟩ else l[i]) size d := by
    intro i h h' h''
    subst hL
    simp [startA]
  rw [hL] at hal ⊢
  simp (disch := first | omega | (simp only [List.length_set, List.length_map, List.length_replicate, List.length_append, List.length_modify]; omega)) only [xrun_ret, run_ite, run_fail, run_letj, xrun_loop, run_jump, xrun_call, jmp_join, jmp_loop, br_fail, br_true, br_false, xden_var, den_int, den_bool, den_str, den_nil, den_nilc, den_un, den_bin, den_tri, xon_and, xon_or, on_beq, xon_not, on_len, on_neg, on_conv, on_max, on_min, on_snoc, on_cat, on_cons, on_make, on_copy, on_plus, on_minus, on_cell, on_sel, on_slice, on_set, on_put, on_cmp, on_ar, ev_lss, ev_leq, ev_gtr, ev_geq, ev_eql, ev_neq, ar_add, ar_sub, ar_mul, ar_quo, ar_rem, pi_int, b_bool, r_row, c_cells, rowOf_r, List.map_cons, List.map_nil, List.cons_append, List.nil_append, List.getD_cons_zero, List.getD_cons_succ, List.getElem?_cons_zero, List.getElem?_cons_succ, List.take_zero, List.take_succ_cons, List.length_map, Int.toNat_natCast, decide_eq_true_eq, Int.ofNat_lt, Int.ofNat_le, xnat_nonneg, true_and, and_true, if_true, if_false, reduceIte, wrap_in, xints_at, xbools_at, xints_set, xints_snoc, xints_make, xints_nil, xbools_set, xbools_snoc, xbools_make, xcopy_make, List.length_replicate, List.length_cons, List.length_nil, Nat.reduceAdd, hl2]
  have hmx : (L.map Prod.fst).length = (List.replicate l.length zSz).length := by simp [hal]
  have hq : decide (TkOk low l g a) = true := by simp [hok]
  have key := xup_ind (n := l.length) (P := fun i => firstE (L.drop i) = firstE L → Run tr base_All_l0 [I low, rowOf eTr l, bools g, ints a, I size, B d, B true, I i, rowOf eSz (mix (L.map Prod.fst) (List.replicate l.length zSz) i)] [.loop base_All_l0 [I low, rowOf eTr l, bools g, ints a, I size, B d, B true]] [rowOf eSz (if firstE L ≠ 0 then ([], firstE L) else (L.map Prod.fst, 0)).1, I (if firstE L ≠ 0 then ([], firstE L) else (L.map Prod.fst, 0)).2]) ?_ 0 (Nat.zero_le _)
  · rw [hq]
    have := key (by simp)
    simpa [mix_zero, rowOf, zSz, eSz] using this
  intro i hi ih hall
  rw [u_base_All_l0]
  by_cases h : i < l.length
  · have hgi : i < g.length := by omega
    have hLl : i < L.length := by omega
    have hml := mix_len hmx i
    rw [List.length_replicate] at hml
    have hLe := hLi i h hLl hgi
    have hset := mix_set hmx (i := i) (by simpa using h) (v := L[i].1) (by simp)
    rw [List.drop_eq_getElem_cons hLl] at hall
    simp only [firstE] at hall
    have hj1 : ∀ x : Tr, TrIn x → startT x size d = L[i] → Run tr base_All_j1 [I low, rowOf eTr l, bools g, ints a, I size, B d, B true, I i, rowOf eSz (mix (L.map Prod.fst) (List.replicate l.length zSz) i), I x.k0, I x.n0, I x.k1, I x.n1, B x.fit, I x.k2, I x.n2] [.loop base_All_l0 [I low, rowOf eTr l, bools g, ints a, I size, B d, B true]] [rowOf eSz (if firstE L ≠ 0 then ([], firstE L) else (L.map Prod.fst, 0)).1, I (if firstE L ≠ 0 then ([], firstE L) else (L.map Prod.fst, 0)).2] := by
      intro x hxi hxe
      have hst := start_sp x size d hxi hs
      rw [hxe] at hst
      rw [u_base_All_j1]
      simp (disch := first | omega | (simp only [List.length_set, List.length_map, List.length_replicate, List.length_append, List.length_modify]; omega)) only [xrun_ret, run_ite, run_fail, run_letj, xrun_loop, run_jump, xrun_call, jmp_join, jmp_loop, br_fail, br_true, br_false, xden_var, den_int, den_bool, den_str, den_nil, den_nilc, den_un, den_bin, den_tri, xon_and, xon_or, on_beq, xon_not, on_len, on_neg, on_conv, on_max, on_min, on_snoc, on_cat, on_cons, on_make, on_copy, on_plus, on_minus, on_cell, on_sel, on_slice, on_set, on_put, on_cmp, on_ar, ev_lss, ev_leq, ev_gtr, ev_geq, ev_eql, ev_neq, ar_add, ar_sub, ar_mul, ar_quo, ar_rem, pi_int, b_bool, r_row, c_cells, rowOf_r, List.map_cons, List.map_nil, List.cons_append, List.nil_append, List.getD_cons_zero, List.getD_cons_succ, List.getElem?_cons_zero, List.getElem?_cons_succ, List.take_zero, List.take_succ_cons, List.length_map, Int.toNat_natCast, decide_eq_true_eq, Int.ofNat_lt, Int.ofNat_le, xnat_nonneg, true_and, and_true, if_true, if_false, reduceIte, wrap_in, xints_at, xbools_at, xints_set, xints_snoc, xints_make, xints_nil, xbools_set, xbools_snoc, xbools_make, xcopy_make, List.length_replicate, List.length_cons, List.length_nil, Nat.reduceAdd, xcall_of hst, Bool.not_and, Bool.not_or, Bool.not_not, Bool.and_eq_true, Bool.or_eq_true, Bool.not_eq_true', Bool.and_eq_false_imp, Bool.or_eq_false_iff, decide_eq_false_iff_not, decide_eq_true_eq, beq_iff_eq, beq_eq_false_iff_ne, bne_iff_ne, bne_eq_false_iff_eq, ne_eq, gt_iff_lt, ge_iff_le, Bool.false_eq_true, Bool.true_eq_false, beq_self_eq_true, beq_true, beq_false, Bool.not_false, Bool.not_true, Bool.false_and, Bool.true_and, Bool.and_true, Bool.and_false, Bool.or_true, Bool.true_or, Bool.or_false, Bool.false_or, false_and, true_and, and_false, and_true, or_false, or_true, false_or, true_or, not_true_eq_false, not_false_eq_true, false_iff, iff_false, true_iff, iff_true, forall_const, false_imp_iff, true_imp_iff, reduceCtorEq, imp_false]
      by_cases he : ¬ L[i].2 = 0
      · rw [if_pos he] at hall
        rw [br_pos he, ← hall, if_pos he]
        rfl
      · rw [if_neg he] at hall
        rw [br_neg he]
        have := ih h hall
        simp (disch := first | omega | (simp only [List.length_set, List.length_map, List.length_replicate, List.length_append, List.length_modify]; omega)) only [xrun_ret, run_ite, run_fail, run_letj, xrun_loop, run_jump, xrun_call, jmp_join, jmp_loop, br_fail, br_true, br_false, xden_var, den_int, den_bool, den_str, den_nil, den_nilc, den_un, den_bin, den_tri, xon_and, xon_or, on_beq, xon_not, on_len, on_neg, on_conv, on_max, on_min, on_snoc, on_cat, on_cons, on_make, on_copy, on_plus, on_minus, on_cell, on_sel, on_slice, on_set, on_put, on_cmp, on_ar, ev_lss, ev_leq, ev_gtr, ev_geq, ev_eql, ev_neq, ar_add, ar_sub, ar_mul, ar_quo, ar_rem, pi_int, b_bool, r_row, c_cells, rowOf_r, List.map_cons, List.map_nil, List.cons_append, List.nil_append, List.getD_cons_zero, List.getD_cons_succ, List.getElem?_cons_zero, List.getElem?_cons_succ, List.take_zero, List.take_succ_cons, List.length_map, Int.toNat_natCast, decide_eq_true_eq, Int.ofNat_lt, Int.ofNat_le, xnat_nonneg, true_and, and_true, if_true, if_false, reduceIte, wrap_in, xints_at, xbools_at, xints_set, xints_snoc, xints_make, xints_nil, xbools_set, xbools_snoc, xbools_make, xcopy_make, List.length_replicate, List.length_cons, List.length_nil, Nat.reduceAdd, hml, h, sz_at0, sz_at1, sz_at2, sz_at3, sz_at4, sz_at5, sz_at6, sz_snoc, sz_set, sz_put5, sz_put6]
        rw [hset]
        simpa using this
    simp (disch := first | omega | (simp only [List.length_set, List.length_map, List.length_replicate, List.length_append, List.length_modify]; omega)) only [xrun_ret, run_ite, run_fail, run_letj, xrun_loop, run_jump, xrun_call, jmp_join, jmp_loop, br_fail, br_true, br_false, xden_var, den_int, den_bool, den_str, den_nil, den_nilc, den_un, den_bin, den_tri, xon_and, xon_or, on_beq, xon_not, on_len, on_neg, on_conv, on_max, on_min, on_snoc, on_cat, on_cons, on_make, on_copy, on_plus, on_minus, on_cell, on_sel, on_slice, on_set, on_put, on_cmp, on_ar, ev_lss, ev_leq, ev_gtr, ev_geq, ev_eql, ev_neq, ar_add, ar_sub, ar_mul, ar_quo, ar_rem, pi_int, b_bool, r_row, c_cells, rowOf_r, List.map_cons, List.map_nil, List.cons_append, List.nil_append, List.getD_cons_zero, List.getD_cons_succ, List.getElem?_cons_zero, List.getElem?_cons_succ, List.take_zero, List.take_succ_cons, List.length_map, Int.toNat_natCast, decide_eq_true_eq, Int.ofNat_lt, Int.ofNat_le, xnat_nonneg, true_and, and_true, if_true, if_false, reduceIte, wrap_in, xints_at, xbools_at, xints_set, xints_snoc, xints_make, xints_nil, xbools_set, xbools_snoc, xbools_make, xcopy_make, List.length_replicate, List.length_cons, List.length_nil, Nat.reduceAdd, h, hgi, tr_at0, tr_at1, tr_at2, tr_at3, tr_at4, tr_at5, tr_at6, tr_snoc]
    refine br_split ?_ ?_ <;> intro _
    · rename_i hg
      rw [if_pos hg] at hLe
      exact hj1 ⟨2, 0, 2, 0, false, 0, 0⟩ ⟨⟨by decide, by decide⟩, ⟨by decide, by decide⟩, ⟨by decide, by decide⟩⟩ hLe.symm
    · rename_i hg
      rw [if_neg hg] at hLe
      exact hj1 l[i] (hx _ (List.getElem_mem _)) hLe.symm
  · rw [List.drop_of_length_le (by omega)] at hall
    have h0 : ¬ firstE L ≠ 0 := by rw [← hall]; simp [firstE]
    simp (disch := first | omega | (simp only [List.length_set, List.length_map, List.length_replicate, List.length_append, List.length_modify]; omega)) only [xrun_ret, run_ite, run_fail, run_letj, xrun_loop, run_jump, xrun_call, jmp_join, jmp_loop, br_fail, br_true, br_false, xden_var, den_int, den_bool, den_str, den_nil, den_nilc, den_un, den_bin, den_tri, xon_and, xon_or, on_beq, xon_not, on_len, on_neg, on_conv, on_max, on_min, on_snoc, on_cat, on_cons, on_make, on_copy, on_plus, on_minus, on_cell, on_sel, on_slice, on_set, on_put, on_cmp, on_ar, ev_lss, ev_leq, ev_gtr, ev_geq, ev_eql, ev_neq, ar_add, ar_sub, ar_mul, ar_quo, ar_rem, pi_int, b_bool, r_row, c_cells, rowOf_r, List.map_cons, List.map_nil, List.cons_append, List.nil_append, List.getD_cons_zero, List.getD_cons_succ, List.getElem?_cons_zero, List.getElem?_cons_succ, List.take_zero, List.take_succ_cons, List.length_map, Int.toNat_natCast, decide_eq_true_eq, Int.ofNat_lt, Int.ofNat_le, xnat_nonneg, true_and, and_true, if_true, if_false, reduceIte, wrap_in, xints_at, xbools_at, xints_set, xints_snoc, xints_make, xints_nil, xbools_set, xbools_snoc, xbools_make, xcopy_make, List.length_replicate, List.length_cons, List.length_nil, Nat.reduceAdd, h]
    rw [if_neg h0, mix_full' hmx (by simp; omega)]
theorem rone_sp (a b : Int) : Says tr c_ref06_One [I a, I b] (if a = 6 then [I 1, I 0, I a, I b, B false, I 0, I 0] else [I a, I b, I a, I b, B false, I 0, I 0]) := by
  refine Says.of (t := ref06_One) rfl ?_
  rw [u_ref06_One]
  simp (disch := first | omega | (simp only [List.length_set, List.length_map, List.length_replicate, List.length_append, List.length_modify]; omega)) only [xrun_ret, run_ite, run_fail, run_letj, xrun_loop, run_jump, xrun_call, jmp_join, jmp_loop, br_fail, br_true, br_false, xden_var, den_int, den_bool, den_str, den_nil, den_nilc, den_un, den_bin, den_tri, xon_and, xon_or, on_beq, xon_not, on_len, on_neg, on_conv, on_max, on_min, on_snoc, on_cat, on_cons, on_make, on_copy, on_plus, on_minus, on_cell, on_sel, on_slice, on_set, on_put, on_cmp, on_ar, ev_lss, ev_leq, ev_gtr, ev_geq, ev_eql, ev_neq, ar_add, ar_sub, ar_mul, ar_quo, ar_rem, pi_int, b_bool, r_row, c_cells, rowOf_r, List.map_cons, List.map_nil, List.cons_append, List.nil_append, List.getD_cons_zero, List.getD_cons_succ, List.getElem?_cons_zero, List.getElem?_cons_succ, List.take_zero, List.take_succ_cons, List.length_map, Int.toNat_natCast, decide_eq_true_eq, Int.ofNat_lt, Int.ofNat_le, xnat_nonneg, true_and, and_true, if_true, if_false, reduceIte, wrap_in, xints_at, xbools_at, xints_set, xints_snoc, xints_make, xints_nil, xbools_set, xbools_snoc, xbools_make, xcopy_make, List.length_replicate, List.length_cons, List.length_nil, Nat.reduceAdd, Bool.not_and, Bool.not_or, Bool.not_not, Bool.and_eq_true, Bool.or_eq_true, Bool.not_eq_true', Bool.and_eq_false_imp, Bool.or_eq_false_iff, decide_eq_false_iff_not, decide_eq_true_eq, beq_iff_eq, beq_eq_false_iff_ne, bne_iff_ne, bne_eq_false_iff_eq, ne_eq, gt_iff_lt, ge_iff_le, Bool.false_eq_true, Bool.true_eq_false, beq_self_eq_true, beq_true, beq_false, Bool.not_false, Bool.not_true, Bool.false_and, Bool.true_and, Bool.and_true, Bool.and_false, Bool.or_true, Bool.true_or, Bool.or_false, Bool.false_or, false_and, true_and, and_false, and_true, or_false, or_true, false_or, true_or, not_true_eq_false, not_false_eq_true, false_iff, iff_false, true_iff, iff_true, forall_const, false_imp_iff, true_imp_iff, reduceCtorEq, imp_false]
  by_cases h : a = 6
  · rw [br_pos h, if_pos h]
  · rw [br_neg h, if_neg h]
theorem rall_sp (low : Int) (l : List Tr) (g : List Bool) (a : List Int) (size : Int) (d : Bool) (hl : l.length ≤ 1000000000) (hx : ∀ x ∈ l, TrIn x) (hs : I64 size) : Says tr c_ref22_All [I low, rowOf eTr l, bools g, ints a, I size, B d] [rowOf eSz (allT low l g a size d).1, I (allT low l g a size d).2] := by
  refine Says.of (t := ref22_All) rfl ?_
  rw [u_ref22_All]
  simp (disch := first | omega | (simp only [List.length_set, List.length_map, List.length_replicate, List.length_append, List.length_modify]; omega)) only [xrun_ret, run_ite, run_fail, run_letj, xrun_loop, run_jump, xrun_call, jmp_join, jmp_loop, br_fail, br_true, br_false, xden_var, den_int, den_bool, den_str, den_nil, den_nilc, den_un, den_bin, den_tri, xon_and, xon_or, on_beq, xon_not, on_len, on_neg, on_conv, on_max, on_min, on_snoc, on_cat, on_cons, on_make, on_copy, on_plus, on_minus, on_cell, on_sel, on_slice, on_set, on_put, on_cmp, on_ar, ev_lss, ev_leq, ev_gtr, ev_geq, ev_eql, ev_neq, ar_add, ar_sub, ar_mul, ar_quo, ar_rem, pi_int, b_bool, r_row, c_cells, rowOf_r, List.map_cons, List.map_nil, List.cons_append, List.nil_append, List.getD_cons_zero, List.getD_cons_succ, List.getElem?_cons_zero, List.getElem?_cons_succ, List.take_zero, List.take_succ_cons, List.length_map, Int.toNat_natCast, decide_eq_true_eq, Int.ofNat_lt, Int.ofNat_le, xnat_nonneg, true_and, and_true, if_true, if_false, reduceIte, wrap_in, xints_at, xbools_at, xints_set, xints_snoc, xints_make, xints_nil, xbools_set, xbools_snoc, xbools_make, xcopy_make, List.length_replicate, List.length_cons, List.length_nil, Nat.reduceAdd, xcall_of (rtgood_sp low l g a), Bool.not_and, Bool.not_or, Bool.not_not, Bool.and_eq_true, Bool.or_eq_true, Bool.not_eq_true', Bool.and_eq_false_imp, Bool.or_eq_false_iff, decide_eq_false_iff_not, decide_eq_true_eq, beq_iff_eq, beq_eq_false_iff_ne, bne_iff_ne, bne_eq_false_iff_eq, ne_eq, gt_iff_lt, ge_iff_le, Bool.false_eq_true, Bool.true_eq_false, beq_self_eq_true, beq_true, beq_false, Bool.not_false, Bool.not_true, Bool.false_and, Bool.true_and, Bool.and_true, Bool.and_false, Bool.or_true, Bool.true_or, Bool.or_false, Bool.false_or, false_and, true_and, and_false, and_true, or_false, or_true, false_or, true_or, not_true_eq_false, not_false_eq_true, false_iff, iff_false, true_iff, iff_true, forall_const, false_imp_iff, true_imp_iff, reduceCtorEq, imp_false]
  unfold allT
  by_cases hok : ¬ TkOk low l g a
  · rw [br_neg hok, if_pos hok]
    rfl
  rw [Classical.not_not] at hok
  rw [br_pos hok, if_neg (fun h => h hok)]
  have hgl : g.length = l.length := hok.2.1
  have hl4 : l.length ≤ 40000 := hok.1
  have hal : (startA l g size d).length = l.length := by simp [startA, hgl]
  obtain ⟨L, hL⟩ : ∃ L, startA l g size d = L := ⟨_, rfl⟩
  have hLi : ∀ (i : Nat) (h : i < l.length) (h' : i < L.length) (h'' : i < g.length), L[i] = startT (if g[i] = true then ⟨2, 0, 2, 0, false, 0, 0⟩ else l[i]) size d := by
    intro i h h' h''
    subst hL
    simp [startA]
  rw [hL] at hal ⊢
  have hq : decide (TkOk low l g a) = true := by simp [hok]
  have key := xup_ind (n := l.length) (P := fun i => firstE (L.drop i) = firstE L → Run tr ref22_All_l0 [I low, rowOf eTr l, bools g, ints a, I size, B d, B true, I i, rowOf eSz ((L.map Prod.fst).take i)] [.loop ref22_All_l0 [I low, rowOf eTr l, bools g, ints a, I size, B d, B true]] [rowOf eSz (if firstE L ≠ 0 then ([], firstE L) else (L.map Prod.fst, 0)).1, I (if firstE L ≠ 0 then ([], firstE L) else (L.map Prod.fst, 0)).2]) ?_ 0 (Nat.zero_le _)
  · rw [hq]
    have := key (by simp)
    simpa [rowOf] using this
  intro i hi ih hall
  rw [u_ref22_All_l0]
  by_cases h : i < l.length
  · have hgi : i < g.length := by omega
    have hLl : i < L.length := by omega
    have hLe := hLi i h hLl hgi
    have htl : ((L.map Prod.fst).take i).length = i := by simp; omega
    have hsn := take_snoc (a := L.map Prod.fst) (i := i) (by simpa using hLl) (v := L[i].1) (by simp)
    rw [List.drop_eq_getElem_cons hLl] at hall
    simp only [firstE] at hall
    have hj1 : ∀ x : Tr, TrIn x → startT x size d = L[i] → Run tr ref22_All_j1 [I low, rowOf eTr l, bools g, ints a, I size, B d, B true, I i, rowOf eSz ((L.map Prod.fst).take i), I x.k0, I x.n0, I x.k1, I x.n1, B x.fit, I x.k2, I x.n2] [.loop ref22_All_l0 [I low, rowOf eTr l, bools g, ints a, I size, B d, B true]] [rowOf eSz (if firstE L ≠ 0 then ([], firstE L) else (L.map Prod.fst, 0)).1, I (if firstE L ≠ 0 then ([], firstE L) else (L.map Prod.fst, 0)).2] := by
      intro x hxi hxe
      have hst := rstart_sp x size d hxi hs
      rw [hxe] at hst
      rw [u_ref22_All_j1]
      simp (disch := first | omega | (simp only [List.length_set, List.length_map, List.length_replicate, List.length_append, List.length_modify]; omega)) only [xrun_ret, run_ite, run_fail, run_letj, xrun_loop, run_jump, xrun_call, jmp_join, jmp_loop, br_fail, br_true, br_false, xden_var, den_int, den_bool, den_str, den_nil, den_nilc, den_un, den_bin, den_tri, xon_and, xon_or, on_beq, xon_not, on_len, on_neg, on_conv, on_max, on_min, on_snoc, on_cat, on_cons, on_make, on_copy, on_plus, on_minus, on_cell, on_sel, on_slice, on_set, on_put, on_cmp, on_ar, ev_lss, ev_leq, ev_gtr, ev_geq, ev_eql, ev_neq, ar_add, ar_sub, ar_mul, ar_quo, ar_rem, pi_int, b_bool, r_row, c_cells, rowOf_r, List.map_cons, List.map_nil, List.cons_append, List.nil_append, List.getD_cons_zero, List.getD_cons_succ, List.getElem?_cons_zero, List.getElem?_cons_succ, List.take_zero, List.take_succ_cons, List.length_map, Int.toNat_natCast, decide_eq_true_eq, Int.ofNat_lt, Int.ofNat_le, xnat_nonneg, true_and, and_true, if_true, if_false, reduceIte, wrap_in, xints_at, xbools_at, xints_set, xints_snoc, xints_make, xints_nil, xbools_set, xbools_snoc, xbools_make, xcopy_make, List.length_replicate, List.length_cons, List.length_nil, Nat.reduceAdd, xcall_of hst, Bool.not_and, Bool.not_or, Bool.not_not, Bool.and_eq_true, Bool.or_eq_true, Bool.not_eq_true', Bool.and_eq_false_imp, Bool.or_eq_false_iff, decide_eq_false_iff_not, decide_eq_true_eq, beq_iff_eq, beq_eq_false_iff_ne, bne_iff_ne, bne_eq_false_iff_eq, ne_eq, gt_iff_lt, ge_iff_le, Bool.false_eq_true, Bool.true_eq_false, beq_self_eq_true, beq_true, beq_false, Bool.not_false, Bool.not_true, Bool.false_and, Bool.true_and, Bool.and_true, Bool.and_false, Bool.or_true, Bool.true_or, Bool.or_false, Bool.false_or, false_and, true_and, and_false, and_true, or_false, or_true, false_or, true_or, not_true_eq_false, not_false_eq_true, false_iff, iff_false, true_iff, iff_true, forall_const, false_imp_iff, true_imp_iff, reduceCtorEq, imp_false]
      by_cases he : ¬ L[i].2 = 0
      · rw [if_pos he] at hall
        rw [br_pos he, ← hall, if_pos he]
        rfl
      · rw [if_neg he] at hall
        rw [br_neg he]
        have := ih h hall
        simp (disch := first | omega | (simp only [List.length_set, List.length_map, List.length_replicate, List.length_append, List.length_modify]; omega)) only [xrun_ret, run_ite, run_fail, run_letj, xrun_loop, run_jump, xrun_call, jmp_join, jmp_loop, br_fail, br_true, br_false, xden_var, den_int, den_bool, den_str, den_nil, den_nilc, den_un, den_bin, den_tri, xon_and, xon_or, on_beq, xon_not, on_len, on_neg, on_conv, on_max, on_min, on_snoc, on_cat, on_cons, on_make, on_copy, on_plus, on_minus, on_cell, on_sel, on_slice, on_set, on_put, on_cmp, on_ar, ev_lss, ev_leq, ev_gtr, ev_geq, ev_eql, ev_neq, ar_add, ar_sub, ar_mul, ar_quo, ar_rem, pi_int, b_bool, r_row, c_cells, rowOf_r, List.map_cons, List.map_nil, List.cons_append, List.nil_append, List.getD_cons_zero, List.getD_cons_succ, List.getElem?_cons_zero, List.getElem?_cons_succ, List.take_zero, List.take_succ_cons, List.length_map, Int.toNat_natCast, decide_eq_true_eq, Int.ofNat_lt, Int.ofNat_le, xnat_nonneg, true_and, and_true, if_true, if_false, reduceIte, wrap_in, xints_at, xbools_at, xints_set, xints_snoc, xints_make, xints_nil, xbools_set, xbools_snoc, xbools_make, xcopy_make, List.length_replicate, List.length_cons, List.length_nil, Nat.reduceAdd, htl, h, sz_at0, sz_at1, sz_at2, sz_at3, sz_at4, sz_at5, sz_at6, sz_snoc, sz_set, sz_put5, sz_put6]
        rw [hsn]
        exact ⟨by omega, by simpa using this⟩
    simp (disch := first | omega | (simp only [List.length_set, List.length_map, List.length_replicate, List.length_append, List.length_modify]; omega)) only [xrun_ret, run_ite, run_fail, run_letj, xrun_loop, run_jump, xrun_call, jmp_join, jmp_loop, br_fail, br_true, br_false, xden_var, den_int, den_bool, den_str, den_nil, den_nilc, den_un, den_bin, den_tri, xon_and, xon_or, on_beq, xon_not, on_len, on_neg, on_conv, on_max, on_min, on_snoc, on_cat, on_cons, on_make, on_copy, on_plus, on_minus, on_cell, on_sel, on_slice, on_set, on_put, on_cmp, on_ar, ev_lss, ev_leq, ev_gtr, ev_geq, ev_eql, ev_neq, ar_add, ar_sub, ar_mul, ar_quo, ar_rem, pi_int, b_bool, r_row, c_cells, rowOf_r, List.map_cons, List.map_nil, List.cons_append, List.nil_append, List.getD_cons_zero, List.getD_cons_succ, List.getElem?_cons_zero, List.getElem?_cons_succ, List.take_zero, List.take_succ_cons, List.length_map, Int.toNat_natCast, decide_eq_true_eq, Int.ofNat_lt, Int.ofNat_le, xnat_nonneg, true_and, and_true, if_true, if_false, reduceIte, wrap_in, xints_at, xbools_at, xints_set, xints_snoc, xints_make, xints_nil, xbools_set, xbools_snoc, xbools_make, xcopy_make, List.length_replicate, List.length_cons, List.length_nil, Nat.reduceAdd, h, hgi, tr_at0, tr_at1, tr_at2, tr_at3, tr_at4, tr_at5, tr_at6, tr_snoc]
    refine br_split ?_ ?_ <;> intro _
    · rename_i hg
      rw [if_pos hg] at hLe
      have h1 := rone_sp 2 0
      rw [if_neg (by decide)] at h1
      simp (disch := first | omega | (simp only [List.length_set, List.length_map, List.length_replicate, List.length_append, List.length_modify]; omega)) only [xrun_ret, run_ite, run_fail, run_letj, xrun_loop, run_jump, xrun_call, jmp_join, jmp_loop, br_fail, br_true, br_false, xden_var, den_int, den_bool, den_str, den_nil, den_nilc, den_un, den_bin, den_tri, xon_and, xon_or, on_beq, xon_not, on_len, on_neg, on_conv, on_max, on_min, on_snoc, on_cat, on_cons, on_make, on_copy, on_plus, on_minus, on_cell, on_sel, on_slice, on_set, on_put, on_cmp, on_ar, ev_lss, ev_leq, ev_gtr, ev_geq, ev_eql, ev_neq, ar_add, ar_sub, ar_mul, ar_quo, ar_rem, pi_int, b_bool, r_row, c_cells, rowOf_r, List.map_cons, List.map_nil, List.cons_append, List.nil_append, List.getD_cons_zero, List.getD_cons_succ, List.getElem?_cons_zero, List.getElem?_cons_succ, List.take_zero, List.take_succ_cons, List.length_map, Int.toNat_natCast, decide_eq_true_eq, Int.ofNat_lt, Int.ofNat_le, xnat_nonneg, true_and, and_true, if_true, if_false, reduceIte, wrap_in, xints_at, xbools_at, xints_set, xints_snoc, xints_make, xints_nil, xbools_set, xbools_snoc, xbools_make, xcopy_make, List.length_replicate, List.length_cons, List.length_nil, Nat.reduceAdd, xcall_of h1]
      exact hj1 ⟨2, 0, 2, 0, false, 0, 0⟩ ⟨⟨by decide, by decide⟩, ⟨by decide, by decide⟩, ⟨by decide, by decide⟩⟩ hLe.symm
    · rename_i hg
      rw [if_neg hg] at hLe
      exact hj1 l[i] (hx _ (List.getElem_mem _)) hLe.symm
  · rw [List.drop_of_length_le (by omega)] at hall
    have h0 : ¬ firstE L ≠ 0 := by rw [← hall]; simp [firstE]
    simp (disch := first | omega | (simp only [List.length_set, List.length_map, List.length_replicate, List.length_append, List.length_modify]; omega)) only [xrun_ret, run_ite, run_fail, run_letj, xrun_loop, run_jump, xrun_call, jmp_join, jmp_loop, br_fail, br_true, br_false, xden_var, den_int, den_bool, den_str, den_nil, den_nilc, den_un, den_bin, den_tri, xon_and, xon_or, on_beq, xon_not, on_len, on_neg, on_conv, on_max, on_min, on_snoc, on_cat, on_cons, on_make, on_copy, on_plus, on_minus, on_cell, on_sel, on_slice, on_set, on_put, on_cmp, on_ar, ev_lss, ev_leq, ev_gtr, ev_geq, ev_eql, ev_neq, ar_add, ar_sub, ar_mul, ar_quo, ar_rem, pi_int, b_bool, r_row, c_cells, rowOf_r, List.map_cons, List.map_nil, List.cons_append, List.nil_append, List.getD_cons_zero, List.getD_cons_succ, List.getElem?_cons_zero, List.getElem?_cons_succ, List.take_zero, List.take_succ_cons, List.length_map, Int.toNat_natCast, decide_eq_true_eq, Int.ofNat_lt, Int.ofNat_le, xnat_nonneg, true_and, and_true, if_true, if_false, reduceIte, wrap_in, xints_at, xbools_at, xints_set, xints_snoc, xints_make, xints_nil, xbools_set, xbools_snoc, xbools_make, xcopy_make, List.length_replicate, List.length_cons, List.length_nil, Nat.reduceAdd, h]
    rw [if_neg h0, List.take_of_length_le (by simp; omega)]
/-! ### What begins may be -/
theorem begin_gd {x : Tr} {size : Int} {d : Bool} (hr : rtB x = true) (hs : d = true → 0 ≤ size ∧ size ≤ 68719476736) : Gd (begin1 x size d) ∧ (begin1 x size d).base ≤ (begin1 x size d).lim := by
  have hres : ∀ (au fr : Bool) (k n : Int), valB au fr k n = true → 0 ≤ (resS k n size d).1 ∧ (resS k n size d).1 ≤ 68719476736 := by
    intro au fr k n hv
    simp only [valB, decide_eq_true_eq] at hv
    unfold resS
    by_cases h2 : k = 2
    · rw [if_pos h2]
      rcases hv with h | h | h | h
      · exact ⟨h.2.1, h.2.2⟩
      · omega
      · omega
      · omega
    rw [if_neg h2]
    by_cases h3 : k = 3 ∧ d = true
    · rw [if_pos h3]
      have hn : 0 ≤ n ∧ n ≤ 1073741824 := by
        rcases hv with h | h | h | h
        · omega
        · exact h.2
        · omega
        · omega
      exact pct_pos hn (hs h3.2)
    · rw [if_neg h3]
      simp
  have hk : ∀ (k : Int), 1 ≤ kindS k d ∧ kindS k d ≤ 5 := by
    intro k
    unfold kindS
    (repeat' split) <;> omega
  unfold rtB at hr
  cases hf : x.fit with
  | true =>
    rw [hf] at hr
    simp only [if_true, Bool.and_eq_true, decide_eq_true_eq] at hr
    obtain ⟨⟨e1, e2, e3, e4, _⟩, hv⟩ := hr
    have h2 := hres _ _ _ _ hv
    have hr0 : (resS x.k0 x.n0 size d).1 = 0 := by rw [e1]; simp [resS]
    have hr1 : (resS x.k1 x.n1 size d).2.1 = false := by rw [e3]; simp [resS]
    have hk0 : kindS x.k0 d = 2 := by rw [e1]; simp [kindS]
    have hk1 : kindS x.k1 d = 4 := by rw [e3]; simp [kindS]
    unfold begin1 Gd
    simp only [hr0, hr1, hk0, hk1, hf]
    cases (resS x.k2 x.n2 size d).2.1 <;> simp <;> omega
  | false =>
    rw [hf] at hr
    simp only [Bool.false_eq_true, if_false, Bool.and_eq_true, decide_eq_true_eq] at hr
    obtain ⟨⟨_, hv0⟩, hv1⟩ := hr
    have h0 := hres _ _ _ _ hv0
    have h1 := hres _ _ _ _ hv1
    have hk0 : kindS x.k0 d ≠ 5 := by
      simp only [valB, decide_eq_true_eq, Bool.false_eq_true, false_and, false_or] at hv0
      unfold kindS
      (repeat' split) <;> omega
    have hfr : kindS x.k1 d = 5 → 0 ≤ x.n1 ∧ x.n1 ≤ 1073741824 := by
      intro h5
      have h6 : x.k1 = 6 := by
        unfold kindS at h5
        (repeat' split at h5) <;> omega
      simp only [valB, decide_eq_true_eq, h6] at hv1
      omega
    have q0 := hk x.k0
    have q1 := hk x.k1
    unfold begin1 Gd
    simp only [hf, Bool.false_and]
    by_cases h5 : kindS x.k1 d = 5
    · have := hfr h5
      simp only [h5]
      cases (resS x.k1 x.n1 size d).2.1 <;> simp <;> omega
    · simp only [h5]
      cases (resS x.k1 x.n1 size d).2.1 <;> simp <;> omega
theorem start_gd {x : Tr} {size : Int} {d : Bool} (h : (startT x size d).2 = 0) : Gd (startT x size d).1 := by
  unfold startT at h ⊢
  by_cases h1 : rtB x = false ∨ d = true ∧ (size < 0 ∨ 68719476736 < size)
  · rw [if_pos h1] at h; cases h
  rw [if_neg h1] at h ⊢
  by_cases h2 : (resS x.k0 x.n0 size d).2.2 ≠ 0
  · rw [if_pos h2] at h; exact absurd h h2
  rw [if_neg h2] at h ⊢
  by_cases h3 : (resS x.k1 x.n1 size d).2.2 ≠ 0
  · rw [if_pos h3] at h; exact absurd h h3
  rw [if_neg h3] at h ⊢
  by_cases h4 : (resS x.k2 x.n2 size d).2.2 ≠ 0
  · rw [if_pos h4] at h; exact absurd h h4
  rw [if_neg h4]
  have hr : rtB x = true := by
    cases hh : rtB x with
    | true => rfl
    | false => exact absurd (Or.inl hh) h1
  exact (begin_gd hr (fun hd => by
    refine Classical.byContradiction fun hn => h1 (Or.inr ⟨hd, by omega⟩))).1
theorem firstE_zero : ∀ {L : List (Sz × Int)}, firstE L = 0 → ∀ r ∈ L, r.2 = 0
  | r :: rs, h, x, hx => by
    simp only [firstE] at h
    by_cases he : r.2 ≠ 0
    · rw [if_pos he] at h; exact absurd h he
    · rw [if_neg he] at h
      rcases List.mem_cons.1 hx with rfl | hx
      · simpa using he
      · exact firstE_zero h x hx
theorem all_gd {low : Int} {l : List Tr} {g : List Bool} {a : List Int} {size : Int} {d : Bool} : ∀ s ∈ (allT low l g a size d).1, Gd s := by
  intro s hs
  unfold allT at hs
  by_cases h1 : ¬ TkOk low l g a
  · rw [if_pos h1] at hs; simp at hs
  rw [if_neg h1] at hs
  by_cases h2 : firstE (startA l g size d) ≠ 0
  · rw [if_pos h2] at hs; simp at hs
  rw [if_neg h2] at hs
  obtain ⟨r, hr, rfl⟩ := List.mem_map.1 hs
  have hz := firstE_zero (by simpa using h2) r hr
  obtain ⟨i, hi, rfl⟩ := List.mem_iff_getElem.1 hr
  simp only [startA, List.getElem_zipWith] at hz ⊢
  exact start_gd hz
theorem allT_length {low : Int} {l : List Tr} {g : List Bool} {a : List Int} {size : Int} {d : Bool} : (allT low l g a size d).1.length ≤ l.length := by
  unfold allT
  split
  · simp
  split
  · simp
  · simp [startA]
    omega
end Go.Proofs.Ytmgmidipijpkdaa.T
