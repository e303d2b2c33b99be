/- What the document's Stretch and the test whether two rows are the same come to. No condition beyond what each states. -/
import Derived.Test.YtolgoenpckiggaaT
import Derived.Test.YtolgoenpckiggaaKref25
set_option linter.unusedVariables false
set_option linter.unusedSimpArgs false
namespace Go.Proofs.Ytolgoenpckiggaa.T
open Go Go.Proofs.Ytolgoenpckiggaa.Sx Go.Proofs.Ytolgoenpckiggaa.M

theorem same_sp (a b : List Sz) (hl : a.length ≤ 1000000000) : Says tr c_ref22_Same [rowOf eSz a, rowOf eSz b] [B (decide (a = b))] := by
  refine Says.of (t := ref22_Same) rfl ?_
  rw [u_ref22_Same]
  simp (disch := first | omega | (simp only [List.length_set, List.length_map, List.length_replicate, List.length_append, List.length_modify]; omega)) only [xrun_ret, run_ite, run_fail, run_letj, xrun_loop, run_jump, xrun_call, jmp_join, jmp_loop, br_fail, br_true, br_false, xden_var, den_int, den_bool, den_str, den_nil, den_nilc, den_un, den_bin, den_tri, xon_and, xon_or, on_beq, xon_not, on_len, on_neg, on_conv, on_max, on_min, on_snoc, on_cat, on_cons, on_make, on_copy, on_plus, on_minus, on_cell, on_sel, on_slice, on_set, on_put, on_cmp, on_ar, ev_lss, ev_leq, ev_gtr, ev_geq, ev_eql, ev_neq, ar_add, ar_sub, ar_mul, ar_quo, ar_rem, pi_int, b_bool, r_row, c_cells, rowOf_r, List.map_cons, List.map_nil, List.cons_append, List.nil_append, List.getD_cons_zero, List.getD_cons_succ, List.getElem?_cons_zero, List.getElem?_cons_succ, List.take_zero, List.take_succ_cons, List.length_map, Int.toNat_natCast, decide_eq_true_eq, Int.ofNat_lt, Int.ofNat_le, xnat_nonneg, true_and, and_true, if_true, if_false, reduceIte, wrap_in, xints_at, xbools_at, xints_set, xints_snoc, xints_make, xints_nil, xbools_set, xbools_snoc, xbools_make, xcopy_make, List.length_replicate, List.length_cons, List.length_nil, Nat.reduceAdd, Bool.not_and, Bool.not_or, Bool.not_not, Bool.and_eq_true, Bool.or_eq_true, Bool.not_eq_true', Bool.and_eq_false_imp, Bool.or_eq_false_iff, decide_eq_false_iff_not, decide_eq_true_eq, beq_iff_eq, beq_eq_false_iff_ne, bne_iff_ne, bne_eq_false_iff_eq, ne_eq, gt_iff_lt, ge_iff_le, Bool.false_eq_true, Bool.true_eq_false, beq_self_eq_true, beq_true, beq_false, Bool.not_false, Bool.not_true, Bool.false_and, Bool.true_and, Bool.and_true, Bool.and_false, Bool.or_true, Bool.true_or, Bool.or_false, Bool.false_or, false_and, true_and, and_false, and_true, or_false, or_true, false_or, true_or, not_true_eq_false, not_false_eq_true, false_iff, iff_false, true_iff, iff_true, forall_const, false_imp_iff, true_imp_iff, reduceCtorEq, imp_false, Int.natCast_inj]
  refine br_split ?_ ?_ <;> intro _
  · rename_i h
    have : a ≠ b := by rintro rfl; exact h rfl
    simp only [this, decide_false]
  · rename_i h
    simp only [Classical.not_not] at h
    have key := xup_ind (n := a.length) (P := fun i => decide (a.drop i = b.drop i) = decide (a = b) → Run tr ref22_Same_l0 [rowOf eSz a, rowOf eSz b, I i] [.loop ref22_Same_l0 [rowOf eSz a, rowOf eSz b]] [B (decide (a = b))]) ?_ 0 (Nat.zero_le _)
    · simpa using key rfl
    intro i hi ih hall
    rw [u_ref22_Same_l0]
    by_cases hi' : i < a.length
    · have hib : i < b.length := by omega
      rw [List.drop_eq_getElem_cons hi', List.drop_eq_getElem_cons hib] at hall
      have e : ((a[i].mn = b[i].mn) ∧ (a[i].mx = b[i].mx) ∧ (a[i].fr = b[i].fr) ∧ (a[i].fit = b[i].fit) ∧ (a[i].cap = b[i].cap) ∧ (a[i].base = b[i].base) ∧ (a[i].lim = b[i].lim)) ↔ a[i] = b[i] := by
        cases ha : a[i]
        cases hb : b[i]
        simp
      simp (disch := first | omega | (simp only [List.length_set, List.length_map, List.length_replicate, List.length_append, List.length_modify]; omega)) only [xrun_ret, run_ite, run_fail, run_letj, xrun_loop, run_jump, xrun_call, jmp_join, jmp_loop, br_fail, br_true, br_false, xden_var, den_int, den_bool, den_str, den_nil, den_nilc, den_un, den_bin, den_tri, xon_and, xon_or, on_beq, xon_not, on_len, on_neg, on_conv, on_max, on_min, on_snoc, on_cat, on_cons, on_make, on_copy, on_plus, on_minus, on_cell, on_sel, on_slice, on_set, on_put, on_cmp, on_ar, ev_lss, ev_leq, ev_gtr, ev_geq, ev_eql, ev_neq, ar_add, ar_sub, ar_mul, ar_quo, ar_rem, pi_int, b_bool, r_row, c_cells, rowOf_r, List.map_cons, List.map_nil, List.cons_append, List.nil_append, List.getD_cons_zero, List.getD_cons_succ, List.getElem?_cons_zero, List.getElem?_cons_succ, List.take_zero, List.take_succ_cons, List.length_map, Int.toNat_natCast, decide_eq_true_eq, Int.ofNat_lt, Int.ofNat_le, xnat_nonneg, true_and, and_true, if_true, if_false, reduceIte, wrap_in, xints_at, xbools_at, xints_set, xints_snoc, xints_make, xints_nil, xbools_set, xbools_snoc, xbools_make, xcopy_make, List.length_replicate, List.length_cons, List.length_nil, Nat.reduceAdd, hi', hib, sz_at0, sz_at1, sz_at2, sz_at3, sz_at4, sz_at5, sz_at6, sz_snoc, sz_set, sz_put5, sz_put6, Bool.not_and, Bool.not_or, Bool.not_not, Bool.and_eq_true, Bool.or_eq_true, Bool.not_eq_true', Bool.and_eq_false_imp, Bool.or_eq_false_iff, decide_eq_false_iff_not, decide_eq_true_eq, beq_iff_eq, beq_eq_false_iff_ne, bne_iff_ne, bne_eq_false_iff_eq, ne_eq, gt_iff_lt, ge_iff_le, Bool.false_eq_true, Bool.true_eq_false, beq_self_eq_true, beq_true, beq_false, Bool.not_false, Bool.not_true, Bool.false_and, Bool.true_and, Bool.and_true, Bool.and_false, Bool.or_true, Bool.true_or, Bool.or_false, Bool.false_or, false_and, true_and, and_false, and_true, or_false, or_true, false_or, true_or, not_true_eq_false, not_false_eq_true, false_iff, iff_false, true_iff, iff_true, forall_const, false_imp_iff, true_imp_iff, reduceCtorEq, imp_false, e]
      refine br_split ?_ ?_ <;> intro _
      · rename_i hc
        refine ih hi' ?_
        rw [← hall, hc]
        simp only [List.cons.injEq, true_and]
      · rename_i hc
        rw [← hall]
        simp only [List.cons.injEq, hc, false_and, decide_false]
    · rw [List.drop_of_length_le (by omega), List.drop_of_length_le (by omega)] at hall
      simp (disch := first | omega | (simp only [List.length_set, List.length_map, List.length_replicate, List.length_append, List.length_modify]; omega)) only [xrun_ret, run_ite, run_fail, run_letj, xrun_loop, run_jump, xrun_call, jmp_join, jmp_loop, br_fail, br_true, br_false, xden_var, den_int, den_bool, den_str, den_nil, den_nilc, den_un, den_bin, den_tri, xon_and, xon_or, on_beq, xon_not, on_len, on_neg, on_conv, on_max, on_min, on_snoc, on_cat, on_cons, on_make, on_copy, on_plus, on_minus, on_cell, on_sel, on_slice, on_set, on_put, on_cmp, on_ar, ev_lss, ev_leq, ev_gtr, ev_geq, ev_eql, ev_neq, ar_add, ar_sub, ar_mul, ar_quo, ar_rem, pi_int, b_bool, r_row, c_cells, rowOf_r, List.map_cons, List.map_nil, List.cons_append, List.nil_append, List.getD_cons_zero, List.getD_cons_succ, List.getElem?_cons_zero, List.getElem?_cons_succ, List.take_zero, List.take_succ_cons, List.length_map, Int.toNat_natCast, decide_eq_true_eq, Int.ofNat_lt, Int.ofNat_le, xnat_nonneg, true_and, and_true, if_true, if_false, reduceIte, wrap_in, xints_at, xbools_at, xints_set, xints_snoc, xints_make, xints_nil, xbools_set, xbools_snoc, xbools_make, xcopy_make, List.length_replicate, List.length_cons, List.length_nil, Nat.reduceAdd, hi']
      rw [← hall]
      rfl
/-- Each auto track gets the next part. -/
def rst : List Sz → List Int → List Sz
  | [], _ => []
  | x :: xs, [] => st1 x 0 :: rst xs []
  | x :: xs, y :: ys => if x.mx = 2 then st1 x y :: rst xs ys else st1 x 0 :: rst xs (y :: ys)
theorem rst_length : ∀ (s : List Sz) (ys : List Int), (rst s ys).length = s.length
  | [], _ => rfl
  | x :: xs, [] => by simp [rst, rst_length xs []]
  | x :: xs, y :: ys => by simp only [rst]; split <;> simp [rst_length xs ys, rst_length xs (y :: ys)]
theorem rst_eq : ∀ (s : List Sz) (ys : List Int), rst s ys = stret s (addp (List.replicate s.length 0) (autoL s) ys)
  | [], _ => rfl
  | x :: xs, [] => by
    have := rst_eq xs []
    simp only [addp_nil] at this ⊢
    simp [rst, stret, List.replicate_succ, this]
  | x :: xs, y :: ys => by
    have h1 := rst_eq xs ys
    have h2 := rst_eq xs (y :: ys)
    simp only [rst]
    by_cases hx : x.mx = 2
    · rw [if_pos hx, h1]
      simp [stret, autoL, List.replicate_succ, hx, addp]
    · rw [if_neg hx, h2]
      simp [stret, autoL, List.replicate_succ, hx, addp]
theorem rstretch_bad (s : List Sz) (free : Int) (hl : s.length ≤ 1000000000) (h : ¬ GrowOk s free) : Says tr c_ref25_Stretch [rowOf eSz s, I free] [rowOf eSz s] := by
  refine Says.of (t := ref25_Stretch) rfl ?_
  rw [u_ref25_Stretch]
  simp (disch := first | omega | (simp only [List.length_set, List.length_map, List.length_replicate, List.length_append, List.length_modify]; omega)) only [xrun_ret, run_ite, run_fail, run_letj, xrun_loop, run_jump, xrun_call, jmp_join, jmp_loop, br_fail, br_true, br_false, xden_var, den_int, den_bool, den_str, den_nil, den_nilc, den_un, den_bin, den_tri, xon_and, xon_or, on_beq, xon_not, on_len, on_neg, on_conv, on_max, on_min, on_snoc, on_cat, on_cons, on_make, on_copy, on_plus, on_minus, on_cell, on_sel, on_slice, on_set, on_put, on_cmp, on_ar, ev_lss, ev_leq, ev_gtr, ev_geq, ev_eql, ev_neq, ar_add, ar_sub, ar_mul, ar_quo, ar_rem, pi_int, b_bool, r_row, c_cells, rowOf_r, List.map_cons, List.map_nil, List.cons_append, List.nil_append, List.getD_cons_zero, List.getD_cons_succ, List.getElem?_cons_zero, List.getElem?_cons_succ, List.take_zero, List.take_succ_cons, List.length_map, Int.toNat_natCast, decide_eq_true_eq, Int.ofNat_lt, Int.ofNat_le, xnat_nonneg, true_and, and_true, if_true, if_false, reduceIte, wrap_in, xints_at, xbools_at, xints_set, xints_snoc, xints_make, xints_nil, xbools_set, xbools_snoc, xbools_make, xcopy_make, List.length_replicate, List.length_cons, List.length_nil, Nat.reduceAdd, xcall_of (rgoods_sp s hl), xcall_of (rwithin_sp _)]
  refine br_split ?_ ?_ <;> intro _
  · rename_i hg
    have hb : (decide (0 ≤ free) && decide (free ≤ 68719476736)) = false := by
      cases hb : (decide (0 ≤ free) && decide (free ≤ 68719476736)) with
      | false => rfl
      | true =>
        simp at hb
        exact absurd ⟨(goodB_iff s).1 hg, hb.1, hb.2⟩ h
    simp (disch := first | omega | (simp only [List.length_set, List.length_map, List.length_replicate, List.length_append, List.length_modify]; omega)) only [xrun_ret, run_ite, run_fail, run_letj, xrun_loop, run_jump, xrun_call, jmp_join, jmp_loop, br_fail, br_true, br_false, xden_var, den_int, den_bool, den_str, den_nil, den_nilc, den_un, den_bin, den_tri, xon_and, xon_or, on_beq, xon_not, on_len, on_neg, on_conv, on_max, on_min, on_snoc, on_cat, on_cons, on_make, on_copy, on_plus, on_minus, on_cell, on_sel, on_slice, on_set, on_put, on_cmp, on_ar, ev_lss, ev_leq, ev_gtr, ev_geq, ev_eql, ev_neq, ar_add, ar_sub, ar_mul, ar_quo, ar_rem, pi_int, b_bool, r_row, c_cells, rowOf_r, List.map_cons, List.map_nil, List.cons_append, List.nil_append, List.getD_cons_zero, List.getD_cons_succ, List.getElem?_cons_zero, List.getElem?_cons_succ, List.take_zero, List.take_succ_cons, List.length_map, Int.toNat_natCast, decide_eq_true_eq, Int.ofNat_lt, Int.ofNat_le, xnat_nonneg, true_and, and_true, if_true, if_false, reduceIte, wrap_in, xints_at, xbools_at, xints_set, xints_snoc, xints_make, xints_nil, xbools_set, xbools_snoc, xbools_make, xcopy_make, List.length_replicate, List.length_cons, List.length_nil, Nat.reduceAdd, u_ref25_Stretch_j0, hb, Bool.not_false]
  · simp (disch := first | omega | (simp only [List.length_set, List.length_map, List.length_replicate, List.length_append, List.length_modify]; omega)) only [xrun_ret, run_ite, run_fail, run_letj, xrun_loop, run_jump, xrun_call, jmp_join, jmp_loop, br_fail, br_true, br_false, xden_var, den_int, den_bool, den_str, den_nil, den_nilc, den_un, den_bin, den_tri, xon_and, xon_or, on_beq, xon_not, on_len, on_neg, on_conv, on_max, on_min, on_snoc, on_cat, on_cons, on_make, on_copy, on_plus, on_minus, on_cell, on_sel, on_slice, on_set, on_put, on_cmp, on_ar, ev_lss, ev_leq, ev_gtr, ev_geq, ev_eql, ev_neq, ar_add, ar_sub, ar_mul, ar_quo, ar_rem, pi_int, b_bool, r_row, c_cells, rowOf_r, List.map_cons, List.map_nil, List.cons_append, List.nil_append, List.getD_cons_zero, List.getD_cons_succ, List.getElem?_cons_zero, List.getElem?_cons_succ, List.take_zero, List.take_succ_cons, List.length_map, Int.toNat_natCast, decide_eq_true_eq, Int.ofNat_lt, Int.ofNat_le, xnat_nonneg, true_and, and_true, if_true, if_false, reduceIte, wrap_in, xints_at, xbools_at, xints_set, xints_snoc, xints_make, xints_nil, xbools_set, xbools_snoc, xbools_make, xcopy_make, List.length_replicate, List.length_cons, List.length_nil, Nat.reduceAdd, u_ref25_Stretch_j0]
theorem rstretch_ok (s : List Sz) (free : Int) (hm : s.length ≤ 65536) (h : GrowOk s free) : Says tr c_ref25_Stretch [rowOf eSz s, I free] [rowOf eSz (stret s (gotS s free))] := by
  obtain ⟨hs, h0, h1⟩ := h
  have hal : (autoL s).length = s.length := by simp [autoL]
  have hix := idx_le (autoL s)
  refine Says.of (t := ref25_Stretch) rfl ?_
  rw [u_ref25_Stretch]
  have hg : goodB s = true := (goodB_iff s).2 hs
  simp (disch := first | omega | (simp only [List.length_set, List.length_map, List.length_replicate, List.length_append, List.length_modify]; omega)) only [xrun_ret, run_ite, run_fail, run_letj, xrun_loop, run_jump, xrun_call, jmp_join, jmp_loop, br_fail, br_true, br_false, xden_var, den_int, den_bool, den_str, den_nil, den_nilc, den_un, den_bin, den_tri, xon_and, xon_or, on_beq, xon_not, on_len, on_neg, on_conv, on_max, on_min, on_snoc, on_cat, on_cons, on_make, on_copy, on_plus, on_minus, on_cell, on_sel, on_slice, on_set, on_put, on_cmp, on_ar, ev_lss, ev_leq, ev_gtr, ev_geq, ev_eql, ev_neq, ar_add, ar_sub, ar_mul, ar_quo, ar_rem, pi_int, b_bool, r_row, c_cells, rowOf_r, List.map_cons, List.map_nil, List.cons_append, List.nil_append, List.getD_cons_zero, List.getD_cons_succ, List.getElem?_cons_zero, List.getElem?_cons_succ, List.take_zero, List.take_succ_cons, List.length_map, Int.toNat_natCast, decide_eq_true_eq, Int.ofNat_lt, Int.ofNat_le, xnat_nonneg, true_and, and_true, if_true, if_false, reduceIte, wrap_in, xints_at, xbools_at, xints_set, xints_snoc, xints_make, xints_nil, xbools_set, xbools_snoc, xbools_make, xcopy_make, List.length_replicate, List.length_cons, List.length_nil, Nat.reduceAdd, xcall_of (rgoods_sp s (by omega)), xcall_of (rwithin_sp _), hg, h0, h1, decide_true, Bool.not_true, Bool.and_true, u_ref25_Stretch_j0, Bool.false_eq_true]
  have key := xup_ind (n := s.length) (P := fun i => Run tr ref25_Stretch_l1 [rowOf eSz s, I free, B false, I i, I (idx ((autoL s).take i)).length] [.loop ref25_Stretch_l1 [rowOf eSz s, I free, B false]] [rowOf eSz (stret s (gotS s free))]) ?_ 0 (Nat.zero_le _)
  · simpa [idx] using key
  intro i hi ih
  rw [u_ref25_Stretch_l1]
  by_cases h : i < s.length
  · have htk : (autoL s).take (i + 1) = (autoL s).take i ++ [decide (s[i].mx = 2)] := by
      rw [List.take_succ_eq_append_getElem (by omega)]
      simp [autoL]
    have hcl := idx_le ((autoL s).take i)
    have hlk : ((autoL s).take i).length = i := by simp; omega
    simp (disch := first | omega | (simp only [List.length_set, List.length_map, List.length_replicate, List.length_append, List.length_modify]; omega)) only [xrun_ret, run_ite, run_fail, run_letj, xrun_loop, run_jump, xrun_call, jmp_join, jmp_loop, br_fail, br_true, br_false, xden_var, den_int, den_bool, den_str, den_nil, den_nilc, den_un, den_bin, den_tri, xon_and, xon_or, on_beq, xon_not, on_len, on_neg, on_conv, on_max, on_min, on_snoc, on_cat, on_cons, on_make, on_copy, on_plus, on_minus, on_cell, on_sel, on_slice, on_set, on_put, on_cmp, on_ar, ev_lss, ev_leq, ev_gtr, ev_geq, ev_eql, ev_neq, ar_add, ar_sub, ar_mul, ar_quo, ar_rem, pi_int, b_bool, r_row, c_cells, rowOf_r, List.map_cons, List.map_nil, List.cons_append, List.nil_append, List.getD_cons_zero, List.getD_cons_succ, List.getElem?_cons_zero, List.getElem?_cons_succ, List.take_zero, List.take_succ_cons, List.length_map, Int.toNat_natCast, decide_eq_true_eq, Int.ofNat_lt, Int.ofNat_le, xnat_nonneg, true_and, and_true, if_true, if_false, reduceIte, wrap_in, xints_at, xbools_at, xints_set, xints_snoc, xints_make, xints_nil, xbools_set, xbools_snoc, xbools_make, xcopy_make, List.length_replicate, List.length_cons, List.length_nil, Nat.reduceAdd, h, sz_at0, sz_at1, sz_at2, sz_at3, sz_at4, sz_at5, sz_at6, sz_snoc, sz_set, sz_put5, sz_put6, u_ref25_Stretch_j2, beq_iff_eq]
    refine br_split ?_ ?_ <;> intro _
    · rename_i hx
      have e : ((idx ((autoL s).take (i + 1))).length : Int) = (idx ((autoL s).take i)).length + 1 := by rw [htk, idx_append]; simp [hx]
      have := ih h
      rw [e] at this
      exact this
    · rename_i hx
      have e : ((idx ((autoL s).take (i + 1))).length : Int) = (idx ((autoL s).take i)).length := by rw [htk, idx_append]; simp [hx]
      have := ih h
      rw [e] at this
      exact this
  · have : i = s.length := by omega
    subst this
    rw [List.take_of_length_le (by omega)]
    simp (disch := first | omega | (simp only [List.length_set, List.length_map, List.length_replicate, List.length_append, List.length_modify]; omega)) only [xrun_ret, run_ite, run_fail, run_letj, xrun_loop, run_jump, xrun_call, jmp_join, jmp_loop, br_fail, br_true, br_false, xden_var, den_int, den_bool, den_str, den_nil, den_nilc, den_un, den_bin, den_tri, xon_and, xon_or, on_beq, xon_not, on_len, on_neg, on_conv, on_max, on_min, on_snoc, on_cat, on_cons, on_make, on_copy, on_plus, on_minus, on_cell, on_sel, on_slice, on_set, on_put, on_cmp, on_ar, ev_lss, ev_leq, ev_gtr, ev_geq, ev_eql, ev_neq, ar_add, ar_sub, ar_mul, ar_quo, ar_rem, pi_int, b_bool, r_row, c_cells, rowOf_r, List.map_cons, List.map_nil, List.cons_append, List.nil_append, List.getD_cons_zero, List.getD_cons_succ, List.getElem?_cons_zero, List.getElem?_cons_succ, List.take_zero, List.take_succ_cons, List.length_map, Int.toNat_natCast, decide_eq_true_eq, Int.ofNat_lt, Int.ofNat_le, xnat_nonneg, true_and, and_true, if_true, if_false, reduceIte, wrap_in, xints_at, xbools_at, xints_set, xints_snoc, xints_make, xints_nil, xbools_set, xbools_snoc, xbools_make, xcopy_make, List.length_replicate, List.length_cons, List.length_nil, Nat.reduceAdd, Nat.lt_irrefl, xcall_of (rsplit_sp _ _ (by omega : free ≤ 9223372036854775806))]
    have hsl := splitS_length free ((idx (autoL s)).length : Int)
    rw [Int.toNat_natCast] at hsl
    have hyi : ∀ y ∈ splitS free ((idx (autoL s)).length : Int), 0 ≤ y ∧ y ≤ 68719476737 := by
      intro y hy
      have := splitS_in y hy
      omega
    have hR : stret s (gotS s free) = rst s (splitS free ((idx (autoL s)).length : Int)) := by rw [rst_eq]; rfl
    rw [hR]
    obtain ⟨ys, hys⟩ : ∃ ys, splitS free ((idx (autoL s)).length : Int) = ys := ⟨_, rfl⟩
    rw [hys] at hsl hyi ⊢
    obtain ⟨J, hJ⟩ : ∃ J, J = JT.loop ref25_Stretch_l1 [rowOf eSz s, I free, B false] := ⟨_, rfl⟩
    rw [← hJ]
    have hRl := rst_length s ys
    obtain ⟨R, hRe⟩ : ∃ R, rst s ys = R := ⟨_, rfl⟩
    rw [hRe] at hRl ⊢
    have key := xup_ind (n := s.length) (P := fun i => ∀ k : Nat, k ≤ ys.length → rst (s.drop i) (ys.drop k) = R.drop i → Run tr ref25_Stretch_l3 [rowOf eSz s, I free, B false, I s.length, I (idx (autoL s)).length, ints ys, I i, rowOf eSz (R.take i), I k] [J, .loop ref25_Stretch_l3 [rowOf eSz s, I free, B false, I s.length, I (idx (autoL s)).length, ints ys]] [rowOf eSz R]) ?_ 0 (Nat.zero_le _)
    · simpa [rowOf] using key 0 (by omega) (by simp [hRe])
    intro i hi ih k hk hall
    rw [u_ref25_Stretch_l3]
    by_cases h : i < s.length
    · have hx := gd_in (hs s[i] (List.getElem_mem _))
      have hdr : R.drop i = R[i]'(by omega) :: R.drop (i + 1) := List.drop_eq_getElem_cons (by omega)
      rw [hdr, List.drop_eq_getElem_cons h] at hall
      have htl : (R.take i).length = i := by simp; omega
      simp (disch := first | omega | (simp only [List.length_set, List.length_map, List.length_replicate, List.length_append, List.length_modify]; omega)) only [xrun_ret, run_ite, run_fail, run_letj, xrun_loop, run_jump, xrun_call, jmp_join, jmp_loop, br_fail, br_true, br_false, xden_var, den_int, den_bool, den_str, den_nil, den_nilc, den_un, den_bin, den_tri, xon_and, xon_or, on_beq, xon_not, on_len, on_neg, on_conv, on_max, on_min, on_snoc, on_cat, on_cons, on_make, on_copy, on_plus, on_minus, on_cell, on_sel, on_slice, on_set, on_put, on_cmp, on_ar, ev_lss, ev_leq, ev_gtr, ev_geq, ev_eql, ev_neq, ar_add, ar_sub, ar_mul, ar_quo, ar_rem, pi_int, b_bool, r_row, c_cells, rowOf_r, List.map_cons, List.map_nil, List.cons_append, List.nil_append, List.getD_cons_zero, List.getD_cons_succ, List.getElem?_cons_zero, List.getElem?_cons_succ, List.take_zero, List.take_succ_cons, List.length_map, Int.toNat_natCast, decide_eq_true_eq, Int.ofNat_lt, Int.ofNat_le, xnat_nonneg, true_and, and_true, if_true, if_false, reduceIte, wrap_in, xints_at, xbools_at, xints_set, xints_snoc, xints_make, xints_nil, xbools_set, xbools_snoc, xbools_make, xcopy_make, List.length_replicate, List.length_cons, List.length_nil, Nat.reduceAdd, h, sz_at0, sz_at1, sz_at2, sz_at3, sz_at4, sz_at5, sz_at6, sz_snoc, sz_set, sz_put5, sz_put6, Bool.not_and, Bool.not_or, Bool.not_not, Bool.and_eq_true, Bool.or_eq_true, Bool.not_eq_true', Bool.and_eq_false_imp, Bool.or_eq_false_iff, decide_eq_false_iff_not, decide_eq_true_eq, beq_iff_eq, beq_eq_false_iff_ne, bne_iff_ne, bne_eq_false_iff_eq, ne_eq, gt_iff_lt, ge_iff_le, Bool.false_eq_true, Bool.true_eq_false, beq_self_eq_true, beq_true, beq_false, Bool.not_false, Bool.not_true, Bool.false_and, Bool.true_and, Bool.and_true, Bool.and_false, Bool.or_true, Bool.true_or, Bool.or_false, Bool.false_or, false_and, true_and, and_false, and_true, or_false, or_true, false_or, true_or, not_true_eq_false, not_false_eq_true, false_iff, iff_false, true_iff, iff_true, forall_const, false_imp_iff, true_imp_iff, reduceCtorEq, imp_false]
      refine br_split ?_ ?_ <;> intro _
      · rename_i hc
        rw [List.drop_eq_getElem_cons hc.2] at hall
        simp only [rst, hc.1, if_true, List.cons.injEq] at hall
        have hyk := hyi ys[k] (List.getElem_mem _)
        have hra := rraise_sp { s[i] with base := s[i].base + ys[k] }
        have hsn := take_snoc (a := R) (i := i) (by omega) (v := st1 s[i] ys[k]) hall.1
        have hc2 := hc.2
        simp only [st1] at hsn
        simp (disch := first | omega | (simp only [List.length_set, List.length_map, List.length_replicate, List.length_append, List.length_modify]; omega)) only [xrun_ret, run_ite, run_fail, run_letj, xrun_loop, run_jump, xrun_call, jmp_join, jmp_loop, br_fail, br_true, br_false, xden_var, den_int, den_bool, den_str, den_nil, den_nilc, den_un, den_bin, den_tri, xon_and, xon_or, on_beq, xon_not, on_len, on_neg, on_conv, on_max, on_min, on_snoc, on_cat, on_cons, on_make, on_copy, on_plus, on_minus, on_cell, on_sel, on_slice, on_set, on_put, on_cmp, on_ar, ev_lss, ev_leq, ev_gtr, ev_geq, ev_eql, ev_neq, ar_add, ar_sub, ar_mul, ar_quo, ar_rem, pi_int, b_bool, r_row, c_cells, rowOf_r, List.map_cons, List.map_nil, List.cons_append, List.nil_append, List.getD_cons_zero, List.getD_cons_succ, List.getElem?_cons_zero, List.getElem?_cons_succ, List.take_zero, List.take_succ_cons, List.length_map, Int.toNat_natCast, decide_eq_true_eq, Int.ofNat_lt, Int.ofNat_le, xnat_nonneg, true_and, and_true, if_true, if_false, reduceIte, wrap_in, xints_at, xbools_at, xints_set, xints_snoc, xints_make, xints_nil, xbools_set, xbools_snoc, xbools_make, xcopy_make, List.length_replicate, List.length_cons, List.length_nil, Nat.reduceAdd, hc2, u_ref25_Stretch_j4, h, sz_at0, sz_at1, sz_at2, sz_at3, sz_at4, sz_at5, sz_at6, sz_snoc, sz_set, sz_put5, sz_put6, xcall_of hra, htl, hsn]
        exact ⟨by omega, ih h (k + 1) (by omega) hall.2⟩
      · rename_i hc
        have hall' : st1 s[i] 0 = R[i]'(by omega) ∧ rst (s.drop (i + 1)) (ys.drop k) = R.drop (i + 1) := by
          by_cases hk' : k < ys.length
          · have hx2 : ¬ s[i].mx = 2 := fun hx2 => hc ⟨hx2, hk'⟩
            rw [List.drop_eq_getElem_cons hk'] at hall ⊢
            simp only [rst, hx2, if_false, List.cons.injEq] at hall
            exact hall
          · rw [List.drop_of_length_le (by omega : ys.length ≤ k)] at hall ⊢
            simp only [rst, List.cons.injEq] at hall
            exact hall
        have hra := rraise_sp s[i]
        have hsn := take_snoc (a := R) (i := i) (by omega) (v := st1 s[i] 0) hall'.1
        simp only [st1, Int.add_zero] at hsn
        simp (disch := first | omega | (simp only [List.length_set, List.length_map, List.length_replicate, List.length_append, List.length_modify]; omega)) only [xrun_ret, run_ite, run_fail, run_letj, xrun_loop, run_jump, xrun_call, jmp_join, jmp_loop, br_fail, br_true, br_false, xden_var, den_int, den_bool, den_str, den_nil, den_nilc, den_un, den_bin, den_tri, xon_and, xon_or, on_beq, xon_not, on_len, on_neg, on_conv, on_max, on_min, on_snoc, on_cat, on_cons, on_make, on_copy, on_plus, on_minus, on_cell, on_sel, on_slice, on_set, on_put, on_cmp, on_ar, ev_lss, ev_leq, ev_gtr, ev_geq, ev_eql, ev_neq, ar_add, ar_sub, ar_mul, ar_quo, ar_rem, pi_int, b_bool, r_row, c_cells, rowOf_r, List.map_cons, List.map_nil, List.cons_append, List.nil_append, List.getD_cons_zero, List.getD_cons_succ, List.getElem?_cons_zero, List.getElem?_cons_succ, List.take_zero, List.take_succ_cons, List.length_map, Int.toNat_natCast, decide_eq_true_eq, Int.ofNat_lt, Int.ofNat_le, xnat_nonneg, true_and, and_true, if_true, if_false, reduceIte, wrap_in, xints_at, xbools_at, xints_set, xints_snoc, xints_make, xints_nil, xbools_set, xbools_snoc, xbools_make, xcopy_make, List.length_replicate, List.length_cons, List.length_nil, Nat.reduceAdd, u_ref25_Stretch_j4, h, sz_at0, sz_at1, sz_at2, sz_at3, sz_at4, sz_at5, sz_at6, sz_snoc, sz_set, sz_put5, sz_put6, xcall_of hra, htl, hsn]
        exact ⟨by omega, ih h k hk hall'.2⟩
    · simp (disch := first | omega | (simp only [List.length_set, List.length_map, List.length_replicate, List.length_append, List.length_modify]; omega)) only [xrun_ret, run_ite, run_fail, run_letj, xrun_loop, run_jump, xrun_call, jmp_join, jmp_loop, br_fail, br_true, br_false, xden_var, den_int, den_bool, den_str, den_nil, den_nilc, den_un, den_bin, den_tri, xon_and, xon_or, on_beq, xon_not, on_len, on_neg, on_conv, on_max, on_min, on_snoc, on_cat, on_cons, on_make, on_copy, on_plus, on_minus, on_cell, on_sel, on_slice, on_set, on_put, on_cmp, on_ar, ev_lss, ev_leq, ev_gtr, ev_geq, ev_eql, ev_neq, ar_add, ar_sub, ar_mul, ar_quo, ar_rem, pi_int, b_bool, r_row, c_cells, rowOf_r, List.map_cons, List.map_nil, List.cons_append, List.nil_append, List.getD_cons_zero, List.getD_cons_succ, List.getElem?_cons_zero, List.getElem?_cons_succ, List.take_zero, List.take_succ_cons, List.length_map, Int.toNat_natCast, decide_eq_true_eq, Int.ofNat_lt, Int.ofNat_le, xnat_nonneg, true_and, and_true, if_true, if_false, reduceIte, wrap_in, xints_at, xbools_at, xints_set, xints_snoc, xints_make, xints_nil, xbools_set, xbools_snoc, xbools_make, xcopy_make, List.length_replicate, List.length_cons, List.length_nil, Nat.reduceAdd, h]
      rw [List.take_of_length_le (by omega)]
end Go.Proofs.Ytolgoenpckiggaa.T
