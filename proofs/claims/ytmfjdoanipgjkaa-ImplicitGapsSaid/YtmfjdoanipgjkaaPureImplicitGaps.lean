/- The plain law of ImplicitGaps: what the trees come to answers as the statement says. No condition. -/
import Derived.Test.YtmfjdoanipgjkaaT
import Derived.Test.YtmfjdoanipgjkaaKgap9
set_option linter.unusedVariables false
set_option linter.unusedSimpArgs false
set_option maxRecDepth 10000
namespace Go.Proofs.Ytmfjdoanipgjkaa
open Go Go.Proofs.Ytmfjdoanipgjkaa.Sx Go.Proofs.Ytmfjdoanipgjkaa.M Go.Proofs.Ytmfjdoanipgjkaa.T
theorem glives_sp : Says tr c_law21_lives [] [B true] := says_of_run (t := law21_lives) rfl (n := 300) (by decide +kernel)
theorem g5_run (xs : List (List PV)) (T : List Tr) (F To lines : Int) (A : List Tr) (l : List Cl) (rows : Bool) (gap : Int) (low : Int) (L : List Tr) (G : List Bool) (Aa : List Int) (c : Nat) (j : Nat) (s0 s1 : Int) (J0 J1 J2 : JT) (r : List PV) (hb : -10000 ≤ low ∧ low ≤ 0 ∧ s1 ≤ 30000 ∧ s1 ≤ low + G.length ∧ -10000 ≤ s0 ∧ low ≤ s0)
    (hG : ∀ q : Nat, s0 ≤ low + q → low + q < s1 → G[q]? = some false) :
    ∀ (m : Nat) (k : Int), m = (s1 - k).toNat → s0 ≤ k → k ≤ 40000 →
      Run tr law21_ImplicitGaps_j3 [.row xs, rowOf eTr T, I F, I To, I lines, rowOf eTr A, rowOf eCl l, B rows, I gap, B true, I low, rowOf eTr L, bools G, ints Aa, I 0, I G.length, I c, I j] [J0, J1] r →
      Run tr law21_ImplicitGaps_l5 [.row xs, rowOf eTr T, I F, I To, I lines, rowOf eTr A, rowOf eCl l, B rows, I gap, B true, I low, rowOf eTr L, bools G, ints Aa, I 0, I G.length, I c, I j, I s1, I s0, B true, I k] [J0, J1, .join law21_ImplicitGaps_j3 [.row xs, rowOf eTr T, I F, I To, I lines, rowOf eTr A, rowOf eCl l, B rows, I gap, B true, I low, rowOf eTr L, bools G, ints Aa, I 0, I G.length, I c, I j], .loop law21_ImplicitGaps_l5 [.row xs, rowOf eTr T, I F, I To, I lines, rowOf eTr A, rowOf eCl l, B rows, I gap, B true, I low, rowOf eTr L, bools G, ints Aa, I 0, I G.length, I c, I j, I s1, I s0, B true]] r := by
  intro m
  induction m with
  | zero =>
    intro k hm h0 hk h
    rw [u_law21_ImplicitGaps_l5]
    simp (disch := first | omega | (simp only [List.length_set, List.length_map, List.length_replicate, List.length_append, List.length_modify]; omega)) only [xrun_ret, run_ite, run_fail, run_letj, xrun_loop, run_jump, xrun_call, jmp_join, jmp_loop, br_fail, br_true, br_false, xden_var, den_int, den_bool, den_str, den_nil, den_nilc, den_un, den_bin, den_tri, xon_and, xon_or, on_beq, xon_not, on_len, on_neg, on_conv, on_max, on_min, on_snoc, on_cat, on_cons, on_make, on_copy, on_plus, on_minus, on_cell, on_sel, on_slice, on_set, on_put, on_cmp, on_ar, ev_lss, ev_leq, ev_gtr, ev_geq, ev_eql, ev_neq, ar_add, ar_sub, ar_mul, ar_quo, ar_rem, pi_int, b_bool, r_row, c_cells, rowOf_r, List.map_cons, List.map_nil, List.cons_append, List.nil_append, List.getD_cons_zero, List.getD_cons_succ, List.getElem?_cons_zero, List.getElem?_cons_succ, List.take_zero, List.take_succ_cons, List.length_map, Int.toNat_natCast, decide_eq_true_eq, Int.ofNat_lt, Int.ofNat_le, xnat_nonneg, true_and, and_true, if_true, if_false, reduceIte, wrap_in, xints_at, xbools_at, xints_set, xints_snoc, xints_make, xints_nil, xbools_set, xbools_snoc, xbools_make, xcopy_make, List.length_replicate, List.length_cons, List.length_nil, Nat.reduceAdd]
    rw [br_neg (by omega)]
    exact h
  | succ m ih =>
    intro k hm h0 hk h
    have hi := ih (k + 1) (by omega) (by omega) (by omega) h
    rw [u_law21_ImplicitGaps_l5]
    simp (disch := first | omega | (simp only [List.length_set, List.length_map, List.length_replicate, List.length_append, List.length_modify]; omega)) only [xrun_ret, run_ite, run_fail, run_letj, xrun_loop, run_jump, xrun_call, jmp_join, jmp_loop, br_fail, br_true, br_false, xden_var, den_int, den_bool, den_str, den_nil, den_nilc, den_un, den_bin, den_tri, xon_and, xon_or, on_beq, xon_not, on_len, on_neg, on_conv, on_max, on_min, on_snoc, on_cat, on_cons, on_make, on_copy, on_plus, on_minus, on_cell, on_sel, on_slice, on_set, on_put, on_cmp, on_ar, ev_lss, ev_leq, ev_gtr, ev_geq, ev_eql, ev_neq, ar_add, ar_sub, ar_mul, ar_quo, ar_rem, pi_int, b_bool, r_row, c_cells, rowOf_r, List.map_cons, List.map_nil, List.cons_append, List.nil_append, List.getD_cons_zero, List.getD_cons_succ, List.getElem?_cons_zero, List.getElem?_cons_succ, List.take_zero, List.take_succ_cons, List.length_map, Int.toNat_natCast, decide_eq_true_eq, Int.ofNat_lt, Int.ofNat_le, xnat_nonneg, true_and, and_true, if_true, if_false, reduceIte, wrap_in, xints_at, xbools_at, xints_set, xints_snoc, xints_make, xints_nil, xbools_set, xbools_snoc, xbools_make, xcopy_make, List.length_replicate, List.length_cons, List.length_nil, Nat.reduceAdd]
    rw [br_pos (by omega)]
    obtain ⟨q, hq⟩ : ∃ q : Nat, k - low = q := ⟨(k - low).toNat, by omega⟩
    have hqn : q < G.length := by omega
    have hf := hG q (by omega) (by omega)
    rw [List.getElem?_eq_getElem hqn] at hf
    have hf : G[q] = false := by simpa using hf
    simp (disch := first | omega | (simp only [List.length_set, List.length_map, List.length_replicate, List.length_append, List.length_modify]; omega)) only [xrun_ret, run_ite, run_fail, run_letj, xrun_loop, run_jump, xrun_call, jmp_join, jmp_loop, br_fail, br_true, br_false, xden_var, den_int, den_bool, den_str, den_nil, den_nilc, den_un, den_bin, den_tri, xon_and, xon_or, on_beq, xon_not, on_len, on_neg, on_conv, on_max, on_min, on_snoc, on_cat, on_cons, on_make, on_copy, on_plus, on_minus, on_cell, on_sel, on_slice, on_set, on_put, on_cmp, on_ar, ev_lss, ev_leq, ev_gtr, ev_geq, ev_eql, ev_neq, ar_add, ar_sub, ar_mul, ar_quo, ar_rem, pi_int, b_bool, r_row, c_cells, rowOf_r, List.map_cons, List.map_nil, List.cons_append, List.nil_append, List.getD_cons_zero, List.getD_cons_succ, List.getElem?_cons_zero, List.getElem?_cons_succ, List.take_zero, List.take_succ_cons, List.length_map, Int.toNat_natCast, decide_eq_true_eq, Int.ofNat_lt, Int.ofNat_le, xnat_nonneg, true_and, and_true, if_true, if_false, reduceIte, wrap_in, xints_at, xbools_at, xints_set, xints_snoc, xints_make, xints_nil, xbools_set, xbools_snoc, xbools_make, xcopy_make, List.length_replicate, List.length_cons, List.length_nil, Nat.reduceAdd, hq, hqn, hf, Bool.false_eq_true]
    repeat rw [br_neg (by simp)]
    exact hi
theorem g2_run (xs : List (List PV)) (T : List Tr) (F To lines : Int) (A : List Tr) (l : List Cl) (rows : Bool) (gap : Int) (low : Int) (L : List Tr) (G : List Bool) (Aa : List Int) (J0 : JT) (h : TkIs l rows gap low L G Aa) (hl : l.length ≤ 1000) :
    ∀ j, j ≤ l.length → Run tr law21_ImplicitGaps_l2 [.row xs, rowOf eTr T, I F, I To, I lines, rowOf eTr A, rowOf eCl l, B rows, I gap, B true, I low, rowOf eTr L, bools G, ints Aa, I 0, I G.length, I (cntF G), I j] [J0, .loop law21_ImplicitGaps_l2 [.row xs, rowOf eTr T, I F, I To, I lines, rowOf eTr A, rowOf eCl l, B rows, I gap, B true, I low, rowOf eTr L, bools G, ints Aa, I 0, I G.length, I (cntF G)]] [B true] := by
  obtain ⟨J1, hJ1⟩ : ∃ J, J = JT.loop law21_ImplicitGaps_l2 [.row xs, rowOf eTr T, I F, I To, I lines, rowOf eTr A, rowOf eCl l, B rows, I gap, B true, I low, rowOf eTr L, bools G, ints Aa, I 0, I G.length, I (cntF G)] := ⟨_, rfl⟩
  rw [← hJ1]
  obtain ⟨ht, hAl⟩ := gaps_tot h
  obtain ⟨h1, h2, h3, h4, h5, h6, h7, h8⟩ := h
  refine xup_ind fun j hj ih => ?_
  by_cases hjl : j < l.length
  · have hi := ih hjl
    have hj3 : Run tr law21_ImplicitGaps_j3 [.row xs, rowOf eTr T, I F, I To, I lines, rowOf eTr A, rowOf eCl l, B rows, I gap, B true, I low, rowOf eTr L, bools G, ints Aa, I 0, I G.length, I (cntF G), I j] [J0, J1] [B true] := by
      rw [u_law21_ImplicitGaps_j3]
      subst hJ1
      simp (disch := first | omega | (simp only [List.length_set, List.length_map, List.length_replicate, List.length_append, List.length_modify]; omega)) only [xrun_ret, run_ite, run_fail, run_letj, xrun_loop, run_jump, xrun_call, jmp_join, jmp_loop, br_fail, br_true, br_false, xden_var, den_int, den_bool, den_str, den_nil, den_nilc, den_un, den_bin, den_tri, xon_and, xon_or, on_beq, xon_not, on_len, on_neg, on_conv, on_max, on_min, on_snoc, on_cat, on_cons, on_make, on_copy, on_plus, on_minus, on_cell, on_sel, on_slice, on_set, on_put, on_cmp, on_ar, ev_lss, ev_leq, ev_gtr, ev_geq, ev_eql, ev_neq, ar_add, ar_sub, ar_mul, ar_quo, ar_rem, pi_int, b_bool, r_row, c_cells, rowOf_r, List.map_cons, List.map_nil, List.cons_append, List.nil_append, List.getD_cons_zero, List.getD_cons_succ, List.getElem?_cons_zero, List.getElem?_cons_succ, List.take_zero, List.take_succ_cons, List.length_map, Int.toNat_natCast, decide_eq_true_eq, Int.ofNat_lt, Int.ofNat_le, xnat_nonneg, true_and, and_true, if_true, if_false, reduceIte, wrap_in, xints_at, xbools_at, xints_set, xints_snoc, xints_make, xints_nil, xbools_set, xbools_snoc, xbools_make, xcopy_make, List.length_replicate, List.length_cons, List.length_nil, Nat.reduceAdd]
      exact hi
    have hgd := rgood19_sp l[j].row l[j].col l[j].rows l[j].cols
    -- a cell that is right
    have hj4 : ∀ (s0 s1 : Int), (gC l[j] → (sd l[j] rows).1 = s0 ∧ (sd l[j] rows).2 = s1) → Run tr law21_ImplicitGaps_j4 [.row xs, rowOf eTr T, I F, I To, I lines, rowOf eTr A, rowOf eCl l, B rows, I gap, B true, I low, rowOf eTr L, bools G, ints Aa, I 0, I G.length, I (cntF G), I j, I s1, I s0] [J0, J1, .join law21_ImplicitGaps_j3 [.row xs, rowOf eTr T, I F, I To, I lines, rowOf eTr A, rowOf eCl l, B rows, I gap, B true, I low, rowOf eTr L, bools G, ints Aa, I 0, I G.length, I (cntF G), I j]] [B true] := by
      intro s0 s1 hs
      rw [u_law21_ImplicitGaps_j4]
      simp (disch := first | omega | (simp only [List.length_set, List.length_map, List.length_replicate, List.length_append, List.length_modify]; omega)) only [xrun_ret, run_ite, run_fail, run_letj, xrun_loop, run_jump, xrun_call, jmp_join, jmp_loop, br_fail, br_true, br_false, xden_var, den_int, den_bool, den_str, den_nil, den_nilc, den_un, den_bin, den_tri, xon_and, xon_or, on_beq, xon_not, on_len, on_neg, on_conv, on_max, on_min, on_snoc, on_cat, on_cons, on_make, on_copy, on_plus, on_minus, on_cell, on_sel, on_slice, on_set, on_put, on_cmp, on_ar, ev_lss, ev_leq, ev_gtr, ev_geq, ev_eql, ev_neq, ar_add, ar_sub, ar_mul, ar_quo, ar_rem, pi_int, b_bool, r_row, c_cells, rowOf_r, List.map_cons, List.map_nil, List.cons_append, List.nil_append, List.getD_cons_zero, List.getD_cons_succ, List.getElem?_cons_zero, List.getElem?_cons_succ, List.take_zero, List.take_succ_cons, List.length_map, Int.toNat_natCast, decide_eq_true_eq, Int.ofNat_lt, Int.ofNat_le, xnat_nonneg, true_and, and_true, if_true, if_false, reduceIte, wrap_in, xints_at, xbools_at, xints_set, xints_snoc, xints_make, xints_nil, xbools_set, xbools_snoc, xbools_make, xcopy_make, List.length_replicate, List.length_cons, List.length_nil, Nat.reduceAdd, hjl, cl_at0, cl_at1, cl_at2, cl_at3, xcall_of hgd, Bool.not_and, Bool.not_or, Bool.not_not, Bool.and_eq_true, Bool.or_eq_true, Bool.not_eq_true', Bool.and_eq_false_imp, Bool.or_eq_false_iff, decide_eq_false_iff_not, decide_eq_true_eq, beq_iff_eq, beq_eq_false_iff_ne, bne_iff_ne, bne_eq_false_iff_eq, ne_eq, gt_iff_lt, ge_iff_le, Bool.false_eq_true, Bool.true_eq_false, beq_self_eq_true, beq_true, beq_false, Bool.not_false, Bool.not_true, Bool.false_and, Bool.true_and, Bool.and_true, Bool.and_false, Bool.or_true, Bool.true_or, Bool.or_false, Bool.false_or, false_and, true_and, and_false, and_true, or_false, or_true, false_or, true_or, not_true_eq_false, not_false_eq_true, false_iff, iff_false, true_iff, iff_true, forall_const, false_imp_iff, true_imp_iff, reduceCtorEq, imp_false]
      by_cases hg : gC l[j]
      · obtain ⟨e0, e1⟩ := hs hg
        obtain ⟨c1, c2, c3⟩ := h8 _ (List.getElem_mem hjl) hg
        have hin := sd_in hg rows
        rw [e0, e1] at hin
        rw [e0] at c1
        rw [e1] at c2
        rw [e0, e1] at c3
        have hrun := g5_run xs T F To lines A l rows gap low L G Aa (cntF G) j s0 s1 J0 J1 (.join law21_ImplicitGaps_j3 [.row xs, rowOf eTr T, I F, I To, I lines, rowOf eTr A, rowOf eCl l, B rows, I gap, B true, I low, rowOf eTr L, bools G, ints Aa, I 0, I G.length, I (cntF G), I j]) [B true] ⟨h3, h4, hin.2.2, c2, hin.1, c1⟩ c3 (s1 - s0).toNat s0 rfl (Int.le_refl _) (by omega) hj3
        rw [br_pos hg, br_neg (by omega)]
        have hd : decide (gC l[j]) = true := decide_eq_true hg
        first | exact hrun | (rw [hd]; exact hrun) | simpa [hd] using hrun
      · rw [br_neg hg]
        exact hj3
    rw [u_law21_ImplicitGaps_l2]
    by_cases hg : gC l[j]
    · have hin := hg
      unfold gC at hin
      cases hr : rows with
      | true =>
        subst hr
        have := hj4 l[j].row (l[j].row + l[j].rows) (fun _ => ⟨rfl, rfl⟩)
        simp (disch := first | omega | (simp only [List.length_set, List.length_map, List.length_replicate, List.length_append, List.length_modify]; omega)) only [xrun_ret, run_ite, run_fail, run_letj, xrun_loop, run_jump, xrun_call, jmp_join, jmp_loop, br_fail, br_true, br_false, xden_var, den_int, den_bool, den_str, den_nil, den_nilc, den_un, den_bin, den_tri, xon_and, xon_or, on_beq, xon_not, on_len, on_neg, on_conv, on_max, on_min, on_snoc, on_cat, on_cons, on_make, on_copy, on_plus, on_minus, on_cell, on_sel, on_slice, on_set, on_put, on_cmp, on_ar, ev_lss, ev_leq, ev_gtr, ev_geq, ev_eql, ev_neq, ar_add, ar_sub, ar_mul, ar_quo, ar_rem, pi_int, b_bool, r_row, c_cells, rowOf_r, List.map_cons, List.map_nil, List.cons_append, List.nil_append, List.getD_cons_zero, List.getD_cons_succ, List.getElem?_cons_zero, List.getElem?_cons_succ, List.take_zero, List.take_succ_cons, List.length_map, Int.toNat_natCast, decide_eq_true_eq, Int.ofNat_lt, Int.ofNat_le, xnat_nonneg, true_and, and_true, if_true, if_false, reduceIte, wrap_in, xints_at, xbools_at, xints_set, xints_snoc, xints_make, xints_nil, xbools_set, xbools_snoc, xbools_make, xcopy_make, List.length_replicate, List.length_cons, List.length_nil, Nat.reduceAdd, hjl, cl_at0, cl_at1, cl_at2, cl_at3]
        exact this
      | false =>
        subst hr
        have := hj4 l[j].col (l[j].col + l[j].cols) (fun _ => ⟨rfl, rfl⟩)
        simp (disch := first | omega | (simp only [List.length_set, List.length_map, List.length_replicate, List.length_append, List.length_modify]; omega)) only [xrun_ret, run_ite, run_fail, run_letj, xrun_loop, run_jump, xrun_call, jmp_join, jmp_loop, br_fail, br_true, br_false, xden_var, den_int, den_bool, den_str, den_nil, den_nilc, den_un, den_bin, den_tri, xon_and, xon_or, on_beq, xon_not, on_len, on_neg, on_conv, on_max, on_min, on_snoc, on_cat, on_cons, on_make, on_copy, on_plus, on_minus, on_cell, on_sel, on_slice, on_set, on_put, on_cmp, on_ar, ev_lss, ev_leq, ev_gtr, ev_geq, ev_eql, ev_neq, ar_add, ar_sub, ar_mul, ar_quo, ar_rem, pi_int, b_bool, r_row, c_cells, rowOf_r, List.map_cons, List.map_nil, List.cons_append, List.nil_append, List.getD_cons_zero, List.getD_cons_succ, List.getElem?_cons_zero, List.getElem?_cons_succ, List.take_zero, List.take_succ_cons, List.length_map, Int.toNat_natCast, decide_eq_true_eq, Int.ofNat_lt, Int.ofNat_le, xnat_nonneg, true_and, and_true, if_true, if_false, reduceIte, wrap_in, xints_at, xbools_at, xints_set, xints_snoc, xints_make, xints_nil, xbools_set, xbools_snoc, xbools_make, xcopy_make, List.length_replicate, List.length_cons, List.length_nil, Nat.reduceAdd, hjl, cl_at0, cl_at1, cl_at2, cl_at3, Bool.false_eq_true]
        repeat rw [br_neg (by simp)]
        exact this
    · cases hr : rows with
      | true =>
        subst hr
        have := hj4 l[j].row (IntKind.i64.wrap (l[j].row + l[j].rows)) (fun h => absurd h hg)
        simp (disch := first | omega | (simp only [List.length_set, List.length_map, List.length_replicate, List.length_append, List.length_modify]; omega)) only [xrun_ret, run_ite, run_fail, run_letj, xrun_loop, run_jump, xrun_call, jmp_join, jmp_loop, br_fail, br_true, br_false, xden_var, den_int, den_bool, den_str, den_nil, den_nilc, den_un, den_bin, den_tri, xon_and, xon_or, on_beq, xon_not, on_len, on_neg, on_conv, on_max, on_min, on_snoc, on_cat, on_cons, on_make, on_copy, on_plus, on_minus, on_cell, on_sel, on_slice, on_set, on_put, on_cmp, on_ar, ev_lss, ev_leq, ev_gtr, ev_geq, ev_eql, ev_neq, ar_add, ar_sub, ar_mul, ar_quo, ar_rem, pi_int, b_bool, r_row, c_cells, rowOf_r, List.map_cons, List.map_nil, List.cons_append, List.nil_append, List.getD_cons_zero, List.getD_cons_succ, List.getElem?_cons_zero, List.getElem?_cons_succ, List.take_zero, List.take_succ_cons, List.length_map, Int.toNat_natCast, decide_eq_true_eq, Int.ofNat_lt, Int.ofNat_le, xnat_nonneg, true_and, and_true, if_true, if_false, reduceIte, wrap_in, xints_at, xbools_at, xints_set, xints_snoc, xints_make, xints_nil, xbools_set, xbools_snoc, xbools_make, xcopy_make, List.length_replicate, List.length_cons, List.length_nil, Nat.reduceAdd, hjl, cl_at0, cl_at1, cl_at2, cl_at3]
        exact this
      | false =>
        subst hr
        have := hj4 l[j].col (IntKind.i64.wrap (l[j].col + l[j].cols)) (fun h => absurd h hg)
        simp (disch := first | omega | (simp only [List.length_set, List.length_map, List.length_replicate, List.length_append, List.length_modify]; omega)) only [xrun_ret, run_ite, run_fail, run_letj, xrun_loop, run_jump, xrun_call, jmp_join, jmp_loop, br_fail, br_true, br_false, xden_var, den_int, den_bool, den_str, den_nil, den_nilc, den_un, den_bin, den_tri, xon_and, xon_or, on_beq, xon_not, on_len, on_neg, on_conv, on_max, on_min, on_snoc, on_cat, on_cons, on_make, on_copy, on_plus, on_minus, on_cell, on_sel, on_slice, on_set, on_put, on_cmp, on_ar, ev_lss, ev_leq, ev_gtr, ev_geq, ev_eql, ev_neq, ar_add, ar_sub, ar_mul, ar_quo, ar_rem, pi_int, b_bool, r_row, c_cells, rowOf_r, List.map_cons, List.map_nil, List.cons_append, List.nil_append, List.getD_cons_zero, List.getD_cons_succ, List.getElem?_cons_zero, List.getElem?_cons_succ, List.take_zero, List.take_succ_cons, List.length_map, Int.toNat_natCast, decide_eq_true_eq, Int.ofNat_lt, Int.ofNat_le, xnat_nonneg, true_and, and_true, if_true, if_false, reduceIte, wrap_in, xints_at, xbools_at, xints_set, xints_snoc, xints_make, xints_nil, xbools_set, xbools_snoc, xbools_make, xcopy_make, List.length_replicate, List.length_cons, List.length_nil, Nat.reduceAdd, hjl, cl_at0, cl_at1, cl_at2, cl_at3, Bool.false_eq_true]
        repeat rw [br_neg (by simp)]
        exact this
  · rw [u_law21_ImplicitGaps_l2]
    have htot := itot_sp low L G Aa (by omega)
    rw [ht] at htot
    have hle := cntF_le G
    have e1 : (if (cntF G : Int) - 1 > 0 then (cntF G : Int) - 1 else 0) = ((cntF G - 1 : Nat) : Int) := by omega
    have hb1 : 0 ≤ gap * ((cntF G - 1 : Nat) : Int) := Int.mul_nonneg h5 (by omega)
    have hb2 : gap * ((cntF G - 1 : Nat) : Int) ≤ 68719476736 * 40000 := Int.mul_le_mul h6 (by omega) (by omega) (by decide)
    have e2 : max 0 ((cntF G : Int) - 1) = ((cntF G - 1 : Nat) : Int) := by omega
    have hw : IntKind.i64.wrap (gap * ((cntF G - 1 : Nat) : Int)) = gap * ((cntF G - 1 : Nat) : Int) := wrap_in (by omega) (by omega)
    simp (disch := first | omega | (simp only [List.length_set, List.length_map, List.length_replicate, List.length_append, List.length_modify]; omega)) only [xrun_ret, run_ite, run_fail, run_letj, xrun_loop, run_jump, xrun_call, jmp_join, jmp_loop, br_fail, br_true, br_false, xden_var, den_int, den_bool, den_str, den_nil, den_nilc, den_un, den_bin, den_tri, xon_and, xon_or, on_beq, xon_not, on_len, on_neg, on_conv, on_max, on_min, on_snoc, on_cat, on_cons, on_make, on_copy, on_plus, on_minus, on_cell, on_sel, on_slice, on_set, on_put, on_cmp, on_ar, ev_lss, ev_leq, ev_gtr, ev_geq, ev_eql, ev_neq, ar_add, ar_sub, ar_mul, ar_quo, ar_rem, pi_int, b_bool, r_row, c_cells, rowOf_r, List.map_cons, List.map_nil, List.cons_append, List.nil_append, List.getD_cons_zero, List.getD_cons_succ, List.getElem?_cons_zero, List.getElem?_cons_succ, List.take_zero, List.take_succ_cons, List.length_map, Int.toNat_natCast, decide_eq_true_eq, Int.ofNat_lt, Int.ofNat_le, xnat_nonneg, true_and, and_true, if_true, if_false, reduceIte, wrap_in, xints_at, xbools_at, xints_set, xints_snoc, xints_make, xints_nil, xbools_set, xbools_snoc, xbools_make, xcopy_make, List.length_replicate, List.length_cons, List.length_nil, Nat.reduceAdd, hjl, xcall_of htot, e1, e2, hw, beq_self_eq_true, xcall_of glives_sp]
theorem PureImplicitGaps : Pure_ImplicitGaps := by
  intro q0 p1 p2 p3 p4 p5 hq0 hw0 hp1 hw1 hp2 hw2 hb2 hp3 hw3 hb3 hp4 hw4 hp5 hw5
  obtain ⟨xs, T, F, To, rfl⟩ : ∃ xs T F To, q0 = [.row xs, rowOf eTr T, I F, I To] := by
    match q0, hq0 with
    | [a, b, c, d], h =>
      simp only [LK.oks] at h
      obtain ⟨T, rfl⟩ := tr_open h.2.1
      obtain ⟨F, rfl⟩ := int_open h.2.2.1
      obtain ⟨To, rfl⟩ := int_open h.2.2.2.1
      match a, h.1 with
      | .row xs, _ => exact ⟨xs, T, F, To, rfl⟩
  obtain ⟨lines, rfl⟩ := int_open hp1
  obtain ⟨A, rfl⟩ := tr_open hp2
  obtain ⟨l, rfl⟩ := cl_open hp3
  obtain ⟨rows, rfl⟩ := bool_open hp4
  obtain ⟨gap, rfl⟩ := int_open hp5
  refine Says.told (tr := tr) (f := c_law21_ImplicitGaps) (args := [.row xs, rowOf eTr T, I F, I To, I lines, rowOf eTr A, rowOf eCl l, B rows, I gap]) ?_
  refine Says.of (t := law21_ImplicitGaps) rfl ?_
  rw [u_law21_ImplicitGaps]
  have hlight : Says tr c_law21_light [.row xs, rowOf eTr T, I F, I To, rowOf eTr A, rowOf eCl l] [B (decide (T.length ≤ 300) && decide (xs.length ≤ 400) && decide (A.length ≤ 300) && decide (l.length ≤ 60))] := by
    refine Says.of (t := law21_light) rfl ?_
    rw [u_law21_light]
    simp (disch := first | omega | (simp only [List.length_set, List.length_map, List.length_replicate, List.length_append, List.length_modify]; omega)) only [xrun_ret, run_ite, run_fail, run_letj, xrun_loop, run_jump, xrun_call, jmp_join, jmp_loop, br_fail, br_true, br_false, xden_var, den_int, den_bool, den_str, den_nil, den_nilc, den_un, den_bin, den_tri, xon_and, xon_or, on_beq, xon_not, on_len, on_neg, on_conv, on_max, on_min, on_snoc, on_cat, on_cons, on_make, on_copy, on_plus, on_minus, on_cell, on_sel, on_slice, on_set, on_put, on_cmp, on_ar, ev_lss, ev_leq, ev_gtr, ev_geq, ev_eql, ev_neq, ar_add, ar_sub, ar_mul, ar_quo, ar_rem, pi_int, b_bool, r_row, c_cells, rowOf_r, List.map_cons, List.map_nil, List.cons_append, List.nil_append, List.getD_cons_zero, List.getD_cons_succ, List.getElem?_cons_zero, List.getElem?_cons_succ, List.take_zero, List.take_succ_cons, List.length_map, Int.toNat_natCast, decide_eq_true_eq, Int.ofNat_lt, Int.ofNat_le, xnat_nonneg, true_and, and_true, if_true, if_false, reduceIte, wrap_in, xints_at, xbools_at, xints_set, xints_snoc, xints_make, xints_nil, xbools_set, xbools_snoc, xbools_make, xcopy_make, List.length_replicate, List.length_cons, List.length_nil, Nat.reduceAdd]
    have e : ∀ x y : Bool, x = y → [B x] = [B y] := fun _ _ h => by rw [h]
    refine e _ _ ?_
    rw [Bool.eq_iff_iff]
    simp
    omega
  by_cases hc : (decide (T.length ≤ 300) && decide (xs.length ≤ 400) && decide (A.length ≤ 300) && decide (l.length ≤ 60)) = true
  · rw [hc] at hlight
    simp only [Bool.and_eq_true, decide_eq_true_eq] at hc
    obtain ⟨low, L, G, Aa, e, hs, he1, he2⟩ := itracks_sp xs T F To lines A l rows gap (by omega) (by omega)
    simp (disch := first | omega | (simp only [List.length_set, List.length_map, List.length_replicate, List.length_append, List.length_modify]; omega)) only [xrun_ret, run_ite, run_fail, run_letj, xrun_loop, run_jump, xrun_call, jmp_join, jmp_loop, br_fail, br_true, br_false, xden_var, den_int, den_bool, den_str, den_nil, den_nilc, den_un, den_bin, den_tri, xon_and, xon_or, on_beq, xon_not, on_len, on_neg, on_conv, on_max, on_min, on_snoc, on_cat, on_cons, on_make, on_copy, on_plus, on_minus, on_cell, on_sel, on_slice, on_set, on_put, on_cmp, on_ar, ev_lss, ev_leq, ev_gtr, ev_geq, ev_eql, ev_neq, ar_add, ar_sub, ar_mul, ar_quo, ar_rem, pi_int, b_bool, r_row, c_cells, rowOf_r, List.map_cons, List.map_nil, List.cons_append, List.nil_append, List.getD_cons_zero, List.getD_cons_succ, List.getElem?_cons_zero, List.getElem?_cons_succ, List.take_zero, List.take_succ_cons, List.length_map, Int.toNat_natCast, decide_eq_true_eq, Int.ofNat_lt, Int.ofNat_le, xnat_nonneg, true_and, and_true, if_true, if_false, reduceIte, wrap_in, xints_at, xbools_at, xints_set, xints_snoc, xints_make, xints_nil, xbools_set, xbools_snoc, xbools_make, xcopy_make, List.length_replicate, List.length_cons, List.length_nil, Nat.reduceAdd, xcall_of hlight, xcall_of hs, Bool.not_and, Bool.not_or, Bool.not_not, Bool.and_eq_true, Bool.or_eq_true, Bool.not_eq_true', Bool.and_eq_false_imp, Bool.or_eq_false_iff, decide_eq_false_iff_not, decide_eq_true_eq, beq_iff_eq, beq_eq_false_iff_ne, bne_iff_ne, bne_eq_false_iff_eq, ne_eq, gt_iff_lt, ge_iff_le, Bool.false_eq_true, Bool.true_eq_false, beq_self_eq_true, beq_true, beq_false, Bool.not_false, Bool.not_true, Bool.false_and, Bool.true_and, Bool.and_true, Bool.and_false, Bool.or_true, Bool.true_or, Bool.or_false, Bool.false_or, false_and, true_and, and_false, and_true, or_false, or_true, false_or, true_or, not_true_eq_false, not_false_eq_true, false_iff, iff_false, true_iff, iff_true, forall_const, false_imp_iff, true_imp_iff, reduceCtorEq, imp_false]
    by_cases he : e = 0
    · subst he
      have hT := he2 rfl
      have h1 := hT.1
      have h2 := hT.2.1
      rw [br_neg (by simp)]
      rw [br_neg (by omega)]
      have key := xup_ind (n := G.length) (P := fun j => ∀ c : Nat, c + cntF (G.drop j) = cntF G → Run tr law21_ImplicitGaps_l0 [.row xs, rowOf eTr T, I F, I To, I lines, rowOf eTr A, rowOf eCl l, B rows, I gap, B true, I low, rowOf eTr L, bools G, ints Aa, I 0, I j, I c] [.loop law21_ImplicitGaps_l0 [.row xs, rowOf eTr T, I F, I To, I lines, rowOf eTr A, rowOf eCl l, B rows, I gap, B true, I low, rowOf eTr L, bools G, ints Aa, I 0]] [B true]) ?_ 0 (Nat.zero_le _)
      · simpa using key 0 (by simp)
      intro j hj ih c hcn
      by_cases hjl : j < G.length
      · rw [List.drop_eq_getElem_cons hjl] at hcn
        rw [u_law21_ImplicitGaps_l0]
        have hle := cntF_le G
        cases hg : G[j] with
        | true =>
          rw [hg] at hcn
          simp only [cntF] at hcn
          have := ih hjl c hcn
          simp (disch := first | omega | (simp only [List.length_set, List.length_map, List.length_replicate, List.length_append, List.length_modify]; omega)) only [xrun_ret, run_ite, run_fail, run_letj, xrun_loop, run_jump, xrun_call, jmp_join, jmp_loop, br_fail, br_true, br_false, xden_var, den_int, den_bool, den_str, den_nil, den_nilc, den_un, den_bin, den_tri, xon_and, xon_or, on_beq, xon_not, on_len, on_neg, on_conv, on_max, on_min, on_snoc, on_cat, on_cons, on_make, on_copy, on_plus, on_minus, on_cell, on_sel, on_slice, on_set, on_put, on_cmp, on_ar, ev_lss, ev_leq, ev_gtr, ev_geq, ev_eql, ev_neq, ar_add, ar_sub, ar_mul, ar_quo, ar_rem, pi_int, b_bool, r_row, c_cells, rowOf_r, List.map_cons, List.map_nil, List.cons_append, List.nil_append, List.getD_cons_zero, List.getD_cons_succ, List.getElem?_cons_zero, List.getElem?_cons_succ, List.take_zero, List.take_succ_cons, List.length_map, Int.toNat_natCast, decide_eq_true_eq, Int.ofNat_lt, Int.ofNat_le, xnat_nonneg, true_and, and_true, if_true, if_false, reduceIte, wrap_in, xints_at, xbools_at, xints_set, xints_snoc, xints_make, xints_nil, xbools_set, xbools_snoc, xbools_make, xcopy_make, List.length_replicate, List.length_cons, List.length_nil, Nat.reduceAdd, hjl, h1, hg, u_law21_ImplicitGaps_j1]
          exact this
        | false =>
          rw [hg] at hcn
          simp only [cntF] at hcn
          have := ih hjl (c + 1) (by omega)
          simp (disch := first | omega | (simp only [List.length_set, List.length_map, List.length_replicate, List.length_append, List.length_modify]; omega)) only [xrun_ret, run_ite, run_fail, run_letj, xrun_loop, run_jump, xrun_call, jmp_join, jmp_loop, br_fail, br_true, br_false, xden_var, den_int, den_bool, den_str, den_nil, den_nilc, den_un, den_bin, den_tri, xon_and, xon_or, on_beq, xon_not, on_len, on_neg, on_conv, on_max, on_min, on_snoc, on_cat, on_cons, on_make, on_copy, on_plus, on_minus, on_cell, on_sel, on_slice, on_set, on_put, on_cmp, on_ar, ev_lss, ev_leq, ev_gtr, ev_geq, ev_eql, ev_neq, ar_add, ar_sub, ar_mul, ar_quo, ar_rem, pi_int, b_bool, r_row, c_cells, rowOf_r, List.map_cons, List.map_nil, List.cons_append, List.nil_append, List.getD_cons_zero, List.getD_cons_succ, List.getElem?_cons_zero, List.getElem?_cons_succ, List.take_zero, List.take_succ_cons, List.length_map, Int.toNat_natCast, decide_eq_true_eq, Int.ofNat_lt, Int.ofNat_le, xnat_nonneg, true_and, and_true, if_true, if_false, reduceIte, wrap_in, xints_at, xbools_at, xints_set, xints_snoc, xints_make, xints_nil, xbools_set, xbools_snoc, xbools_make, xcopy_make, List.length_replicate, List.length_cons, List.length_nil, Nat.reduceAdd, hjl, h1, hg, Bool.false_eq_true]
          repeat rw [br_neg (by simp)]
          simp (disch := first | omega | (simp only [List.length_set, List.length_map, List.length_replicate, List.length_append, List.length_modify]; omega)) only [xrun_ret, run_ite, run_fail, run_letj, xrun_loop, run_jump, xrun_call, jmp_join, jmp_loop, br_fail, br_true, br_false, xden_var, den_int, den_bool, den_str, den_nil, den_nilc, den_un, den_bin, den_tri, xon_and, xon_or, on_beq, xon_not, on_len, on_neg, on_conv, on_max, on_min, on_snoc, on_cat, on_cons, on_make, on_copy, on_plus, on_minus, on_cell, on_sel, on_slice, on_set, on_put, on_cmp, on_ar, ev_lss, ev_leq, ev_gtr, ev_geq, ev_eql, ev_neq, ar_add, ar_sub, ar_mul, ar_quo, ar_rem, pi_int, b_bool, r_row, c_cells, rowOf_r, List.map_cons, List.map_nil, List.cons_append, List.nil_append, List.getD_cons_zero, List.getD_cons_succ, List.getElem?_cons_zero, List.getElem?_cons_succ, List.take_zero, List.take_succ_cons, List.length_map, Int.toNat_natCast, decide_eq_true_eq, Int.ofNat_lt, Int.ofNat_le, xnat_nonneg, true_and, and_true, if_true, if_false, reduceIte, wrap_in, xints_at, xbools_at, xints_set, xints_snoc, xints_make, xints_nil, xbools_set, xbools_snoc, xbools_make, xcopy_make, List.length_replicate, List.length_cons, List.length_nil, Nat.reduceAdd, u_law21_ImplicitGaps_j1]
          exact this
      · rw [List.drop_of_length_le (by omega)] at hcn
        simp only [cntF] at hcn
        obtain rfl : j = G.length := by omega
        obtain rfl : c = cntF G := by omega
        have := g2_run xs T F To lines A l rows gap low L G Aa (.loop law21_ImplicitGaps_l0 [.row xs, rowOf eTr T, I F, I To, I lines, rowOf eTr A, rowOf eCl l, B rows, I gap, B true, I low, rowOf eTr L, bools G, ints Aa, I 0]) hT (by omega) 0 (Nat.zero_le _)
        rw [u_law21_ImplicitGaps_l0]
        simp (disch := first | omega | (simp only [List.length_set, List.length_map, List.length_replicate, List.length_append, List.length_modify]; omega)) only [xrun_ret, run_ite, run_fail, run_letj, xrun_loop, run_jump, xrun_call, jmp_join, jmp_loop, br_fail, br_true, br_false, xden_var, den_int, den_bool, den_str, den_nil, den_nilc, den_un, den_bin, den_tri, xon_and, xon_or, on_beq, xon_not, on_len, on_neg, on_conv, on_max, on_min, on_snoc, on_cat, on_cons, on_make, on_copy, on_plus, on_minus, on_cell, on_sel, on_slice, on_set, on_put, on_cmp, on_ar, ev_lss, ev_leq, ev_gtr, ev_geq, ev_eql, ev_neq, ar_add, ar_sub, ar_mul, ar_quo, ar_rem, pi_int, b_bool, r_row, c_cells, rowOf_r, List.map_cons, List.map_nil, List.cons_append, List.nil_append, List.getD_cons_zero, List.getD_cons_succ, List.getElem?_cons_zero, List.getElem?_cons_succ, List.take_zero, List.take_succ_cons, List.length_map, Int.toNat_natCast, decide_eq_true_eq, Int.ofNat_lt, Int.ofNat_le, xnat_nonneg, true_and, and_true, if_true, if_false, reduceIte, wrap_in, xints_at, xbools_at, xints_set, xints_snoc, xints_make, xints_nil, xbools_set, xbools_snoc, xbools_make, xcopy_make, List.length_replicate, List.length_cons, List.length_nil, Nat.reduceAdd, hjl, h1]
        exact this
    · obtain rfl := he1 he
      rw [br_pos he]
      simp (disch := first | omega | (simp only [List.length_set, List.length_map, List.length_replicate, List.length_append, List.length_modify]; omega)) only [xrun_ret, run_ite, run_fail, run_letj, xrun_loop, run_jump, xrun_call, jmp_join, jmp_loop, br_fail, br_true, br_false, xden_var, den_int, den_bool, den_str, den_nil, den_nilc, den_un, den_bin, den_tri, xon_and, xon_or, on_beq, xon_not, on_len, on_neg, on_conv, on_max, on_min, on_snoc, on_cat, on_cons, on_make, on_copy, on_plus, on_minus, on_cell, on_sel, on_slice, on_set, on_put, on_cmp, on_ar, ev_lss, ev_leq, ev_gtr, ev_geq, ev_eql, ev_neq, ar_add, ar_sub, ar_mul, ar_quo, ar_rem, pi_int, b_bool, r_row, c_cells, rowOf_r, List.map_cons, List.map_nil, List.cons_append, List.nil_append, List.getD_cons_zero, List.getD_cons_succ, List.getElem?_cons_zero, List.getElem?_cons_succ, List.take_zero, List.take_succ_cons, List.length_map, Int.toNat_natCast, decide_eq_true_eq, Int.ofNat_lt, Int.ofNat_le, xnat_nonneg, true_and, and_true, if_true, if_false, reduceIte, wrap_in, xints_at, xbools_at, xints_set, xints_snoc, xints_make, xints_nil, xbools_set, xbools_snoc, xbools_make, xcopy_make, List.length_replicate, List.length_cons, List.length_nil, Nat.reduceAdd, xcall_of glives_sp, List.length_nil]
      first | done | trivial | (rw [br_pos (by simp)]; trivial)
  · have hcf : (decide (T.length ≤ 300) && decide (xs.length ≤ 400) && decide (A.length ≤ 300) && decide (l.length ≤ 60)) = false := by simpa using hc
    rw [hcf] at hlight
    simp (disch := first | omega | (simp only [List.length_set, List.length_map, List.length_replicate, List.length_append, List.length_modify]; omega)) only [xrun_ret, run_ite, run_fail, run_letj, xrun_loop, run_jump, xrun_call, jmp_join, jmp_loop, br_fail, br_true, br_false, xden_var, den_int, den_bool, den_str, den_nil, den_nilc, den_un, den_bin, den_tri, xon_and, xon_or, on_beq, xon_not, on_len, on_neg, on_conv, on_max, on_min, on_snoc, on_cat, on_cons, on_make, on_copy, on_plus, on_minus, on_cell, on_sel, on_slice, on_set, on_put, on_cmp, on_ar, ev_lss, ev_leq, ev_gtr, ev_geq, ev_eql, ev_neq, ar_add, ar_sub, ar_mul, ar_quo, ar_rem, pi_int, b_bool, r_row, c_cells, rowOf_r, List.map_cons, List.map_nil, List.cons_append, List.nil_append, List.getD_cons_zero, List.getD_cons_succ, List.getElem?_cons_zero, List.getElem?_cons_succ, List.take_zero, List.take_succ_cons, List.length_map, Int.toNat_natCast, decide_eq_true_eq, Int.ofNat_lt, Int.ofNat_le, xnat_nonneg, true_and, and_true, if_true, if_false, reduceIte, wrap_in, xints_at, xbools_at, xints_set, xints_snoc, xints_make, xints_nil, xbools_set, xbools_snoc, xbools_make, xcopy_make, List.length_replicate, List.length_cons, List.length_nil, Nat.reduceAdd, xcall_of hlight, xcall_of glives_sp, Bool.false_eq_true]
    first | done | trivial | (rw [br_neg (by simp)]; trivial) | rw [br_neg (by simp)]
end Go.Proofs.Ytmfjdoanipgjkaa
