/- The plain law of FlexGrows: what the trees come to answers as the statement says. No condition. -/
import Derived.Test.YtpaabecgngbjcaaT
import Derived.Test.YtpaabecgngbjcaaKflq
import Derived.Test.YtpaabecgngbjcaaKflv
set_option linter.unusedVariables false
set_option linter.unusedSimpArgs false
set_option maxRecDepth 10000
namespace Go.Proofs.Ytpaabecgngbjcaa
open Go Go.Proofs.Ytpaabecgngbjcaa.Sx Go.Proofs.Ytpaabecgngbjcaa.M Go.Proofs.Ytpaabecgngbjcaa.T
theorem wgood24_any (s : List Sz) (a : List Int) (ws : List Wn) (mode : Int) (hs : s.length ≤ 1000000) (hw : ws.length ≤ 1000000) : Says tr c_ref24_Good [rowOf eSz s, ints a, rowOf eWn ws, I mode] [B (goodI s a ws mode)] := by
  by_cases ha : a.length ≤ 1000000
  · exact rgood24_sp s a ws mode hs ha hw
  refine Says.of (t := ref24_Good) rfl ?_
  rw [u_ref24_Good]
  simp (disch := first | omega | (simp only [List.length_set, List.length_map, List.length_replicate, List.length_append, List.length_modify]; omega)) only [xrun_ret, run_ite, run_fail, run_letj, xrun_loop, run_jump, xrun_call, jmp_join, jmp_loop, br_fail, br_true, br_false, xden_var, den_int, den_bool, den_str, den_nil, den_nilc, den_un, den_bin, den_tri, xon_and, xon_or, on_beq, xon_not, on_len, on_neg, on_conv, on_max, on_min, on_snoc, on_cat, on_cons, on_make, on_copy, on_plus, on_minus, on_cell, on_sel, on_slice, on_set, on_put, on_cmp, on_ar, ev_lss, ev_leq, ev_gtr, ev_geq, ev_eql, ev_neq, ar_add, ar_sub, ar_mul, ar_quo, ar_rem, pi_int, b_bool, r_row, c_cells, rowOf_r, List.map_cons, List.map_nil, List.cons_append, List.nil_append, List.getD_cons_zero, List.getD_cons_succ, List.getElem?_cons_zero, List.getElem?_cons_succ, List.take_zero, List.take_succ_cons, List.length_map, Int.toNat_natCast, decide_eq_true_eq, Int.ofNat_lt, Int.ofNat_le, xnat_nonneg, true_and, and_true, if_true, if_false, reduceIte, wrap_in, xints_at, xbools_at, xints_set, xints_snoc, xints_make, xints_nil, xbools_set, xbools_snoc, xbools_make, xcopy_make, List.length_replicate, List.length_cons, List.length_nil, Nat.reduceAdd, Bool.not_and, Bool.not_or, Bool.not_not, Bool.and_eq_true, Bool.or_eq_true, Bool.not_eq_true', Bool.and_eq_false_imp, Bool.or_eq_false_iff, decide_eq_false_iff_not, decide_eq_true_eq, beq_iff_eq, beq_eq_false_iff_ne, bne_iff_ne, bne_eq_false_iff_eq, ne_eq, gt_iff_lt, ge_iff_le, Bool.false_eq_true, Bool.true_eq_false, beq_self_eq_true, beq_true, beq_false, Bool.not_false, Bool.not_true, Bool.false_and, Bool.true_and, Bool.and_true, Bool.and_false, Bool.or_true, Bool.true_or, Bool.or_false, Bool.false_or, false_and, true_and, and_false, and_true, or_false, or_true, false_or, true_or, not_true_eq_false, not_false_eq_true, false_iff, iff_false, true_iff, iff_true, forall_const, false_imp_iff, true_imp_iff, reduceCtorEq, imp_false]
  rw [br_pos (by omega)]
  have h : ¬ a.length = s.length := by omega
  unfold goodI
  simp [h]
/-- The sum along a want, the gap ahead of each but the first. -/
def sumQ (fm : Nat) : Nat → List Sz → List Int → Int
  | i, x :: l, g :: a => x.base + (if fm < i then g else 0) + sumQ fm (i + 1) l a
  | _, _, _ => 0
theorem sumQ_all (fm : Nat) : ∀ (l : List Sz) (a : List Int) (i : Nat), fm < i → a.length = l.length → sumQ fm i l a = sumB l + sumI a
  | [], [], _, _, _ => rfl
  | [], _ :: _, _, _, h => by simp at h
  | _ :: _, [], _, _, h => by simp at h
  | x :: l, g :: a, i, hi, h => by
    simp only [sumQ, sumB, sumI, if_pos hi, sumQ_all fm l a (i + 1) (by omega) (by simpa using h)]
    omega
def flxB (l : List Sz) : Bool := l.any fun x => decide (x.mx = 5)
def smlB (l : List Sz) : Bool := l.any fun x => decide (x.mx = 5) && decide (x.fr < 1000)
theorem g4_law (s l : List Sz) (a : List Int) (ws : List Wn) (p3 p4 p6 : PV) (k fm to : Nat) (J0 J1 : JT) (r : List PV) (hk : k < ws.length) (hfm : ws[k].fm = fm) (hto : ws[k].to = to) (hle : to ≤ l.length) (hal : a.length = l.length) (hl : l.length ≤ 60) (hft : fm ≤ to) (hwl : ws.length ≤ 4096)
    (hbs : ∀ (i : Nat) (h' : i < l.length), 0 ≤ l[i].base ∧ l[i].base ≤ 68719476736) (ha : a.all lenB = true)
    (hr : Run tr law26_FlexGrows_l3 [rowOf eSz s, ints a, rowOf eWn ws, p3, p4, rowOf eSz l, p6, I (k + 1 : Nat)] [J0, J1, .loop law26_FlexGrows_l3 [rowOf eSz s, ints a, rowOf eWn ws, p3, p4, rowOf eSz l, p6]] r) :
    ∀ i, i ≤ to → fm ≤ i → ∀ (sm fx : Bool) (sum : Int), 0 ≤ sum ∧ sum ≤ 200000000000 * i →
      ¬ ((((fx || flxB ((l.drop i).take (to - i))) = true ∧ (sm || smlB ((l.drop i).take (to - i))) = false) ∧ ws[k].mx < 1073741824) ∧ sum + sumQ fm i ((l.drop i).take (to - i)) ((a.drop i).take (to - i)) + (to - fm) < ws[k].mx) →
      Run tr law26_FlexGrows_l4 [rowOf eSz s, ints a, rowOf eWn ws, p3, p4, rowOf eSz l, p6, I k, I i, B sm, B fx, I sum] [J0, J1, .loop law26_FlexGrows_l3 [rowOf eSz s, ints a, rowOf eWn ws, p3, p4, rowOf eSz l, p6], .loop law26_FlexGrows_l4 [rowOf eSz s, ints a, rowOf eWn ws, p3, p4, rowOf eSz l, p6, I k]] r := by
  refine xup_ind fun i hi ih => ?_
  intro hfi sm fx sum hsum hcond
  by_cases h : i < to
  · have hil : i < l.length := by omega
    have hia : i < a.length := by omega
    have hb := hbs i hil
    have hga := List.all_eq_true.1 ha _ (List.getElem_mem hia)
    simp only [lenB, Bool.and_eq_true, decide_eq_true_eq] at hga
    have e1 : (l.drop i).take (to - i) = l[i] :: (l.drop (i + 1)).take (to - (i + 1)) := by
      rw [List.drop_eq_getElem_cons hil, show to - i = (to - (i + 1)) + 1 by omega, List.take_succ_cons]
    have e2 : (a.drop i).take (to - i) = a[i] :: (a.drop (i + 1)).take (to - (i + 1)) := by
      rw [List.drop_eq_getElem_cons hia, show to - i = (to - (i + 1)) + 1 by omega, List.take_succ_cons]
    rw [e1, e2] at hcond
    simp only [sumQ, flxB, smlB, List.any_cons] at hcond
    have hj6 : ∀ sum' : Int, sum' = sum + l[i].base + (if fm < i then a[i] else 0) → Run tr law26_FlexGrows_j6 [rowOf eSz s, ints a, rowOf eWn ws, p3, p4, rowOf eSz l, p6, I k, I i, B sm, B fx, I sum, I sum'] [J0, J1, .loop law26_FlexGrows_l3 [rowOf eSz s, ints a, rowOf eWn ws, p3, p4, rowOf eSz l, p6], .loop law26_FlexGrows_l4 [rowOf eSz s, ints a, rowOf eWn ws, p3, p4, rowOf eSz l, p6, I k], .join law26_FlexGrows_j5 [rowOf eSz s, ints a, rowOf eWn ws, p3, p4, rowOf eSz l, p6, I k, I i, B sm, B fx, I sum]] r := by
      intro sum' hs'
      have hsum' : 0 ≤ sum' ∧ sum' ≤ 200000000000 * ((i + 1 : Nat) : Int) := by subst hs'; split <;> omega
      rw [u_law26_FlexGrows_j6]
      simp (disch := first | omega | (simp only [List.length_set, List.length_map, List.length_replicate, List.length_append, List.length_modify]; omega)) only [xrun_ret, run_ite, run_fail, run_letj, xrun_loop, run_jump, xrun_call, jmp_join, jmp_loop, br_fail, br_true, br_false, xden_var, den_int, den_bool, den_str, den_nil, den_nilc, den_un, den_bin, den_tri, xon_and, xon_or, on_beq, xon_not, on_len, on_neg, on_conv, on_max, on_min, on_snoc, on_cat, on_cons, on_make, on_copy, on_plus, on_minus, on_cell, on_sel, on_slice, on_set, on_put, on_cmp, on_ar, ev_lss, ev_leq, ev_gtr, ev_geq, ev_eql, ev_neq, ar_add, ar_sub, ar_mul, ar_quo, ar_rem, pi_int, b_bool, r_row, c_cells, rowOf_r, List.map_cons, List.map_nil, List.cons_append, List.nil_append, List.getD_cons_zero, List.getD_cons_succ, List.getElem?_cons_zero, List.getElem?_cons_succ, List.take_zero, List.take_succ_cons, List.length_map, Int.toNat_natCast, decide_eq_true_eq, Int.ofNat_lt, Int.ofNat_le, xnat_nonneg, true_and, and_true, if_true, if_false, reduceIte, wrap_in, xints_at, xbools_at, xints_set, xints_snoc, xints_make, xints_nil, xbools_set, xbools_snoc, xbools_make, xcopy_make, List.length_replicate, List.length_cons, List.length_nil, Nat.reduceAdd, hil, sz_at0, sz_at1, sz_at2, sz_at3, sz_at4, sz_at5, sz_at6, sz_snoc, sz_set, sz_put5, sz_put6, Bool.not_and, Bool.not_or, Bool.not_not, Bool.and_eq_true, Bool.or_eq_true, Bool.not_eq_true', Bool.and_eq_false_imp, Bool.or_eq_false_iff, decide_eq_false_iff_not, decide_eq_true_eq, beq_iff_eq, beq_eq_false_iff_ne, bne_iff_ne, bne_eq_false_iff_eq, ne_eq, gt_iff_lt, ge_iff_le, Bool.false_eq_true, Bool.true_eq_false, beq_self_eq_true, beq_true, beq_false, Bool.not_false, Bool.not_true, Bool.false_and, Bool.true_and, Bool.and_true, Bool.and_false, Bool.or_true, Bool.true_or, Bool.or_false, Bool.false_or, false_and, true_and, and_false, and_true, or_false, or_true, false_or, true_or, not_true_eq_false, not_false_eq_true, false_iff, iff_false, true_iff, iff_true, forall_const, false_imp_iff, true_imp_iff, reduceCtorEq, imp_false]
      by_cases hm : l[i].mx = 5
      · have hi2 := ih h (by omega) (sm || decide (l[i].fr < 1000)) true sum' hsum' (by
          intro hh
          apply hcond
          simp only [hm, decide_true, Bool.true_and, flxB, smlB, Bool.or_true, Bool.true_or, Bool.or_assoc] at hh ⊢
          refine ⟨hh.1, ?_⟩
          have := hh.2
          subst hs'
          omega)
        rw [br_pos hm]
        try simp (disch := first | omega | (simp only [List.length_set, List.length_map, List.length_replicate, List.length_append, List.length_modify]; omega)) only [xrun_ret, run_ite, run_fail, run_letj, xrun_loop, run_jump, xrun_call, jmp_join, jmp_loop, br_fail, br_true, br_false, xden_var, den_int, den_bool, den_str, den_nil, den_nilc, den_un, den_bin, den_tri, xon_and, xon_or, on_beq, xon_not, on_len, on_neg, on_conv, on_max, on_min, on_snoc, on_cat, on_cons, on_make, on_copy, on_plus, on_minus, on_cell, on_sel, on_slice, on_set, on_put, on_cmp, on_ar, ev_lss, ev_leq, ev_gtr, ev_geq, ev_eql, ev_neq, ar_add, ar_sub, ar_mul, ar_quo, ar_rem, pi_int, b_bool, r_row, c_cells, rowOf_r, List.map_cons, List.map_nil, List.cons_append, List.nil_append, List.getD_cons_zero, List.getD_cons_succ, List.getElem?_cons_zero, List.getElem?_cons_succ, List.take_zero, List.take_succ_cons, List.length_map, Int.toNat_natCast, decide_eq_true_eq, Int.ofNat_lt, Int.ofNat_le, xnat_nonneg, true_and, and_true, if_true, if_false, reduceIte, wrap_in, xints_at, xbools_at, xints_set, xints_snoc, xints_make, xints_nil, xbools_set, xbools_snoc, xbools_make, xcopy_make, List.length_replicate, List.length_cons, List.length_nil, Nat.reduceAdd, hil, sz_at0, sz_at1, sz_at2, sz_at3, sz_at4, sz_at5, sz_at6, sz_snoc, sz_set, sz_put5, sz_put6]
        rw [u_law26_FlexGrows_j5]
        try simp (disch := first | omega | (simp only [List.length_set, List.length_map, List.length_replicate, List.length_append, List.length_modify]; omega)) only [xrun_ret, run_ite, run_fail, run_letj, xrun_loop, run_jump, xrun_call, jmp_join, jmp_loop, br_fail, br_true, br_false, xden_var, den_int, den_bool, den_str, den_nil, den_nilc, den_un, den_bin, den_tri, xon_and, xon_or, on_beq, xon_not, on_len, on_neg, on_conv, on_max, on_min, on_snoc, on_cat, on_cons, on_make, on_copy, on_plus, on_minus, on_cell, on_sel, on_slice, on_set, on_put, on_cmp, on_ar, ev_lss, ev_leq, ev_gtr, ev_geq, ev_eql, ev_neq, ar_add, ar_sub, ar_mul, ar_quo, ar_rem, pi_int, b_bool, r_row, c_cells, rowOf_r, List.map_cons, List.map_nil, List.cons_append, List.nil_append, List.getD_cons_zero, List.getD_cons_succ, List.getElem?_cons_zero, List.getElem?_cons_succ, List.take_zero, List.take_succ_cons, List.length_map, Int.toNat_natCast, decide_eq_true_eq, Int.ofNat_lt, Int.ofNat_le, xnat_nonneg, true_and, and_true, if_true, if_false, reduceIte, wrap_in, xints_at, xbools_at, xints_set, xints_snoc, xints_make, xints_nil, xbools_set, xbools_snoc, xbools_make, xcopy_make, List.length_replicate, List.length_cons, List.length_nil, Nat.reduceAdd]
        first | exact hi2 | exact ⟨by omega, hi2⟩
      · have hi2 := ih h (by omega) sm fx sum' hsum' (by
          intro hh
          apply hcond
          simp only [decide_eq_false hm, Bool.false_and, Bool.false_or, flxB, smlB] at hh ⊢
          refine ⟨hh.1, ?_⟩
          have := hh.2
          subst hs'
          omega)
        rw [br_neg hm]
        rw [u_law26_FlexGrows_j5]
        try simp (disch := first | omega | (simp only [List.length_set, List.length_map, List.length_replicate, List.length_append, List.length_modify]; omega)) only [xrun_ret, run_ite, run_fail, run_letj, xrun_loop, run_jump, xrun_call, jmp_join, jmp_loop, br_fail, br_true, br_false, xden_var, den_int, den_bool, den_str, den_nil, den_nilc, den_un, den_bin, den_tri, xon_and, xon_or, on_beq, xon_not, on_len, on_neg, on_conv, on_max, on_min, on_snoc, on_cat, on_cons, on_make, on_copy, on_plus, on_minus, on_cell, on_sel, on_slice, on_set, on_put, on_cmp, on_ar, ev_lss, ev_leq, ev_gtr, ev_geq, ev_eql, ev_neq, ar_add, ar_sub, ar_mul, ar_quo, ar_rem, pi_int, b_bool, r_row, c_cells, rowOf_r, List.map_cons, List.map_nil, List.cons_append, List.nil_append, List.getD_cons_zero, List.getD_cons_succ, List.getElem?_cons_zero, List.getElem?_cons_succ, List.take_zero, List.take_succ_cons, List.length_map, Int.toNat_natCast, decide_eq_true_eq, Int.ofNat_lt, Int.ofNat_le, xnat_nonneg, true_and, and_true, if_true, if_false, reduceIte, wrap_in, xints_at, xbools_at, xints_set, xints_snoc, xints_make, xints_nil, xbools_set, xbools_snoc, xbools_make, xcopy_make, List.length_replicate, List.length_cons, List.length_nil, Nat.reduceAdd]
        first | exact hi2 | exact ⟨by omega, hi2⟩
    rw [u_law26_FlexGrows_l4]
    simp (disch := first | omega | (simp only [List.length_set, List.length_map, List.length_replicate, List.length_append, List.length_modify]; omega)) only [xrun_ret, run_ite, run_fail, run_letj, xrun_loop, run_jump, xrun_call, jmp_join, jmp_loop, br_fail, br_true, br_false, xden_var, den_int, den_bool, den_str, den_nil, den_nilc, den_un, den_bin, den_tri, xon_and, xon_or, on_beq, xon_not, on_len, on_neg, on_conv, on_max, on_min, on_snoc, on_cat, on_cons, on_make, on_copy, on_plus, on_minus, on_cell, on_sel, on_slice, on_set, on_put, on_cmp, on_ar, ev_lss, ev_leq, ev_gtr, ev_geq, ev_eql, ev_neq, ar_add, ar_sub, ar_mul, ar_quo, ar_rem, pi_int, b_bool, r_row, c_cells, rowOf_r, List.map_cons, List.map_nil, List.cons_append, List.nil_append, List.getD_cons_zero, List.getD_cons_succ, List.getElem?_cons_zero, List.getElem?_cons_succ, List.take_zero, List.take_succ_cons, List.length_map, Int.toNat_natCast, decide_eq_true_eq, Int.ofNat_lt, Int.ofNat_le, xnat_nonneg, true_and, and_true, if_true, if_false, reduceIte, wrap_in, xints_at, xbools_at, xints_set, xints_snoc, xints_make, xints_nil, xbools_set, xbools_snoc, xbools_make, xcopy_make, List.length_replicate, List.length_cons, List.length_nil, Nat.reduceAdd, hk, hto, hfm, h, hil, hia, wn_at0 _ _ hk, wn_at1 _ _ hk, sz_at0, sz_at1, sz_at2, sz_at3, sz_at4, sz_at5, sz_at6, sz_snoc, sz_set, sz_put5, sz_put6, Bool.not_and, Bool.not_or, Bool.not_not, Bool.and_eq_true, Bool.or_eq_true, Bool.not_eq_true', Bool.and_eq_false_imp, Bool.or_eq_false_iff, decide_eq_false_iff_not, decide_eq_true_eq, beq_iff_eq, beq_eq_false_iff_ne, bne_iff_ne, bne_eq_false_iff_eq, ne_eq, gt_iff_lt, ge_iff_le, Bool.false_eq_true, Bool.true_eq_false, beq_self_eq_true, beq_true, beq_false, Bool.not_false, Bool.not_true, Bool.false_and, Bool.true_and, Bool.and_true, Bool.and_false, Bool.or_true, Bool.true_or, Bool.or_false, Bool.false_or, false_and, true_and, and_false, and_true, or_false, or_true, false_or, true_or, not_true_eq_false, not_false_eq_true, false_iff, iff_false, true_iff, iff_true, forall_const, false_imp_iff, true_imp_iff, reduceCtorEq, imp_false]
    by_cases hgt : fm < i
    · have h6 := hj6 (sum + l[i].base + a[i]) (by rw [if_pos hgt])
      have hgt' : (i : Int) > fm := by omega
      first | rw [br_pos hgt'] | rw [br_pos hgt]
      try simp (disch := first | omega | (simp only [List.length_set, List.length_map, List.length_replicate, List.length_append, List.length_modify]; omega)) only [xrun_ret, run_ite, run_fail, run_letj, xrun_loop, run_jump, xrun_call, jmp_join, jmp_loop, br_fail, br_true, br_false, xden_var, den_int, den_bool, den_str, den_nil, den_nilc, den_un, den_bin, den_tri, xon_and, xon_or, on_beq, xon_not, on_len, on_neg, on_conv, on_max, on_min, on_snoc, on_cat, on_cons, on_make, on_copy, on_plus, on_minus, on_cell, on_sel, on_slice, on_set, on_put, on_cmp, on_ar, ev_lss, ev_leq, ev_gtr, ev_geq, ev_eql, ev_neq, ar_add, ar_sub, ar_mul, ar_quo, ar_rem, pi_int, b_bool, r_row, c_cells, rowOf_r, List.map_cons, List.map_nil, List.cons_append, List.nil_append, List.getD_cons_zero, List.getD_cons_succ, List.getElem?_cons_zero, List.getElem?_cons_succ, List.take_zero, List.take_succ_cons, List.length_map, Int.toNat_natCast, decide_eq_true_eq, Int.ofNat_lt, Int.ofNat_le, xnat_nonneg, true_and, and_true, if_true, if_false, reduceIte, wrap_in, xints_at, xbools_at, xints_set, xints_snoc, xints_make, xints_nil, xbools_set, xbools_snoc, xbools_make, xcopy_make, List.length_replicate, List.length_cons, List.length_nil, Nat.reduceAdd]
      first | exact h6 | exact ⟨by omega, h6⟩
    · have h6 := hj6 (sum + l[i].base) (by rw [if_neg hgt]; omega)
      have hgt' : ¬ (i : Int) > fm := by omega
      first | rw [br_neg hgt'] | rw [br_neg hgt]
      try simp (disch := first | omega | (simp only [List.length_set, List.length_map, List.length_replicate, List.length_append, List.length_modify]; omega)) only [xrun_ret, run_ite, run_fail, run_letj, xrun_loop, run_jump, xrun_call, jmp_join, jmp_loop, br_fail, br_true, br_false, xden_var, den_int, den_bool, den_str, den_nil, den_nilc, den_un, den_bin, den_tri, xon_and, xon_or, on_beq, xon_not, on_len, on_neg, on_conv, on_max, on_min, on_snoc, on_cat, on_cons, on_make, on_copy, on_plus, on_minus, on_cell, on_sel, on_slice, on_set, on_put, on_cmp, on_ar, ev_lss, ev_leq, ev_gtr, ev_geq, ev_eql, ev_neq, ar_add, ar_sub, ar_mul, ar_quo, ar_rem, pi_int, b_bool, r_row, c_cells, rowOf_r, List.map_cons, List.map_nil, List.cons_append, List.nil_append, List.getD_cons_zero, List.getD_cons_succ, List.getElem?_cons_zero, List.getElem?_cons_succ, List.take_zero, List.take_succ_cons, List.length_map, Int.toNat_natCast, decide_eq_true_eq, Int.ofNat_lt, Int.ofNat_le, xnat_nonneg, true_and, and_true, if_true, if_false, reduceIte, wrap_in, xints_at, xbools_at, xints_set, xints_snoc, xints_make, xints_nil, xbools_set, xbools_snoc, xbools_make, xcopy_make, List.length_replicate, List.length_cons, List.length_nil, Nat.reduceAdd]
      first | exact h6 | exact ⟨by omega, h6⟩
  · obtain rfl : i = to := by omega
    rw [Nat.sub_self, List.take_zero, List.take_zero] at hcond
    simp only [sumQ, flxB, smlB, List.any_nil, Bool.or_false, Int.add_zero] at hcond
    rw [u_law26_FlexGrows_l4]
    have hnn : ¬ (i : Int) < i := by omega
    simp (disch := first | omega | (simp only [List.length_set, List.length_map, List.length_replicate, List.length_append, List.length_modify]; omega)) only [xrun_ret, run_ite, run_fail, run_letj, xrun_loop, run_jump, xrun_call, jmp_join, jmp_loop, br_fail, br_true, br_false, xden_var, den_int, den_bool, den_str, den_nil, den_nilc, den_un, den_bin, den_tri, xon_and, xon_or, on_beq, xon_not, on_len, on_neg, on_conv, on_max, on_min, on_snoc, on_cat, on_cons, on_make, on_copy, on_plus, on_minus, on_cell, on_sel, on_slice, on_set, on_put, on_cmp, on_ar, ev_lss, ev_leq, ev_gtr, ev_geq, ev_eql, ev_neq, ar_add, ar_sub, ar_mul, ar_quo, ar_rem, pi_int, b_bool, r_row, c_cells, rowOf_r, List.map_cons, List.map_nil, List.cons_append, List.nil_append, List.getD_cons_zero, List.getD_cons_succ, List.getElem?_cons_zero, List.getElem?_cons_succ, List.take_zero, List.take_succ_cons, List.length_map, Int.toNat_natCast, decide_eq_true_eq, Int.ofNat_lt, Int.ofNat_le, xnat_nonneg, true_and, and_true, if_true, if_false, reduceIte, wrap_in, xints_at, xbools_at, xints_set, xints_snoc, xints_make, xints_nil, xbools_set, xbools_snoc, xbools_make, xcopy_make, List.length_replicate, List.length_cons, List.length_nil, Nat.reduceAdd, hk, hto, hfm, hnn, wn_at0 _ _ hk, wn_at1 _ _ hk, wn_at4 _ _ hk, Bool.not_and, Bool.not_or, Bool.not_not, Bool.and_eq_true, Bool.or_eq_true, Bool.not_eq_true', Bool.and_eq_false_imp, Bool.or_eq_false_iff, decide_eq_false_iff_not, decide_eq_true_eq, beq_iff_eq, beq_eq_false_iff_ne, bne_iff_ne, bne_eq_false_iff_eq, ne_eq, gt_iff_lt, ge_iff_le, Bool.false_eq_true, Bool.true_eq_false, beq_self_eq_true, beq_true, beq_false, Bool.not_false, Bool.not_true, Bool.false_and, Bool.true_and, Bool.and_true, Bool.and_false, Bool.or_true, Bool.true_or, Bool.or_false, Bool.false_or, false_and, true_and, and_false, and_true, or_false, or_true, false_or, true_or, not_true_eq_false, not_false_eq_true, false_iff, iff_false, true_iff, iff_true, forall_const, false_imp_iff, true_imp_iff, reduceCtorEq, imp_false]
    rw [br_neg (by
      intro hh
      apply hcond
      try simp only [Bool.not_eq_true] at hh
      first | exact hh | (refine ⟨hh.1, ?_⟩; have := hh.2; omega))]
    first | exact hr | exact ⟨by omega, hr⟩
/-- What each want finds. -/
def WantOk (l : List Sz) (a : List Int) (w : Wn) : Prop :=
  ¬ (((flxB ((l.drop w.fm.toNat).take (w.to.toNat - w.fm.toNat)) = true ∧ smlB ((l.drop w.fm.toNat).take (w.to.toNat - w.fm.toNat)) = false) ∧ w.mx < 1073741824) ∧ sumQ w.fm.toNat w.fm.toNat ((l.drop w.fm.toNat).take (w.to.toNat - w.fm.toNat)) ((a.drop w.fm.toNat).take (w.to.toNat - w.fm.toNat)) + (w.to - w.fm) < w.mx)
theorem g3_law (s l : List Sz) (a : List Int) (ws : List Wn) (p3 p4 p6 : PV) (J0 J1 : JT) (hal : a.length = l.length) (hl : l.length ≤ 60) (hwl : ws.length ≤ 60)
    (hbs : ∀ (i : Nat) (h' : i < l.length), 0 ≤ l[i].base ∧ l[i].base ≤ 68719476736) (ha : a.all lenB = true) (hw : ws.all (wOk l.length) = true) (hok : ∀ w ∈ ws, WantOk l a w) :
    ∀ k, k ≤ ws.length → Run tr law26_FlexGrows_l3 [rowOf eSz s, ints a, rowOf eWn ws, p3, p4, rowOf eSz l, p6, I k] [J0, J1, .loop law26_FlexGrows_l3 [rowOf eSz s, ints a, rowOf eWn ws, p3, p4, rowOf eSz l, p6]] [B true] := by
  refine xup_ind fun k hk ih => ?_
  by_cases h : k < ws.length
  · have ho := List.all_eq_true.1 hw _ (List.getElem_mem h)
    simp only [wOk, lenB, Bool.and_eq_true, Bool.not_eq_true', decide_eq_false_iff_not, decide_eq_true_eq] at ho
    obtain ⟨hq, -, -, hmx⟩ := ho
    obtain ⟨fm, hfm⟩ : ∃ fm : Nat, ws[k].fm = fm := ⟨ws[k].fm.toNat, by omega⟩
    obtain ⟨to, hto⟩ : ∃ to : Nat, ws[k].to = to := ⟨ws[k].to.toNat, by omega⟩
    have hc := hok _ (List.getElem_mem h)
    unfold WantOk at hc
    rw [hfm, hto, Int.toNat_natCast, Int.toNat_natCast] at hc
    have h4 := g4_law s l a ws p3 p4 p6 k fm to J0 J1 [B true] h hfm hto (by omega) hal hl (by omega) (by omega) hbs ha (ih h) fm (by omega) (Nat.le_refl _) false false 0 (by omega) (by simpa using hc)
    rw [u_law26_FlexGrows_l3]
    simp (disch := first | omega | (simp only [List.length_set, List.length_map, List.length_replicate, List.length_append, List.length_modify]; omega)) only [xrun_ret, run_ite, run_fail, run_letj, xrun_loop, run_jump, xrun_call, jmp_join, jmp_loop, br_fail, br_true, br_false, xden_var, den_int, den_bool, den_str, den_nil, den_nilc, den_un, den_bin, den_tri, xon_and, xon_or, on_beq, xon_not, on_len, on_neg, on_conv, on_max, on_min, on_snoc, on_cat, on_cons, on_make, on_copy, on_plus, on_minus, on_cell, on_sel, on_slice, on_set, on_put, on_cmp, on_ar, ev_lss, ev_leq, ev_gtr, ev_geq, ev_eql, ev_neq, ar_add, ar_sub, ar_mul, ar_quo, ar_rem, pi_int, b_bool, r_row, c_cells, rowOf_r, List.map_cons, List.map_nil, List.cons_append, List.nil_append, List.getD_cons_zero, List.getD_cons_succ, List.getElem?_cons_zero, List.getElem?_cons_succ, List.take_zero, List.take_succ_cons, List.length_map, Int.toNat_natCast, decide_eq_true_eq, Int.ofNat_lt, Int.ofNat_le, xnat_nonneg, true_and, and_true, if_true, if_false, reduceIte, wrap_in, xints_at, xbools_at, xints_set, xints_snoc, xints_make, xints_nil, xbools_set, xbools_snoc, xbools_make, xcopy_make, List.length_replicate, List.length_cons, List.length_nil, Nat.reduceAdd, h, wn_at0 _ _ h, hfm]
    first | exact h4 | exact ⟨by omega, h4⟩
  · rw [u_law26_FlexGrows_l3]
    simp (disch := first | omega | (simp only [List.length_set, List.length_map, List.length_replicate, List.length_append, List.length_modify]; omega)) only [xrun_ret, run_ite, run_fail, run_letj, xrun_loop, run_jump, xrun_call, jmp_join, jmp_loop, br_fail, br_true, br_false, xden_var, den_int, den_bool, den_str, den_nil, den_nilc, den_un, den_bin, den_tri, xon_and, xon_or, on_beq, xon_not, on_len, on_neg, on_conv, on_max, on_min, on_snoc, on_cat, on_cons, on_make, on_copy, on_plus, on_minus, on_cell, on_sel, on_slice, on_set, on_put, on_cmp, on_ar, ev_lss, ev_leq, ev_gtr, ev_geq, ev_eql, ev_neq, ar_add, ar_sub, ar_mul, ar_quo, ar_rem, pi_int, b_bool, r_row, c_cells, rowOf_r, List.map_cons, List.map_nil, List.cons_append, List.nil_append, List.getD_cons_zero, List.getD_cons_succ, List.getElem?_cons_zero, List.getElem?_cons_succ, List.take_zero, List.take_succ_cons, List.length_map, Int.toNat_natCast, decide_eq_true_eq, Int.ofNat_lt, Int.ofNat_le, xnat_nonneg, true_and, and_true, if_true, if_false, reduceIte, wrap_in, xints_at, xbools_at, xints_set, xints_snoc, xints_make, xints_nil, xbools_set, xbools_snoc, xbools_make, xcopy_make, List.length_replicate, List.length_cons, List.length_nil, Nat.reduceAdd, h, xcall_of lives_sp]
theorem g2_law (s l : List Sz) (a : List Int) (ws : List Wn) (p3 p4 : PV) (J0 : JT) (hlen : l.length = s.length) (hl : l.length ≤ 60)
    (hea : ∀ (i : Nat) (h : i < s.length) (h' : i < l.length), s[i].base ≤ l[i].base ∧ (l[i].mx ≠ 5 → l[i].base = s[i].base) ∧ l[i].base ≤ l[i].lim)
    (hr : Run tr law26_FlexGrows_l3 [rowOf eSz s, ints a, rowOf eWn ws, p3, p4, rowOf eSz l, I l.length, I 0] [J0, .loop law26_FlexGrows_l2 [rowOf eSz s, ints a, rowOf eWn ws, p3, p4, rowOf eSz l], .loop law26_FlexGrows_l3 [rowOf eSz s, ints a, rowOf eWn ws, p3, p4, rowOf eSz l, I l.length]] [B true]) :
    ∀ j, j ≤ l.length → Run tr law26_FlexGrows_l2 [rowOf eSz s, ints a, rowOf eWn ws, p3, p4, rowOf eSz l, I j] [J0, .loop law26_FlexGrows_l2 [rowOf eSz s, ints a, rowOf eWn ws, p3, p4, rowOf eSz l]] [B true] := by
  refine xup_ind fun j hj ih => ?_
  by_cases h : j < l.length
  · have hjs : j < s.length := by omega
    obtain ⟨c1, c2, c3⟩ := hea j hjs h
    have hbad : ¬ ((l[j].base < s[j].base ∨ ¬ l[j].mx = 5 ∧ ¬ l[j].base = s[j].base) ∨ l[j].lim < l[j].base) := by
      rintro ((hh | ⟨h1, h2⟩) | hh)
      · omega
      · exact h2 (c2 h1)
      · omega
    have hi := ih h
    rw [u_law26_FlexGrows_l2]
    simp (disch := first | omega | (simp only [List.length_set, List.length_map, List.length_replicate, List.length_append, List.length_modify]; omega)) only [xrun_ret, run_ite, run_fail, run_letj, xrun_loop, run_jump, xrun_call, jmp_join, jmp_loop, br_fail, br_true, br_false, xden_var, den_int, den_bool, den_str, den_nil, den_nilc, den_un, den_bin, den_tri, xon_and, xon_or, on_beq, xon_not, on_len, on_neg, on_conv, on_max, on_min, on_snoc, on_cat, on_cons, on_make, on_copy, on_plus, on_minus, on_cell, on_sel, on_slice, on_set, on_put, on_cmp, on_ar, ev_lss, ev_leq, ev_gtr, ev_geq, ev_eql, ev_neq, ar_add, ar_sub, ar_mul, ar_quo, ar_rem, pi_int, b_bool, r_row, c_cells, rowOf_r, List.map_cons, List.map_nil, List.cons_append, List.nil_append, List.getD_cons_zero, List.getD_cons_succ, List.getElem?_cons_zero, List.getElem?_cons_succ, List.take_zero, List.take_succ_cons, List.length_map, Int.toNat_natCast, decide_eq_true_eq, Int.ofNat_lt, Int.ofNat_le, xnat_nonneg, true_and, and_true, if_true, if_false, reduceIte, wrap_in, xints_at, xbools_at, xints_set, xints_snoc, xints_make, xints_nil, xbools_set, xbools_snoc, xbools_make, xcopy_make, List.length_replicate, List.length_cons, List.length_nil, Nat.reduceAdd, h, hjs, sz_at0, sz_at1, sz_at2, sz_at3, sz_at4, sz_at5, sz_at6, sz_snoc, sz_set, sz_put5, sz_put6, Bool.not_and, Bool.not_or, Bool.not_not, Bool.and_eq_true, Bool.or_eq_true, Bool.not_eq_true', Bool.and_eq_false_imp, Bool.or_eq_false_iff, decide_eq_false_iff_not, decide_eq_true_eq, beq_iff_eq, beq_eq_false_iff_ne, bne_iff_ne, bne_eq_false_iff_eq, ne_eq, gt_iff_lt, ge_iff_le, Bool.false_eq_true, Bool.true_eq_false, beq_self_eq_true, beq_true, beq_false, Bool.not_false, Bool.not_true, Bool.false_and, Bool.true_and, Bool.and_true, Bool.and_false, Bool.or_true, Bool.true_or, Bool.or_false, Bool.false_or, false_and, true_and, and_false, and_true, or_false, or_true, false_or, true_or, not_true_eq_false, not_false_eq_true, false_iff, iff_false, true_iff, iff_true, forall_const, false_imp_iff, true_imp_iff, reduceCtorEq, imp_false]
    rw [br_neg hbad]
    first | exact hi | exact ⟨by omega, hi⟩
  · obtain rfl : j = l.length := by omega
    rw [u_law26_FlexGrows_l2]
    simp (disch := first | omega | (simp only [List.length_set, List.length_map, List.length_replicate, List.length_append, List.length_modify]; omega)) only [xrun_ret, run_ite, run_fail, run_letj, xrun_loop, run_jump, xrun_call, jmp_join, jmp_loop, br_fail, br_true, br_false, xden_var, den_int, den_bool, den_str, den_nil, den_nilc, den_un, den_bin, den_tri, xon_and, xon_or, on_beq, xon_not, on_len, on_neg, on_conv, on_max, on_min, on_snoc, on_cat, on_cons, on_make, on_copy, on_plus, on_minus, on_cell, on_sel, on_slice, on_set, on_put, on_cmp, on_ar, ev_lss, ev_leq, ev_gtr, ev_geq, ev_eql, ev_neq, ar_add, ar_sub, ar_mul, ar_quo, ar_rem, pi_int, b_bool, r_row, c_cells, rowOf_r, List.map_cons, List.map_nil, List.cons_append, List.nil_append, List.getD_cons_zero, List.getD_cons_succ, List.getElem?_cons_zero, List.getElem?_cons_succ, List.take_zero, List.take_succ_cons, List.length_map, Int.toNat_natCast, decide_eq_true_eq, Int.ofNat_lt, Int.ofNat_le, xnat_nonneg, true_and, and_true, if_true, if_false, reduceIte, wrap_in, xints_at, xbools_at, xints_set, xints_snoc, xints_make, xints_nil, xbools_set, xbools_snoc, xbools_make, xcopy_make, List.length_replicate, List.length_cons, List.length_nil, Nat.reduceAdd, h]
    first | exact hr | exact ⟨by omega, hr⟩
theorem g1_law (s : List Sz) (a : List Int) (ws : List Wn) (hl : s.length ≤ 60) (hgd : ∀ x ∈ s, Gd x)
    (hgo : (∀ x ∈ s, x.base ≤ 1073741824) → Run tr law26_FlexGrows_l1 [rowOf eSz s, ints a, rowOf eWn ws, B false, I s.length] [.loop law26_FlexGrows_l1 [rowOf eSz s, ints a, rowOf eWn ws, B false]] [B true]) :
    ∀ j, j ≤ s.length → (∀ x ∈ s.take j, x.base ≤ 1073741824) → Run tr law26_FlexGrows_l1 [rowOf eSz s, ints a, rowOf eWn ws, B false, I j] [.loop law26_FlexGrows_l1 [rowOf eSz s, ints a, rowOf eWn ws, B false]] [B true] := by
  refine xup_ind fun j hj ih => ?_
  intro hall
  by_cases h : j < s.length
  · rw [u_law26_FlexGrows_l1]
    simp (disch := first | omega | (simp only [List.length_set, List.length_map, List.length_replicate, List.length_append, List.length_modify]; omega)) only [xrun_ret, run_ite, run_fail, run_letj, xrun_loop, run_jump, xrun_call, jmp_join, jmp_loop, br_fail, br_true, br_false, xden_var, den_int, den_bool, den_str, den_nil, den_nilc, den_un, den_bin, den_tri, xon_and, xon_or, on_beq, xon_not, on_len, on_neg, on_conv, on_max, on_min, on_snoc, on_cat, on_cons, on_make, on_copy, on_plus, on_minus, on_cell, on_sel, on_slice, on_set, on_put, on_cmp, on_ar, ev_lss, ev_leq, ev_gtr, ev_geq, ev_eql, ev_neq, ar_add, ar_sub, ar_mul, ar_quo, ar_rem, pi_int, b_bool, r_row, c_cells, rowOf_r, List.map_cons, List.map_nil, List.cons_append, List.nil_append, List.getD_cons_zero, List.getD_cons_succ, List.getElem?_cons_zero, List.getElem?_cons_succ, List.take_zero, List.take_succ_cons, List.length_map, Int.toNat_natCast, decide_eq_true_eq, Int.ofNat_lt, Int.ofNat_le, xnat_nonneg, true_and, and_true, if_true, if_false, reduceIte, wrap_in, xints_at, xbools_at, xints_set, xints_snoc, xints_make, xints_nil, xbools_set, xbools_snoc, xbools_make, xcopy_make, List.length_replicate, List.length_cons, List.length_nil, Nat.reduceAdd, h, sz_at0, sz_at1, sz_at2, sz_at3, sz_at4, sz_at5, sz_at6, sz_snoc, sz_set, sz_put5, sz_put6, Bool.not_and, Bool.not_or, Bool.not_not, Bool.and_eq_true, Bool.or_eq_true, Bool.not_eq_true', Bool.and_eq_false_imp, Bool.or_eq_false_iff, decide_eq_false_iff_not, decide_eq_true_eq, beq_iff_eq, beq_eq_false_iff_ne, bne_iff_ne, bne_eq_false_iff_eq, ne_eq, gt_iff_lt, ge_iff_le, Bool.false_eq_true, Bool.true_eq_false, beq_self_eq_true, beq_true, beq_false, Bool.not_false, Bool.not_true, Bool.false_and, Bool.true_and, Bool.and_true, Bool.and_false, Bool.or_true, Bool.true_or, Bool.or_false, Bool.false_or, false_and, true_and, and_false, and_true, or_false, or_true, false_or, true_or, not_true_eq_false, not_false_eq_true, false_iff, iff_false, true_iff, iff_true, forall_const, false_imp_iff, true_imp_iff, reduceCtorEq, imp_false, xcall_of lives_sp]
    by_cases hc : s[j].base > 1073741824
    · rw [br_pos hc]
      trivial
    · rw [br_neg hc]
      have hi := ih h (by
        rw [← List.take_append_getElem h]
        intro x hx
        rcases List.mem_append.1 hx with hx | hx
        · exact hall x hx
        · rw [List.mem_singleton.1 hx]
          omega)
      first | exact hi | exact ⟨by omega, hi⟩
  · obtain rfl : j = s.length := by omega
    rw [List.take_length] at hall
    exact hgo hall
theorem want_ok (s : List Sz) (a : List Int) (ws : List Wn) (unit : Int) (w : Wn) (hs : s.all okF = true) (ha : a.all lenB = true) (hal : a.length = s.length) (hl : s.length ≤ 60) (hu : 0 ≤ unit ∧ unit ≤ 68719476736) (ho : wOk s.length w = true) (hun : u3W s a w ≤ unit) : WantOk (growU unit s) a w := by
  simp only [wOk, lenB, Bool.and_eq_true, Bool.not_eq_true', decide_eq_false_iff_not, decide_eq_true_eq] at ho
  obtain ⟨hq, -, -, hmx⟩ := ho
  obtain ⟨fm, hfm⟩ : ∃ fm : Nat, w.fm = fm := ⟨w.fm.toNat, by omega⟩
  obtain ⟨to, hto⟩ : ∃ to : Nat, w.to = to := ⟨w.to.toNat, by omega⟩
  unfold WantOk
  unfold u3W at hun
  have e1 : ((to : Int) - fm).toNat = to - fm := by omega
  have e2 : ((fm : Int) + 1).toNat = fm + 1 := by omega
  have e3 : ((to : Int) - (fm + 1)).toNat = to - (fm + 1) := by omega
  rw [hfm, hto, Int.toNat_natCast, e1, e2, e3] at hun
  rw [hfm, hto, Int.toNat_natCast, Int.toNat_natCast]
  have hsl : (((growU unit s).drop fm).take (to - fm)) = growU unit ((s.drop fm).take (to - fm)) := by
    simp only [growU, List.map_take, List.map_drop]
  rw [hsl]
  rintro ⟨⟨⟨h1, h2⟩, h3⟩, h4⟩
  have hfa : fm < a.length := by omega
  have ea : (a.drop fm).take (to - fm) = a[fm] :: (a.drop (fm + 1)).take (to - (fm + 1)) := by
    rw [List.drop_eq_getElem_cons hfa, show to - fm = (to - (fm + 1)) + 1 by omega, List.take_succ_cons]
  have hall : ((a.drop (fm + 1)).take (to - (fm + 1))).all lenB = true := by
    rw [List.all_eq_true] at ha ⊢
    intro x hx
    exact ha x (List.mem_of_mem_drop (List.mem_of_mem_take hx))
  have hlen : ((s.drop fm).take (to - fm)).length = to - fm := by simp; omega
  have hlena : ((a.drop (fm + 1)).take (to - (fm + 1))).length = to - (fm + 1) := by simp; omega
  have hsall : ((s.drop fm).take (to - fm)).all okF = true := by
    rw [List.all_eq_true] at hs ⊢
    intro x hx
    exact hs x (List.mem_of_mem_drop (List.mem_of_mem_take hx))
  rw [ea] at h4
  generalize (a.drop (fm + 1)).take (to - (fm + 1)) = A at hun hall hlena h4
  generalize (s.drop fm).take (to - fm) = S at hun hlen hsall h1 h2 h4
  have hsp := lessS_in A w.mx hall hmx.1 hmx.2
  have hspe := lessS_eq A w.mx hall hmx.1
  have hany : flxB (growU unit S) = flxB S := by
    simp only [flxB, growU, List.any_map]
    rfl
  have hsm : smlB (growU unit S) = smlB S := by
    simp only [smlB, growU, List.any_map]
    rfl
  rw [hany] at h1
  rw [hsm] at h2
  simp only [flxB, List.any_eq_true, decide_eq_true_eq] at h1
  have hf : ∀ x ∈ S, x.mx = 5 → 1000 ≤ x.fr := by
    intro x hx hm
    apply Classical.byContradiction
    intro hh
    have : smlB S = true := by
      simp only [smlB, List.any_eq_true, Bool.and_eq_true, decide_eq_true_eq]
      exact ⟨x, hx, hm, by omega⟩
    rw [h2] at this
    cases this
  have hw := want_there S (lessS w.mx A) unit hsall hsp hf h1 (by omega) hu hun
  cases S with
  | nil => simp at hlen; omega
  | cons x S =>
    have e5 : growU unit (x :: S) = raiseS x (gU unit x) :: growU unit S := rfl
    have hgl : (growU unit S).length = S.length := by simp [growU]
    simp only [List.length_cons] at hlen
    rw [e5] at hw h4
    simp only [sumQ, sumB, Nat.lt_irrefl, if_false, List.length_cons] at hw h4
    rw [sumQ_all fm _ _ (fm + 1) (by omega) (by omega)] at h4
    omega
theorem PureFlexGrows : Pure_FlexGrows := by
  intro p0 p1 p2 hp0 _ hb0 hp1 hw1 hb1 hp2 hw2 hb2
  obtain ⟨s, rfl⟩ := sz_open hp0
  obtain ⟨a, rfl⟩ := ints_open hp1
  obtain ⟨ws, rfl⟩ := wn_open hp2
  refine Says.told (tr := tr) (f := c_law26_FlexGrows) (args := [rowOf eSz s, ints a, rowOf eWn ws]) ?_
  refine Says.of (t := law26_FlexGrows) rfl ?_
  have hbad : Run tr law26_FlexGrows_j0 [rowOf eSz s, ints a, rowOf eWn ws, B true] [] [B true] := by
    rw [u_law26_FlexGrows_j0]
    simp (disch := first | omega | (simp only [List.length_set, List.length_map, List.length_replicate, List.length_append, List.length_modify]; omega)) only [xrun_ret, run_ite, run_fail, run_letj, xrun_loop, run_jump, xrun_call, jmp_join, jmp_loop, br_fail, br_true, br_false, xden_var, den_int, den_bool, den_str, den_nil, den_nilc, den_un, den_bin, den_tri, xon_and, xon_or, on_beq, xon_not, on_len, on_neg, on_conv, on_max, on_min, on_snoc, on_cat, on_cons, on_make, on_copy, on_plus, on_minus, on_cell, on_sel, on_slice, on_set, on_put, on_cmp, on_ar, ev_lss, ev_leq, ev_gtr, ev_geq, ev_eql, ev_neq, ar_add, ar_sub, ar_mul, ar_quo, ar_rem, pi_int, b_bool, r_row, c_cells, rowOf_r, List.map_cons, List.map_nil, List.cons_append, List.nil_append, List.getD_cons_zero, List.getD_cons_succ, List.getElem?_cons_zero, List.getElem?_cons_succ, List.take_zero, List.take_succ_cons, List.length_map, Int.toNat_natCast, decide_eq_true_eq, Int.ofNat_lt, Int.ofNat_le, xnat_nonneg, true_and, and_true, if_true, if_false, reduceIte, wrap_in, xints_at, xbools_at, xints_set, xints_snoc, xints_make, xints_nil, xbools_set, xbools_snoc, xbools_make, xcopy_make, List.length_replicate, List.length_cons, List.length_nil, Nat.reduceAdd, xcall_of lives_sp]
  rw [u_law26_FlexGrows]
  simp (disch := first | omega | (simp only [List.length_set, List.length_map, List.length_replicate, List.length_append, List.length_modify]; omega)) only [xrun_ret, run_ite, run_fail, run_letj, xrun_loop, run_jump, xrun_call, jmp_join, jmp_loop, br_fail, br_true, br_false, xden_var, den_int, den_bool, den_str, den_nil, den_nilc, den_un, den_bin, den_tri, xon_and, xon_or, on_beq, xon_not, on_len, on_neg, on_conv, on_max, on_min, on_snoc, on_cat, on_cons, on_make, on_copy, on_plus, on_minus, on_cell, on_sel, on_slice, on_set, on_put, on_cmp, on_ar, ev_lss, ev_leq, ev_gtr, ev_geq, ev_eql, ev_neq, ar_add, ar_sub, ar_mul, ar_quo, ar_rem, pi_int, b_bool, r_row, c_cells, rowOf_r, List.map_cons, List.map_nil, List.cons_append, List.nil_append, List.getD_cons_zero, List.getD_cons_succ, List.getElem?_cons_zero, List.getElem?_cons_succ, List.take_zero, List.take_succ_cons, List.length_map, Int.toNat_natCast, decide_eq_true_eq, Int.ofNat_lt, Int.ofNat_le, xnat_nonneg, true_and, and_true, if_true, if_false, reduceIte, wrap_in, xints_at, xbools_at, xints_set, xints_snoc, xints_make, xints_nil, xbools_set, xbools_snoc, xbools_make, xcopy_make, List.length_replicate, List.length_cons, List.length_nil, Nat.reduceAdd, Bool.not_and, Bool.not_or, Bool.not_not, Bool.and_eq_true, Bool.or_eq_true, Bool.not_eq_true', Bool.and_eq_false_imp, Bool.or_eq_false_iff, decide_eq_false_iff_not, decide_eq_true_eq, beq_iff_eq, beq_eq_false_iff_ne, bne_iff_ne, bne_eq_false_iff_eq, ne_eq, gt_iff_lt, ge_iff_le, Bool.false_eq_true, Bool.true_eq_false, beq_self_eq_true, beq_true, beq_false, Bool.not_false, Bool.not_true, Bool.false_and, Bool.true_and, Bool.and_true, Bool.and_false, Bool.or_true, Bool.true_or, Bool.or_false, Bool.false_or, false_and, true_and, and_false, and_true, or_false, or_true, false_or, true_or, not_true_eq_false, not_false_eq_true, false_iff, iff_false, true_iff, iff_true, forall_const, false_imp_iff, true_imp_iff, reduceCtorEq, imp_false]
  by_cases hc : (s.length : Int) > 60 ∨ (ws.length : Int) > 60
  · rw [br_pos hc]
    exact hbad
  rw [br_neg hc]
  have h2 := wgood24_any s a ws 0 (by omega) (by omega)
  simp (disch := first | omega | (simp only [List.length_set, List.length_map, List.length_replicate, List.length_append, List.length_modify]; omega)) only [xrun_ret, run_ite, run_fail, run_letj, xrun_loop, run_jump, xrun_call, jmp_join, jmp_loop, br_fail, br_true, br_false, xden_var, den_int, den_bool, den_str, den_nil, den_nilc, den_un, den_bin, den_tri, xon_and, xon_or, on_beq, xon_not, on_len, on_neg, on_conv, on_max, on_min, on_snoc, on_cat, on_cons, on_make, on_copy, on_plus, on_minus, on_cell, on_sel, on_slice, on_set, on_put, on_cmp, on_ar, ev_lss, ev_leq, ev_gtr, ev_geq, ev_eql, ev_neq, ar_add, ar_sub, ar_mul, ar_quo, ar_rem, pi_int, b_bool, r_row, c_cells, rowOf_r, List.map_cons, List.map_nil, List.cons_append, List.nil_append, List.getD_cons_zero, List.getD_cons_succ, List.getElem?_cons_zero, List.getElem?_cons_succ, List.take_zero, List.take_succ_cons, List.length_map, Int.toNat_natCast, decide_eq_true_eq, Int.ofNat_lt, Int.ofNat_le, xnat_nonneg, true_and, and_true, if_true, if_false, reduceIte, wrap_in, xints_at, xbools_at, xints_set, xints_snoc, xints_make, xints_nil, xbools_set, xbools_snoc, xbools_make, xcopy_make, List.length_replicate, List.length_cons, List.length_nil, Nat.reduceAdd, xcall_of h2]
  cases hg : goodI s a ws 0 with
  | false =>
    simp only [Bool.not_false]
    exact hbad
  | true =>
    obtain ⟨e1, e2, e3, e4⟩ := goodI_in hg
    have hgd : ∀ x ∈ s, Gd x := by
      have := hg
      simp only [goodI, Bool.and_eq_true, List.all_eq_true, decide_eq_true_eq] at this
      exact this.1.1.2
    simp only [Bool.not_true]
    rw [u_law26_FlexGrows_j0]
    have h1 := g1_law s a ws (by omega) hgd (fun hb => by
      have hs : s.all okF = true := by
        rw [List.all_eq_true]
        intro x hx
        have g1 := hgd x hx
        have g2 := gd_in g1
        have g3 := hb x hx
        simp only [okF, isB, Bool.and_eq_true, decide_eq_true_eq]
        exact ⟨g1, by omega, by omega⟩
      have hr : rightB s 0 = true := by simp [rightB, hs]
      have hcall := fgrow_sp s a ws (by omega) (by omega) (by omega)
      have hu1 := u1S_le s 0 hs (Int.le_refl _) (by omega)
      obtain ⟨hu3, hu4⟩ := u3S_le s a (by omega) ws (u1S s 0) hu1.1 hu1.2
      unfold growR at hcall
      rw [if_pos (by rw [hr, hg]; rfl)] at hcall
      generalize u3S s a ws (u1S s 0) = unit at hcall hu3 hu4
      have hwo : ∀ w ∈ ws, WantOk (growU unit s) a w := fun w hw => want_ok s a ws unit w hs e3 e1 (by omega) (by omega) (List.all_eq_true.1 e4 w hw) (hu4 w hw)
      have hlen : (growU unit s).length = s.length := by simp [growU]
      have hea : ∀ (i : Nat) (h : i < s.length) (h' : i < (growU unit s).length), s[i].base ≤ (growU unit s)[i].base ∧ ((growU unit s)[i].mx ≠ 5 → (growU unit s)[i].base = s[i].base) ∧ (growU unit s)[i].base ≤ (growU unit s)[i].lim := fun i h h' => by
        have hok := okF_in (List.all_eq_true.1 hs _ (List.getElem_mem h))
        have hgu := gU_nn (unit := unit) (by omega) (List.all_eq_true.1 hs _ (List.getElem_mem h))
        simp only [growU, List.getElem_map, raiseS]
        refine ⟨by omega, fun hm => ?_, by omega⟩
        rw [hgu.2.2 hm]
        omega
      have hbs : ∀ (i : Nat) (h' : i < (growU unit s).length), 0 ≤ (growU unit s)[i].base ∧ (growU unit s)[i].base ≤ 68719476736 := fun i h' => by
        have h : i < s.length := by omega
        have hok := okF_in (List.all_eq_true.1 hs _ (List.getElem_mem h))
        have hgu := gU_nn (unit := unit) (by omega) (List.all_eq_true.1 hs _ (List.getElem_mem h))
        simp only [growU, List.getElem_map, raiseS]
        omega
      have hn : ¬ s.length < s.length := by omega
      have k3 := g3_law s (growU unit s) a ws (B false) (I s.length) (I (growU unit s).length) (.loop law26_FlexGrows_l1 [rowOf eSz s, ints a, rowOf eWn ws, B false]) (.loop law26_FlexGrows_l2 [rowOf eSz s, ints a, rowOf eWn ws, B false, I s.length, rowOf eSz (growU unit s)]) (by omega) (by omega) (by omega) hbs e3 (by rw [hlen]; exact e4) hwo 0 (Nat.zero_le _)
      have k2 := g2_law s (growU unit s) a ws (B false) (I s.length) (.loop law26_FlexGrows_l1 [rowOf eSz s, ints a, rowOf eWn ws, B false]) hlen (by omega) hea k3 0 (Nat.zero_le _)
      rw [u_law26_FlexGrows_l1]
      simp (disch := first | omega | (simp only [List.length_set, List.length_map, List.length_replicate, List.length_append, List.length_modify]; omega)) only [xrun_ret, run_ite, run_fail, run_letj, xrun_loop, run_jump, xrun_call, jmp_join, jmp_loop, br_fail, br_true, br_false, xden_var, den_int, den_bool, den_str, den_nil, den_nilc, den_un, den_bin, den_tri, xon_and, xon_or, on_beq, xon_not, on_len, on_neg, on_conv, on_max, on_min, on_snoc, on_cat, on_cons, on_make, on_copy, on_plus, on_minus, on_cell, on_sel, on_slice, on_set, on_put, on_cmp, on_ar, ev_lss, ev_leq, ev_gtr, ev_geq, ev_eql, ev_neq, ar_add, ar_sub, ar_mul, ar_quo, ar_rem, pi_int, b_bool, r_row, c_cells, rowOf_r, List.map_cons, List.map_nil, List.cons_append, List.nil_append, List.getD_cons_zero, List.getD_cons_succ, List.getElem?_cons_zero, List.getElem?_cons_succ, List.take_zero, List.take_succ_cons, List.length_map, Int.toNat_natCast, decide_eq_true_eq, Int.ofNat_lt, Int.ofNat_le, xnat_nonneg, true_and, and_true, if_true, if_false, reduceIte, wrap_in, xints_at, xbools_at, xints_set, xints_snoc, xints_make, xints_nil, xbools_set, xbools_snoc, xbools_make, xcopy_make, List.length_replicate, List.length_cons, List.length_nil, Nat.reduceAdd, hn, xcall_of hcall, Bool.not_and, Bool.not_or, Bool.not_not, Bool.and_eq_true, Bool.or_eq_true, Bool.not_eq_true', Bool.and_eq_false_imp, Bool.or_eq_false_iff, decide_eq_false_iff_not, decide_eq_true_eq, beq_iff_eq, beq_eq_false_iff_ne, bne_iff_ne, bne_eq_false_iff_eq, ne_eq, gt_iff_lt, ge_iff_le, Bool.false_eq_true, Bool.true_eq_false, beq_self_eq_true, beq_true, beq_false, Bool.not_false, Bool.not_true, Bool.false_and, Bool.true_and, Bool.and_true, Bool.and_false, Bool.or_true, Bool.true_or, Bool.or_false, Bool.false_or, false_and, true_and, and_false, and_true, or_false, or_true, false_or, true_or, not_true_eq_false, not_false_eq_true, false_iff, iff_false, true_iff, iff_true, forall_const, false_imp_iff, true_imp_iff, reduceCtorEq, imp_false]
      rw [br_neg (by omega)]
      exact k2) 0 (Nat.zero_le _) (by simp)
    simp (disch := first | omega | (simp only [List.length_set, List.length_map, List.length_replicate, List.length_append, List.length_modify]; omega)) only [xrun_ret, run_ite, run_fail, run_letj, xrun_loop, run_jump, xrun_call, jmp_join, jmp_loop, br_fail, br_true, br_false, xden_var, den_int, den_bool, den_str, den_nil, den_nilc, den_un, den_bin, den_tri, xon_and, xon_or, on_beq, xon_not, on_len, on_neg, on_conv, on_max, on_min, on_snoc, on_cat, on_cons, on_make, on_copy, on_plus, on_minus, on_cell, on_sel, on_slice, on_set, on_put, on_cmp, on_ar, ev_lss, ev_leq, ev_gtr, ev_geq, ev_eql, ev_neq, ar_add, ar_sub, ar_mul, ar_quo, ar_rem, pi_int, b_bool, r_row, c_cells, rowOf_r, List.map_cons, List.map_nil, List.cons_append, List.nil_append, List.getD_cons_zero, List.getD_cons_succ, List.getElem?_cons_zero, List.getElem?_cons_succ, List.take_zero, List.take_succ_cons, List.length_map, Int.toNat_natCast, decide_eq_true_eq, Int.ofNat_lt, Int.ofNat_le, xnat_nonneg, true_and, and_true, if_true, if_false, reduceIte, wrap_in, xints_at, xbools_at, xints_set, xints_snoc, xints_make, xints_nil, xbools_set, xbools_snoc, xbools_make, xcopy_make, List.length_replicate, List.length_cons, List.length_nil, Nat.reduceAdd, Bool.false_eq_true]
    try rw [br_neg (by simp)]
    exact h1
end Go.Proofs.Ytpaabecgngbjcaa
