/- The plain law of MaximiseWhole: what the trees come to answers as the statement says. No condition. -/
import Derived.Test.YtolgoenpckiggaaT
import Derived.Test.YtolgoenpckiggaaKlaw25
import Derived.Test.YtolgoenpckiggaaKstr
set_option linter.unusedVariables false
set_option linter.unusedSimpArgs false
namespace Go.Proofs.Ytolgoenpckiggaa
open Go Go.Proofs.Ytolgoenpckiggaa.Sx Go.Proofs.Ytolgoenpckiggaa.M Go.Proofs.Ytolgoenpckiggaa.T
theorem tot_zeros : ∀ n : Nat, tot (List.replicate n 0) = 0
  | 0 => rfl
  | n + 1 => by rw [List.replicate_succ]; simp only [tot, tot_zeros n, Int.add_zero]
theorem got_tot (s : List Sz) (free : Int) (hm : s.length ≤ 300) (h0 : 0 ≤ free) : tot (gotS s free) = if anyB (autoL s) = true then free else 0 := by
  have hil := idx_le (autoL s)
  have hal : (autoL s).length = s.length := by simp [autoL]
  unfold gotS
  by_cases h : anyB (autoL s) = true
  · have hp := (idx_pos (autoL s)).mp h
    have hsp := split_tot (n := free) (p := (idx (autoL s)).length) h0 (by omega) (by omega)
    rw [if_pos h, tot_addp _ _ _ (by simp [hal]) hsp.1, tot_zeros, hsp.2]
    omega
  · have hp : (idx (autoL s)).length = 0 := Nat.le_zero.mp (Nat.not_lt.mp (fun hh => h ((idx_pos (autoL s)).mpr hh)))
    have e : splitS free ((idx (autoL s)).length : Int) = [] := by
      unfold splitS
      rw [if_pos (by omega)]
    rw [if_neg h, e, addp_nil, tot_zeros]
theorem got_not (s : List Sz) (free : Int) (i : Nat) (h : i < s.length) (h1 : i < (gotS s free).length) : 0 ≤ (gotS s free)[i] ∧ (s[i].mx ≠ 2 → (gotS s free)[i] = 0) := by
  have := addp_in (List.replicate s.length 0) (autoL s) (splitS free (idx (autoL s)).length) i (by simpa [gotS] using h1) (by simpa using h) (by simpa [autoL] using h) (fun y hy => (splitS_in y hy).1)
  rw [List.getElem_replicate] at this
  exact ⟨this.1, fun hn => this.2 (by simpa [autoL] using hn)⟩
theorem full_base (x : Sz) : (full1 x).base = x.lim ∨ x.lim = 1125899906842624 := by
  unfold full1
  split
  · right; assumption
  · left; rfl
theorem PureMaximiseWhole : Pure_MaximiseWhole := by
  intro p0 p1 hp0 _ hb0 hp1 hw1
  obtain ⟨s, rfl⟩ := sz_open hp0
  obtain ⟨free, rfl⟩ := int_open hp1
  rw [rowOf_len] at hb0
  refine Says.told (tr := tr) (f := c_law25_MaximiseWhole) (args := [rowOf eSz s, I free]) ?_
  refine Says.of (t := law25_MaximiseWhole) rfl ?_
  rw [u_law25_MaximiseWhole]
  simp (disch := first | omega | (simp only [List.length_set, List.length_map, List.length_replicate, List.length_append, List.length_modify]; omega)) only [xrun_ret, run_ite, run_fail, run_letj, xrun_loop, run_jump, xrun_call, jmp_join, jmp_loop, br_fail, br_true, br_false, xden_var, den_int, den_bool, den_str, den_nil, den_nilc, den_un, den_bin, den_tri, xon_and, xon_or, on_beq, xon_not, on_len, on_neg, on_conv, on_max, on_min, on_snoc, on_cat, on_cons, on_make, on_copy, on_plus, on_minus, on_cell, on_sel, on_slice, on_set, on_put, on_cmp, on_ar, ev_lss, ev_leq, ev_gtr, ev_geq, ev_eql, ev_neq, ar_add, ar_sub, ar_mul, ar_quo, ar_rem, pi_int, b_bool, r_row, c_cells, rowOf_r, List.map_cons, List.map_nil, List.cons_append, List.nil_append, List.getD_cons_zero, List.getD_cons_succ, List.getElem?_cons_zero, List.getElem?_cons_succ, List.take_zero, List.take_succ_cons, List.length_map, Int.toNat_natCast, decide_eq_true_eq, Int.ofNat_lt, Int.ofNat_le, xnat_nonneg, true_and, and_true, if_true, if_false, reduceIte, wrap_in, xints_at, xbools_at, xints_set, xints_snoc, xints_make, xints_nil, xbools_set, xbools_snoc, xbools_make, xcopy_make, List.length_replicate, List.length_cons, List.length_nil, Nat.reduceAdd, u_law25_MaximiseWhole_j0, xcall_of lives_sp, Bool.not_and, Bool.not_or, Bool.not_not, Bool.and_eq_true, Bool.or_eq_true, Bool.not_eq_true', Bool.and_eq_false_imp, Bool.or_eq_false_iff, decide_eq_false_iff_not, decide_eq_true_eq, beq_iff_eq, beq_eq_false_iff_ne, bne_iff_ne, bne_eq_false_iff_eq, ne_eq, gt_iff_lt, ge_iff_le, Bool.false_eq_true, Bool.true_eq_false, beq_self_eq_true, beq_true, beq_false, Bool.not_false, Bool.not_true, Bool.false_and, Bool.true_and, Bool.and_true, Bool.and_false, Bool.or_true, Bool.true_or, Bool.or_false, Bool.false_or, false_and, true_and, and_false, and_true, or_false, or_true, false_or, true_or, not_true_eq_false, not_false_eq_true, false_iff, iff_false, true_iff, iff_true, forall_const, false_imp_iff, true_imp_iff, reduceCtorEq, imp_false]
  refine br_split ?_ ?_ <;> intro _
  · trivial
  rename_i hlen
  simp (disch := first | omega | (simp only [List.length_set, List.length_map, List.length_replicate, List.length_append, List.length_modify]; omega)) only [xrun_ret, run_ite, run_fail, run_letj, xrun_loop, run_jump, xrun_call, jmp_join, jmp_loop, br_fail, br_true, br_false, xden_var, den_int, den_bool, den_str, den_nil, den_nilc, den_un, den_bin, den_tri, xon_and, xon_or, on_beq, xon_not, on_len, on_neg, on_conv, on_max, on_min, on_snoc, on_cat, on_cons, on_make, on_copy, on_plus, on_minus, on_cell, on_sel, on_slice, on_set, on_put, on_cmp, on_ar, ev_lss, ev_leq, ev_gtr, ev_geq, ev_eql, ev_neq, ar_add, ar_sub, ar_mul, ar_quo, ar_rem, pi_int, b_bool, r_row, c_cells, rowOf_r, List.map_cons, List.map_nil, List.cons_append, List.nil_append, List.getD_cons_zero, List.getD_cons_succ, List.getElem?_cons_zero, List.getElem?_cons_succ, List.take_zero, List.take_succ_cons, List.length_map, Int.toNat_natCast, decide_eq_true_eq, Int.ofNat_lt, Int.ofNat_le, xnat_nonneg, true_and, and_true, if_true, if_false, reduceIte, wrap_in, xints_at, xbools_at, xints_set, xints_snoc, xints_make, xints_nil, xbools_set, xbools_snoc, xbools_make, xcopy_make, List.length_replicate, List.length_cons, List.length_nil, Nat.reduceAdd, xcall_of (rgoods_sp s (by omega)), u_law25_MaximiseWhole_j0, xcall_of lives_sp, Bool.not_and, Bool.not_or, Bool.not_not, Bool.and_eq_true, Bool.or_eq_true, Bool.not_eq_true', Bool.and_eq_false_imp, Bool.or_eq_false_iff, decide_eq_false_iff_not, decide_eq_true_eq, beq_iff_eq, beq_eq_false_iff_ne, bne_iff_ne, bne_eq_false_iff_eq, ne_eq, gt_iff_lt, ge_iff_le, Bool.false_eq_true, Bool.true_eq_false, beq_self_eq_true, beq_true, beq_false, Bool.not_false, Bool.not_true, Bool.false_and, Bool.true_and, Bool.and_true, Bool.and_false, Bool.or_true, Bool.true_or, Bool.or_false, Bool.false_or, false_and, true_and, and_false, and_true, or_false, or_true, false_or, true_or, not_true_eq_false, not_false_eq_true, false_iff, iff_false, true_iff, iff_true, forall_const, false_imp_iff, true_imp_iff, reduceCtorEq, imp_false]
  refine br_split ?_ ?_ <;> intro _
  · trivial
  rename_i hcond
  have hlen' : s.length ≤ 300 := by omega
  have hg : goodB s = true := by
    cases h : goodB s with
    | false => exact absurd (Or.inl (Or.inl h)) hcond
    | true => rfl
  have hs := (goodB_iff s).1 hg
  have h0 : 0 ≤ free := by omega
  have h1 : free ≤ 68719476736 := by omega
  have hst := stretch_ok s free (by omega) ⟨hs, h0, h1⟩
  have hfu := full_ok s (by omega) hs
  obtain ⟨hgl, hgb⟩ := got_in s free h0 h1
  have hsl := stret_length (s := s) hgl
  have hal : (autoL s).length = s.length := by simp [autoL]
  have hT := got_tot s free hlen' h0
  have htk : ∀ i (h : i < (gotS s free).length), tot ((gotS s free).take (i + 1)) = tot ((gotS s free).take i) + (gotS s free)[i] := by
    intro i hi
    rw [List.take_succ_eq_append_getElem hi, tot_append]
    simp [tot]
  have htk0 : ∀ i, 0 ≤ tot ((gotS s free).take i) ∧ tot ((gotS s free).take i) ≤ tot (gotS s free) := by
    intro i
    have h1 := tot_nonneg (l := (gotS s free).take i) (fun y hy => (hgb y (List.mem_of_mem_take hy)).1)
    have h2 := tot_nonneg (l := (gotS s free).drop i) (fun y hy => (hgb y (List.mem_of_mem_drop hy)).1)
    have h3 := tot_append ((gotS s free).take i) ((gotS s free).drop i)
    rw [List.take_append_drop] at h3
    omega
  have hTb : tot (gotS s free) ≤ 68719476736 := by rw [hT]; split <;> omega
  simp (disch := first | omega | (simp only [List.length_set, List.length_map, List.length_replicate, List.length_append, List.length_modify]; omega)) only [xrun_ret, run_ite, run_fail, run_letj, xrun_loop, run_jump, xrun_call, jmp_join, jmp_loop, br_fail, br_true, br_false, xden_var, den_int, den_bool, den_str, den_nil, den_nilc, den_un, den_bin, den_tri, xon_and, xon_or, on_beq, xon_not, on_len, on_neg, on_conv, on_max, on_min, on_snoc, on_cat, on_cons, on_make, on_copy, on_plus, on_minus, on_cell, on_sel, on_slice, on_set, on_put, on_cmp, on_ar, ev_lss, ev_leq, ev_gtr, ev_geq, ev_eql, ev_neq, ar_add, ar_sub, ar_mul, ar_quo, ar_rem, pi_int, b_bool, r_row, c_cells, rowOf_r, List.map_cons, List.map_nil, List.cons_append, List.nil_append, List.getD_cons_zero, List.getD_cons_succ, List.getElem?_cons_zero, List.getElem?_cons_succ, List.take_zero, List.take_succ_cons, List.length_map, Int.toNat_natCast, decide_eq_true_eq, Int.ofNat_lt, Int.ofNat_le, xnat_nonneg, true_and, and_true, if_true, if_false, reduceIte, wrap_in, xints_at, xbools_at, xints_set, xints_snoc, xints_make, xints_nil, xbools_set, xbools_snoc, xbools_make, xcopy_make, List.length_replicate, List.length_cons, List.length_nil, Nat.reduceAdd, xcall_of hst, xcall_of hfu, hsl, Bool.not_and, Bool.not_or, Bool.not_not, Bool.and_eq_true, Bool.or_eq_true, Bool.not_eq_true', Bool.and_eq_false_imp, Bool.or_eq_false_iff, decide_eq_false_iff_not, decide_eq_true_eq, beq_iff_eq, beq_eq_false_iff_ne, bne_iff_ne, bne_eq_false_iff_eq, ne_eq, gt_iff_lt, ge_iff_le, Bool.false_eq_true, Bool.true_eq_false, beq_self_eq_true, beq_true, beq_false, Bool.not_false, Bool.not_true, Bool.false_and, Bool.true_and, Bool.and_true, Bool.and_false, Bool.or_true, Bool.true_or, Bool.or_false, Bool.false_or, false_and, true_and, and_false, and_true, or_false, or_true, false_or, true_or, not_true_eq_false, not_false_eq_true, false_iff, iff_false, true_iff, iff_true, forall_const, false_imp_iff, true_imp_iff, reduceCtorEq, imp_false, or_self]
  have key := xup_ind (n := s.length) (P := fun i => Run tr law25_MaximiseWhole_l1 [rowOf eSz s, I free, B false, rowOf eSz (stret s (gotS s free)), rowOf eSz (s.map full1), I i, B (anyB ((autoL s).take i)), I (tot ((gotS s free).take i))] [.loop law25_MaximiseWhole_l1 [rowOf eSz s, I free, B false, rowOf eSz (stret s (gotS s free)), rowOf eSz (s.map full1)]] [B true]) ?_ 0 (Nat.zero_le _)
  · have hq : (PV.bool ((!goodB s || decide (free < 0)) || decide (68719476736 < free))) = B false := by
      simp [hg]; omega
    rw [hq]
    simpa [tot, anyB] using key
  intro i hi ih
  rw [u_law25_MaximiseWhole_l1]
  by_cases h : i < s.length
  · have hx := gd_in (hs s[i] (List.getElem_mem _))
    have hig : i < (gotS s free).length := by omega
    have hgn := got_not s free i h hig
    have e1 := htk i hig
    have e0 := htk0 (i + 1)
    have e00 := htk0 i
    have hf := full_base s[i]
    have hgi : (stret s (gotS s free))[i]'(by omega) = st1 s[i] (gotS s free)[i] := by simp [stret]
    have hfl : i < (s.map full1).length := by simpa using h
    have hfi : (s.map full1)[i] = full1 s[i] := by simp
    have hany : (anyB ((autoL s).take i) || (s[i].mx == 2)) = anyB ((autoL s).take (i + 1)) := by
      rw [List.take_succ_eq_append_getElem (by omega : i < (autoL s).length), Bool.eq_iff_iff]
      simp [anyB, autoL]
    obtain ⟨g, eg⟩ : ∃ g, (gotS s free)[i] = g := ⟨_, rfl⟩
    rw [eg] at hgi hgn e1
    have hst1 : (st1 s[i] g).mx = s[i].mx ∧ (st1 s[i] g).base = s[i].base + g := ⟨rfl, rfl⟩
    have e2 : s[i].base + g - s[i].base = g := by omega
    have hc1 : ¬ ((¬ s[i].mx = 2 ∧ ¬ s[i].base + g = s[i].base) ∨ (¬ (full1 s[i]).base = s[i].lim ∧ ¬ s[i].lim = 1125899906842624)) := by omega
    simp (disch := first | omega | (simp only [List.length_set, List.length_map, List.length_replicate, List.length_append, List.length_modify]; omega)) only [xrun_ret, run_ite, run_fail, run_letj, xrun_loop, run_jump, xrun_call, jmp_join, jmp_loop, br_fail, br_true, br_false, xden_var, den_int, den_bool, den_str, den_nil, den_nilc, den_un, den_bin, den_tri, xon_and, xon_or, on_beq, xon_not, on_len, on_neg, on_conv, on_max, on_min, on_snoc, on_cat, on_cons, on_make, on_copy, on_plus, on_minus, on_cell, on_sel, on_slice, on_set, on_put, on_cmp, on_ar, ev_lss, ev_leq, ev_gtr, ev_geq, ev_eql, ev_neq, ar_add, ar_sub, ar_mul, ar_quo, ar_rem, pi_int, b_bool, r_row, c_cells, rowOf_r, List.map_cons, List.map_nil, List.cons_append, List.nil_append, List.getD_cons_zero, List.getD_cons_succ, List.getElem?_cons_zero, List.getElem?_cons_succ, List.take_zero, List.take_succ_cons, List.length_map, Int.toNat_natCast, decide_eq_true_eq, Int.ofNat_lt, Int.ofNat_le, xnat_nonneg, true_and, and_true, if_true, if_false, reduceIte, wrap_in, xints_at, xbools_at, xints_set, xints_snoc, xints_make, xints_nil, xbools_set, xbools_snoc, xbools_make, xcopy_make, List.length_replicate, List.length_cons, List.length_nil, Nat.reduceAdd, h, hsl, sz_at0, sz_at1, sz_at2, sz_at3, sz_at4, sz_at5, sz_at6, sz_snoc, sz_set, sz_put5, sz_put6, hgi, hfl, hfi, hst1.1, hst1.2, Bool.not_and, Bool.not_or, Bool.not_not, Bool.and_eq_true, Bool.or_eq_true, Bool.not_eq_true', Bool.and_eq_false_imp, Bool.or_eq_false_iff, decide_eq_false_iff_not, decide_eq_true_eq, beq_iff_eq, beq_eq_false_iff_ne, bne_iff_ne, bne_eq_false_iff_eq, ne_eq, gt_iff_lt, ge_iff_le, Bool.false_eq_true, Bool.true_eq_false, beq_self_eq_true, beq_true, beq_false, Bool.not_false, Bool.not_true, Bool.false_and, Bool.true_and, Bool.and_true, Bool.and_false, Bool.or_true, Bool.true_or, Bool.or_false, Bool.false_or, false_and, true_and, and_false, and_true, or_false, or_true, false_or, true_or, not_true_eq_false, not_false_eq_true, false_iff, iff_false, true_iff, iff_true, forall_const, false_imp_iff, true_imp_iff, reduceCtorEq, imp_false, or_true, hc1, e2, ← e1, hany]
    exact ih h
  · have : i = s.length := by omega
    subst this
    rw [List.take_of_length_le (by omega), List.take_of_length_le (by omega)]
    simp (disch := first | omega | (simp only [List.length_set, List.length_map, List.length_replicate, List.length_append, List.length_modify]; omega)) only [xrun_ret, run_ite, run_fail, run_letj, xrun_loop, run_jump, xrun_call, jmp_join, jmp_loop, br_fail, br_true, br_false, xden_var, den_int, den_bool, den_str, den_nil, den_nilc, den_un, den_bin, den_tri, xon_and, xon_or, on_beq, xon_not, on_len, on_neg, on_conv, on_max, on_min, on_snoc, on_cat, on_cons, on_make, on_copy, on_plus, on_minus, on_cell, on_sel, on_slice, on_set, on_put, on_cmp, on_ar, ev_lss, ev_leq, ev_gtr, ev_geq, ev_eql, ev_neq, ar_add, ar_sub, ar_mul, ar_quo, ar_rem, pi_int, b_bool, r_row, c_cells, rowOf_r, List.map_cons, List.map_nil, List.cons_append, List.nil_append, List.getD_cons_zero, List.getD_cons_succ, List.getElem?_cons_zero, List.getElem?_cons_succ, List.take_zero, List.take_succ_cons, List.length_map, Int.toNat_natCast, decide_eq_true_eq, Int.ofNat_lt, Int.ofNat_le, xnat_nonneg, true_and, and_true, if_true, if_false, reduceIte, wrap_in, xints_at, xbools_at, xints_set, xints_snoc, xints_make, xints_nil, xbools_set, xbools_snoc, xbools_make, xcopy_make, List.length_replicate, List.length_cons, List.length_nil, Nat.reduceAdd, hsl, Nat.lt_irrefl, Bool.not_and, Bool.not_or, Bool.not_not, Bool.and_eq_true, Bool.or_eq_true, Bool.not_eq_true', Bool.and_eq_false_imp, Bool.or_eq_false_iff, decide_eq_false_iff_not, decide_eq_true_eq, beq_iff_eq, beq_eq_false_iff_ne, bne_iff_ne, bne_eq_false_iff_eq, ne_eq, gt_iff_lt, ge_iff_le, Bool.false_eq_true, Bool.true_eq_false, beq_self_eq_true, beq_true, beq_false, Bool.not_false, Bool.not_true, Bool.false_and, Bool.true_and, Bool.and_true, Bool.and_false, Bool.or_true, Bool.true_or, Bool.or_false, Bool.false_or, false_and, true_and, and_false, and_true, or_false, or_true, false_or, true_or, not_true_eq_false, not_false_eq_true, false_iff, iff_false, true_iff, iff_true, forall_const, false_imp_iff, true_imp_iff, reduceCtorEq, imp_false, xcall_of lives_sp]
    rw [br_pos]
    · trivial
    · rw [hT]
      cases ha : anyB (autoL s) with
      | true => right; simp
      | false => left; simp
end Go.Proofs.Ytolgoenpckiggaa
