/- The plain law of BaseStarts: what the trees come to answers as the statement says. No condition. -/
import Derived.Test.YtmgmidipijpkdaaT
import Derived.Test.YtmgmidipijpkdaaKstart
set_option linter.unusedVariables false
set_option linter.unusedSimpArgs false
set_option maxRecDepth 10000
namespace Go.Proofs.Ytmgmidipijpkdaa
open Go Go.Proofs.Ytmgmidipijpkdaa.Sx Go.Proofs.Ytmgmidipijpkdaa.M Go.Proofs.Ytmgmidipijpkdaa.T
theorem livesStarts_sp : Says tr c_law22_lives [] [B true] := says_of_run (t := law22_lives) rfl (n := 300) (by decide +kernel)
theorem tr1_open {q : List PV} (h : LK.oks [.int .i64, .int .i64, .int .i64, .int .i64, .bool, .int .i64, .int .i64] q) (hw : LK.wfs [.int .i64, .int .i64, .int .i64, .int .i64, .bool, .int .i64, .int .i64] q) : ∃ x : Tr, q = eTr x ∧ TrIn x := by
  match q, h with
  | [.int k0 a, .int k1 b, .int k2 c, .int k3 d, .bool e, .int k5 f, .int k6 g], h =>
    simp only [LK.oks, LK.ok] at h
    obtain ⟨rfl, rfl, rfl, rfl, _, rfl, rfl, _⟩ := h
    simp only [LK.wfs] at hw
    obtain ⟨_, _, e0, w0, _, _, e1, w1, _, _, e2, w2, _, _, e3, w3, _, _, e4, w4, _, _, e5, w5, _, _, e6, w6, _⟩ := hw
    cases e0; cases e1; cases e2; cases e3; cases e4; cases e5; cases e6
    exact ⟨⟨a, b, c, d, e, f, g⟩, rfl, int_wf w1, int_wf w3, int_wf w6⟩
theorem PureBaseStarts : Pure_BaseStarts := by
  intro q0 p1 p2 hq0 hw0 hp1 hw1 hp2 hw2
  obtain ⟨x, rfl, hx⟩ := tr1_open hq0 hw0
  obtain ⟨size, rfl⟩ := int_open hp1
  obtain ⟨d, rfl⟩ := bool_open hp2
  have hs : I64 size := int_wf hw1
  refine Says.told (tr := tr) (f := c_law22_BaseStarts) (args := [I x.k0, I x.n0, I x.k1, I x.n1, B x.fit, I x.k2, I x.n2, I size, B d]) ?_
  refine Says.of (t := law22_BaseStarts) rfl ?_
  rw [u_law22_BaseStarts]
  simp (disch := first | omega | (simp only [List.length_set, List.length_map, List.length_replicate, List.length_append, List.length_modify]; omega)) only [xrun_ret, run_ite, run_fail, run_letj, xrun_loop, run_jump, xrun_call, jmp_join, jmp_loop, br_fail, br_true, br_false, xden_var, den_int, den_bool, den_str, den_nil, den_nilc, den_un, den_bin, den_tri, xon_and, xon_or, on_beq, xon_not, on_len, on_neg, on_conv, on_max, on_min, on_snoc, on_cat, on_cons, on_make, on_copy, on_plus, on_minus, on_cell, on_sel, on_slice, on_set, on_put, on_cmp, on_ar, ev_lss, ev_leq, ev_gtr, ev_geq, ev_eql, ev_neq, ar_add, ar_sub, ar_mul, ar_quo, ar_rem, pi_int, b_bool, r_row, c_cells, rowOf_r, List.map_cons, List.map_nil, List.cons_append, List.nil_append, List.getD_cons_zero, List.getD_cons_succ, List.getElem?_cons_zero, List.getElem?_cons_succ, List.take_zero, List.take_succ_cons, List.length_map, Int.toNat_natCast, decide_eq_true_eq, Int.ofNat_lt, Int.ofNat_le, xnat_nonneg, true_and, and_true, if_true, if_false, reduceIte, wrap_in, xints_at, xbools_at, xints_set, xints_snoc, xints_make, xints_nil, xbools_set, xbools_snoc, xbools_make, xcopy_make, List.length_replicate, List.length_cons, List.length_nil, Nat.reduceAdd, xcall_of (start_sp x size d hx hs), xcall_of (rstart_sp x size d hx hs), Bool.not_and, Bool.not_or, Bool.not_not, Bool.and_eq_true, Bool.or_eq_true, Bool.not_eq_true', Bool.and_eq_false_imp, Bool.or_eq_false_iff, decide_eq_false_iff_not, decide_eq_true_eq, beq_iff_eq, beq_eq_false_iff_ne, bne_iff_ne, bne_eq_false_iff_eq, ne_eq, gt_iff_lt, ge_iff_le, Bool.false_eq_true, Bool.true_eq_false, beq_self_eq_true, beq_true, beq_false, Bool.not_false, Bool.not_true, Bool.false_and, Bool.true_and, Bool.and_true, Bool.and_false, Bool.or_true, Bool.true_or, Bool.or_false, Bool.false_or, false_and, true_and, and_false, and_true, or_false, or_true, false_or, true_or, not_true_eq_false, not_false_eq_true, false_iff, iff_false, true_iff, iff_true, forall_const, false_imp_iff, true_imp_iff, reduceCtorEq, imp_false, xcall_of livesStarts_sp]
end Go.Proofs.Ytmgmidipijpkdaa
