/- The plain law of SelfMargins: what the trees come to answers as the statement says. No condition. -/
import Derived.Test.YtbenanokgfphmaaT
import Derived.Test.YtbenanokgfphmaaKself
set_option linter.unusedVariables false
set_option linter.unusedSimpArgs false
set_option maxRecDepth 10000
namespace Go.Proofs.Ytbenanokgfphmaa
open Go Go.Proofs.Ytbenanokgfphmaa.Sx Go.Proofs.Ytbenanokgfphmaa.M Go.Proofs.Ytbenanokgfphmaa.T
theorem lives_sp : Says tr c_law29_lives [] [B true] := says_of_run (t := law29_lives) rfl (n := 300) (by decide +kernel)
theorem oks_cons {k : LK} {ks : List LK} {q : List PV} (h : LK.oks (k :: ks) q) (hw : LK.wfs (k :: ks) q) : ∃ p r, q = p :: r ∧ k.ok p ∧ k.wf p ∧ LK.oks ks r ∧ LK.wfs ks r := by
  cases q with
  | nil => simp [LK.oks] at h
  | cons p r =>
    simp only [LK.oks] at h
    simp only [LK.wfs] at hw
    obtain ⟨p', r', e, h1, h2⟩ := hw
    cases e
    exact ⟨p, r, rfl, h.1, h1, h.2, h2⟩
theorem oks_nil {q : List PV} (h : LK.oks [] q) : q = [] := by
  cases q with
  | nil => rfl
  | cons _ _ => simp [LK.oks] at h
theorem margS_form (k0 n0 k1 n1 k2 n2 k3 n3 w : Int) (d : Bool) : ∃ (b0 : Bool) (x0 : Int) (b1 : Bool) (x1 : Int) (b2 : Bool) (x2 : Int) (b3 : Bool) (x3 e : Int), margS k0 n0 k1 n1 k2 n2 k3 n3 w d = [B b0, I x0, B b1, I x1, B b2, I x2, B b3, I x3, I e] := by
  have hb : ∀ e, ∃ (b0 : Bool) (x0 : Int) (b1 : Bool) (x1 : Int) (b2 : Bool) (x2 : Int) (b3 : Bool) (x3 e' : Int), bad9 e = [B b0, I x0, B b1, I x1, B b2, I x2, B b3, I x3, I e'] := fun e => ⟨_, _, _, _, _, _, _, _, _, rfl⟩
  unfold margS
  split
  · exact hb _
  unfold mF0
  split
  · exact hb _
  unfold mF1
  split
  · exact hb _
  unfold mF2
  split
  · exact hb _
  unfold mF3
  split
  · exact hb _
  · exact ⟨_, _, _, _, _, _, _, _, _, rfl⟩
theorem PureSelfMargins : Pure_SelfMargins := by
  intro q0 p1 p2 hq0 hw0 hp1 hw1 hp2 hw2
  obtain ⟨a0, r0, rfl, o0, w0, hq0, hw0⟩ := oks_cons hq0 hw0
  obtain ⟨a1, r1, rfl, o1, w1, hq0, hw0⟩ := oks_cons hq0 hw0
  obtain ⟨a2, r2, rfl, o2, w2, hq0, hw0⟩ := oks_cons hq0 hw0
  obtain ⟨a3, r3, rfl, o3, w3, hq0, hw0⟩ := oks_cons hq0 hw0
  obtain ⟨a4, r4, rfl, o4, w4, hq0, hw0⟩ := oks_cons hq0 hw0
  obtain ⟨a5, r5, rfl, o5, w5, hq0, hw0⟩ := oks_cons hq0 hw0
  obtain ⟨a6, r6, rfl, o6, w6, hq0, hw0⟩ := oks_cons hq0 hw0
  obtain ⟨a7, r7, rfl, o7, w7, hq0, hw0⟩ := oks_cons hq0 hw0
  obtain ⟨a8, r8, rfl, o8, w8, hq0, hw0⟩ := oks_cons hq0 hw0
  obtain ⟨a9, r9, rfl, o9, w9, hq0, hw0⟩ := oks_cons hq0 hw0
  obtain ⟨a10, r10, rfl, o10, w10, hq0, hw0⟩ := oks_cons hq0 hw0
  obtain ⟨a11, r11, rfl, o11, w11, hq0, hw0⟩ := oks_cons hq0 hw0
  obtain ⟨a12, r12, rfl, o12, w12, hq0, hw0⟩ := oks_cons hq0 hw0
  obtain ⟨a13, r13, rfl, o13, w13, hq0, hw0⟩ := oks_cons hq0 hw0
  obtain ⟨a14, r14, rfl, o14, w14, hq0, hw0⟩ := oks_cons hq0 hw0
  obtain ⟨a15, r15, rfl, o15, w15, hq0, hw0⟩ := oks_cons hq0 hw0
  obtain ⟨a16, r16, rfl, o16, w16, hq0, hw0⟩ := oks_cons hq0 hw0
  obtain ⟨a17, r17, rfl, o17, w17, hq0, hw0⟩ := oks_cons hq0 hw0
  obtain ⟨a18, r18, rfl, o18, w18, hq0, hw0⟩ := oks_cons hq0 hw0
  obtain ⟨a19, r19, rfl, o19, w19, hq0, hw0⟩ := oks_cons hq0 hw0
  obtain ⟨a20, r20, rfl, o20, w20, hq0, hw0⟩ := oks_cons hq0 hw0
  obtain ⟨a21, r21, rfl, o21, w21, hq0, hw0⟩ := oks_cons hq0 hw0
  obtain ⟨a22, r22, rfl, o22, w22, hq0, hw0⟩ := oks_cons hq0 hw0
  obtain ⟨a23, r23, rfl, o23, w23, hq0, hw0⟩ := oks_cons hq0 hw0
  obtain ⟨a24, r24, rfl, o24, w24, hq0, hw0⟩ := oks_cons hq0 hw0
  obtain ⟨a25, r25, rfl, o25, w25, hq0, hw0⟩ := oks_cons hq0 hw0
  obtain ⟨a26, r26, rfl, o26, w26, hq0, hw0⟩ := oks_cons hq0 hw0
  obtain ⟨a27, r27, rfl, o27, w27, hq0, hw0⟩ := oks_cons hq0 hw0
  obtain ⟨a28, r28, rfl, o28, w28, hq0, hw0⟩ := oks_cons hq0 hw0
  obtain ⟨a29, r29, rfl, o29, w29, hq0, hw0⟩ := oks_cons hq0 hw0
  obtain ⟨a30, r30, rfl, o30, w30, hq0, hw0⟩ := oks_cons hq0 hw0
  obtain ⟨a31, r31, rfl, o31, w31, hq0, hw0⟩ := oks_cons hq0 hw0
  obtain ⟨a32, r32, rfl, o32, w32, hq0, hw0⟩ := oks_cons hq0 hw0
  obtain ⟨a33, r33, rfl, o33, w33, hq0, hw0⟩ := oks_cons hq0 hw0
  obtain ⟨a34, r34, rfl, o34, w34, hq0, hw0⟩ := oks_cons hq0 hw0
  obtain ⟨a35, r35, rfl, o35, w35, hq0, hw0⟩ := oks_cons hq0 hw0
  obtain ⟨a36, r36, rfl, o36, w36, hq0, hw0⟩ := oks_cons hq0 hw0
  obtain ⟨a37, r37, rfl, o37, w37, hq0, hw0⟩ := oks_cons hq0 hw0
  obtain ⟨a38, r38, rfl, o38, w38, hq0, hw0⟩ := oks_cons hq0 hw0
  obtain ⟨a39, r39, rfl, o39, w39, hq0, hw0⟩ := oks_cons hq0 hw0
  obtain ⟨a40, r40, rfl, o40, w40, hq0, hw0⟩ := oks_cons hq0 hw0
  obtain ⟨a41, r41, rfl, o41, w41, hq0, hw0⟩ := oks_cons hq0 hw0
  obtain ⟨a42, r42, rfl, o42, w42, hq0, hw0⟩ := oks_cons hq0 hw0
  obtain ⟨a43, r43, rfl, o43, w43, hq0, hw0⟩ := oks_cons hq0 hw0
  obtain ⟨a44, r44, rfl, o44, w44, hq0, hw0⟩ := oks_cons hq0 hw0
  obtain ⟨a45, r45, rfl, o45, w45, hq0, hw0⟩ := oks_cons hq0 hw0
  obtain ⟨a46, r46, rfl, o46, w46, hq0, hw0⟩ := oks_cons hq0 hw0
  obtain ⟨a47, r47, rfl, o47, w47, hq0, hw0⟩ := oks_cons hq0 hw0
  obtain ⟨a48, r48, rfl, o48, w48, hq0, hw0⟩ := oks_cons hq0 hw0
  obtain ⟨a49, r49, rfl, o49, w49, hq0, hw0⟩ := oks_cons hq0 hw0
  obtain ⟨a50, r50, rfl, o50, w50, hq0, hw0⟩ := oks_cons hq0 hw0
  obtain rfl := oks_nil hq0
  obtain ⟨k0, rfl⟩ := int_open o42
  obtain ⟨n0, rfl⟩ := int_open o43
  have hn0 := int_wf w43
  obtain ⟨k1, rfl⟩ := int_open o44
  obtain ⟨n1, rfl⟩ := int_open o45
  have hn1 := int_wf w45
  obtain ⟨k2, rfl⟩ := int_open o46
  obtain ⟨n2, rfl⟩ := int_open o47
  have hn2 := int_wf w47
  obtain ⟨k3, rfl⟩ := int_open o48
  obtain ⟨n3, rfl⟩ := int_open o49
  have hn3 := int_wf w49
  obtain ⟨w, rfl⟩ := int_open hp1
  obtain ⟨d, rfl⟩ := bool_open hp2
  have hw := int_wf hw1
  clear hq0 hw0
  refine Says.told (tr := tr) (f := c_law29_SelfMargins) (args := [a0, a1, a2, a3, a4, a5, a6, a7, a8, a9, a10, a11, a12, a13, a14, a15, a16, a17, a18, a19, a20, a21, a22, a23, a24, a25, a26, a27, a28, a29, a30, a31, a32, a33, a34, a35, a36, a37, a38, a39, a40, a41, I k0, I n0, I k1, I n1, I k2, I n2, I k3, I n3, a50, I w, B d]) ?_
  have hm := @mmarg_sp a0 a1 a2 a3 a4 a5 a6 a7 a8 a9 a10 a11 a12 a13 a14 a15 a16 a17 a18 a19 a20 a21 a22 a23 a24 a25 a26 a27 a28 a29 a30 a31 a32 a33 a34 a35 a36 a37 a38 a39 a40 a41 a50 k0 n0 k1 n1 k2 n2 k3 n3 w d hn0 hn1 hn2 hn3 hw
  have hr := @rmarg_sp a0 a1 a2 a3 a4 a5 a6 a7 a8 a9 a10 a11 a12 a13 a14 a15 a16 a17 a18 a19 a20 a21 a22 a23 a24 a25 a26 a27 a28 a29 a30 a31 a32 a33 a34 a35 a36 a37 a38 a39 a40 a41 a50 k0 n0 k1 n1 k2 n2 k3 n3 w d hn0 hn1 hn2 hn3 hw
  obtain ⟨b0, x0, b1, x1, b2, x2, b3, x3, e, he⟩ := margS_form k0 n0 k1 n1 k2 n2 k3 n3 w d
  rw [he] at hm hr
  refine Says.of (t := law29_SelfMargins) rfl ?_
  rw [u_law29_SelfMargins]
  simp (disch := first | omega | (simp only [List.length_set, List.length_map, List.length_replicate, List.length_append, List.length_modify]; omega)) only [xrun_ret, run_ite, run_fail, run_letj, xrun_loop, run_jump, xrun_call, jmp_join, jmp_loop, br_fail, br_true, br_false, xden_var, den_int, den_bool, den_str, den_nil, den_nilc, den_un, den_bin, den_tri, xon_and, xon_or, on_beq, xon_not, on_len, on_neg, on_conv, on_max, on_min, on_snoc, on_cat, on_cons, on_make, on_copy, on_plus, on_minus, on_cell, on_sel, on_slice, on_set, on_put, on_cmp, on_ar, ev_lss, ev_leq, ev_gtr, ev_geq, ev_eql, ev_neq, ar_add, ar_sub, ar_mul, ar_quo, ar_rem, pi_int, b_bool, r_row, c_cells, rowOf_r, List.map_cons, List.map_nil, List.cons_append, List.nil_append, List.getD_cons_zero, List.getD_cons_succ, List.getElem?_cons_zero, List.getElem?_cons_succ, List.take_zero, List.take_succ_cons, List.length_map, Int.toNat_natCast, decide_eq_true_eq, Int.ofNat_lt, Int.ofNat_le, xnat_nonneg, true_and, and_true, if_true, if_false, reduceIte, wrap_in, xints_at, xbools_at, xints_set, xints_snoc, xints_make, xints_nil, xbools_set, xbools_snoc, xbools_make, xcopy_make, List.length_replicate, List.length_cons, List.length_nil, Nat.reduceAdd, xcall_of hm, xcall_of hr, Bool.not_and, Bool.not_or, Bool.not_not, Bool.and_eq_true, Bool.or_eq_true, Bool.not_eq_true', Bool.and_eq_false_imp, Bool.or_eq_false_iff, decide_eq_false_iff_not, decide_eq_true_eq, beq_iff_eq, beq_eq_false_iff_ne, bne_iff_ne, bne_eq_false_iff_eq, ne_eq, gt_iff_lt, ge_iff_le, Bool.false_eq_true, Bool.true_eq_false, beq_self_eq_true, beq_true, beq_false, Bool.not_false, Bool.not_true, Bool.false_and, Bool.true_and, Bool.and_true, Bool.and_false, Bool.or_true, Bool.true_or, Bool.or_false, Bool.false_or, false_and, true_and, and_false, and_true, or_false, or_true, false_or, true_or, not_true_eq_false, not_false_eq_true, false_iff, iff_false, true_iff, iff_true, forall_const, false_imp_iff, true_imp_iff, reduceCtorEq, imp_false]
  simp (disch := first | omega | (simp only [List.length_set, List.length_map, List.length_replicate, List.length_append, List.length_modify]; omega)) only [xrun_ret, run_ite, run_fail, run_letj, xrun_loop, run_jump, xrun_call, jmp_join, jmp_loop, br_fail, br_true, br_false, xden_var, den_int, den_bool, den_str, den_nil, den_nilc, den_un, den_bin, den_tri, xon_and, xon_or, on_beq, xon_not, on_len, on_neg, on_conv, on_max, on_min, on_snoc, on_cat, on_cons, on_make, on_copy, on_plus, on_minus, on_cell, on_sel, on_slice, on_set, on_put, on_cmp, on_ar, ev_lss, ev_leq, ev_gtr, ev_geq, ev_eql, ev_neq, ar_add, ar_sub, ar_mul, ar_quo, ar_rem, pi_int, b_bool, r_row, c_cells, rowOf_r, List.map_cons, List.map_nil, List.cons_append, List.nil_append, List.getD_cons_zero, List.getD_cons_succ, List.getElem?_cons_zero, List.getElem?_cons_succ, List.take_zero, List.take_succ_cons, List.length_map, Int.toNat_natCast, decide_eq_true_eq, Int.ofNat_lt, Int.ofNat_le, xnat_nonneg, true_and, and_true, if_true, if_false, reduceIte, wrap_in, xints_at, xbools_at, xints_set, xints_snoc, xints_make, xints_nil, xbools_set, xbools_snoc, xbools_make, xcopy_make, List.length_replicate, List.length_cons, List.length_nil, Nat.reduceAdd, xcall_of lives_sp, Bool.not_and, Bool.not_or, Bool.not_not, Bool.and_eq_true, Bool.or_eq_true, Bool.not_eq_true', Bool.and_eq_false_imp, Bool.or_eq_false_iff, decide_eq_false_iff_not, decide_eq_true_eq, beq_iff_eq, beq_eq_false_iff_ne, bne_iff_ne, bne_eq_false_iff_eq, ne_eq, gt_iff_lt, ge_iff_le, Bool.false_eq_true, Bool.true_eq_false, beq_self_eq_true, beq_true, beq_false, Bool.not_false, Bool.not_true, Bool.false_and, Bool.true_and, Bool.and_true, Bool.and_false, Bool.or_true, Bool.true_or, Bool.or_false, Bool.false_or, false_and, true_and, and_false, and_true, or_false, or_true, false_or, true_or, not_true_eq_false, not_false_eq_true, false_iff, iff_false, true_iff, iff_true, forall_const, false_imp_iff, true_imp_iff, reduceCtorEq, imp_false]
end Go.Proofs.Ytbenanokgfphmaa
