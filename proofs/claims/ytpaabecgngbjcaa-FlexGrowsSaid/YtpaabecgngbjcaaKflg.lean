/- What the tree comes to that finds how much one fr is, by what is wanted. No condition beyond what each states. -/
import Derived.Test.YtpaabecgngbjcaaT
import Derived.Test.YtpaabecgngbjcaaKflf
import Derived.Test.YtpaabecgngbjcaaKfl3
set_option linter.unusedVariables false
set_option linter.unusedSimpArgs false
set_option maxRecDepth 10000
namespace Go.Proofs.Ytpaabecgngbjcaa.T
open Go Go.Proofs.Ytpaabecgngbjcaa.Sx Go.Proofs.Ytpaabecgngbjcaa.M

def u3W (s : List Sz) (a : List Int) (w : Wn) : Int := unitS ((s.drop w.fm.toNat).take (w.to - w.fm).toNat) (lessS w.mx ((a.drop (w.fm + 1).toNat).take (w.to - (w.fm + 1)).toNat))
def u3S (s : List Sz) (a : List Int) : List Wn → Int → Int
  | [], n => n
  | w :: ws, n => u3S s a ws (max n (u3W s a w))
theorem row_sl {α : Type} (e : α → List PV) (l : List α) (i n : Nat) : PV.row (List.take n (List.drop i (l.map e))) = rowOf e ((l.drop i).take n) := by simp [rowOf, List.map_take, List.map_drop]
theorem all_part {l : List Int} (h : l.all lenB = true) (i n : Nat) : ((l.drop i).take n).all lenG = true := by
  rw [List.all_eq_true] at h ⊢
  intro x hx
  exact h x (List.mem_of_mem_drop (List.mem_of_mem_take hx))
theorem g3_run (s : List Sz) (a : List Int) (ws : List Wn) (p3 p4 p5 : PV) (J0 : JT) (r : List PV) (hs : s.all okF = true) (hl : s.length ≤ 10000) (ha : a.all lenB = true) (hal : a.length = s.length) (hwl : ws.length ≤ 4096) (hw : ws.all (wOk s.length) = true) :
    ∀ k, k ≤ ws.length → ∀ n : Int,
      Run tr flex_Grow_l4 [rowOf eSz s, ints a, rowOf eWn ws, p3, p4, p5, I ws.length, I (u3S s a (ws.drop k) n), I 0, .row []] [J0, .loop flex_Grow_l3 [rowOf eSz s, ints a, rowOf eWn ws, p3, p4, p5], .loop flex_Grow_l4 [rowOf eSz s, ints a, rowOf eWn ws, p3, p4, p5, I ws.length, I (u3S s a (ws.drop k) n)]] r →
      Run tr flex_Grow_l3 [rowOf eSz s, ints a, rowOf eWn ws, p3, p4, p5, I k, I n] [J0, .loop flex_Grow_l3 [rowOf eSz s, ints a, rowOf eWn ws, p3, p4, p5]] r := by
  refine xup_ind fun k hk ih => ?_
  intro n hrun
  by_cases h : k < ws.length
  · have hok := List.all_eq_true.1 hw _ (List.getElem_mem h)
    simp only [wOk, lenB, Bool.and_eq_true, Bool.not_eq_true', decide_eq_false_iff_not, decide_eq_true_eq] at hok
    obtain ⟨hq, -, -, hmx⟩ := hok
    have hless := less_sp ws[k].mx ((a.drop (ws[k].fm + 1).toNat).take (ws[k].to - (ws[k].fm + 1)).toNat) hmx (all_part ha _ _) (by simp; omega)
    have hunit := unit_sp ((s.drop ws[k].fm.toNat).take (ws[k].to - ws[k].fm).toNat) (lessS ws[k].mx ((a.drop (ws[k].fm + 1).toNat).take (ws[k].to - (ws[k].fm + 1)).toNat)) (by simp; omega)
    rw [List.drop_eq_getElem_cons h] at hrun
    simp only [u3S] at hrun
    have hi := ih h _ hrun
    have e2 : (if u3W s a ws[k] > n then u3W s a ws[k] else n) = max n (u3W s a ws[k]) := by omega
    unfold u3W at e2 hi
    have g0 : 0 ≤ ws[k].fm := by omega
    have g1 : ws[k].fm ≤ ws[k].to := by omega
    have g2 : ws[k].to ≤ s.length := by omega
    have g3 : 0 ≤ ws[k].fm + 1 := by omega
    have g4 : ws[k].fm + 1 ≤ ws[k].to := by omega
    rw [u_flex_Grow_l3]
    simp (disch := first | omega | (simp only [List.length_set, List.length_map, List.length_replicate, List.length_append, List.length_modify]; omega)) only [xrun_ret, run_ite, run_fail, run_letj, xrun_loop, run_jump, xrun_call, jmp_join, jmp_loop, br_fail, br_true, br_false, xden_var, den_int, den_bool, den_str, den_nil, den_nilc, den_un, den_bin, den_tri, xon_and, xon_or, on_beq, xon_not, on_len, on_neg, on_conv, on_max, on_min, on_snoc, on_cat, on_cons, on_make, on_copy, on_plus, on_minus, on_cell, on_sel, on_slice, on_set, on_put, on_cmp, on_ar, ev_lss, ev_leq, ev_gtr, ev_geq, ev_eql, ev_neq, ar_add, ar_sub, ar_mul, ar_quo, ar_rem, pi_int, b_bool, r_row, c_cells, rowOf_r, List.map_cons, List.map_nil, List.cons_append, List.nil_append, List.getD_cons_zero, List.getD_cons_succ, List.getElem?_cons_zero, List.getElem?_cons_succ, List.take_zero, List.take_succ_cons, List.length_map, Int.toNat_natCast, decide_eq_true_eq, Int.ofNat_lt, Int.ofNat_le, xnat_nonneg, true_and, and_true, if_true, if_false, reduceIte, wrap_in, xints_at, xbools_at, xints_set, xints_snoc, xints_make, xints_nil, xbools_set, xbools_snoc, xbools_make, xcopy_make, List.length_replicate, List.length_cons, List.length_nil, Nat.reduceAdd, h, wn_at0 _ _ h, wn_at1 _ _ h, wn_at4 _ _ h, g0, g1, g2, g3, g4, hal, row_sl, xcall_of hless, xcall_of hunit, e2, Bool.not_and, Bool.not_or, Bool.not_not, Bool.and_eq_true, Bool.or_eq_true, Bool.not_eq_true', Bool.and_eq_false_imp, Bool.or_eq_false_iff, decide_eq_false_iff_not, decide_eq_true_eq, beq_iff_eq, beq_eq_false_iff_ne, bne_iff_ne, bne_eq_false_iff_eq, ne_eq, gt_iff_lt, ge_iff_le, Bool.false_eq_true, Bool.true_eq_false, beq_self_eq_true, beq_true, beq_false, Bool.not_false, Bool.not_true, Bool.false_and, Bool.true_and, Bool.and_true, Bool.and_false, Bool.or_true, Bool.true_or, Bool.or_false, Bool.false_or, false_and, true_and, and_false, and_true, or_false, or_true, false_or, true_or, not_true_eq_false, not_false_eq_true, false_iff, iff_false, true_iff, iff_true, forall_const, false_imp_iff, true_imp_iff, reduceCtorEq, imp_false]
    first | exact hi | exact ⟨by omega, hi⟩
  · rw [List.drop_of_length_le (by omega)] at hrun
    simp only [u3S] at hrun
    obtain rfl : k = ws.length := by omega
    rw [u_flex_Grow_l3]
    simp (disch := first | omega | (simp only [List.length_set, List.length_map, List.length_replicate, List.length_append, List.length_modify]; omega)) only [xrun_ret, run_ite, run_fail, run_letj, xrun_loop, run_jump, xrun_call, jmp_join, jmp_loop, br_fail, br_true, br_false, xden_var, den_int, den_bool, den_str, den_nil, den_nilc, den_un, den_bin, den_tri, xon_and, xon_or, on_beq, xon_not, on_len, on_neg, on_conv, on_max, on_min, on_snoc, on_cat, on_cons, on_make, on_copy, on_plus, on_minus, on_cell, on_sel, on_slice, on_set, on_put, on_cmp, on_ar, ev_lss, ev_leq, ev_gtr, ev_geq, ev_eql, ev_neq, ar_add, ar_sub, ar_mul, ar_quo, ar_rem, pi_int, b_bool, r_row, c_cells, rowOf_r, List.map_cons, List.map_nil, List.cons_append, List.nil_append, List.getD_cons_zero, List.getD_cons_succ, List.getElem?_cons_zero, List.getElem?_cons_succ, List.take_zero, List.take_succ_cons, List.length_map, Int.toNat_natCast, decide_eq_true_eq, Int.ofNat_lt, Int.ofNat_le, xnat_nonneg, true_and, and_true, if_true, if_false, reduceIte, wrap_in, xints_at, xbools_at, xints_set, xints_snoc, xints_make, xints_nil, xbools_set, xbools_snoc, xbools_make, xcopy_make, List.length_replicate, List.length_cons, List.length_nil, Nat.reduceAdd, h]
    first | exact hrun | exact ⟨by omega, hrun⟩
end Go.Proofs.Ytpaabecgngbjcaa.T
