/- What the tree comes to that shares a space: who becomes stiff, turn by turn. No condition beyond what each states. -/
import Derived.Test.YtpaabecgngbjcaaT
import Derived.Test.YtpaabecgngbjcaaKfl5
set_option linter.unusedVariables false
set_option linter.unusedSimpArgs false
set_option maxRecDepth 10000
namespace Go.Proofs.Ytpaabecgngbjcaa.T
open Go Go.Proofs.Ytpaabecgngbjcaa.Sx Go.Proofs.Ytpaabecgngbjcaa.M

def hitF (L N : Int) (s : List Sz) (i : Int) : Bool := match s[i.toNat]? with | some x => decide (partF L N x.fr < x.base) | none => false
def setW (L N : Int) (s : List Sz) : List Int → List Bool → List Bool
  | [], st => st
  | i :: r, st => setW L N s r (if hitF L N s i then st.set i.toNat true else st)
def cntW (L N : Int) (s : List Sz) : List Int → Nat
  | [] => 0
  | i :: r => (if hitF L N s i then 1 else 0) + cntW L N s r
theorem setW_eq (L N : Int) : ∀ (s2 : List Sz) (st2 : List Bool) (spre : List Sz) (pre : List Bool), st2.length = s2.length → pre.length = spre.length →
    setW L N (spre ++ s2) (whoF spre.length s2 st2) (pre ++ st2) = pre ++ stepF L N s2 st2 ∧ cntT (stepF L N s2 st2) = cntT st2 + cntW L N (spre ++ s2) (whoF spre.length s2 st2)
  | [], [], spre, pre, _, _ => by simp [whoF, setW, stepF, cntW]
  | [], _ :: _, _, _, h, _ => by simp at h
  | _ :: _, [], _, _, h, _ => by simp at h
  | x :: s2, b :: st2, spre, pre, h, hp => by
    obtain ⟨i1, i2⟩ := setW_eq L N s2 st2 (spre ++ [x]) (pre ++ [b]) (by simpa using h) (by simp [hp])
    obtain ⟨k1, k2⟩ := setW_eq L N s2 st2 (spre ++ [x]) (pre ++ [true]) (by simpa using h) (by simp [hp])
    simp only [List.append_assoc, List.singleton_append, List.length_append, List.length_cons, List.length_nil, Nat.zero_add] at i1 i2 k1 k2
    by_cases hc : x.mx ≠ 5 ∨ b = true
    · have hb : (b || (decide (x.mx = 5) && decide (partF L N x.fr < x.base))) = b := by
        cases b with
        | true => rfl
        | false =>
          have : ¬ x.mx = 5 := by rcases hc with h | h; exact h; cases h
          simp [this]
      simp only [whoF, if_pos hc, stepF, hb]
      refine ⟨i1, ?_⟩
      cases b <;> simp only [cntT] <;> omega
    · have hm : x.mx = 5 := Classical.byContradiction fun h => hc (.inl h)
      have hbf : b = false := by cases b with | false => rfl | true => exact absurd (.inr rfl) hc
      subst hbf
      simp only [whoF, if_neg hc, stepF, setW, cntW, Int.toNat_natCast]
      have hx : (spre ++ x :: s2)[spre.length]? = some x := by simp
      have hhit : hitF L N (spre ++ x :: s2) (spre.length : Int) = decide (partF L N x.fr < x.base) := by unfold hitF; rw [Int.toNat_natCast, hx]
      have hset : (pre ++ false :: st2).set spre.length true = pre ++ true :: st2 := by
        rw [List.set_append_right _ _ (by omega), hp, Nat.sub_self]
        rfl
      rw [hhit, hm]
      cases hd : decide (partF L N x.fr < x.base) with
      | true =>
        simp only [if_true, hset, decide_true, Bool.true_and, Bool.false_or, cntT]
        exact ⟨k1, by omega⟩
      | false =>
        simp only [Bool.false_eq_true, if_false, decide_true, Bool.true_and, Bool.false_or, cntT]
        exact ⟨i1, by omega⟩
theorem part_sp (L N fr : Int) (who : List Int) (hL : 0 ≤ L ∧ L ≤ 68719476736) (hN : 0 ≤ N ∧ N ≤ 109951162777600) (hf : 0 ≤ fr ∧ fr ≤ 1073741824) : Says tr c_flex_share_part [I L, I N, ints who, I fr] [I (partF L N fr)] := by
  refine Says.of (t := flex_share_part) rfl ?_
  rw [u_flex_share_part]
  have h := muldiv_sp L fr (max N 1000) (by omega) (by omega) (by omega)
  have e : (if 1000 > N then (1000 : Int) else N) = max N 1000 := by omega
  simp (disch := first | omega | (simp only [List.length_set, List.length_map, List.length_replicate, List.length_append, List.length_modify]; omega)) only [xrun_ret, run_ite, run_fail, run_letj, xrun_loop, run_jump, xrun_call, jmp_join, jmp_loop, br_fail, br_true, br_false, xden_var, den_int, den_bool, den_str, den_nil, den_nilc, den_un, den_bin, den_tri, xon_and, xon_or, on_beq, xon_not, on_len, on_neg, on_conv, on_max, on_min, on_snoc, on_cat, on_cons, on_make, on_copy, on_plus, on_minus, on_cell, on_sel, on_slice, on_set, on_put, on_cmp, on_ar, ev_lss, ev_leq, ev_gtr, ev_geq, ev_eql, ev_neq, ar_add, ar_sub, ar_mul, ar_quo, ar_rem, pi_int, b_bool, r_row, c_cells, rowOf_r, List.map_cons, List.map_nil, List.cons_append, List.nil_append, List.getD_cons_zero, List.getD_cons_succ, List.getElem?_cons_zero, List.getElem?_cons_succ, List.take_zero, List.take_succ_cons, List.length_map, Int.toNat_natCast, decide_eq_true_eq, Int.ofNat_lt, Int.ofNat_le, xnat_nonneg, true_and, and_true, if_true, if_false, reduceIte, wrap_in, xints_at, xbools_at, xints_set, xints_snoc, xints_make, xints_nil, xbools_set, xbools_snoc, xbools_make, xcopy_make, List.length_replicate, List.length_cons, List.length_nil, Nat.reduceAdd, e, xcall_of h]
  try rfl
theorem l3_run (s : List Sz) (space : Int) (p2 p3 p4 : PV) (st : List Bool) (L N : Int) (who : List Int) (J0 : JT) (J1 : JT) (r : List PV) (hs : s.all okF = true) (hl : s.length ≤ 10000) (hL : 0 ≤ L ∧ L ≤ 68719476736) (hN : 0 ≤ N ∧ N ≤ 109951162777600)
    (hwho : ∀ x ∈ who, ∃ q : Nat, x = q ∧ q < s.length) (hwl : who.length ≤ 10000) :
    ∀ k, k ≤ who.length → ∀ (c : Nat) (st' : List Bool), st'.length = s.length → c ≤ k →
      (c + cntW L N s (who.drop k) = 0 → r = [I L, I N, ints who]) →
      (c + cntW L N s (who.drop k) ≠ 0 → Run tr flex_shared_l0 [rowOf eSz s, I space, I L, I N, ints who, bools (setW L N s (who.drop k) st')] [.loop flex_shared_l0 [rowOf eSz s, I space]] r) →
      Run tr flex_shared_l3 [rowOf eSz s, I space, p2, p3, p4, bools st, I s.length, I L, I N, ints who, I k, I ((who.length : Int) - c), bools st'] [.loop flex_shared_l0 [rowOf eSz s, I space], J1, .loop flex_shared_l3 [rowOf eSz s, I space, p2, p3, p4, bools st, I s.length, I L, I N, ints who]] r := by
  refine xup_ind fun k hk ih => ?_
  intro c st' hst hck hz hnz
  by_cases h : k < who.length
  · obtain ⟨q, hq, hqs⟩ := hwho _ (List.getElem_mem h)
    have hqt : q < st'.length := by omega
    have hok := okF_in (List.all_eq_true.1 hs _ (List.getElem_mem hqs))
    have hcall := part_sp L N s[q].fr who hL hN hok.2.2.2
    rw [List.drop_eq_getElem_cons h] at hz hnz
    simp only [cntW, setW] at hz hnz
    rw [hq] at hz hnz
    have hhit : hitF L N s (q : Int) = decide (partF L N s[q].fr < s[q].base) := by unfold hitF; rw [Int.toNat_natCast, List.getElem?_eq_getElem hqs]
    rw [hhit] at hz hnz
    rw [Int.toNat_natCast] at hnz
    rw [u_flex_shared_l3]
    simp (disch := first | omega | (simp only [List.length_set, List.length_map, List.length_replicate, List.length_append, List.length_modify]; omega)) only [xrun_ret, run_ite, run_fail, run_letj, xrun_loop, run_jump, xrun_call, jmp_join, jmp_loop, br_fail, br_true, br_false, xden_var, den_int, den_bool, den_str, den_nil, den_nilc, den_un, den_bin, den_tri, xon_and, xon_or, on_beq, xon_not, on_len, on_neg, on_conv, on_max, on_min, on_snoc, on_cat, on_cons, on_make, on_copy, on_plus, on_minus, on_cell, on_sel, on_slice, on_set, on_put, on_cmp, on_ar, ev_lss, ev_leq, ev_gtr, ev_geq, ev_eql, ev_neq, ar_add, ar_sub, ar_mul, ar_quo, ar_rem, pi_int, b_bool, r_row, c_cells, rowOf_r, List.map_cons, List.map_nil, List.cons_append, List.nil_append, List.getD_cons_zero, List.getD_cons_succ, List.getElem?_cons_zero, List.getElem?_cons_succ, List.take_zero, List.take_succ_cons, List.length_map, Int.toNat_natCast, decide_eq_true_eq, Int.ofNat_lt, Int.ofNat_le, xnat_nonneg, true_and, and_true, if_true, if_false, reduceIte, wrap_in, xints_at, xbools_at, xints_set, xints_snoc, xints_make, xints_nil, xbools_set, xbools_snoc, xbools_make, xcopy_make, List.length_replicate, List.length_cons, List.length_nil, Nat.reduceAdd, h, hq, hqs, sz_at0, sz_at1, sz_at2, sz_at3, sz_at4, sz_at5, sz_at6, sz_snoc, sz_set, sz_put5, sz_put6, xcall_of hcall, Bool.not_and, Bool.not_or, Bool.not_not, Bool.and_eq_true, Bool.or_eq_true, Bool.not_eq_true', Bool.and_eq_false_imp, Bool.or_eq_false_iff, decide_eq_false_iff_not, decide_eq_true_eq, beq_iff_eq, beq_eq_false_iff_ne, bne_iff_ne, bne_eq_false_iff_eq, ne_eq, gt_iff_lt, ge_iff_le, Bool.false_eq_true, Bool.true_eq_false, beq_self_eq_true, beq_true, beq_false, Bool.not_false, Bool.not_true, Bool.false_and, Bool.true_and, Bool.and_true, Bool.and_false, Bool.or_true, Bool.true_or, Bool.or_false, Bool.false_or, false_and, true_and, and_false, and_true, or_false, or_true, false_or, true_or, not_true_eq_false, not_false_eq_true, false_iff, iff_false, true_iff, iff_true, forall_const, false_imp_iff, true_imp_iff, reduceCtorEq, imp_false]
    by_cases hb : partF L N s[q].fr < s[q].base
    · simp only [decide_eq_true hb, if_true] at hz hnz
      have hi := ih h (c + 1) (st'.set q true) (by simp [hst]) (by omega) (fun hh => hz (by omega)) (fun hh => hnz (by omega))
      rw [br_pos hb]
      rw [u_flex_shared_j4]
      have e : (who.length : Int) - ((c + 1 : Nat) : Int) = (who.length : Int) - c - 1 := by omega
      rw [e] at hi
      simp (disch := first | omega | (simp only [List.length_set, List.length_map, List.length_replicate, List.length_append, List.length_modify]; omega)) only [xrun_ret, run_ite, run_fail, run_letj, xrun_loop, run_jump, xrun_call, jmp_join, jmp_loop, br_fail, br_true, br_false, xden_var, den_int, den_bool, den_str, den_nil, den_nilc, den_un, den_bin, den_tri, xon_and, xon_or, on_beq, xon_not, on_len, on_neg, on_conv, on_max, on_min, on_snoc, on_cat, on_cons, on_make, on_copy, on_plus, on_minus, on_cell, on_sel, on_slice, on_set, on_put, on_cmp, on_ar, ev_lss, ev_leq, ev_gtr, ev_geq, ev_eql, ev_neq, ar_add, ar_sub, ar_mul, ar_quo, ar_rem, pi_int, b_bool, r_row, c_cells, rowOf_r, List.map_cons, List.map_nil, List.cons_append, List.nil_append, List.getD_cons_zero, List.getD_cons_succ, List.getElem?_cons_zero, List.getElem?_cons_succ, List.take_zero, List.take_succ_cons, List.length_map, Int.toNat_natCast, decide_eq_true_eq, Int.ofNat_lt, Int.ofNat_le, xnat_nonneg, true_and, and_true, if_true, if_false, reduceIte, wrap_in, xints_at, xbools_at, xints_set, xints_snoc, xints_make, xints_nil, xbools_set, xbools_snoc, xbools_make, xcopy_make, List.length_replicate, List.length_cons, List.length_nil, Nat.reduceAdd, hqt]
      first | exact hi | exact ⟨by omega, hi⟩
    · rw [decide_eq_false hb] at hz hnz
      simp only [Bool.false_eq_true, if_false] at hz hnz
      have hi := ih h c st' hst (by omega) (fun hh => hz (by omega)) (fun hh => hnz (by omega))
      rw [br_neg hb]
      rw [u_flex_shared_j4]
      simp (disch := first | omega | (simp only [List.length_set, List.length_map, List.length_replicate, List.length_append, List.length_modify]; omega)) only [xrun_ret, run_ite, run_fail, run_letj, xrun_loop, run_jump, xrun_call, jmp_join, jmp_loop, br_fail, br_true, br_false, xden_var, den_int, den_bool, den_str, den_nil, den_nilc, den_un, den_bin, den_tri, xon_and, xon_or, on_beq, xon_not, on_len, on_neg, on_conv, on_max, on_min, on_snoc, on_cat, on_cons, on_make, on_copy, on_plus, on_minus, on_cell, on_sel, on_slice, on_set, on_put, on_cmp, on_ar, ev_lss, ev_leq, ev_gtr, ev_geq, ev_eql, ev_neq, ar_add, ar_sub, ar_mul, ar_quo, ar_rem, pi_int, b_bool, r_row, c_cells, rowOf_r, List.map_cons, List.map_nil, List.cons_append, List.nil_append, List.getD_cons_zero, List.getD_cons_succ, List.getElem?_cons_zero, List.getElem?_cons_succ, List.take_zero, List.take_succ_cons, List.length_map, Int.toNat_natCast, decide_eq_true_eq, Int.ofNat_lt, Int.ofNat_le, xnat_nonneg, true_and, and_true, if_true, if_false, reduceIte, wrap_in, xints_at, xbools_at, xints_set, xints_snoc, xints_make, xints_nil, xbools_set, xbools_snoc, xbools_make, xcopy_make, List.length_replicate, List.length_cons, List.length_nil, Nat.reduceAdd]
      first | exact hi | exact ⟨by omega, hi⟩
  · rw [List.drop_of_length_le (by omega)] at hz hnz
    simp only [cntW, setW, Nat.add_zero] at hz hnz
    rw [u_flex_shared_l3]
    simp (disch := first | omega | (simp only [List.length_set, List.length_map, List.length_replicate, List.length_append, List.length_modify]; omega)) only [xrun_ret, run_ite, run_fail, run_letj, xrun_loop, run_jump, xrun_call, jmp_join, jmp_loop, br_fail, br_true, br_false, xden_var, den_int, den_bool, den_str, den_nil, den_nilc, den_un, den_bin, den_tri, xon_and, xon_or, on_beq, xon_not, on_len, on_neg, on_conv, on_max, on_min, on_snoc, on_cat, on_cons, on_make, on_copy, on_plus, on_minus, on_cell, on_sel, on_slice, on_set, on_put, on_cmp, on_ar, ev_lss, ev_leq, ev_gtr, ev_geq, ev_eql, ev_neq, ar_add, ar_sub, ar_mul, ar_quo, ar_rem, pi_int, b_bool, r_row, c_cells, rowOf_r, List.map_cons, List.map_nil, List.cons_append, List.nil_append, List.getD_cons_zero, List.getD_cons_succ, List.getElem?_cons_zero, List.getElem?_cons_succ, List.take_zero, List.take_succ_cons, List.length_map, Int.toNat_natCast, decide_eq_true_eq, Int.ofNat_lt, Int.ofNat_le, xnat_nonneg, true_and, and_true, if_true, if_false, reduceIte, wrap_in, xints_at, xbools_at, xints_set, xints_snoc, xints_make, xints_nil, xbools_set, xbools_snoc, xbools_make, xcopy_make, List.length_replicate, List.length_cons, List.length_nil, Nat.reduceAdd, h, Bool.not_and, Bool.not_or, Bool.not_not, Bool.and_eq_true, Bool.or_eq_true, Bool.not_eq_true', Bool.and_eq_false_imp, Bool.or_eq_false_iff, decide_eq_false_iff_not, decide_eq_true_eq, beq_iff_eq, beq_eq_false_iff_ne, bne_iff_ne, bne_eq_false_iff_eq, ne_eq, gt_iff_lt, ge_iff_le, Bool.false_eq_true, Bool.true_eq_false, beq_self_eq_true, beq_true, beq_false, Bool.not_false, Bool.not_true, Bool.false_and, Bool.true_and, Bool.and_true, Bool.and_false, Bool.or_true, Bool.true_or, Bool.or_false, Bool.false_or, false_and, true_and, and_false, and_true, or_false, or_true, false_or, true_or, not_true_eq_false, not_false_eq_true, false_iff, iff_false, true_iff, iff_true, forall_const, false_imp_iff, true_imp_iff, reduceCtorEq, imp_false]
    by_cases hc0 : c = 0
    · subst hc0
      rw [br_pos (by omega)]
      exact (hz rfl).symm
    · rw [br_neg (by omega)]
      exact hnz hc0
end Go.Proofs.Ytpaabecgngbjcaa.T
