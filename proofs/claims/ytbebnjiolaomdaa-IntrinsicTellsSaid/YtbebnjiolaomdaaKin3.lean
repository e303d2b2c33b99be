/- What the trees come to that tell what is wanted, as far as fixed tracks let it. No condition beyond what each states. -/
import Derived.Test.YtbebnjiolaomdaaT
import Derived.Test.YtbebnjiolaomdaaKin2
set_option linter.unusedVariables false
set_option linter.unusedSimpArgs false
set_option maxRecDepth 10000
namespace Go.Proofs.Ytbebnjiolaomdaa.T
open Go Go.Proofs.Ytbebnjiolaomdaa.Sx Go.Proofs.Ytbebnjiolaomdaa.M

theorem row_cut {α : Type} (e : α → List PV) (l : List α) (i n : Nat) : ((l.map e).drop i).take n = ((l.drop i).take n).map e := by rw [List.map_take, List.map_drop]
def limit (x : Sz) : Int := if x.fit then max x.cap x.base else x.lim
theorem loose_sp (x : Sz) : Says tr c_intrinsic_loose (eSz x) [B (decide (x.mx ≠ 1))] := by
  refine Says.of (t := intrinsic_loose) rfl ?_
  rw [u_intrinsic_loose]
  simp only [eSz]
  simp (disch := first | omega | (simp only [List.length_set, List.length_map, List.length_replicate, List.length_append, List.length_modify]; omega)) only [xrun_ret, run_ite, run_fail, run_letj, xrun_loop, run_jump, xrun_call, jmp_join, jmp_loop, br_fail, br_true, br_false, xden_var, den_int, den_bool, den_str, den_nil, den_nilc, den_un, den_bin, den_tri, xon_and, xon_or, on_beq, xon_not, on_len, on_neg, on_conv, on_max, on_min, on_snoc, on_cat, on_cons, on_make, on_copy, on_plus, on_minus, on_cell, on_sel, on_slice, on_set, on_put, on_cmp, on_ar, ev_lss, ev_leq, ev_gtr, ev_geq, ev_eql, ev_neq, ar_add, ar_sub, ar_mul, ar_quo, ar_rem, pi_int, b_bool, r_row, c_cells, rowOf_r, List.map_cons, List.map_nil, List.cons_append, List.nil_append, List.getD_cons_zero, List.getD_cons_succ, List.getElem?_cons_zero, List.getElem?_cons_succ, List.take_zero, List.take_succ_cons, List.length_map, Int.toNat_natCast, decide_eq_true_eq, Int.ofNat_lt, Int.ofNat_le, xnat_nonneg, true_and, and_true, if_true, if_false, reduceIte, wrap_in, xints_at, xbools_at, xints_set, xints_snoc, xints_make, xints_nil, xbools_set, xbools_snoc, xbools_make, xcopy_make, List.length_replicate, List.length_cons, List.length_nil, Nat.reduceAdd]
  have : (x.mx != 1) = decide (x.mx ≠ 1) := by by_cases h : x.mx = 1 <;> simp [h]
  rw [this]
theorem limit_sp (x : Sz) : Says tr c_intrinsic_limit (eSz x) [I (limit x)] := by
  refine Says.of (t := intrinsic_limit) rfl ?_
  rw [u_intrinsic_limit]
  simp only [eSz]
  simp (disch := first | omega | (simp only [List.length_set, List.length_map, List.length_replicate, List.length_append, List.length_modify]; omega)) only [xrun_ret, run_ite, run_fail, run_letj, xrun_loop, run_jump, xrun_call, jmp_join, jmp_loop, br_fail, br_true, br_false, xden_var, den_int, den_bool, den_str, den_nil, den_nilc, den_un, den_bin, den_tri, xon_and, xon_or, on_beq, xon_not, on_len, on_neg, on_conv, on_max, on_min, on_snoc, on_cat, on_cons, on_make, on_copy, on_plus, on_minus, on_cell, on_sel, on_slice, on_set, on_put, on_cmp, on_ar, ev_lss, ev_leq, ev_gtr, ev_geq, ev_eql, ev_neq, ar_add, ar_sub, ar_mul, ar_quo, ar_rem, pi_int, b_bool, r_row, c_cells, rowOf_r, List.map_cons, List.map_nil, List.cons_append, List.nil_append, List.getD_cons_zero, List.getD_cons_succ, List.getElem?_cons_zero, List.getElem?_cons_succ, List.take_zero, List.take_succ_cons, List.length_map, Int.toNat_natCast, decide_eq_true_eq, Int.ofNat_lt, Int.ofNat_le, xnat_nonneg, true_and, and_true, if_true, if_false, reduceIte, wrap_in, xints_at, xbools_at, xints_set, xints_snoc, xints_make, xints_nil, xbools_set, xbools_snoc, xbools_make, xcopy_make, List.length_replicate, List.length_cons, List.length_nil, Nat.reduceAdd]
  unfold limit
  refine br_split ?_ ?_ <;> intro _ <;> rename_i h <;> simp [h]
def gapsW : List Int → Int → Int
  | [], n => n
  | x :: r, n => gapsW r (IntKind.i64.wrap (n + x))
def limG (w : Wn) (n : Int) : List Sz → Int → Int
  | [], most => max (min n most) w.least
  | x :: r, most => if x.mx ≠ 1 ∧ x.fit = false then max n w.least else limG w n r (IntKind.i64.wrap (most + limit x))
def limI (s : List Sz) (a : List Int) (w : Wn) (n : Int) : Int :=
  if goodI s a [w] 0 && wi n then limG w n ((s.drop w.fm.toNat).take (w.to.toNat - w.fm.toNat)) (gapsW ((a.drop (w.fm.toNat + 1)).take (w.to.toNat - (w.fm.toNat + 1))) 0) else 0
theorem ilim_sp (s : List Sz) (a : List Int) (w : Wn) (n : Int) (hs : s.length ≤ 1000000) (ha : a.length ≤ 1000000) : Says tr c_intrinsic_Limited [rowOf eSz s, ints a, I w.fm, I w.to, I w.least, I w.mn, I w.mx, I n] [I (limI s a w n)] := by
  refine Says.of (t := intrinsic_Limited) rfl ?_
  have hg := igood_sp s a [w] 0 hs ha
  have fin : ∀ b : Bool, b = !(goodI s a [w] 0 && wi n) → Run tr intrinsic_Limited_j0 [rowOf eSz s, ints a, I w.fm, I w.to, I w.least, I w.mn, I w.mx, I n, B b] [] [I (limI s a w n)] := by
    intro b hb
    rw [u_intrinsic_Limited_j0]
    unfold limI
    cases hgg : (goodI s a [w] 0 && wi n) with
    | false =>
      rw [hgg] at hb
      subst hb
      simp (disch := first | omega | (simp only [List.length_set, List.length_map, List.length_replicate, List.length_append, List.length_modify]; omega)) only [xrun_ret, run_ite, run_fail, run_letj, xrun_loop, run_jump, xrun_call, jmp_join, jmp_loop, br_fail, br_true, br_false, xden_var, den_int, den_bool, den_str, den_nil, den_nilc, den_un, den_bin, den_tri, xon_and, xon_or, on_beq, xon_not, on_len, on_neg, on_conv, on_max, on_min, on_snoc, on_cat, on_cons, on_make, on_copy, on_plus, on_minus, on_cell, on_sel, on_slice, on_set, on_put, on_cmp, on_ar, ev_lss, ev_leq, ev_gtr, ev_geq, ev_eql, ev_neq, ar_add, ar_sub, ar_mul, ar_quo, ar_rem, pi_int, b_bool, r_row, c_cells, rowOf_r, List.map_cons, List.map_nil, List.cons_append, List.nil_append, List.getD_cons_zero, List.getD_cons_succ, List.getElem?_cons_zero, List.getElem?_cons_succ, List.take_zero, List.take_succ_cons, List.length_map, Int.toNat_natCast, decide_eq_true_eq, Int.ofNat_lt, Int.ofNat_le, xnat_nonneg, true_and, and_true, if_true, if_false, reduceIte, wrap_in, xints_at, xbools_at, xints_set, xints_snoc, xints_make, xints_nil, xbools_set, xbools_snoc, xbools_make, xcopy_make, List.length_replicate, List.length_cons, List.length_nil, Nat.reduceAdd]
      refine br_split ?_ ?_ <;> intro _
      · simp
      · rename_i h
        exact absurd rfl h
    | true =>
      rw [hgg] at hb
      subst hb
      have hW : okW s.length w = true ∧ a.length = s.length := by
        simp only [Bool.and_eq_true] at hgg
        have := hgg.1
        simp only [goodI, Bool.and_eq_true, List.all_cons, List.all_nil, Bool.and_true, decide_eq_true_eq] at this
        exact ⟨this.2, this.1.1.1.1.1.1⟩
      obtain ⟨hW, hal⟩ := hW
      simp only [okW, Bool.and_eq_true, decide_eq_true_eq] at hW
      obtain ⟨fm, to, least, mn, mx⟩ := w
      simp only at hW hg hgg ⊢
      obtain ⟨f, rfl⟩ : ∃ f : Nat, fm = f := ⟨fm.toNat, by omega⟩
      obtain ⟨t, rfl⟩ : ∃ t : Nat, to = t := ⟨to.toNat, by omega⟩
      have hft : f < t := by omega
      have hts : t ≤ s.length := by omega
      simp only [Int.toNat_natCast]
      generalize hb : (a.drop (f + 1)).take (t - (f + 1)) = b
      generalize hc : (s.drop f).take (t - f) = c
      have eb : ((a.map eI).drop ((f : Int) + 1).toNat).take ((t : Int) - ((f : Int) + 1)).toNat = b.map eI := by
        rw [row_cut, ← hb]
        congr 2 <;> (try congr 1) <;> omega
      have ec : ((s.map eSz).drop f).take ((t : Int) - (f : Int)).toNat = c.map eSz := by
        rw [row_cut, ← hc]
        congr 2; omega
      have hbl : b.length ≤ 1000000 := by rw [← hb]; simp; omega
      have hcl : c.length ≤ 1000000 := by rw [← hc]; simp; omega
      have l3 : ∀ (G : Int) j, j ≤ c.length → ∀ most, Run tr intrinsic_Limited_l3 [rowOf eSz s, ints a, I f, I t, I least, I mn, I mx, I n, B false, I b.length, I G, I j, I most] [.join intrinsic_Limited_j1 [rowOf eSz s, ints a, I f, I t, I least, I mn, I mx, I n, B false], .loop intrinsic_Limited_l2 [rowOf eSz s, ints a, I f, I t, I least, I mn, I mx, I n, B false], .loop intrinsic_Limited_l3 [rowOf eSz s, ints a, I f, I t, I least, I mn, I mx, I n, B false, I b.length, I G]] [I (limG ⟨f, t, least, mn, mx⟩ n (c.drop j) most)] := by
        intro G
        refine xup_ind fun j hj ih most => ?_
        rw [u_intrinsic_Limited_l3]
        by_cases h : j < c.length
        · rw [List.drop_eq_getElem_cons h]
          have h1 := loose_sp c[j]
          have h2 := limit_sp c[j]
          simp (disch := first | omega | (simp only [List.length_set, List.length_map, List.length_replicate, List.length_append, List.length_modify]; omega)) only [xrun_ret, run_ite, run_fail, run_letj, xrun_loop, run_jump, xrun_call, jmp_join, jmp_loop, br_fail, br_true, br_false, xden_var, den_int, den_bool, den_str, den_nil, den_nilc, den_un, den_bin, den_tri, xon_and, xon_or, on_beq, xon_not, on_len, on_neg, on_conv, on_max, on_min, on_snoc, on_cat, on_cons, on_make, on_copy, on_plus, on_minus, on_cell, on_sel, on_slice, on_set, on_put, on_cmp, on_ar, ev_lss, ev_leq, ev_gtr, ev_geq, ev_eql, ev_neq, ar_add, ar_sub, ar_mul, ar_quo, ar_rem, pi_int, b_bool, r_row, c_cells, rowOf_r, List.map_cons, List.map_nil, List.cons_append, List.nil_append, List.getD_cons_zero, List.getD_cons_succ, List.getElem?_cons_zero, List.getElem?_cons_succ, List.take_zero, List.take_succ_cons, List.length_map, Int.toNat_natCast, decide_eq_true_eq, Int.ofNat_lt, Int.ofNat_le, xnat_nonneg, true_and, and_true, if_true, if_false, reduceIte, wrap_in, xints_at, xbools_at, xints_set, xints_snoc, xints_make, xints_nil, xbools_set, xbools_snoc, xbools_make, xcopy_make, List.length_replicate, List.length_cons, List.length_nil, Nat.reduceAdd, ec, h, sz_at0, sz_at1, sz_at2, sz_at3, sz_at4, sz_at5, sz_at6, sz_snoc, sz_set, sz_put5, sz_put6, xcall_of h1, xcall_of h2, intrinsic_Limited_j1, Bool.not_and, Bool.not_or, Bool.not_not, Bool.and_eq_true, Bool.or_eq_true, Bool.not_eq_true', Bool.and_eq_false_imp, Bool.or_eq_false_iff, decide_eq_false_iff_not, decide_eq_true_eq, beq_iff_eq, beq_eq_false_iff_ne, bne_iff_ne, bne_eq_false_iff_eq, ne_eq, gt_iff_lt, ge_iff_le, Bool.false_eq_true, Bool.true_eq_false, beq_self_eq_true, beq_true, beq_false, Bool.not_false, Bool.not_true, Bool.false_and, Bool.true_and, Bool.and_true, Bool.and_false, Bool.or_true, Bool.true_or, Bool.or_false, Bool.false_or, false_and, true_and, and_false, and_true, or_false, or_true, false_or, true_or, not_true_eq_false, not_false_eq_true, false_iff, iff_false, true_iff, iff_true, forall_const, false_imp_iff, true_imp_iff, reduceCtorEq, imp_false]
          simp only [limG]
          by_cases hx : c[j].mx ≠ 1 ∧ c[j].fit = false
          · rw [br_pos (by simpa using hx), if_pos hx]
          · rw [br_neg (by simpa using hx), if_neg hx]
            exact ih h _
        · simp (disch := first | omega | (simp only [List.length_set, List.length_map, List.length_replicate, List.length_append, List.length_modify]; omega)) only [xrun_ret, run_ite, run_fail, run_letj, xrun_loop, run_jump, xrun_call, jmp_join, jmp_loop, br_fail, br_true, br_false, xden_var, den_int, den_bool, den_str, den_nil, den_nilc, den_un, den_bin, den_tri, xon_and, xon_or, on_beq, xon_not, on_len, on_neg, on_conv, on_max, on_min, on_snoc, on_cat, on_cons, on_make, on_copy, on_plus, on_minus, on_cell, on_sel, on_slice, on_set, on_put, on_cmp, on_ar, ev_lss, ev_leq, ev_gtr, ev_geq, ev_eql, ev_neq, ar_add, ar_sub, ar_mul, ar_quo, ar_rem, pi_int, b_bool, r_row, c_cells, rowOf_r, List.map_cons, List.map_nil, List.cons_append, List.nil_append, List.getD_cons_zero, List.getD_cons_succ, List.getElem?_cons_zero, List.getElem?_cons_succ, List.take_zero, List.take_succ_cons, List.length_map, Int.toNat_natCast, decide_eq_true_eq, Int.ofNat_lt, Int.ofNat_le, xnat_nonneg, true_and, and_true, if_true, if_false, reduceIte, wrap_in, xints_at, xbools_at, xints_set, xints_snoc, xints_make, xints_nil, xbools_set, xbools_snoc, xbools_make, xcopy_make, List.length_replicate, List.length_cons, List.length_nil, Nat.reduceAdd, ec, h, intrinsic_Limited_j1]
          rw [List.drop_of_length_le (by omega)]
          rfl
      have l2 : ∀ j, j ≤ b.length → ∀ acc, Run tr intrinsic_Limited_l2 [rowOf eSz s, ints a, I f, I t, I least, I mn, I mx, I n, B false, I j, I acc] [.join intrinsic_Limited_j1 [rowOf eSz s, ints a, I f, I t, I least, I mn, I mx, I n, B false], .loop intrinsic_Limited_l2 [rowOf eSz s, ints a, I f, I t, I least, I mn, I mx, I n, B false]] [I (limG ⟨f, t, least, mn, mx⟩ n c (gapsW (b.drop j) acc))] := by
        refine xup_ind fun j hj ih acc => ?_
        rw [u_intrinsic_Limited_l2]
        by_cases h : j < b.length
        · rw [List.drop_eq_getElem_cons h]
          simp (disch := first | omega | (simp only [List.length_set, List.length_map, List.length_replicate, List.length_append, List.length_modify]; omega)) only [xrun_ret, run_ite, run_fail, run_letj, xrun_loop, run_jump, xrun_call, jmp_join, jmp_loop, br_fail, br_true, br_false, xden_var, den_int, den_bool, den_str, den_nil, den_nilc, den_un, den_bin, den_tri, xon_and, xon_or, on_beq, xon_not, on_len, on_neg, on_conv, on_max, on_min, on_snoc, on_cat, on_cons, on_make, on_copy, on_plus, on_minus, on_cell, on_sel, on_slice, on_set, on_put, on_cmp, on_ar, ev_lss, ev_leq, ev_gtr, ev_geq, ev_eql, ev_neq, ar_add, ar_sub, ar_mul, ar_quo, ar_rem, pi_int, b_bool, r_row, c_cells, rowOf_r, List.map_cons, List.map_nil, List.cons_append, List.nil_append, List.getD_cons_zero, List.getD_cons_succ, List.getElem?_cons_zero, List.getElem?_cons_succ, List.take_zero, List.take_succ_cons, List.length_map, Int.toNat_natCast, decide_eq_true_eq, Int.ofNat_lt, Int.ofNat_le, xnat_nonneg, true_and, and_true, if_true, if_false, reduceIte, wrap_in, xints_at, xbools_at, xints_set, xints_snoc, xints_make, xints_nil, xbools_set, xbools_snoc, xbools_make, xcopy_make, List.length_replicate, List.length_cons, List.length_nil, Nat.reduceAdd, eb, h]
          exact ih h _
        · rw [List.drop_of_length_le (by omega)]
          obtain rfl : j = b.length := by omega
          simp (disch := first | omega | (simp only [List.length_set, List.length_map, List.length_replicate, List.length_append, List.length_modify]; omega)) only [xrun_ret, run_ite, run_fail, run_letj, xrun_loop, run_jump, xrun_call, jmp_join, jmp_loop, br_fail, br_true, br_false, xden_var, den_int, den_bool, den_str, den_nil, den_nilc, den_un, den_bin, den_tri, xon_and, xon_or, on_beq, xon_not, on_len, on_neg, on_conv, on_max, on_min, on_snoc, on_cat, on_cons, on_make, on_copy, on_plus, on_minus, on_cell, on_sel, on_slice, on_set, on_put, on_cmp, on_ar, ev_lss, ev_leq, ev_gtr, ev_geq, ev_eql, ev_neq, ar_add, ar_sub, ar_mul, ar_quo, ar_rem, pi_int, b_bool, r_row, c_cells, rowOf_r, List.map_cons, List.map_nil, List.cons_append, List.nil_append, List.getD_cons_zero, List.getD_cons_succ, List.getElem?_cons_zero, List.getElem?_cons_succ, List.take_zero, List.take_succ_cons, List.length_map, Int.toNat_natCast, decide_eq_true_eq, Int.ofNat_lt, Int.ofNat_le, xnat_nonneg, true_and, and_true, if_true, if_false, reduceIte, wrap_in, xints_at, xbools_at, xints_set, xints_snoc, xints_make, xints_nil, xbools_set, xbools_snoc, xbools_make, xcopy_make, List.length_replicate, List.length_cons, List.length_nil, Nat.reduceAdd, eb, h]
          refine ⟨by omega, by omega, ?_⟩
          have := l3 acc 0 (Nat.zero_le _) acc
          simpa [gapsW] using this
      have l2' := l2 0 (Nat.zero_le _) 0
      simp (disch := first | omega | (simp only [List.length_set, List.length_map, List.length_replicate, List.length_append, List.length_modify]; omega)) only [xrun_ret, run_ite, run_fail, run_letj, xrun_loop, run_jump, xrun_call, jmp_join, jmp_loop, br_fail, br_true, br_false, xden_var, den_int, den_bool, den_str, den_nil, den_nilc, den_un, den_bin, den_tri, xon_and, xon_or, on_beq, xon_not, on_len, on_neg, on_conv, on_max, on_min, on_snoc, on_cat, on_cons, on_make, on_copy, on_plus, on_minus, on_cell, on_sel, on_slice, on_set, on_put, on_cmp, on_ar, ev_lss, ev_leq, ev_gtr, ev_geq, ev_eql, ev_neq, ar_add, ar_sub, ar_mul, ar_quo, ar_rem, pi_int, b_bool, r_row, c_cells, rowOf_r, List.map_cons, List.map_nil, List.cons_append, List.nil_append, List.getD_cons_zero, List.getD_cons_succ, List.getElem?_cons_zero, List.getElem?_cons_succ, List.take_zero, List.take_succ_cons, List.length_map, Int.toNat_natCast, decide_eq_true_eq, Int.ofNat_lt, Int.ofNat_le, xnat_nonneg, true_and, and_true, if_true, if_false, reduceIte, wrap_in, xints_at, xbools_at, xints_set, xints_snoc, xints_make, xints_nil, xbools_set, xbools_snoc, xbools_make, xcopy_make, List.length_replicate, List.length_cons, List.length_nil, Nat.reduceAdd]
      try rw [br_neg (by simp)]
      first | refine ⟨by omega, by omega, by omega, ?_⟩ | refine ⟨by omega, by omega, ?_⟩
      simpa using l2'
  rw [u_intrinsic_Limited]
  have e1 : PV.row [[I w.fm, I w.to, I w.least, I w.mn, I w.mx]] = rowOf eWn [w] := rfl
  simp (disch := first | omega | (simp only [List.length_set, List.length_map, List.length_replicate, List.length_append, List.length_modify]; omega)) only [xrun_ret, run_ite, run_fail, run_letj, xrun_loop, run_jump, xrun_call, jmp_join, jmp_loop, br_fail, br_true, br_false, xden_var, den_int, den_bool, den_str, den_nil, den_nilc, den_un, den_bin, den_tri, xon_and, xon_or, on_beq, xon_not, on_len, on_neg, on_conv, on_max, on_min, on_snoc, on_cat, on_cons, on_make, on_copy, on_plus, on_minus, on_cell, on_sel, on_slice, on_set, on_put, on_cmp, on_ar, ev_lss, ev_leq, ev_gtr, ev_geq, ev_eql, ev_neq, ar_add, ar_sub, ar_mul, ar_quo, ar_rem, pi_int, b_bool, r_row, c_cells, rowOf_r, List.map_cons, List.map_nil, List.cons_append, List.nil_append, List.getD_cons_zero, List.getD_cons_succ, List.getElem?_cons_zero, List.getElem?_cons_succ, List.take_zero, List.take_succ_cons, List.length_map, Int.toNat_natCast, decide_eq_true_eq, Int.ofNat_lt, Int.ofNat_le, xnat_nonneg, true_and, and_true, if_true, if_false, reduceIte, wrap_in, xints_at, xbools_at, xints_set, xints_snoc, xints_make, xints_nil, xbools_set, xbools_snoc, xbools_make, xcopy_make, List.length_replicate, List.length_cons, List.length_nil, Nat.reduceAdd, e1, xcall_of hg, xcall_of (iw_sp _)]
  cases h1 : goodI s a [w] 0 with
  | false => rw [br_neg (by simp)]; exact fin true (by rw [h1]; rfl)
  | true => rw [br_pos rfl]; exact fin _ (by rw [h1]; rfl)
end Go.Proofs.Ytbebnjiolaomdaa.T
