/- What the trees come to that let flexible tracks be as great as is wanted. No condition beyond what each states. -/
import Derived.Test.YtpaabecgngbjcaaT
import Derived.Test.YtpaabecgngbjcaaKflk
set_option linter.unusedVariables false
set_option linter.unusedSimpArgs false
set_option maxRecDepth 10000
namespace Go.Proofs.Ytpaabecgngbjcaa.T
open Go Go.Proofs.Ytpaabecgngbjcaa.Sx Go.Proofs.Ytpaabecgngbjcaa.M

theorem upS_in {a c : Int} (ha : 0 ≤ a ∧ a ≤ 68719476736) (hc : 1 ≤ c ∧ c ≤ 4611686018427387904) : upS a 1000 c ≤ 100000000000000 := by
  have := md_bd (a := -a) (c := c) (by omega) hc
  unfold upS
  omega
theorem u1S_in : ∀ (s : List Sz) (n : Int), s.all okF = true → 0 ≤ n → n ≤ 100000000000000 → 0 ≤ u1S s n ∧ u1S s n ≤ 100000000000000
  | [], n, _, h0, h1 => ⟨h0, h1⟩
  | x :: s, n, h, h0, h1 => by
    simp only [List.all_cons, Bool.and_eq_true] at h
    have hx := okF_in h.1
    have := upS_in (a := x.base) (c := max x.fr 1000) (by omega) (by omega)
    rw [u1S]
    refine u1S_in s _ h.2 ?_ ?_ <;> split <;> omega
theorem unitS_in (s : List Sz) (space : Int) (hl : s.length ≤ 10000) : unitS s space ≤ 100000000000000 := by
  unfold unitS
  split
  · omega
  · rename_i hb
    obtain ⟨hsp, hs⟩ := rightB_in (show rightB s space = true by cases h : rightB s space with | true => rfl | false => exact absurd h hb)
    split
    · omega
    · have hL := leftS_in s (finS s space) space hs hsp.1 hsp.2
      have hN := partsF_in s (finS s space) 0 hs (Int.le_refl _)
      exact upS_in hL (by omega)
theorem u3S_in (s : List Sz) (a : List Int) (hl : s.length ≤ 10000) : ∀ (ws : List Wn) (n : Int), 0 ≤ n → n ≤ 100000000000000 → 0 ≤ u3S s a ws n ∧ u3S s a ws n ≤ 100000000000000
  | [], n, h0, h1 => ⟨h0, h1⟩
  | w :: ws, n, h0, h1 => by
    rw [u3S]
    have : u3W s a w ≤ 100000000000000 := by unfold u3W; exact unitS_in _ _ (by simp; omega)
    exact u3S_in s a hl ws _ (by omega) (by omega)
/-- How great flexible tracks are, for what is wanted. -/
def growR (s : List Sz) (a : List Int) (ws : List Wn) : List Sz :=
  if rightB s 0 && goodI s a ws 0 then growU (u3S s a ws (u1S s 0)) s else s
theorem goodI_in {s : List Sz} {a : List Int} {ws : List Wn} {m : Int} (h : goodI s a ws m = true) : a.length = s.length ∧ ws.length ≤ 4096 ∧ a.all lenB = true ∧ ws.all (wOk s.length) = true := by
  simp only [goodI, Bool.and_eq_true, decide_eq_true_eq] at h
  exact ⟨h.1.1.1.1.1.1, h.1.1.1.1.1.2, h.1.2, h.2⟩
theorem fgrow_sp (s : List Sz) (a : List Int) (ws : List Wn) (hl : s.length ≤ 10000) (ha : a.length ≤ 1000000) (hw : ws.length ≤ 1000000) : Says tr c_flex_Grow [rowOf eSz s, ints a, rowOf eWn ws] [rowOf eSz (growR s a ws)] := by
  refine Says.of (t := flex_Grow) rfl ?_
  rw [u_flex_Grow]
  have h1 := fright_sp s 0 (by omega)
  have h2 := igood_sp s a ws 0 (by omega) ha hw
  unfold growR
  have hbad : Run tr flex_Grow_j0 [rowOf eSz s, ints a, rowOf eWn ws, B true] [] [rowOf eSz s] := by
    rw [u_flex_Grow_j0]
    simp (disch := first | omega | (simp only [List.length_set, List.length_map, List.length_replicate, List.length_append, List.length_modify]; omega)) only [xrun_ret, run_ite, run_fail, run_letj, xrun_loop, run_jump, xrun_call, jmp_join, jmp_loop, br_fail, br_true, br_false, xden_var, den_int, den_bool, den_str, den_nil, den_nilc, den_un, den_bin, den_tri, xon_and, xon_or, on_beq, xon_not, on_len, on_neg, on_conv, on_max, on_min, on_snoc, on_cat, on_cons, on_make, on_copy, on_plus, on_minus, on_cell, on_sel, on_slice, on_set, on_put, on_cmp, on_ar, ev_lss, ev_leq, ev_gtr, ev_geq, ev_eql, ev_neq, ar_add, ar_sub, ar_mul, ar_quo, ar_rem, pi_int, b_bool, r_row, c_cells, rowOf_r, List.map_cons, List.map_nil, List.cons_append, List.nil_append, List.getD_cons_zero, List.getD_cons_succ, List.getElem?_cons_zero, List.getElem?_cons_succ, List.take_zero, List.take_succ_cons, List.length_map, Int.toNat_natCast, decide_eq_true_eq, Int.ofNat_lt, Int.ofNat_le, xnat_nonneg, true_and, and_true, if_true, if_false, reduceIte, wrap_in, xints_at, xbools_at, xints_set, xints_snoc, xints_make, xints_nil, xbools_set, xbools_snoc, xbools_make, xcopy_make, List.length_replicate, List.length_cons, List.length_nil, Nat.reduceAdd]
  cases hb : rightB s 0 with
  | false =>
    rw [hb] at h1
    simp (disch := first | omega | (simp only [List.length_set, List.length_map, List.length_replicate, List.length_append, List.length_modify]; omega)) only [xrun_ret, run_ite, run_fail, run_letj, xrun_loop, run_jump, xrun_call, jmp_join, jmp_loop, br_fail, br_true, br_false, xden_var, den_int, den_bool, den_str, den_nil, den_nilc, den_un, den_bin, den_tri, xon_and, xon_or, on_beq, xon_not, on_len, on_neg, on_conv, on_max, on_min, on_snoc, on_cat, on_cons, on_make, on_copy, on_plus, on_minus, on_cell, on_sel, on_slice, on_set, on_put, on_cmp, on_ar, ev_lss, ev_leq, ev_gtr, ev_geq, ev_eql, ev_neq, ar_add, ar_sub, ar_mul, ar_quo, ar_rem, pi_int, b_bool, r_row, c_cells, rowOf_r, List.map_cons, List.map_nil, List.cons_append, List.nil_append, List.getD_cons_zero, List.getD_cons_succ, List.getElem?_cons_zero, List.getElem?_cons_succ, List.take_zero, List.take_succ_cons, List.length_map, Int.toNat_natCast, decide_eq_true_eq, Int.ofNat_lt, Int.ofNat_le, xnat_nonneg, true_and, and_true, if_true, if_false, reduceIte, wrap_in, xints_at, xbools_at, xints_set, xints_snoc, xints_make, xints_nil, xbools_set, xbools_snoc, xbools_make, xcopy_make, List.length_replicate, List.length_cons, List.length_nil, Nat.reduceAdd, xcall_of h1, Bool.false_eq_true]
    repeat rw [br_neg (by simp)]
    exact hbad
  | true =>
    rw [hb] at h1
    cases hg : goodI s a ws 0 with
    | false =>
      rw [hg] at h2
      simp (disch := first | omega | (simp only [List.length_set, List.length_map, List.length_replicate, List.length_append, List.length_modify]; omega)) only [xrun_ret, run_ite, run_fail, run_letj, xrun_loop, run_jump, xrun_call, jmp_join, jmp_loop, br_fail, br_true, br_false, xden_var, den_int, den_bool, den_str, den_nil, den_nilc, den_un, den_bin, den_tri, xon_and, xon_or, on_beq, xon_not, on_len, on_neg, on_conv, on_max, on_min, on_snoc, on_cat, on_cons, on_make, on_copy, on_plus, on_minus, on_cell, on_sel, on_slice, on_set, on_put, on_cmp, on_ar, ev_lss, ev_leq, ev_gtr, ev_geq, ev_eql, ev_neq, ar_add, ar_sub, ar_mul, ar_quo, ar_rem, pi_int, b_bool, r_row, c_cells, rowOf_r, List.map_cons, List.map_nil, List.cons_append, List.nil_append, List.getD_cons_zero, List.getD_cons_succ, List.getElem?_cons_zero, List.getElem?_cons_succ, List.take_zero, List.take_succ_cons, List.length_map, Int.toNat_natCast, decide_eq_true_eq, Int.ofNat_lt, Int.ofNat_le, xnat_nonneg, true_and, and_true, if_true, if_false, reduceIte, wrap_in, xints_at, xbools_at, xints_set, xints_snoc, xints_make, xints_nil, xbools_set, xbools_snoc, xbools_make, xcopy_make, List.length_replicate, List.length_cons, List.length_nil, Nat.reduceAdd, xcall_of h1, xcall_of h2, xints_nil, Bool.not_false]
      exact hbad
    | true =>
      rw [hg] at h2
      obtain ⟨-, hs⟩ := rightB_in hb
      obtain ⟨e1, e2, e3, e4⟩ := goodI_in hg
      simp (disch := first | omega | (simp only [List.length_set, List.length_map, List.length_replicate, List.length_append, List.length_modify]; omega)) only [xrun_ret, run_ite, run_fail, run_letj, xrun_loop, run_jump, xrun_call, jmp_join, jmp_loop, br_fail, br_true, br_false, xden_var, den_int, den_bool, den_str, den_nil, den_nilc, den_un, den_bin, den_tri, xon_and, xon_or, on_beq, xon_not, on_len, on_neg, on_conv, on_max, on_min, on_snoc, on_cat, on_cons, on_make, on_copy, on_plus, on_minus, on_cell, on_sel, on_slice, on_set, on_put, on_cmp, on_ar, ev_lss, ev_leq, ev_gtr, ev_geq, ev_eql, ev_neq, ar_add, ar_sub, ar_mul, ar_quo, ar_rem, pi_int, b_bool, r_row, c_cells, rowOf_r, List.map_cons, List.map_nil, List.cons_append, List.nil_append, List.getD_cons_zero, List.getD_cons_succ, List.getElem?_cons_zero, List.getElem?_cons_succ, List.take_zero, List.take_succ_cons, List.length_map, Int.toNat_natCast, decide_eq_true_eq, Int.ofNat_lt, Int.ofNat_le, xnat_nonneg, true_and, and_true, if_true, if_false, reduceIte, wrap_in, xints_at, xbools_at, xints_set, xints_snoc, xints_make, xints_nil, xbools_set, xbools_snoc, xbools_make, xcopy_make, List.length_replicate, List.length_cons, List.length_nil, Nat.reduceAdd, xcall_of h1, xcall_of h2, Bool.not_true, Bool.and_self]
      rw [u_flex_Grow_j0]
      have hu1 := u1S_in s 0 hs (Int.le_refl _) (by omega)
      have hu3 := u3S_in s a hl ws (u1S s 0) hu1.1 hu1.2
      have k6 := gl6_run s (ints a) (rowOf eWn ws) (B false) (I s.length) (I (u1S s 0)) (I ws.length) (I (u3S s a ws (u1S s 0))) (I s.length) (mapU (u3S s a ws (u1S s 0)) 0 s []) (.loop flex_Grow_l1 [rowOf eSz s, ints a, rowOf eWn ws, B false]) (.loop flex_Grow_l3 [rowOf eSz s, ints a, rowOf eWn ws, B false, I s.length, I (u1S s 0)]) (.loop flex_Grow_l4 [rowOf eSz s, ints a, rowOf eWn ws, B false, I s.length, I (u1S s 0), I ws.length, I (u3S s a ws (u1S s 0))]) hl 0 (Nat.zero_le _) [] rfl
      rw [List.drop_zero, List.nil_append, List.nil_append, growU_eq (u3S s a ws (u1S s 0)) s 0 [] (fun _ _ => rfl) _ (fun _ _ => rfl)] at k6
      have k4 := g4_run s (ints a) (rowOf eWn ws) (B false) (I s.length) (I (u1S s 0)) (I ws.length) (u3S s a ws (u1S s 0)) _ _ _ hs hl hu3 0 (Nat.zero_le _) [] (by simp) k6
      have k3 := g3_run s a ws (B false) (I s.length) (I (u1S s 0)) _ _ hs hl e3 e1 e2 e4 0 (Nat.zero_le _) (u1S s 0) k4
      have k1 := g1_run s (ints a) (rowOf eWn ws) (B false) _ hs hl 0 (Nat.zero_le _) 0 k3
      simp (disch := first | omega | (simp only [List.length_set, List.length_map, List.length_replicate, List.length_append, List.length_modify]; omega)) only [xrun_ret, run_ite, run_fail, run_letj, xrun_loop, run_jump, xrun_call, jmp_join, jmp_loop, br_fail, br_true, br_false, xden_var, den_int, den_bool, den_str, den_nil, den_nilc, den_un, den_bin, den_tri, xon_and, xon_or, on_beq, xon_not, on_len, on_neg, on_conv, on_max, on_min, on_snoc, on_cat, on_cons, on_make, on_copy, on_plus, on_minus, on_cell, on_sel, on_slice, on_set, on_put, on_cmp, on_ar, ev_lss, ev_leq, ev_gtr, ev_geq, ev_eql, ev_neq, ar_add, ar_sub, ar_mul, ar_quo, ar_rem, pi_int, b_bool, r_row, c_cells, rowOf_r, List.map_cons, List.map_nil, List.cons_append, List.nil_append, List.getD_cons_zero, List.getD_cons_succ, List.getElem?_cons_zero, List.getElem?_cons_succ, List.take_zero, List.take_succ_cons, List.length_map, Int.toNat_natCast, decide_eq_true_eq, Int.ofNat_lt, Int.ofNat_le, xnat_nonneg, true_and, and_true, if_true, if_false, reduceIte, wrap_in, xints_at, xbools_at, xints_set, xints_snoc, xints_make, xints_nil, xbools_set, xbools_snoc, xbools_make, xcopy_make, List.length_replicate, List.length_cons, List.length_nil, Nat.reduceAdd, Bool.false_eq_true]
      try rw [br_neg (by simp)]
      exact k1
theorem rgrow_sp (s : List Sz) (a : List Int) (ws : List Wn) (hl : s.length ≤ 10000) (ha : a.length ≤ 1000000) (hw : ws.length ≤ 1000000) : Says tr c_ref26_Grow [rowOf eSz s, ints a, rowOf eWn ws] [rowOf eSz (growR s a ws)] := by
  refine Says.of (t := ref26_Grow) rfl ?_
  rw [u_ref26_Grow]
  have h1 := rright_sp s 0 (by omega)
  have h2 := rgood24_sp s a ws 0 (by omega) ha hw
  unfold growR
  have hbad : Run tr ref26_Grow_j0 [rowOf eSz s, ints a, rowOf eWn ws, B true] [] [rowOf eSz s] := by
    rw [u_ref26_Grow_j0]
    simp (disch := first | omega | (simp only [List.length_set, List.length_map, List.length_replicate, List.length_append, List.length_modify]; omega)) only [xrun_ret, run_ite, run_fail, run_letj, xrun_loop, run_jump, xrun_call, jmp_join, jmp_loop, br_fail, br_true, br_false, xden_var, den_int, den_bool, den_str, den_nil, den_nilc, den_un, den_bin, den_tri, xon_and, xon_or, on_beq, xon_not, on_len, on_neg, on_conv, on_max, on_min, on_snoc, on_cat, on_cons, on_make, on_copy, on_plus, on_minus, on_cell, on_sel, on_slice, on_set, on_put, on_cmp, on_ar, ev_lss, ev_leq, ev_gtr, ev_geq, ev_eql, ev_neq, ar_add, ar_sub, ar_mul, ar_quo, ar_rem, pi_int, b_bool, r_row, c_cells, rowOf_r, List.map_cons, List.map_nil, List.cons_append, List.nil_append, List.getD_cons_zero, List.getD_cons_succ, List.getElem?_cons_zero, List.getElem?_cons_succ, List.take_zero, List.take_succ_cons, List.length_map, Int.toNat_natCast, decide_eq_true_eq, Int.ofNat_lt, Int.ofNat_le, xnat_nonneg, true_and, and_true, if_true, if_false, reduceIte, wrap_in, xints_at, xbools_at, xints_set, xints_snoc, xints_make, xints_nil, xbools_set, xbools_snoc, xbools_make, xcopy_make, List.length_replicate, List.length_cons, List.length_nil, Nat.reduceAdd]
  cases hb : rightB s 0 with
  | false =>
    rw [hb] at h1
    simp (disch := first | omega | (simp only [List.length_set, List.length_map, List.length_replicate, List.length_append, List.length_modify]; omega)) only [xrun_ret, run_ite, run_fail, run_letj, xrun_loop, run_jump, xrun_call, jmp_join, jmp_loop, br_fail, br_true, br_false, xden_var, den_int, den_bool, den_str, den_nil, den_nilc, den_un, den_bin, den_tri, xon_and, xon_or, on_beq, xon_not, on_len, on_neg, on_conv, on_max, on_min, on_snoc, on_cat, on_cons, on_make, on_copy, on_plus, on_minus, on_cell, on_sel, on_slice, on_set, on_put, on_cmp, on_ar, ev_lss, ev_leq, ev_gtr, ev_geq, ev_eql, ev_neq, ar_add, ar_sub, ar_mul, ar_quo, ar_rem, pi_int, b_bool, r_row, c_cells, rowOf_r, List.map_cons, List.map_nil, List.cons_append, List.nil_append, List.getD_cons_zero, List.getD_cons_succ, List.getElem?_cons_zero, List.getElem?_cons_succ, List.take_zero, List.take_succ_cons, List.length_map, Int.toNat_natCast, decide_eq_true_eq, Int.ofNat_lt, Int.ofNat_le, xnat_nonneg, true_and, and_true, if_true, if_false, reduceIte, wrap_in, xints_at, xbools_at, xints_set, xints_snoc, xints_make, xints_nil, xbools_set, xbools_snoc, xbools_make, xcopy_make, List.length_replicate, List.length_cons, List.length_nil, Nat.reduceAdd, xcall_of h1, Bool.false_eq_true]
    repeat rw [br_neg (by simp)]
    exact hbad
  | true =>
    rw [hb] at h1
    cases hg : goodI s a ws 0 with
    | false =>
      rw [hg] at h2
      simp (disch := first | omega | (simp only [List.length_set, List.length_map, List.length_replicate, List.length_append, List.length_modify]; omega)) only [xrun_ret, run_ite, run_fail, run_letj, xrun_loop, run_jump, xrun_call, jmp_join, jmp_loop, br_fail, br_true, br_false, xden_var, den_int, den_bool, den_str, den_nil, den_nilc, den_un, den_bin, den_tri, xon_and, xon_or, on_beq, xon_not, on_len, on_neg, on_conv, on_max, on_min, on_snoc, on_cat, on_cons, on_make, on_copy, on_plus, on_minus, on_cell, on_sel, on_slice, on_set, on_put, on_cmp, on_ar, ev_lss, ev_leq, ev_gtr, ev_geq, ev_eql, ev_neq, ar_add, ar_sub, ar_mul, ar_quo, ar_rem, pi_int, b_bool, r_row, c_cells, rowOf_r, List.map_cons, List.map_nil, List.cons_append, List.nil_append, List.getD_cons_zero, List.getD_cons_succ, List.getElem?_cons_zero, List.getElem?_cons_succ, List.take_zero, List.take_succ_cons, List.length_map, Int.toNat_natCast, decide_eq_true_eq, Int.ofNat_lt, Int.ofNat_le, xnat_nonneg, true_and, and_true, if_true, if_false, reduceIte, wrap_in, xints_at, xbools_at, xints_set, xints_snoc, xints_make, xints_nil, xbools_set, xbools_snoc, xbools_make, xcopy_make, List.length_replicate, List.length_cons, List.length_nil, Nat.reduceAdd, xcall_of h1, xcall_of h2, xints_nil, Bool.not_false]
      exact hbad
    | true =>
      rw [hg] at h2
      obtain ⟨-, hs⟩ := rightB_in hb
      obtain ⟨e1, e2, e3, e4⟩ := goodI_in hg
      simp (disch := first | omega | (simp only [List.length_set, List.length_map, List.length_replicate, List.length_append, List.length_modify]; omega)) only [xrun_ret, run_ite, run_fail, run_letj, xrun_loop, run_jump, xrun_call, jmp_join, jmp_loop, br_fail, br_true, br_false, xden_var, den_int, den_bool, den_str, den_nil, den_nilc, den_un, den_bin, den_tri, xon_and, xon_or, on_beq, xon_not, on_len, on_neg, on_conv, on_max, on_min, on_snoc, on_cat, on_cons, on_make, on_copy, on_plus, on_minus, on_cell, on_sel, on_slice, on_set, on_put, on_cmp, on_ar, ev_lss, ev_leq, ev_gtr, ev_geq, ev_eql, ev_neq, ar_add, ar_sub, ar_mul, ar_quo, ar_rem, pi_int, b_bool, r_row, c_cells, rowOf_r, List.map_cons, List.map_nil, List.cons_append, List.nil_append, List.getD_cons_zero, List.getD_cons_succ, List.getElem?_cons_zero, List.getElem?_cons_succ, List.take_zero, List.take_succ_cons, List.length_map, Int.toNat_natCast, decide_eq_true_eq, Int.ofNat_lt, Int.ofNat_le, xnat_nonneg, true_and, and_true, if_true, if_false, reduceIte, wrap_in, xints_at, xbools_at, xints_set, xints_snoc, xints_make, xints_nil, xbools_set, xbools_snoc, xbools_make, xcopy_make, List.length_replicate, List.length_cons, List.length_nil, Nat.reduceAdd, xcall_of h1, xcall_of h2, Bool.not_true, Bool.and_self]
      rw [u_ref26_Grow_j0]
      have hu1 := u1S_in s 0 hs (Int.le_refl _) (by omega)
      have hu3 := u3S_in s a hl ws (u1S s 0) hu1.1 hu1.2
      have k5 := rgl5_run s (ints a) (rowOf eWn ws) (B false) (I s.length) (I (u1S s 0)) (I ws.length) (u3S s a ws (u1S s 0)) (.loop ref26_Grow_l1 [rowOf eSz s, ints a, rowOf eWn ws, B false]) (.loop ref26_Grow_l3 [rowOf eSz s, ints a, rowOf eWn ws, B false, I s.length, I (u1S s 0)]) hs hl hu3 0 (Nat.zero_le _) [] rfl
      rw [List.drop_zero, List.nil_append] at k5
      have k3 := rg3_run s a ws (B false) (I s.length) (I (u1S s 0)) _ _ hs hl e3 e1 e2 e4 0 (Nat.zero_le _) (u1S s 0) k5
      have k1 := rg1_run s (ints a) (rowOf eWn ws) (B false) _ hs hl 0 (Nat.zero_le _) 0 k3
      simp (disch := first | omega | (simp only [List.length_set, List.length_map, List.length_replicate, List.length_append, List.length_modify]; omega)) only [xrun_ret, run_ite, run_fail, run_letj, xrun_loop, run_jump, xrun_call, jmp_join, jmp_loop, br_fail, br_true, br_false, xden_var, den_int, den_bool, den_str, den_nil, den_nilc, den_un, den_bin, den_tri, xon_and, xon_or, on_beq, xon_not, on_len, on_neg, on_conv, on_max, on_min, on_snoc, on_cat, on_cons, on_make, on_copy, on_plus, on_minus, on_cell, on_sel, on_slice, on_set, on_put, on_cmp, on_ar, ev_lss, ev_leq, ev_gtr, ev_geq, ev_eql, ev_neq, ar_add, ar_sub, ar_mul, ar_quo, ar_rem, pi_int, b_bool, r_row, c_cells, rowOf_r, List.map_cons, List.map_nil, List.cons_append, List.nil_append, List.getD_cons_zero, List.getD_cons_succ, List.getElem?_cons_zero, List.getElem?_cons_succ, List.take_zero, List.take_succ_cons, List.length_map, Int.toNat_natCast, decide_eq_true_eq, Int.ofNat_lt, Int.ofNat_le, xnat_nonneg, true_and, and_true, if_true, if_false, reduceIte, wrap_in, xints_at, xbools_at, xints_set, xints_snoc, xints_make, xints_nil, xbools_set, xbools_snoc, xbools_make, xcopy_make, List.length_replicate, List.length_cons, List.length_nil, Nat.reduceAdd, Bool.false_eq_true]
      try rw [br_neg (by simp)]
      exact k1
end Go.Proofs.Ytpaabecgngbjcaa.T
