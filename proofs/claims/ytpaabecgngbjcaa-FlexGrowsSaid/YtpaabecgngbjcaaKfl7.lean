/- What the tree comes to that shares a space, as a whole; how much one fr is. No condition beyond what each states. -/
import Derived.Test.YtpaabecgngbjcaaT
import Derived.Test.YtpaabecgngbjcaaKfl6
set_option linter.unusedVariables false
set_option linter.unusedSimpArgs false
set_option maxRecDepth 10000
namespace Go.Proofs.Ytpaabecgngbjcaa.T
open Go Go.Proofs.Ytpaabecgngbjcaa.Sx Go.Proofs.Ytpaabecgngbjcaa.M

theorem leftS_in : ∀ (s : List Sz) (st : List Bool) (n : Int), s.all okF = true → 0 ≤ n → n ≤ 68719476736 → 0 ≤ leftS s st n ∧ leftS s st n ≤ 68719476736
  | [], st, n, _, h0, h1 => by cases st <;> exact ⟨h0, h1⟩
  | x :: s, [], n, _, h0, h1 => ⟨h0, h1⟩
  | x :: s, b :: st, n, h, h0, h1 => by
    simp only [List.all_cons, Bool.and_eq_true] at h
    have hx := okF_in h.1
    rw [leftS]
    refine leftS_in s st _ h.2 ?_ ?_ <;> split <;> omega
theorem partsF_in : ∀ (s : List Sz) (st : List Bool) (n : Int), s.all okF = true → 0 ≤ n → n ≤ partsF s st n ∧ partsF s st n ≤ n + 1073741824 * s.length
  | [], st, n, _, h0 => by cases st <;> simp [partsF]
  | x :: s, [], n, _, h0 => by simp only [partsF, List.length_cons]; omega
  | x :: s, b :: st, n, h, h0 => by
    simp only [List.all_cons, Bool.and_eq_true] at h
    have hx := okF_in h.1
    rw [partsF]
    simp only [List.length_cons]
    split
    · have := partsF_in s st n h.2 h0
      omega
    · have := partsF_in s st (n + x.fr) h.2 (by omega)
      omega
theorem whoF_in : ∀ (s : List Sz) (st : List Bool) (i : Nat), (whoF i s st).length ≤ s.length ∧ ∀ x ∈ whoF i s st, ∃ q : Nat, x = q ∧ i ≤ q ∧ q < i + s.length
  | [], st, i => by cases st <;> simp [whoF]
  | x :: s, [], i => by simp [whoF]
  | x :: s, b :: st, i => by
    obtain ⟨h1, h2⟩ := whoF_in s st (i + 1)
    simp only [whoF, List.length_cons]
    split
    · refine ⟨by omega, fun y hy => ?_⟩
      obtain ⟨q, e, g1, g2⟩ := h2 y hy
      exact ⟨q, e, by omega, by omega⟩
    · refine ⟨by simp only [List.length_cons]; omega, fun y hy => ?_⟩
      rcases List.mem_cons.1 hy with rfl | hy
      · exact ⟨i, rfl, by omega, by omega⟩
      · obtain ⟨q, e, g1, g2⟩ := h2 y hy
        exact ⟨q, e, by omega, by omega⟩
theorem l0_run (s : List Sz) (space : Int) (hs : s.all okF = true) (hl : s.length ≤ 10000) (hsp : 0 ≤ space ∧ space ≤ 68719476736) : ∀ (m : Nat) (st : List Bool) (p2 p3 p4 : PV), st.length = s.length → s.length ≤ m + cntT st →
    ∃ k, stepS s space (iterS s space k st) = iterS s space k st ∧ Run tr flex_shared_l0 [rowOf eSz s, I space, p2, p3, p4, bools st] [.loop flex_shared_l0 [rowOf eSz s, I space]] [I (leftS s (iterS s space k st) space), I (partsF s (iterS s space k st) 0), ints (whoF 0 s (iterS s space k st))] := by
  intro m
  induction m with
  | zero =>
    intro st p2 p3 p4 hst hm
    obtain ⟨e1, e2⟩ := setW_eq (leftS s st space) (partsF s st 0) s st [] [] hst rfl
    simp only [List.nil_append, List.length_nil] at e1 e2
    obtain ⟨c1, c2⟩ := stepF_cnt (leftS s st space) (partsF s st 0) s st
    have c3 := cntT_le (stepF (leftS s st space) (partsF s st 0) s st)
    rw [stepF_length] at c3
    have hfix : stepS s space st = st := c2 (by omega)
    obtain ⟨w1, w2⟩ := whoF_in s st 0
    have hL := leftS_in s st space hs hsp.1 hsp.2
    have hN := partsF_in s st 0 hs (Int.le_refl _)
    refine ⟨0, hfix, ?_⟩
    simp only [iterS]
    rw [u_flex_shared_l0]
    simp (disch := first | omega | (simp only [List.length_set, List.length_map, List.length_replicate, List.length_append, List.length_modify]; omega)) only [xrun_ret, run_ite, run_fail, run_letj, xrun_loop, run_jump, xrun_call, jmp_join, jmp_loop, br_fail, br_true, br_false, xden_var, den_int, den_bool, den_str, den_nil, den_nilc, den_un, den_bin, den_tri, xon_and, xon_or, on_beq, xon_not, on_len, on_neg, on_conv, on_max, on_min, on_snoc, on_cat, on_cons, on_make, on_copy, on_plus, on_minus, on_cell, on_sel, on_slice, on_set, on_put, on_cmp, on_ar, ev_lss, ev_leq, ev_gtr, ev_geq, ev_eql, ev_neq, ar_add, ar_sub, ar_mul, ar_quo, ar_rem, pi_int, b_bool, r_row, c_cells, rowOf_r, List.map_cons, List.map_nil, List.cons_append, List.nil_append, List.getD_cons_zero, List.getD_cons_succ, List.getElem?_cons_zero, List.getElem?_cons_succ, List.take_zero, List.take_succ_cons, List.length_map, Int.toNat_natCast, decide_eq_true_eq, Int.ofNat_lt, Int.ofNat_le, xnat_nonneg, true_and, and_true, if_true, if_false, reduceIte, wrap_in, xints_at, xbools_at, xints_set, xints_snoc, xints_make, xints_nil, xbools_set, xbools_snoc, xbools_make, xcopy_make, List.length_replicate, List.length_cons, List.length_nil, Nat.reduceAdd]
    refine l1_run s space p2 p3 p4 st (.loop flex_shared_l0 [rowOf eSz s, I space]) _ hs hl hst 0 (Nat.zero_le _) space 0 [] hsp.1 hsp.2 (Int.le_refl _) (by omega) (Nat.le_refl _) ?_
    simp only [List.drop_zero, List.nil_append]
    have h3 := l3_run s space p2 p3 p4 st (leftS s st space) (partsF s st 0) (whoF 0 s st) (.loop flex_shared_l0 [rowOf eSz s, I space]) (.loop flex_shared_l1 [rowOf eSz s, I space, p2, p3, p4, bools st]) [I (leftS s st space), I (partsF s st 0), ints (whoF 0 s st)] hs hl hL (by omega) (fun x hx => by obtain ⟨q, e, _, g⟩ := w2 x hx; exact ⟨q, e, by omega⟩) (by omega) 0 (Nat.zero_le _) 0 st hst (Nat.le_refl _) (fun _ => rfl) (fun hh => by rw [List.drop_zero] at hh; omega)
    simpa using h3
  | succ m ih =>
    intro st p2 p3 p4 hst hm
    obtain ⟨e1, e2⟩ := setW_eq (leftS s st space) (partsF s st 0) s st [] [] hst rfl
    simp only [List.nil_append, List.length_nil] at e1 e2
    obtain ⟨c1, c2⟩ := stepF_cnt (leftS s st space) (partsF s st 0) s st
    obtain ⟨w1, w2⟩ := whoF_in s st 0
    have hL := leftS_in s st space hs hsp.1 hsp.2
    have hN := partsF_in s st 0 hs (Int.le_refl _)
    by_cases hz : cntW (leftS s st space) (partsF s st 0) s (whoF 0 s st) = 0
    · have hfix : stepS s space st = st := c2 (by omega)
      refine ⟨0, hfix, ?_⟩
      simp only [iterS]
      rw [u_flex_shared_l0]
      simp (disch := first | omega | (simp only [List.length_set, List.length_map, List.length_replicate, List.length_append, List.length_modify]; omega)) only [xrun_ret, run_ite, run_fail, run_letj, xrun_loop, run_jump, xrun_call, jmp_join, jmp_loop, br_fail, br_true, br_false, xden_var, den_int, den_bool, den_str, den_nil, den_nilc, den_un, den_bin, den_tri, xon_and, xon_or, on_beq, xon_not, on_len, on_neg, on_conv, on_max, on_min, on_snoc, on_cat, on_cons, on_make, on_copy, on_plus, on_minus, on_cell, on_sel, on_slice, on_set, on_put, on_cmp, on_ar, ev_lss, ev_leq, ev_gtr, ev_geq, ev_eql, ev_neq, ar_add, ar_sub, ar_mul, ar_quo, ar_rem, pi_int, b_bool, r_row, c_cells, rowOf_r, List.map_cons, List.map_nil, List.cons_append, List.nil_append, List.getD_cons_zero, List.getD_cons_succ, List.getElem?_cons_zero, List.getElem?_cons_succ, List.take_zero, List.take_succ_cons, List.length_map, Int.toNat_natCast, decide_eq_true_eq, Int.ofNat_lt, Int.ofNat_le, xnat_nonneg, true_and, and_true, if_true, if_false, reduceIte, wrap_in, xints_at, xbools_at, xints_set, xints_snoc, xints_make, xints_nil, xbools_set, xbools_snoc, xbools_make, xcopy_make, List.length_replicate, List.length_cons, List.length_nil, Nat.reduceAdd]
      refine l1_run s space p2 p3 p4 st (.loop flex_shared_l0 [rowOf eSz s, I space]) _ hs hl hst 0 (Nat.zero_le _) space 0 [] hsp.1 hsp.2 (Int.le_refl _) (by omega) (Nat.le_refl _) ?_
      simp only [List.drop_zero, List.nil_append]
      have h3 := l3_run s space p2 p3 p4 st (leftS s st space) (partsF s st 0) (whoF 0 s st) (.loop flex_shared_l0 [rowOf eSz s, I space]) (.loop flex_shared_l1 [rowOf eSz s, I space, p2, p3, p4, bools st]) [I (leftS s st space), I (partsF s st 0), ints (whoF 0 s st)] hs hl hL (by omega) (fun x hx => by obtain ⟨q, e, _, g⟩ := w2 x hx; exact ⟨q, e, by omega⟩) (by omega) 0 (Nat.zero_le _) 0 st hst (Nat.le_refl _) (fun _ => rfl) (fun hh => by rw [List.drop_zero] at hh; omega)
      simpa using h3
    · obtain ⟨k, hk1, hk2⟩ := ih (stepS s space st) (I (leftS s st space)) (I (partsF s st 0)) (ints (whoF 0 s st)) (by rw [stepS_length]; exact hst) (by
        have : cntT (stepS s space st) = cntT st + cntW (leftS s st space) (partsF s st 0) s (whoF 0 s st) := e2
        omega)
      refine ⟨k + 1, hk1, ?_⟩
      simp only [iterS]
      rw [u_flex_shared_l0]
      simp (disch := first | omega | (simp only [List.length_set, List.length_map, List.length_replicate, List.length_append, List.length_modify]; omega)) only [xrun_ret, run_ite, run_fail, run_letj, xrun_loop, run_jump, xrun_call, jmp_join, jmp_loop, br_fail, br_true, br_false, xden_var, den_int, den_bool, den_str, den_nil, den_nilc, den_un, den_bin, den_tri, xon_and, xon_or, on_beq, xon_not, on_len, on_neg, on_conv, on_max, on_min, on_snoc, on_cat, on_cons, on_make, on_copy, on_plus, on_minus, on_cell, on_sel, on_slice, on_set, on_put, on_cmp, on_ar, ev_lss, ev_leq, ev_gtr, ev_geq, ev_eql, ev_neq, ar_add, ar_sub, ar_mul, ar_quo, ar_rem, pi_int, b_bool, r_row, c_cells, rowOf_r, List.map_cons, List.map_nil, List.cons_append, List.nil_append, List.getD_cons_zero, List.getD_cons_succ, List.getElem?_cons_zero, List.getElem?_cons_succ, List.take_zero, List.take_succ_cons, List.length_map, Int.toNat_natCast, decide_eq_true_eq, Int.ofNat_lt, Int.ofNat_le, xnat_nonneg, true_and, and_true, if_true, if_false, reduceIte, wrap_in, xints_at, xbools_at, xints_set, xints_snoc, xints_make, xints_nil, xbools_set, xbools_snoc, xbools_make, xcopy_make, List.length_replicate, List.length_cons, List.length_nil, Nat.reduceAdd]
      refine l1_run s space p2 p3 p4 st (.loop flex_shared_l0 [rowOf eSz s, I space]) _ hs hl hst 0 (Nat.zero_le _) space 0 [] hsp.1 hsp.2 (Int.le_refl _) (by omega) (Nat.le_refl _) ?_
      simp only [List.drop_zero, List.nil_append]
      have h3 := l3_run s space p2 p3 p4 st (leftS s st space) (partsF s st 0) (whoF 0 s st) (.loop flex_shared_l0 [rowOf eSz s, I space]) (.loop flex_shared_l1 [rowOf eSz s, I space, p2, p3, p4, bools st]) [I (leftS s (iterS s space k (stepS s space st)) space), I (partsF s (iterS s space k (stepS s space st)) 0), ints (whoF 0 s (iterS s space k (stepS s space st)))] hs hl hL (by omega) (fun x hx => by obtain ⟨q, e, _, g⟩ := w2 x hx; exact ⟨q, e, by omega⟩) (by omega) 0 (Nat.zero_le _) 0 st hst (Nat.le_refl _) (fun hh => by rw [List.drop_zero] at hh; omega) (fun _ => by rw [List.drop_zero, e1]; exact hk2)
      simpa using h3
/-- Who is stiff at last. -/
def finS (s : List Sz) (space : Int) : List Bool := iterS s space (s.length + 1) (List.replicate s.length false)
theorem fshared_sp (s : List Sz) (space : Int) (hs : s.all okF = true) (hl : s.length ≤ 10000) (hsp : 0 ≤ space ∧ space ≤ 68719476736) : Says tr c_flex_shared [rowOf eSz s, I space] [I (leftS s (finS s space) space), I (partsF s (finS s space) 0), ints (whoF 0 s (finS s space))] := by
  refine Says.of (t := flex_shared) rfl ?_
  obtain ⟨k, h1, h2⟩ := l0_run s space hs hl hsp s.length (List.replicate s.length false) (I 0) (I 0) (ints []) (by simp) (by omega)
  have hd := iterS_done s space (s.length + 1) (List.replicate s.length false) (by simp; omega)
  have he : iterS s space k (List.replicate s.length false) = finS s space := by
    rcases Nat.le_total k (s.length + 1) with h | h
    · exact (iterS_eq k _ _ h1 h).symm
    · exact iterS_eq _ k _ hd h
  rw [he] at h2
  rw [u_flex_shared]
  simp (disch := first | omega | (simp only [List.length_set, List.length_map, List.length_replicate, List.length_append, List.length_modify]; omega)) only [xrun_ret, run_ite, run_fail, run_letj, xrun_loop, run_jump, xrun_call, jmp_join, jmp_loop, br_fail, br_true, br_false, xden_var, den_int, den_bool, den_str, den_nil, den_nilc, den_un, den_bin, den_tri, xon_and, xon_or, on_beq, xon_not, on_len, on_neg, on_conv, on_max, on_min, on_snoc, on_cat, on_cons, on_make, on_copy, on_plus, on_minus, on_cell, on_sel, on_slice, on_set, on_put, on_cmp, on_ar, ev_lss, ev_leq, ev_gtr, ev_geq, ev_eql, ev_neq, ar_add, ar_sub, ar_mul, ar_quo, ar_rem, pi_int, b_bool, r_row, c_cells, rowOf_r, List.map_cons, List.map_nil, List.cons_append, List.nil_append, List.getD_cons_zero, List.getD_cons_succ, List.getElem?_cons_zero, List.getElem?_cons_succ, List.take_zero, List.take_succ_cons, List.length_map, Int.toNat_natCast, decide_eq_true_eq, Int.ofNat_lt, Int.ofNat_le, xnat_nonneg, true_and, and_true, if_true, if_false, reduceIte, wrap_in, xints_at, xbools_at, xints_set, xints_snoc, xints_make, xints_nil, xbools_set, xbools_snoc, xbools_make, xcopy_make, List.length_replicate, List.length_cons, List.length_nil, Nat.reduceAdd]
  first | exact h2 | exact ⟨by omega, h2⟩
end Go.Proofs.Ytpaabecgngbjcaa.T
