/- What the trees of cells come to: whether a cell is right, its sides, where tracks begin and end. No condition beyond what each states. -/
import Derived.Test.YtmfjdoanipgjkaaT
import Derived.Test.YtmfjdoanipgjkaaKtot
import Derived.Test.YtmfjdoanipgjkaaKdiv
set_option linter.unusedVariables false
set_option linter.unusedSimpArgs false
namespace Go.Proofs.Ytmfjdoanipgjkaa.T
open Go Go.Proofs.Ytmfjdoanipgjkaa.Sx Go.Proofs.Ytmfjdoanipgjkaa.M

/-- A cell. -/
structure Cl where
  row : Int
  col : Int
  rows : Int
  cols : Int
  deriving DecidableEq
@[reducible] def eCl (x : Cl) : List PV := [I x.row, I x.col, I x.rows, I x.cols]
theorem cl_at0 (l : List Cl) (i : Nat) (h : i < l.length) (k : LK) : cellAt (l.map eCl) (i : Int) 0 k = I l[i].row := by rw [xcell_at l i h]; rfl
theorem cl_at1 (l : List Cl) (i : Nat) (h : i < l.length) (k : LK) : cellAt (l.map eCl) (i : Int) 1 k = I l[i].col := by rw [xcell_at l i h]; rfl
theorem cl_at2 (l : List Cl) (i : Nat) (h : i < l.length) (k : LK) : cellAt (l.map eCl) (i : Int) 2 k = I l[i].rows := by rw [xcell_at l i h]; rfl
theorem cl_at3 (l : List Cl) (i : Nat) (h : i < l.length) (k : LK) : cellAt (l.map eCl) (i : Int) 3 k = I l[i].cols := by rw [xcell_at l i h]; rfl
theorem cl_open {p : PV} (h : (LK.row [.int .i64, .int .i64, .int .i64, .int .i64]).ok p) : ∃ l : List Cl, p = rowOf eCl l := by
  refine row_open (W := fun _ => True) (fun x hx _ => ?_) h (fun _ _ => trivial)
  match x, hx with
  | [.int k0 a, .int k1 b, .int k2 c, .int k3 d], hx =>
    simp only [LK.oks, LK.ok] at hx
    obtain ⟨rfl, rfl, rfl, rfl, _⟩ := hx
    exact ⟨⟨a, b, c, d⟩, rfl⟩
/-- Is a cell right? -/
def gC (x : Cl) : Prop := -10000 ≤ x.row ∧ x.row ≤ 10000 ∧ -10000 ≤ x.col ∧ x.col ≤ 10000 ∧ 1 ≤ x.rows ∧ x.rows ≤ 20000 ∧ 1 ≤ x.cols ∧ x.cols ≤ 20000
instance (x : Cl) : Decidable (gC x) := by unfold gC; exact inferInstance
theorem og1_sp (x : Int) : Says tr c_occupy_good_1 [I x] [B (decide (-10000 ≤ x) && decide (x ≤ 10000))] := by
  refine Says.of (t := occupy_good_1) rfl ?_
  rw [u_occupy_good_1]
  simp (disch := first | omega | (simp only [List.length_set, List.length_map, List.length_replicate, List.length_append, List.length_modify]; omega)) only [xrun_ret, run_ite, run_fail, run_letj, xrun_loop, run_jump, xrun_call, jmp_join, jmp_loop, br_fail, br_true, br_false, xden_var, den_int, den_bool, den_str, den_nil, den_nilc, den_un, den_bin, den_tri, xon_and, xon_or, on_beq, xon_not, on_len, on_neg, on_conv, on_max, on_min, on_snoc, on_cat, on_cons, on_make, on_copy, on_plus, on_minus, on_cell, on_sel, on_slice, on_set, on_put, on_cmp, on_ar, ev_lss, ev_leq, ev_gtr, ev_geq, ev_eql, ev_neq, ar_add, ar_sub, ar_mul, ar_quo, ar_rem, pi_int, b_bool, r_row, c_cells, rowOf_r, List.map_cons, List.map_nil, List.cons_append, List.nil_append, List.getD_cons_zero, List.getD_cons_succ, List.getElem?_cons_zero, List.getElem?_cons_succ, List.take_zero, List.take_succ_cons, List.length_map, Int.toNat_natCast, decide_eq_true_eq, Int.ofNat_lt, Int.ofNat_le, xnat_nonneg, true_and, and_true, if_true, if_false, reduceIte, wrap_in, xints_at, xbools_at, xints_set, xints_snoc, xints_make, xints_nil, xbools_set, xbools_snoc, xbools_make, xcopy_make, List.length_replicate, List.length_cons, List.length_nil, Nat.reduceAdd, ge_iff_le]
theorem og2_sp (x : Int) : Says tr c_occupy_good_2 [I x] [B (decide (1 ≤ x) && decide (x ≤ 20000))] := by
  refine Says.of (t := occupy_good_2) rfl ?_
  rw [u_occupy_good_2]
  simp (disch := first | omega | (simp only [List.length_set, List.length_map, List.length_replicate, List.length_append, List.length_modify]; omega)) only [xrun_ret, run_ite, run_fail, run_letj, xrun_loop, run_jump, xrun_call, jmp_join, jmp_loop, br_fail, br_true, br_false, xden_var, den_int, den_bool, den_str, den_nil, den_nilc, den_un, den_bin, den_tri, xon_and, xon_or, on_beq, xon_not, on_len, on_neg, on_conv, on_max, on_min, on_snoc, on_cat, on_cons, on_make, on_copy, on_plus, on_minus, on_cell, on_sel, on_slice, on_set, on_put, on_cmp, on_ar, ev_lss, ev_leq, ev_gtr, ev_geq, ev_eql, ev_neq, ar_add, ar_sub, ar_mul, ar_quo, ar_rem, pi_int, b_bool, r_row, c_cells, rowOf_r, List.map_cons, List.map_nil, List.cons_append, List.nil_append, List.getD_cons_zero, List.getD_cons_succ, List.getElem?_cons_zero, List.getElem?_cons_succ, List.take_zero, List.take_succ_cons, List.length_map, Int.toNat_natCast, decide_eq_true_eq, Int.ofNat_lt, Int.ofNat_le, xnat_nonneg, true_and, and_true, if_true, if_false, reduceIte, wrap_in, xints_at, xbools_at, xints_set, xints_snoc, xints_make, xints_nil, xbools_set, xbools_snoc, xbools_make, xcopy_make, List.length_replicate, List.length_cons, List.length_nil, Nat.reduceAdd, ge_iff_le]
theorem ogood_sp (a b c d : Int) : Says tr c_occupy_good [I a, I b, I c, I d] [B (decide (gC ⟨a, b, c, d⟩))] := by
  refine Says.of (t := occupy_good) rfl ?_
  rw [u_occupy_good]
  simp (disch := first | omega | (simp only [List.length_set, List.length_map, List.length_replicate, List.length_append, List.length_modify]; omega)) only [xrun_ret, run_ite, run_fail, run_letj, xrun_loop, run_jump, xrun_call, jmp_join, jmp_loop, br_fail, br_true, br_false, xden_var, den_int, den_bool, den_str, den_nil, den_nilc, den_un, den_bin, den_tri, xon_and, xon_or, on_beq, xon_not, on_len, on_neg, on_conv, on_max, on_min, on_snoc, on_cat, on_cons, on_make, on_copy, on_plus, on_minus, on_cell, on_sel, on_slice, on_set, on_put, on_cmp, on_ar, ev_lss, ev_leq, ev_gtr, ev_geq, ev_eql, ev_neq, ar_add, ar_sub, ar_mul, ar_quo, ar_rem, pi_int, b_bool, r_row, c_cells, rowOf_r, List.map_cons, List.map_nil, List.cons_append, List.nil_append, List.getD_cons_zero, List.getD_cons_succ, List.getElem?_cons_zero, List.getElem?_cons_succ, List.take_zero, List.take_succ_cons, List.length_map, Int.toNat_natCast, decide_eq_true_eq, Int.ofNat_lt, Int.ofNat_le, xnat_nonneg, true_and, and_true, if_true, if_false, reduceIte, wrap_in, xints_at, xbools_at, xints_set, xints_snoc, xints_make, xints_nil, xbools_set, xbools_snoc, xbools_make, xcopy_make, List.length_replicate, List.length_cons, List.length_nil, Nat.reduceAdd, xcall_of (og1_sp _), xcall_of (og2_sp _), Bool.not_and, Bool.not_or, Bool.not_not, Bool.and_eq_true, Bool.or_eq_true, Bool.not_eq_true', Bool.and_eq_false_imp, Bool.or_eq_false_iff, decide_eq_false_iff_not, decide_eq_true_eq, beq_iff_eq, beq_eq_false_iff_ne, bne_iff_ne, bne_eq_false_iff_eq, ne_eq, gt_iff_lt, ge_iff_le, Bool.false_eq_true, Bool.true_eq_false, beq_self_eq_true, beq_true, beq_false, Bool.not_false, Bool.not_true, Bool.false_and, Bool.true_and, Bool.and_true, Bool.and_false, Bool.or_true, Bool.true_or, Bool.or_false, Bool.false_or, false_and, true_and, and_false, and_true, or_false, or_true, false_or, true_or, not_true_eq_false, not_false_eq_true, false_iff, iff_false, true_iff, iff_true, forall_const, false_imp_iff, true_imp_iff, reduceCtorEq, imp_false]
  unfold gC
  by_cases h1 : -10000 ≤ a ∧ a ≤ 10000
  · rw [br_pos h1]
    by_cases h2 : -10000 ≤ b ∧ b ≤ 10000
    · rw [br_pos h2]
      by_cases h3 : 1 ≤ c ∧ c ≤ 20000
      · rw [br_pos h3]
        simp only [h1, h2, h3, true_and, Bool.decide_and]
      · rw [br_neg h3]
        have : ¬ (-10000 ≤ a ∧ a ≤ 10000 ∧ -10000 ≤ b ∧ b ≤ 10000 ∧ 1 ≤ c ∧ c ≤ 20000 ∧ 1 ≤ d ∧ d ≤ 20000) := by omega
        simp [this]
    · rw [br_neg h2]
      have : ¬ (-10000 ≤ a ∧ a ≤ 10000 ∧ -10000 ≤ b ∧ b ≤ 10000 ∧ 1 ≤ c ∧ c ≤ 20000 ∧ 1 ≤ d ∧ d ≤ 20000) := by omega
      simp [this]
  · rw [br_neg h1]
    have : ¬ (-10000 ≤ a ∧ a ≤ 10000 ∧ -10000 ≤ b ∧ b ≤ 10000 ∧ 1 ≤ c ∧ c ≤ 20000 ∧ 1 ≤ d ∧ d ≤ 20000) := by omega
    simp [this]
theorem free_sp (a b c d : Int) : Says tr c_occupy_Free [ints [], I a, I b, I c, I d] [B (decide (gC ⟨a, b, c, d⟩))] := by
  refine Says.of (t := occupy_Free) rfl ?_
  rw [u_occupy_Free]
  simp (disch := first | omega | (simp only [List.length_set, List.length_map, List.length_replicate, List.length_append, List.length_modify]; omega)) only [xrun_ret, run_ite, run_fail, run_letj, xrun_loop, run_jump, xrun_call, jmp_join, jmp_loop, br_fail, br_true, br_false, xden_var, den_int, den_bool, den_str, den_nil, den_nilc, den_un, den_bin, den_tri, xon_and, xon_or, on_beq, xon_not, on_len, on_neg, on_conv, on_max, on_min, on_snoc, on_cat, on_cons, on_make, on_copy, on_plus, on_minus, on_cell, on_sel, on_slice, on_set, on_put, on_cmp, on_ar, ev_lss, ev_leq, ev_gtr, ev_geq, ev_eql, ev_neq, ar_add, ar_sub, ar_mul, ar_quo, ar_rem, pi_int, b_bool, r_row, c_cells, rowOf_r, List.map_cons, List.map_nil, List.cons_append, List.nil_append, List.getD_cons_zero, List.getD_cons_succ, List.getElem?_cons_zero, List.getElem?_cons_succ, List.take_zero, List.take_succ_cons, List.length_map, Int.toNat_natCast, decide_eq_true_eq, Int.ofNat_lt, Int.ofNat_le, xnat_nonneg, true_and, and_true, if_true, if_false, reduceIte, wrap_in, xints_at, xbools_at, xints_set, xints_snoc, xints_make, xints_nil, xbools_set, xbools_snoc, xbools_make, xcopy_make, List.length_replicate, List.length_cons, List.length_nil, Nat.reduceAdd]
  rw [u_occupy_Free_l0]
  simp (disch := first | omega | (simp only [List.length_set, List.length_map, List.length_replicate, List.length_append, List.length_modify]; omega)) only [xrun_ret, run_ite, run_fail, run_letj, xrun_loop, run_jump, xrun_call, jmp_join, jmp_loop, br_fail, br_true, br_false, xden_var, den_int, den_bool, den_str, den_nil, den_nilc, den_un, den_bin, den_tri, xon_and, xon_or, on_beq, xon_not, on_len, on_neg, on_conv, on_max, on_min, on_snoc, on_cat, on_cons, on_make, on_copy, on_plus, on_minus, on_cell, on_sel, on_slice, on_set, on_put, on_cmp, on_ar, ev_lss, ev_leq, ev_gtr, ev_geq, ev_eql, ev_neq, ar_add, ar_sub, ar_mul, ar_quo, ar_rem, pi_int, b_bool, r_row, c_cells, rowOf_r, List.map_cons, List.map_nil, List.cons_append, List.nil_append, List.getD_cons_zero, List.getD_cons_succ, List.getElem?_cons_zero, List.getElem?_cons_succ, List.take_zero, List.take_succ_cons, List.length_map, Int.toNat_natCast, decide_eq_true_eq, Int.ofNat_lt, Int.ofNat_le, xnat_nonneg, true_and, and_true, if_true, if_false, reduceIte, wrap_in, xints_at, xbools_at, xints_set, xints_snoc, xints_make, xints_nil, xbools_set, xbools_snoc, xbools_make, xcopy_make, List.length_replicate, List.length_cons, List.length_nil, Nat.reduceAdd, List.length_nil, xcall_of (ogood_sp _ _ _ _)]
  simp (disch := omega) only [br_neg]
theorem rgood19_sp (a b c d : Int) : Says tr c_ref19_Good [I a, I b, I c, I d] [B (decide (gC ⟨a, b, c, d⟩))] := by
  refine Says.of (t := ref19_Good) rfl ?_
  rw [u_ref19_Good]
  unfold gC
  simp (disch := first | omega | (simp only [List.length_set, List.length_map, List.length_replicate, List.length_append, List.length_modify]; omega)) only [xrun_ret, run_ite, run_fail, run_letj, xrun_loop, run_jump, xrun_call, jmp_join, jmp_loop, br_fail, br_true, br_false, xden_var, den_int, den_bool, den_str, den_nil, den_nilc, den_un, den_bin, den_tri, xon_and, xon_or, on_beq, xon_not, on_len, on_neg, on_conv, on_max, on_min, on_snoc, on_cat, on_cons, on_make, on_copy, on_plus, on_minus, on_cell, on_sel, on_slice, on_set, on_put, on_cmp, on_ar, ev_lss, ev_leq, ev_gtr, ev_geq, ev_eql, ev_neq, ar_add, ar_sub, ar_mul, ar_quo, ar_rem, pi_int, b_bool, r_row, c_cells, rowOf_r, List.map_cons, List.map_nil, List.cons_append, List.nil_append, List.getD_cons_zero, List.getD_cons_succ, List.getElem?_cons_zero, List.getElem?_cons_succ, List.take_zero, List.take_succ_cons, List.length_map, Int.toNat_natCast, decide_eq_true_eq, Int.ofNat_lt, Int.ofNat_le, xnat_nonneg, true_and, and_true, if_true, if_false, reduceIte, wrap_in, xints_at, xbools_at, xints_set, xints_snoc, xints_make, xints_nil, xbools_set, xbools_snoc, xbools_make, xcopy_make, List.length_replicate, List.length_cons, List.length_nil, Nat.reduceAdd, ge_iff_le]
  have e : ∀ x y : Bool, x = y → [B x] = [B y] := fun _ _ h => by rw [h]
  refine e _ _ ?_
  rw [Bool.eq_iff_iff]
  simp [and_assoc]
  exact decide_eq_true_iff.symm
/-- Where a cell begins and ends along an axis. -/
def sd (x : Cl) (rows : Bool) : Int × Int := if rows then (x.row, x.row + x.rows) else (x.col, x.col + x.cols)
theorem side_sp (x : Cl) (rows : Bool) (h : gC x) : Says tr c_implicit_side [I x.row, I x.col, I x.rows, I x.cols, B rows] [I (sd x rows).1, I (sd x rows).2] := by
  refine Says.of (t := implicit_side) rfl ?_
  rw [u_implicit_side]
  unfold gC at h
  cases rows with
  | true => simp (disch := first | omega | (simp only [List.length_set, List.length_map, List.length_replicate, List.length_append, List.length_modify]; omega)) only [xrun_ret, run_ite, run_fail, run_letj, xrun_loop, run_jump, xrun_call, jmp_join, jmp_loop, br_fail, br_true, br_false, xden_var, den_int, den_bool, den_str, den_nil, den_nilc, den_un, den_bin, den_tri, xon_and, xon_or, on_beq, xon_not, on_len, on_neg, on_conv, on_max, on_min, on_snoc, on_cat, on_cons, on_make, on_copy, on_plus, on_minus, on_cell, on_sel, on_slice, on_set, on_put, on_cmp, on_ar, ev_lss, ev_leq, ev_gtr, ev_geq, ev_eql, ev_neq, ar_add, ar_sub, ar_mul, ar_quo, ar_rem, pi_int, b_bool, r_row, c_cells, rowOf_r, List.map_cons, List.map_nil, List.cons_append, List.nil_append, List.getD_cons_zero, List.getD_cons_succ, List.getElem?_cons_zero, List.getElem?_cons_succ, List.take_zero, List.take_succ_cons, List.length_map, Int.toNat_natCast, decide_eq_true_eq, Int.ofNat_lt, Int.ofNat_le, xnat_nonneg, true_and, and_true, if_true, if_false, reduceIte, wrap_in, xints_at, xbools_at, xints_set, xints_snoc, xints_make, xints_nil, xbools_set, xbools_snoc, xbools_make, xcopy_make, List.length_replicate, List.length_cons, List.length_nil, Nat.reduceAdd, sd] <;> (try rw [br_pos rfl]) <;> (try rfl)
  | false => simp (disch := first | omega | (simp only [List.length_set, List.length_map, List.length_replicate, List.length_append, List.length_modify]; omega)) only [xrun_ret, run_ite, run_fail, run_letj, xrun_loop, run_jump, xrun_call, jmp_join, jmp_loop, br_fail, br_true, br_false, xden_var, den_int, den_bool, den_str, den_nil, den_nilc, den_un, den_bin, den_tri, xon_and, xon_or, on_beq, xon_not, on_len, on_neg, on_conv, on_max, on_min, on_snoc, on_cat, on_cons, on_make, on_copy, on_plus, on_minus, on_cell, on_sel, on_slice, on_set, on_put, on_cmp, on_ar, ev_lss, ev_leq, ev_gtr, ev_geq, ev_eql, ev_neq, ar_add, ar_sub, ar_mul, ar_quo, ar_rem, pi_int, b_bool, r_row, c_cells, rowOf_r, List.map_cons, List.map_nil, List.cons_append, List.nil_append, List.getD_cons_zero, List.getD_cons_succ, List.getElem?_cons_zero, List.getElem?_cons_succ, List.take_zero, List.take_succ_cons, List.length_map, Int.toNat_natCast, decide_eq_true_eq, Int.ofNat_lt, Int.ofNat_le, xnat_nonneg, true_and, and_true, if_true, if_false, reduceIte, wrap_in, xints_at, xbools_at, xints_set, xints_snoc, xints_make, xints_nil, xbools_set, xbools_snoc, xbools_make, xcopy_make, List.length_replicate, List.length_cons, List.length_nil, Nat.reduceAdd, sd] <;> (try rw [br_neg (by simp)]) <;> (try rfl)
theorem sd_in {x : Cl} (h : gC x) (rows : Bool) : -10000 ≤ (sd x rows).1 ∧ (sd x rows).1 < (sd x rows).2 ∧ (sd x rows).2 ≤ 30000 := by
  unfold gC at h
  cases rows <;> simp [sd] <;> omega
/-- Where all right cells begin and end. -/
def bnd (rows : Bool) : List Cl → Int × Int → Int × Int
  | [], p => p
  | c :: r, p => bnd rows r (if gC c then (min p.1 (sd c rows).1, max p.2 (sd c rows).2) else p)
theorem bnd_in (rows : Bool) : ∀ (l : List Cl) (p : Int × Int), -10000 ≤ p.1 → p.2 ≤ 30000 → -10000 ≤ (bnd rows l p).1 ∧ (bnd rows l p).1 ≤ p.1 ∧ p.2 ≤ (bnd rows l p).2 ∧ (bnd rows l p).2 ≤ 30000 ∧ ∀ c ∈ l, gC c → (bnd rows l p).1 ≤ (sd c rows).1 ∧ (sd c rows).2 ≤ (bnd rows l p).2
  | [], p, h1, h2 => ⟨h1, Int.le_refl _, Int.le_refl _, h2, fun c hc => by cases hc⟩
  | c :: r, p, h1, h2 => by
    simp only [bnd]
    by_cases h : gC c
    · rw [if_pos h]
      have hs := sd_in h rows
      obtain ⟨i1, i2, i3, i4, i5⟩ := bnd_in rows r (min p.1 (sd c rows).1, max p.2 (sd c rows).2) (by dsimp only; omega) (by dsimp only; omega)
      dsimp only at i2 i3
      refine ⟨i1, by omega, by omega, i4, fun d hd hg => ?_⟩
      rcases List.mem_cons.1 hd with rfl | hd
      · omega
      · exact i5 d hd hg
    · rw [if_neg h]
      obtain ⟨i1, i2, i3, i4, i5⟩ := bnd_in rows r p h1 h2
      refine ⟨i1, i2, i3, i4, fun d hd hg => ?_⟩
      rcases List.mem_cons.1 hd with rfl | hd
      · exact absurd hg h
      · exact i5 d hd hg
theorem bounds_sp (l : List Cl) (lines : Int) (rows : Bool) (hl : 0 ≤ lines ∧ lines ≤ 10001) (hb : l.length ≤ 1000000) : Says tr c_implicit_Bounds [rowOf eCl l, I lines, B rows] [I (bnd rows l (0, lines - 1)).1, I (bnd rows l (0, lines - 1)).2] := by
  refine Says.of (t := implicit_Bounds) rfl ?_
  rw [u_implicit_Bounds]
  simp (disch := first | omega | (simp only [List.length_set, List.length_map, List.length_replicate, List.length_append, List.length_modify]; omega)) only [xrun_ret, run_ite, run_fail, run_letj, xrun_loop, run_jump, xrun_call, jmp_join, jmp_loop, br_fail, br_true, br_false, xden_var, den_int, den_bool, den_str, den_nil, den_nilc, den_un, den_bin, den_tri, xon_and, xon_or, on_beq, xon_not, on_len, on_neg, on_conv, on_max, on_min, on_snoc, on_cat, on_cons, on_make, on_copy, on_plus, on_minus, on_cell, on_sel, on_slice, on_set, on_put, on_cmp, on_ar, ev_lss, ev_leq, ev_gtr, ev_geq, ev_eql, ev_neq, ar_add, ar_sub, ar_mul, ar_quo, ar_rem, pi_int, b_bool, r_row, c_cells, rowOf_r, List.map_cons, List.map_nil, List.cons_append, List.nil_append, List.getD_cons_zero, List.getD_cons_succ, List.getElem?_cons_zero, List.getElem?_cons_succ, List.take_zero, List.take_succ_cons, List.length_map, Int.toNat_natCast, decide_eq_true_eq, Int.ofNat_lt, Int.ofNat_le, xnat_nonneg, true_and, and_true, if_true, if_false, reduceIte, wrap_in, xints_at, xbools_at, xints_set, xints_snoc, xints_make, xints_nil, xbools_set, xbools_snoc, xbools_make, xcopy_make, List.length_replicate, List.length_cons, List.length_nil, Nat.reduceAdd]
  have key := xup_ind (n := l.length) (P := fun j => ∀ a b : Int, Run tr implicit_Bounds_l0 [rowOf eCl l, I lines, B rows, I j, I a, I b] [.loop implicit_Bounds_l0 [rowOf eCl l, I lines, B rows]] [I (bnd rows (l.drop j) (a, b)).1, I (bnd rows (l.drop j) (a, b)).2]) ?_ 0 (Nat.zero_le _)
  · simpa using key 0 (lines - 1)
  intro j hj ih a b
  rw [u_implicit_Bounds_l0]
  by_cases h : j < l.length
  · rw [List.drop_eq_getElem_cons h]
    simp only [bnd]
    simp (disch := first | omega | (simp only [List.length_set, List.length_map, List.length_replicate, List.length_append, List.length_modify]; omega)) only [xrun_ret, run_ite, run_fail, run_letj, xrun_loop, run_jump, xrun_call, jmp_join, jmp_loop, br_fail, br_true, br_false, xden_var, den_int, den_bool, den_str, den_nil, den_nilc, den_un, den_bin, den_tri, xon_and, xon_or, on_beq, xon_not, on_len, on_neg, on_conv, on_max, on_min, on_snoc, on_cat, on_cons, on_make, on_copy, on_plus, on_minus, on_cell, on_sel, on_slice, on_set, on_put, on_cmp, on_ar, ev_lss, ev_leq, ev_gtr, ev_geq, ev_eql, ev_neq, ar_add, ar_sub, ar_mul, ar_quo, ar_rem, pi_int, b_bool, r_row, c_cells, rowOf_r, List.map_cons, List.map_nil, List.cons_append, List.nil_append, List.getD_cons_zero, List.getD_cons_succ, List.getElem?_cons_zero, List.getElem?_cons_succ, List.take_zero, List.take_succ_cons, List.length_map, Int.toNat_natCast, decide_eq_true_eq, Int.ofNat_lt, Int.ofNat_le, xnat_nonneg, true_and, and_true, if_true, if_false, reduceIte, wrap_in, xints_at, xbools_at, xints_set, xints_snoc, xints_make, xints_nil, xbools_set, xbools_snoc, xbools_make, xcopy_make, List.length_replicate, List.length_cons, List.length_nil, Nat.reduceAdd, h, cl_at0, cl_at1, cl_at2, cl_at3, xcall_of (free_sp _ _ _ _), Bool.not_and, Bool.not_or, Bool.not_not, Bool.and_eq_true, Bool.or_eq_true, Bool.not_eq_true', Bool.and_eq_false_imp, Bool.or_eq_false_iff, decide_eq_false_iff_not, decide_eq_true_eq, beq_iff_eq, beq_eq_false_iff_ne, bne_iff_ne, bne_eq_false_iff_eq, ne_eq, gt_iff_lt, ge_iff_le, Bool.false_eq_true, Bool.true_eq_false, beq_self_eq_true, beq_true, beq_false, Bool.not_false, Bool.not_true, Bool.false_and, Bool.true_and, Bool.and_true, Bool.and_false, Bool.or_true, Bool.true_or, Bool.or_false, Bool.false_or, false_and, true_and, and_false, and_true, or_false, or_true, false_or, true_or, not_true_eq_false, not_false_eq_true, false_iff, iff_false, true_iff, iff_true, forall_const, false_imp_iff, true_imp_iff, reduceCtorEq, imp_false]
    by_cases hg : gC l[j]
    · rw [br_pos hg, if_pos hg]
      have hs := sd_in hg rows
      simp (disch := first | omega | (simp only [List.length_set, List.length_map, List.length_replicate, List.length_append, List.length_modify]; omega)) only [xrun_ret, run_ite, run_fail, run_letj, xrun_loop, run_jump, xrun_call, jmp_join, jmp_loop, br_fail, br_true, br_false, xden_var, den_int, den_bool, den_str, den_nil, den_nilc, den_un, den_bin, den_tri, xon_and, xon_or, on_beq, xon_not, on_len, on_neg, on_conv, on_max, on_min, on_snoc, on_cat, on_cons, on_make, on_copy, on_plus, on_minus, on_cell, on_sel, on_slice, on_set, on_put, on_cmp, on_ar, ev_lss, ev_leq, ev_gtr, ev_geq, ev_eql, ev_neq, ar_add, ar_sub, ar_mul, ar_quo, ar_rem, pi_int, b_bool, r_row, c_cells, rowOf_r, List.map_cons, List.map_nil, List.cons_append, List.nil_append, List.getD_cons_zero, List.getD_cons_succ, List.getElem?_cons_zero, List.getElem?_cons_succ, List.take_zero, List.take_succ_cons, List.length_map, Int.toNat_natCast, decide_eq_true_eq, Int.ofNat_lt, Int.ofNat_le, xnat_nonneg, true_and, and_true, if_true, if_false, reduceIte, wrap_in, xints_at, xbools_at, xints_set, xints_snoc, xints_make, xints_nil, xbools_set, xbools_snoc, xbools_make, xcopy_make, List.length_replicate, List.length_cons, List.length_nil, Nat.reduceAdd, xcall_of (side_sp l[j] rows hg), u_implicit_Bounds_j1]
      have e1 : (if (sd l[j] rows).1 < a then (sd l[j] rows).1 else a) = min a (sd l[j] rows).1 := by omega
      have e2 : (if (sd l[j] rows).2 > b then (sd l[j] rows).2 else b) = max b (sd l[j] rows).2 := by omega
      first | exact ih h _ _ | (rw [e1, e2]; exact ih h _ _) | (simpa [e1, e2] using ih h _ _)
    · rw [br_neg hg, if_neg hg]
      simp (disch := first | omega | (simp only [List.length_set, List.length_map, List.length_replicate, List.length_append, List.length_modify]; omega)) only [xrun_ret, run_ite, run_fail, run_letj, xrun_loop, run_jump, xrun_call, jmp_join, jmp_loop, br_fail, br_true, br_false, xden_var, den_int, den_bool, den_str, den_nil, den_nilc, den_un, den_bin, den_tri, xon_and, xon_or, on_beq, xon_not, on_len, on_neg, on_conv, on_max, on_min, on_snoc, on_cat, on_cons, on_make, on_copy, on_plus, on_minus, on_cell, on_sel, on_slice, on_set, on_put, on_cmp, on_ar, ev_lss, ev_leq, ev_gtr, ev_geq, ev_eql, ev_neq, ar_add, ar_sub, ar_mul, ar_quo, ar_rem, pi_int, b_bool, r_row, c_cells, rowOf_r, List.map_cons, List.map_nil, List.cons_append, List.nil_append, List.getD_cons_zero, List.getD_cons_succ, List.getElem?_cons_zero, List.getElem?_cons_succ, List.take_zero, List.take_succ_cons, List.length_map, Int.toNat_natCast, decide_eq_true_eq, Int.ofNat_lt, Int.ofNat_le, xnat_nonneg, true_and, and_true, if_true, if_false, reduceIte, wrap_in, xints_at, xbools_at, xints_set, xints_snoc, xints_make, xints_nil, xbools_set, xbools_snoc, xbools_make, xcopy_make, List.length_replicate, List.length_cons, List.length_nil, Nat.reduceAdd, u_implicit_Bounds_j1]
      exact ih h _ _
  · simp (disch := first | omega | (simp only [List.length_set, List.length_map, List.length_replicate, List.length_append, List.length_modify]; omega)) only [xrun_ret, run_ite, run_fail, run_letj, xrun_loop, run_jump, xrun_call, jmp_join, jmp_loop, br_fail, br_true, br_false, xden_var, den_int, den_bool, den_str, den_nil, den_nilc, den_un, den_bin, den_tri, xon_and, xon_or, on_beq, xon_not, on_len, on_neg, on_conv, on_max, on_min, on_snoc, on_cat, on_cons, on_make, on_copy, on_plus, on_minus, on_cell, on_sel, on_slice, on_set, on_put, on_cmp, on_ar, ev_lss, ev_leq, ev_gtr, ev_geq, ev_eql, ev_neq, ar_add, ar_sub, ar_mul, ar_quo, ar_rem, pi_int, b_bool, r_row, c_cells, rowOf_r, List.map_cons, List.map_nil, List.cons_append, List.nil_append, List.getD_cons_zero, List.getD_cons_succ, List.getElem?_cons_zero, List.getElem?_cons_succ, List.take_zero, List.take_succ_cons, List.length_map, Int.toNat_natCast, decide_eq_true_eq, Int.ofNat_lt, Int.ofNat_le, xnat_nonneg, true_and, and_true, if_true, if_false, reduceIte, wrap_in, xints_at, xbools_at, xints_set, xints_snoc, xints_make, xints_nil, xbools_set, xbools_snoc, xbools_make, xcopy_make, List.length_replicate, List.length_cons, List.length_nil, Nat.reduceAdd, h]
    rw [List.drop_of_length_le (by omega)]
    rfl
end Go.Proofs.Ytmfjdoanipgjkaa.T
