/- What the trees of maximise's Stretch and Total come to. No condition beyond what each states. -/
import Derived.Test.YtolgoenpckiggaaT
import Derived.Test.YtolgoenpckiggaaKmax
set_option linter.unusedVariables false
set_option linter.unusedSimpArgs false
namespace Go.Proofs.Ytolgoenpckiggaa.T
open Go Go.Proofs.Ytolgoenpckiggaa.Sx Go.Proofs.Ytolgoenpckiggaa.M

def autoL (s : List Sz) : List Bool := s.map fun x => decide (x.mx = 2)
/-- A track that got something, its limit raised. -/
def st1 (x : Sz) (g : Int) : Sz := { x with base := x.base + g, lim := max x.lim (x.base + g) }
def stret (s : List Sz) (gs : List Int) : List Sz := List.zipWith st1 s gs
theorem stret_length {s : List Sz} {gs : List Int} (h : gs.length = s.length) : (stret s gs).length = s.length := by simp [stret, h]
/-- What each gets. -/
def gotS (s : List Sz) (free : Int) : List Int := addp (List.replicate s.length 0) (autoL s) (splitS free (idx (autoL s)).length)
theorem addp_zero_in (M : Int) : ∀ (os : List Int) (bs : List Bool) (ys : List Int), 0 ≤ M → (∀ o ∈ os, o = 0) → (∀ y ∈ ys, 0 ≤ y ∧ y ≤ M) → ∀ g ∈ addp os bs ys, 0 ≤ g ∧ g ≤ M := by
  intro os
  induction os with
  | nil => intro bs ys _ _ _ g hg; cases bs <;> simp [addp] at hg
  | cons o os ih =>
    intro bs ys hM ho hy g hg
    have ho0 := ho o (by simp)
    have ho' : ∀ x ∈ os, x = 0 := fun x hx => ho x (by simp [hx])
    cases bs with
    | nil =>
      simp only [addp] at hg
      have := ho g hg
      omega
    | cons b bs =>
      cases b with
      | true =>
        cases ys with
        | nil =>
          simp only [addp, List.mem_cons] at hg
          rcases hg with rfl | hg
          · omega
          · exact ih bs [] hM ho' (by simp) g hg
        | cons y ys =>
          have hy0 := hy y (by simp)
          simp only [addp, List.mem_cons] at hg
          rcases hg with rfl | hg
          · omega
          · exact ih bs ys hM ho' (fun z hz => hy z (by simp [hz])) g hg
      | false =>
        simp only [addp, List.mem_cons] at hg
        rcases hg with rfl | hg
        · omega
        · exact ih bs ys hM ho' hy g hg
theorem got_in (s : List Sz) (free : Int) (h0 : 0 ≤ free) (h1 : free ≤ 68719476736) : (gotS s free).length = s.length ∧ ∀ g ∈ gotS s free, 0 ≤ g ∧ g ≤ 68719476737 := by
  refine ⟨by unfold gotS; rw [addp_length]; simp, ?_⟩
  refine addp_zero_in _ _ _ _ (by omega) (fun o ho => List.eq_of_mem_replicate ho) (fun y hy => ?_)
  have := splitS_in y hy
  omega
theorem stretch_bad (s : List Sz) (free : Int) (hl : s.length ≤ 1000000000) (h : ¬ GrowOk s free) : Says tr c_maximise_Stretch [rowOf eSz s, I free] [rowOf eSz s] := by
  refine Says.of (t := maximise_Stretch) rfl ?_
  rw [u_maximise_Stretch]
  simp (disch := first | omega | (simp only [List.length_set, List.length_map, List.length_replicate, List.length_append, List.length_modify]; omega)) only [xrun_ret, run_ite, run_fail, run_letj, xrun_loop, run_jump, xrun_call, jmp_join, jmp_loop, br_fail, br_true, br_false, xden_var, den_int, den_bool, den_str, den_nil, den_nilc, den_un, den_bin, den_tri, xon_and, xon_or, on_beq, xon_not, on_len, on_neg, on_conv, on_max, on_min, on_snoc, on_cat, on_cons, on_make, on_copy, on_plus, on_minus, on_cell, on_sel, on_slice, on_set, on_put, on_cmp, on_ar, ev_lss, ev_leq, ev_gtr, ev_geq, ev_eql, ev_neq, ar_add, ar_sub, ar_mul, ar_quo, ar_rem, pi_int, b_bool, r_row, c_cells, rowOf_r, List.map_cons, List.map_nil, List.cons_append, List.nil_append, List.getD_cons_zero, List.getD_cons_succ, List.getElem?_cons_zero, List.getElem?_cons_succ, List.take_zero, List.take_succ_cons, List.length_map, Int.toNat_natCast, decide_eq_true_eq, Int.ofNat_lt, Int.ofNat_le, xnat_nonneg, true_and, and_true, if_true, if_false, reduceIte, wrap_in, xints_at, xbools_at, xints_set, xints_snoc, xints_make, xints_nil, xbools_set, xbools_snoc, xbools_make, xcopy_make, List.length_replicate, List.length_cons, List.length_nil, Nat.reduceAdd, xcall_of (mgood_sp s hl), xcall_of (mwithin_sp _)]
  refine br_split ?_ ?_ <;> intro _
  · rename_i hg
    have hb : (decide (0 ≤ free) && decide (free ≤ 68719476736)) = false := by
      cases hb : (decide (0 ≤ free) && decide (free ≤ 68719476736)) with
      | false => rfl
      | true =>
        simp at hb
        exact absurd ⟨(goodB_iff s).1 hg, hb.1, hb.2⟩ h
    simp (disch := first | omega | (simp only [List.length_set, List.length_map, List.length_replicate, List.length_append, List.length_modify]; omega)) only [xrun_ret, run_ite, run_fail, run_letj, xrun_loop, run_jump, xrun_call, jmp_join, jmp_loop, br_fail, br_true, br_false, xden_var, den_int, den_bool, den_str, den_nil, den_nilc, den_un, den_bin, den_tri, xon_and, xon_or, on_beq, xon_not, on_len, on_neg, on_conv, on_max, on_min, on_snoc, on_cat, on_cons, on_make, on_copy, on_plus, on_minus, on_cell, on_sel, on_slice, on_set, on_put, on_cmp, on_ar, ev_lss, ev_leq, ev_gtr, ev_geq, ev_eql, ev_neq, ar_add, ar_sub, ar_mul, ar_quo, ar_rem, pi_int, b_bool, r_row, c_cells, rowOf_r, List.map_cons, List.map_nil, List.cons_append, List.nil_append, List.getD_cons_zero, List.getD_cons_succ, List.getElem?_cons_zero, List.getElem?_cons_succ, List.take_zero, List.take_succ_cons, List.length_map, Int.toNat_natCast, decide_eq_true_eq, Int.ofNat_lt, Int.ofNat_le, xnat_nonneg, true_and, and_true, if_true, if_false, reduceIte, wrap_in, xints_at, xbools_at, xints_set, xints_snoc, xints_make, xints_nil, xbools_set, xbools_snoc, xbools_make, xcopy_make, List.length_replicate, List.length_cons, List.length_nil, Nat.reduceAdd, u_maximise_Stretch_j0, hb, Bool.not_false]
  · simp (disch := first | omega | (simp only [List.length_set, List.length_map, List.length_replicate, List.length_append, List.length_modify]; omega)) only [xrun_ret, run_ite, run_fail, run_letj, xrun_loop, run_jump, xrun_call, jmp_join, jmp_loop, br_fail, br_true, br_false, xden_var, den_int, den_bool, den_str, den_nil, den_nilc, den_un, den_bin, den_tri, xon_and, xon_or, on_beq, xon_not, on_len, on_neg, on_conv, on_max, on_min, on_snoc, on_cat, on_cons, on_make, on_copy, on_plus, on_minus, on_cell, on_sel, on_slice, on_set, on_put, on_cmp, on_ar, ev_lss, ev_leq, ev_gtr, ev_geq, ev_eql, ev_neq, ar_add, ar_sub, ar_mul, ar_quo, ar_rem, pi_int, b_bool, r_row, c_cells, rowOf_r, List.map_cons, List.map_nil, List.cons_append, List.nil_append, List.getD_cons_zero, List.getD_cons_succ, List.getElem?_cons_zero, List.getElem?_cons_succ, List.take_zero, List.take_succ_cons, List.length_map, Int.toNat_natCast, decide_eq_true_eq, Int.ofNat_lt, Int.ofNat_le, xnat_nonneg, true_and, and_true, if_true, if_false, reduceIte, wrap_in, xints_at, xbools_at, xints_set, xints_snoc, xints_make, xints_nil, xbools_set, xbools_snoc, xbools_make, xcopy_make, List.length_replicate, List.length_cons, List.length_nil, Nat.reduceAdd, u_maximise_Stretch_j0]
theorem stretch_ok (s : List Sz) (free : Int) (hm : s.length ≤ 65536) (h : GrowOk s free) : Says tr c_maximise_Stretch [rowOf eSz s, I free] [rowOf eSz (stret s (gotS s free))] := by
  obtain ⟨hs, h0, h1⟩ := h
  obtain ⟨hgl, hgb⟩ := got_in s free h0 h1
  have hal : (autoL s).length = s.length := by simp [autoL]
  have hix := idx_le (autoL s)
  refine Says.of (t := maximise_Stretch) rfl ?_
  rw [u_maximise_Stretch]
  have hg : goodB s = true := (goodB_iff s).2 hs
  have hl : (s.length : Int) ≤ 17592186044416 := by omega
  have hl2 : (s.length : Int) ≤ 2513169434916 := by omega
  simp (disch := first | omega | (simp only [List.length_set, List.length_map, List.length_replicate, List.length_append, List.length_modify]; omega)) only [xrun_ret, run_ite, run_fail, run_letj, xrun_loop, run_jump, xrun_call, jmp_join, jmp_loop, br_fail, br_true, br_false, xden_var, den_int, den_bool, den_str, den_nil, den_nilc, den_un, den_bin, den_tri, xon_and, xon_or, on_beq, xon_not, on_len, on_neg, on_conv, on_max, on_min, on_snoc, on_cat, on_cons, on_make, on_copy, on_plus, on_minus, on_cell, on_sel, on_slice, on_set, on_put, on_cmp, on_ar, ev_lss, ev_leq, ev_gtr, ev_geq, ev_eql, ev_neq, ar_add, ar_sub, ar_mul, ar_quo, ar_rem, pi_int, b_bool, r_row, c_cells, rowOf_r, List.map_cons, List.map_nil, List.cons_append, List.nil_append, List.getD_cons_zero, List.getD_cons_succ, List.getElem?_cons_zero, List.getElem?_cons_succ, List.take_zero, List.take_succ_cons, List.length_map, Int.toNat_natCast, decide_eq_true_eq, Int.ofNat_lt, Int.ofNat_le, xnat_nonneg, true_and, and_true, if_true, if_false, reduceIte, wrap_in, xints_at, xbools_at, xints_set, xints_snoc, xints_make, xints_nil, xbools_set, xbools_snoc, xbools_make, xcopy_make, List.length_replicate, List.length_cons, List.length_nil, Nat.reduceAdd, xcall_of (mgood_sp s (by omega)), xcall_of (mwithin_sp _), hg, h0, h1, decide_true, Bool.not_true, Bool.and_true, u_maximise_Stretch_j0, Bool.false_eq_true, hl]
  have key := xup_ind (n := s.length) (P := fun i => Run tr maximise_Stretch_l1 [rowOf eSz s, I free, B false, I i, ints ((idx ((autoL s).take i)).map Int.ofNat)] [.loop maximise_Stretch_l1 [rowOf eSz s, I free, B false]] [rowOf eSz (stret s (gotS s free))]) ?_ 0 (Nat.zero_le _)
  · simpa [idx] using key
  intro i hi ih
  rw [u_maximise_Stretch_l1]
  by_cases h : i < s.length
  · have htk : (autoL s).take (i + 1) = (autoL s).take i ++ [decide (s[i].mx = 2)] := by
      rw [List.take_succ_eq_append_getElem (by omega)]
      simp [autoL]
    have hlk : ((autoL s).take i).length = i := by simp; omega
    have hcl := idx_le ((autoL s).take i)
    have hcl2 : ((idx ((autoL s).take i)).length : Int) + 1 ≤ 4294967296 := by omega
    simp (disch := first | omega | (simp only [List.length_set, List.length_map, List.length_replicate, List.length_append, List.length_modify]; omega)) only [xrun_ret, run_ite, run_fail, run_letj, xrun_loop, run_jump, xrun_call, jmp_join, jmp_loop, br_fail, br_true, br_false, xden_var, den_int, den_bool, den_str, den_nil, den_nilc, den_un, den_bin, den_tri, xon_and, xon_or, on_beq, xon_not, on_len, on_neg, on_conv, on_max, on_min, on_snoc, on_cat, on_cons, on_make, on_copy, on_plus, on_minus, on_cell, on_sel, on_slice, on_set, on_put, on_cmp, on_ar, ev_lss, ev_leq, ev_gtr, ev_geq, ev_eql, ev_neq, ar_add, ar_sub, ar_mul, ar_quo, ar_rem, pi_int, b_bool, r_row, c_cells, rowOf_r, List.map_cons, List.map_nil, List.cons_append, List.nil_append, List.getD_cons_zero, List.getD_cons_succ, List.getElem?_cons_zero, List.getElem?_cons_succ, List.take_zero, List.take_succ_cons, List.length_map, Int.toNat_natCast, decide_eq_true_eq, Int.ofNat_lt, Int.ofNat_le, xnat_nonneg, true_and, and_true, if_true, if_false, reduceIte, wrap_in, xints_at, xbools_at, xints_set, xints_snoc, xints_make, xints_nil, xbools_set, xbools_snoc, xbools_make, xcopy_make, List.length_replicate, List.length_cons, List.length_nil, Nat.reduceAdd, h, sz_at0, sz_at1, sz_at2, sz_at3, sz_at4, sz_at5, sz_at6, sz_snoc, sz_set, sz_put5, sz_put6, u_maximise_Stretch_j2, beq_iff_eq]
    refine br_split ?_ ?_ <;> intro _
    · rename_i hx
      have e : (idx ((autoL s).take (i + 1))).map Int.ofNat = (idx ((autoL s).take i)).map Int.ofNat ++ [(i : Int)] := by rw [htk, idx_append, hlk]; simp [hx]
      refine ⟨by omega, ?_⟩
      rw [← e]
      exact ih h
    · rename_i hx
      have e : (idx ((autoL s).take (i + 1))).map Int.ofNat = (idx ((autoL s).take i)).map Int.ofNat := by rw [htk, idx_append]; simp [hx]
      rw [← e]
      exact ih h
  · have : i = s.length := by omega
    subst this
    rw [List.take_of_length_le (by omega)]
    simp (disch := first | omega | (simp only [List.length_set, List.length_map, List.length_replicate, List.length_append, List.length_modify]; omega)) only [xrun_ret, run_ite, run_fail, run_letj, xrun_loop, run_jump, xrun_call, jmp_join, jmp_loop, br_fail, br_true, br_false, xden_var, den_int, den_bool, den_str, den_nil, den_nilc, den_un, den_bin, den_tri, xon_and, xon_or, on_beq, xon_not, on_len, on_neg, on_conv, on_max, on_min, on_snoc, on_cat, on_cons, on_make, on_copy, on_plus, on_minus, on_cell, on_sel, on_slice, on_set, on_put, on_cmp, on_ar, ev_lss, ev_leq, ev_gtr, ev_geq, ev_eql, ev_neq, ar_add, ar_sub, ar_mul, ar_quo, ar_rem, pi_int, b_bool, r_row, c_cells, rowOf_r, List.map_cons, List.map_nil, List.cons_append, List.nil_append, List.getD_cons_zero, List.getD_cons_succ, List.getElem?_cons_zero, List.getElem?_cons_succ, List.take_zero, List.take_succ_cons, List.length_map, Int.toNat_natCast, decide_eq_true_eq, Int.ofNat_lt, Int.ofNat_le, xnat_nonneg, true_and, and_true, if_true, if_false, reduceIte, wrap_in, xints_at, xbools_at, xints_set, xints_snoc, xints_make, xints_nil, xbools_set, xbools_snoc, xbools_make, xcopy_make, List.length_replicate, List.length_cons, List.length_nil, Nat.reduceAdd, Nat.lt_irrefl, hl, xcall_of (split_sp _ _ (by omega : free ≤ 9223372036854775806))]
    have hsl := splitS_length free ((idx (autoL s)).length : Int)
    rw [Int.toNat_natCast] at hsl
    obtain ⟨ys, hys⟩ : ∃ ys, splitS free ((idx (autoL s)).length : Int) = ys := ⟨_, rfl⟩
    have hgot : gotS s free = addp (List.replicate s.length 0) (autoL s) ys := by rw [← hys]; rfl
    rw [hys] at hsl ⊢
    obtain ⟨J, hJ⟩ : ∃ J, J = JT.loop maximise_Stretch_l1 [rowOf eSz s, I free, B false] := ⟨_, rfl⟩
    rw [← hJ]
    have key := xup_ind (n := ys.length) (P := fun i => Run tr maximise_Stretch_l3 [rowOf eSz s, I free, B false, I s.length, ints ((idx (autoL s)).map Int.ofNat), ints ys, I i, ints (addp (List.replicate s.length 0) (autoL s) (ys.take i))] [J, .loop maximise_Stretch_l3 [rowOf eSz s, I free, B false, I s.length, ints ((idx (autoL s)).map Int.ofNat), ints ys]] [rowOf eSz (stret s (gotS s free))]) ?_ 0 (Nat.zero_le _)
    · simpa [addp_nil] using key
    intro i hi ih
    rw [u_maximise_Stretch_l3]
    by_cases h : i < ys.length
    · obtain ⟨h1', h2', h3', h4'⟩ := addp_step (List.replicate s.length 0) (autoL s) ys i (by simp [hal]) h (by omega)
      have hz : (List.replicate s.length (0 : Int))[(idx (autoL s))[i]'(by omega)] = 0 := by simp
      rw [hz, Int.zero_add] at h4'
      have hil : i < (idx (autoL s)).length := by omega
      have hla : (addp (List.replicate s.length 0) (autoL s) (ys.take i)).length = s.length := by rw [addp_length]; simp
      rw [hla] at h1'
      simp (disch := first | omega | (simp only [List.length_set, List.length_map, List.length_replicate, List.length_append, List.length_modify]; omega)) only [xrun_ret, run_ite, run_fail, run_letj, xrun_loop, run_jump, xrun_call, jmp_join, jmp_loop, br_fail, br_true, br_false, xden_var, den_int, den_bool, den_str, den_nil, den_nilc, den_un, den_bin, den_tri, xon_and, xon_or, on_beq, xon_not, on_len, on_neg, on_conv, on_max, on_min, on_snoc, on_cat, on_cons, on_make, on_copy, on_plus, on_minus, on_cell, on_sel, on_slice, on_set, on_put, on_cmp, on_ar, ev_lss, ev_leq, ev_gtr, ev_geq, ev_eql, ev_neq, ar_add, ar_sub, ar_mul, ar_quo, ar_rem, pi_int, b_bool, r_row, c_cells, rowOf_r, List.map_cons, List.map_nil, List.cons_append, List.nil_append, List.getD_cons_zero, List.getD_cons_succ, List.getElem?_cons_zero, List.getElem?_cons_succ, List.take_zero, List.take_succ_cons, List.length_map, Int.toNat_natCast, decide_eq_true_eq, Int.ofNat_lt, Int.ofNat_le, xnat_nonneg, true_and, and_true, if_true, if_false, reduceIte, wrap_in, xints_at, xbools_at, xints_set, xints_snoc, xints_make, xints_nil, xbools_set, xbools_snoc, xbools_make, xcopy_make, List.length_replicate, List.length_cons, List.length_nil, Nat.reduceAdd, h, hil, List.getElem_map, hla, Int.ofNat_eq_natCast, h1', h4']
      exact ih h
    · have : i = ys.length := by omega
      subst this
      rw [List.take_of_length_le (Nat.le_refl _), ← hgot]
      simp (disch := first | omega | (simp only [List.length_set, List.length_map, List.length_replicate, List.length_append, List.length_modify]; omega)) only [xrun_ret, run_ite, run_fail, run_letj, xrun_loop, run_jump, xrun_call, jmp_join, jmp_loop, br_fail, br_true, br_false, xden_var, den_int, den_bool, den_str, den_nil, den_nilc, den_un, den_bin, den_tri, xon_and, xon_or, on_beq, xon_not, on_len, on_neg, on_conv, on_max, on_min, on_snoc, on_cat, on_cons, on_make, on_copy, on_plus, on_minus, on_cell, on_sel, on_slice, on_set, on_put, on_cmp, on_ar, ev_lss, ev_leq, ev_gtr, ev_geq, ev_eql, ev_neq, ar_add, ar_sub, ar_mul, ar_quo, ar_rem, pi_int, b_bool, r_row, c_cells, rowOf_r, List.map_cons, List.map_nil, List.cons_append, List.nil_append, List.getD_cons_zero, List.getD_cons_succ, List.getElem?_cons_zero, List.getElem?_cons_succ, List.take_zero, List.take_succ_cons, List.length_map, Int.toNat_natCast, decide_eq_true_eq, Int.ofNat_lt, Int.ofNat_le, xnat_nonneg, true_and, and_true, if_true, if_false, reduceIte, wrap_in, xints_at, xbools_at, xints_set, xints_snoc, xints_make, xints_nil, xbools_set, xbools_snoc, xbools_make, xcopy_make, List.length_replicate, List.length_cons, List.length_nil, Nat.reduceAdd, Nat.lt_irrefl, hl2]
      obtain ⟨J', hJ'⟩ : ∃ J', J' = JT.loop maximise_Stretch_l3 [rowOf eSz s, I free, B false, I s.length, ints ((idx (autoL s)).map Int.ofNat), ints ys] := ⟨_, rfl⟩
      rw [← hJ']
      have hsr : (stret s (gotS s free)).length = s.length := stret_length hgl
      have key := xup_ind (n := s.length) (P := fun i => Run tr maximise_Stretch_l4 [rowOf eSz s, I free, B false, I s.length, ints ((idx (autoL s)).map Int.ofNat), ints ys, I ys.length, ints (gotS s free), I i, rowOf eSz (mix (stret s (gotS s free)) s i)] [J, J', .loop maximise_Stretch_l4 [rowOf eSz s, I free, B false, I s.length, ints ((idx (autoL s)).map Int.ofNat), ints ys, I ys.length, ints (gotS s free)]] [rowOf eSz (stret s (gotS s free))]) ?_ 0 (Nat.zero_le _)
      · simpa [mix_zero] using key
      intro i hi ih
      rw [u_maximise_Stretch_l4]
      have hml := mix_len hsr i
      by_cases h : i < s.length
      · have hx := gd_in (hs s[i] (List.getElem_mem _))
        have hgi : i < (gotS s free).length := by omega
        have hg2 := hgb (gotS s free)[i] (List.getElem_mem _)
        have hat := mix_at hsr h (by omega)
        have hml2 : i < ((mix (stret s (gotS s free)) s i).modify i fun y => { y with base := s[i].base + (gotS s free)[i] }).length := by simp [hml, h]
        have hat2 : ((mix (stret s (gotS s free)) s i).modify i fun y => { y with base := s[i].base + (gotS s free)[i] })[i] = { s[i] with base := s[i].base + (gotS s free)[i] } := by
          rw [List.getElem_modify, if_pos rfl, hat]
        have hse : ((mix (stret s (gotS s free)) s i).modify i fun y => { y with base := s[i].base + (gotS s free)[i] }).set i (st1 s[i] (gotS s free)[i]) = mix (stret s (gotS s free)) s (i + 1) := by
          rw [← mix_set hsr h rfl]
          apply List.ext_getElem (by simp)
          intro j h1 h2
          rw [List.getElem_set, List.getElem_set]
          split
          · simp [stret]
          · rw [List.getElem_modify]
            rename_i hne
            simp [hne]
        have hb := braise_sp { s[i] with base := s[i].base + (gotS s free)[i] }
        simp (disch := first | omega | (simp only [List.length_set, List.length_map, List.length_replicate, List.length_append, List.length_modify]; omega)) only [xrun_ret, run_ite, run_fail, run_letj, xrun_loop, run_jump, xrun_call, jmp_join, jmp_loop, br_fail, br_true, br_false, xden_var, den_int, den_bool, den_str, den_nil, den_nilc, den_un, den_bin, den_tri, xon_and, xon_or, on_beq, xon_not, on_len, on_neg, on_conv, on_max, on_min, on_snoc, on_cat, on_cons, on_make, on_copy, on_plus, on_minus, on_cell, on_sel, on_slice, on_set, on_put, on_cmp, on_ar, ev_lss, ev_leq, ev_gtr, ev_geq, ev_eql, ev_neq, ar_add, ar_sub, ar_mul, ar_quo, ar_rem, pi_int, b_bool, r_row, c_cells, rowOf_r, List.map_cons, List.map_nil, List.cons_append, List.nil_append, List.getD_cons_zero, List.getD_cons_succ, List.getElem?_cons_zero, List.getElem?_cons_succ, List.take_zero, List.take_succ_cons, List.length_map, Int.toNat_natCast, decide_eq_true_eq, Int.ofNat_lt, Int.ofNat_le, xnat_nonneg, true_and, and_true, if_true, if_false, reduceIte, wrap_in, xints_at, xbools_at, xints_set, xints_snoc, xints_make, xints_nil, xbools_set, xbools_snoc, xbools_make, xcopy_make, List.length_replicate, List.length_cons, List.length_nil, Nat.reduceAdd, h, hml, hgi, sz_at0, sz_at1, sz_at2, sz_at3, sz_at4, sz_at5, sz_at6, sz_snoc, sz_set, sz_put5, sz_put6, hat, hat2, xcall_of hb, u_maximise_Stretch_j2]
        simp only [st1] at hse
        rw [hse]
        exact ih h
      · simp (disch := first | omega | (simp only [List.length_set, List.length_map, List.length_replicate, List.length_append, List.length_modify]; omega)) only [xrun_ret, run_ite, run_fail, run_letj, xrun_loop, run_jump, xrun_call, jmp_join, jmp_loop, br_fail, br_true, br_false, xden_var, den_int, den_bool, den_str, den_nil, den_nilc, den_un, den_bin, den_tri, xon_and, xon_or, on_beq, xon_not, on_len, on_neg, on_conv, on_max, on_min, on_snoc, on_cat, on_cons, on_make, on_copy, on_plus, on_minus, on_cell, on_sel, on_slice, on_set, on_put, on_cmp, on_ar, ev_lss, ev_leq, ev_gtr, ev_geq, ev_eql, ev_neq, ar_add, ar_sub, ar_mul, ar_quo, ar_rem, pi_int, b_bool, r_row, c_cells, rowOf_r, List.map_cons, List.map_nil, List.cons_append, List.nil_append, List.getD_cons_zero, List.getD_cons_succ, List.getElem?_cons_zero, List.getElem?_cons_succ, List.take_zero, List.take_succ_cons, List.length_map, Int.toNat_natCast, decide_eq_true_eq, Int.ofNat_lt, Int.ofNat_le, xnat_nonneg, true_and, and_true, if_true, if_false, reduceIte, wrap_in, xints_at, xbools_at, xints_set, xints_snoc, xints_make, xints_nil, xbools_set, xbools_snoc, xbools_make, xcopy_make, List.length_replicate, List.length_cons, List.length_nil, Nat.reduceAdd, h]
        rw [mix_full' hsr (by omega)]
end Go.Proofs.Ytolgoenpckiggaa.T
