/- What the trees come to that give flexible tracks what is left, as a whole. No condition beyond what each states. -/
import Derived.Test.YtpaabecgngbjcaaT
import Derived.Test.YtpaabecgngbjcaaKfln
set_option linter.unusedVariables false
set_option linter.unusedSimpArgs false
set_option maxRecDepth 10000
namespace Go.Proofs.Ytpaabecgngbjcaa.T
open Go Go.Proofs.Ytpaabecgngbjcaa.Sx Go.Proofs.Ytpaabecgngbjcaa.M

theorem partsS_in {L all : Int} (hL : 0 ≤ L ∧ L ≤ 68719476736) (ha : 0 < all) : ∀ (ws : List Int) (was sum : Int), 0 ≤ was → was ≤ L → 0 ≤ sum → sum + sumI ws ≤ all → ws.all wgB = true → ∀ x ∈ partsS L all was sum ws, -68719476736 ≤ x ∧ x ≤ 68719476736
  | [], _, _, _, _, _, _, _, x, hx => by simp [partsS] at hx
  | w :: r, was, sum, h0, h1, h2, h3, hw, x, hx => by
    simp only [List.all_cons, Bool.and_eq_true] at hw
    have hw1 := hw.1
    simp only [wgB, Bool.and_eq_true, decide_eq_true_eq] at hw1
    have hr := sumI_in r hw.2
    simp only [sumI] at h3
    have hm := md_part (s := sum + w) hL (by omega) ha
    rw [partsS] at hx
    rcases List.mem_cons.1 hx with rfl | hx
    · omega
    · exact partsS_in hL ha r _ _ hm.1 hm.2 (by omega) (by omega) hw.2 x hx
theorem spreadF_zero : ∀ (s : List Sz) (st : List Bool) (vs : List Int) (j : Nat) (h : j < s.length) (hb : j < st.length) (h' : j < (spreadF s st vs).length), (s[j].mx ≠ 5 ∨ st[j] = true) → (spreadF s st vs)[j] = 0
  | [], _, _, _, h, _, _, _ => by simp at h
  | x :: s, [], _, _, h, _, h', _ => by simp [spreadF] at h'
  | x :: s, b :: st, vs, j, h, hb, h', hc => by
    have e : spreadF (x :: s) (b :: st) vs = if x.mx ≠ 5 ∨ b = true then 0 :: spreadF s st vs else vs.headD 0 :: spreadF s st vs.tail := rfl
    by_cases hx : x.mx ≠ 5 ∨ b = true
    · rw [if_pos hx] at e
      simp only [e] at h' ⊢
      cases j with
      | zero => rfl
      | succ j => exact spreadF_zero s st vs j (by simpa using h) (by simpa using hb) (by simpa using h') (by simpa using hc)
    · rw [if_neg hx] at e
      simp only [e] at h' ⊢
      cases j with
      | zero => exact absurd hc hx
      | succ j => exact spreadF_zero s st _ j (by simpa using h) (by simpa using hb) (by simpa using h') (by simpa using hc)
theorem ffill_sp (s : List Sz) (a : List Int) (size : Int) (hl : s.length ≤ 10000) (ha : a.length ≤ 1000000) : Says tr c_flex_Fill [rowOf eSz s, ints a, I size] [rowOf eSz (fillR s a size)] := by
  refine Says.of (t := flex_Fill) rfl ?_
  rw [u_flex_Fill]
  have h1 := fright_sp s size (by omega)
  have h2 := igood_sp s a [] 0 (by omega) ha (by simp)
  unfold fillR
  have hbad : Run tr flex_Fill_j0 [rowOf eSz s, ints a, I size, B true] [] [rowOf eSz s] := by
    rw [u_flex_Fill_j0]
    simp (disch := first | omega | (simp only [List.length_set, List.length_map, List.length_replicate, List.length_append, List.length_modify]; omega)) only [xrun_ret, run_ite, run_fail, run_letj, xrun_loop, run_jump, xrun_call, jmp_join, jmp_loop, br_fail, br_true, br_false, xden_var, den_int, den_bool, den_str, den_nil, den_nilc, den_un, den_bin, den_tri, xon_and, xon_or, on_beq, xon_not, on_len, on_neg, on_conv, on_max, on_min, on_snoc, on_cat, on_cons, on_make, on_copy, on_plus, on_minus, on_cell, on_sel, on_slice, on_set, on_put, on_cmp, on_ar, ev_lss, ev_leq, ev_gtr, ev_geq, ev_eql, ev_neq, ar_add, ar_sub, ar_mul, ar_quo, ar_rem, pi_int, b_bool, r_row, c_cells, rowOf_r, List.map_cons, List.map_nil, List.cons_append, List.nil_append, List.getD_cons_zero, List.getD_cons_succ, List.getElem?_cons_zero, List.getElem?_cons_succ, List.take_zero, List.take_succ_cons, List.length_map, Int.toNat_natCast, decide_eq_true_eq, Int.ofNat_lt, Int.ofNat_le, xnat_nonneg, true_and, and_true, if_true, if_false, reduceIte, wrap_in, xints_at, xbools_at, xints_set, xints_snoc, xints_make, xints_nil, xbools_set, xbools_snoc, xbools_make, xcopy_make, List.length_replicate, List.length_cons, List.length_nil, Nat.reduceAdd]
  cases hb : rightB s size with
  | false =>
    rw [hb] at h1
    simp (disch := first | omega | (simp only [List.length_set, List.length_map, List.length_replicate, List.length_append, List.length_modify]; omega)) only [xrun_ret, run_ite, run_fail, run_letj, xrun_loop, run_jump, xrun_call, jmp_join, jmp_loop, br_fail, br_true, br_false, xden_var, den_int, den_bool, den_str, den_nil, den_nilc, den_un, den_bin, den_tri, xon_and, xon_or, on_beq, xon_not, on_len, on_neg, on_conv, on_max, on_min, on_snoc, on_cat, on_cons, on_make, on_copy, on_plus, on_minus, on_cell, on_sel, on_slice, on_set, on_put, on_cmp, on_ar, ev_lss, ev_leq, ev_gtr, ev_geq, ev_eql, ev_neq, ar_add, ar_sub, ar_mul, ar_quo, ar_rem, pi_int, b_bool, r_row, c_cells, rowOf_r, List.map_cons, List.map_nil, List.cons_append, List.nil_append, List.getD_cons_zero, List.getD_cons_succ, List.getElem?_cons_zero, List.getElem?_cons_succ, List.take_zero, List.take_succ_cons, List.length_map, Int.toNat_natCast, decide_eq_true_eq, Int.ofNat_lt, Int.ofNat_le, xnat_nonneg, true_and, and_true, if_true, if_false, reduceIte, wrap_in, xints_at, xbools_at, xints_set, xints_snoc, xints_make, xints_nil, xbools_set, xbools_snoc, xbools_make, xcopy_make, List.length_replicate, List.length_cons, List.length_nil, Nat.reduceAdd, xcall_of h1, Bool.false_eq_true]
    repeat rw [br_neg (by simp)]
    exact hbad
  | true =>
    rw [hb] at h1
    cases hg : goodI s a [] 0 with
    | false =>
      rw [hg] at h2
      simp (disch := first | omega | (simp only [List.length_set, List.length_map, List.length_replicate, List.length_append, List.length_modify]; omega)) only [xrun_ret, run_ite, run_fail, run_letj, xrun_loop, run_jump, xrun_call, jmp_join, jmp_loop, br_fail, br_true, br_false, xden_var, den_int, den_bool, den_str, den_nil, den_nilc, den_un, den_bin, den_tri, xon_and, xon_or, on_beq, xon_not, on_len, on_neg, on_conv, on_max, on_min, on_snoc, on_cat, on_cons, on_make, on_copy, on_plus, on_minus, on_cell, on_sel, on_slice, on_set, on_put, on_cmp, on_ar, ev_lss, ev_leq, ev_gtr, ev_geq, ev_eql, ev_neq, ar_add, ar_sub, ar_mul, ar_quo, ar_rem, pi_int, b_bool, r_row, c_cells, rowOf_r, List.map_cons, List.map_nil, List.cons_append, List.nil_append, List.getD_cons_zero, List.getD_cons_succ, List.getElem?_cons_zero, List.getElem?_cons_succ, List.take_zero, List.take_succ_cons, List.length_map, Int.toNat_natCast, decide_eq_true_eq, Int.ofNat_lt, Int.ofNat_le, xnat_nonneg, true_and, and_true, if_true, if_false, reduceIte, wrap_in, xints_at, xbools_at, xints_set, xints_snoc, xints_make, xints_nil, xbools_set, xbools_snoc, xbools_make, xcopy_make, List.length_replicate, List.length_cons, List.length_nil, Nat.reduceAdd, xcall_of h1, show PV.row [] = rowOf eWn [] from rfl, xcall_of h2, Bool.not_false]
      exact hbad
    | true =>
      rw [hg] at h2
      obtain ⟨hsz, hs⟩ := rightB_in hb
      obtain ⟨e1, e2, e3, e4⟩ := goodI_in hg
      simp (disch := first | omega | (simp only [List.length_set, List.length_map, List.length_replicate, List.length_append, List.length_modify]; omega)) only [xrun_ret, run_ite, run_fail, run_letj, xrun_loop, run_jump, xrun_call, jmp_join, jmp_loop, br_fail, br_true, br_false, xden_var, den_int, den_bool, den_str, den_nil, den_nilc, den_un, den_bin, den_tri, xon_and, xon_or, on_beq, xon_not, on_len, on_neg, on_conv, on_max, on_min, on_snoc, on_cat, on_cons, on_make, on_copy, on_plus, on_minus, on_cell, on_sel, on_slice, on_set, on_put, on_cmp, on_ar, ev_lss, ev_leq, ev_gtr, ev_geq, ev_eql, ev_neq, ar_add, ar_sub, ar_mul, ar_quo, ar_rem, pi_int, b_bool, r_row, c_cells, rowOf_r, List.map_cons, List.map_nil, List.cons_append, List.nil_append, List.getD_cons_zero, List.getD_cons_succ, List.getElem?_cons_zero, List.getElem?_cons_succ, List.take_zero, List.take_succ_cons, List.length_map, Int.toNat_natCast, decide_eq_true_eq, Int.ofNat_lt, Int.ofNat_le, xnat_nonneg, true_and, and_true, if_true, if_false, reduceIte, wrap_in, xints_at, xbools_at, xints_set, xints_snoc, xints_make, xints_nil, xbools_set, xbools_snoc, xbools_make, xcopy_make, List.length_replicate, List.length_cons, List.length_nil, Nat.reduceAdd, xcall_of h1, show PV.row [] = rowOf eWn [] from rfl, xcall_of h2, Bool.not_true, Bool.and_self]
      rw [u_flex_Fill_j0]
      have h3 := less_sp size a hsz e3 ha
      have hsp := lessS_in a size e3 hsz.1 hsz.2
      have h4 := fshared_sp s (lessS size a) hs hl hsp
      have hst := finS_len s (lessS size a)
      generalize lessS size a = sp at h3 hsp h4 hst
      generalize finS s sp = st at h4 hst
      have hL := leftS_in s st sp hs hsp.1 hsp.2
      have hN := partsF_in s st 0 hs (Int.le_refl _)
      have hfr := partsF_fr s st 0
      have hwg := (frF_wg s st hs).1
      generalize leftS s st sp = L at h4 hL
      generalize partsF s st 0 = N at h4 hN hfr
      obtain ⟨w1, w2⟩ := whoF_in s st 0
      have hfl := frF_len s st 0
      have k1 := ff1_run s st (ints a) (I size) (B false) (I sp) L N [rowOf eSz (growV s (spreadF s st (valsF s st L N)))] hs hl hL (by omega) 0 (Nat.zero_le _) [] (by simp) ?_
      · rw [mix_zero] at k1
        simp (disch := first | omega | (simp only [List.length_set, List.length_map, List.length_replicate, List.length_append, List.length_modify]; omega)) only [xrun_ret, run_ite, run_fail, run_letj, xrun_loop, run_jump, xrun_call, jmp_join, jmp_loop, br_fail, br_true, br_false, xden_var, den_int, den_bool, den_str, den_nil, den_nilc, den_un, den_bin, den_tri, xon_and, xon_or, on_beq, xon_not, on_len, on_neg, on_conv, on_max, on_min, on_snoc, on_cat, on_cons, on_make, on_copy, on_plus, on_minus, on_cell, on_sel, on_slice, on_set, on_put, on_cmp, on_ar, ev_lss, ev_leq, ev_gtr, ev_geq, ev_eql, ev_neq, ar_add, ar_sub, ar_mul, ar_quo, ar_rem, pi_int, b_bool, r_row, c_cells, rowOf_r, List.map_cons, List.map_nil, List.cons_append, List.nil_append, List.getD_cons_zero, List.getD_cons_succ, List.getElem?_cons_zero, List.getElem?_cons_succ, List.take_zero, List.take_succ_cons, List.length_map, Int.toNat_natCast, decide_eq_true_eq, Int.ofNat_lt, Int.ofNat_le, xnat_nonneg, true_and, and_true, if_true, if_false, reduceIte, wrap_in, xints_at, xbools_at, xints_set, xints_snoc, xints_make, xints_nil, xbools_set, xbools_snoc, xbools_make, xcopy_make, List.length_replicate, List.length_cons, List.length_nil, Nat.reduceAdd, Bool.false_eq_true, xcall_of h3, xcall_of h4]
        try rw [br_neg (by simp)]
        first | exact k1 | exact ⟨by omega, k1⟩
      rw [List.drop_zero, List.drop_zero]
      simp (disch := first | omega | (simp only [List.length_set, List.length_map, List.length_replicate, List.length_append, List.length_modify]; omega)) only [xrun_ret, run_ite, run_fail, run_letj, xrun_loop, run_jump, xrun_call, jmp_join, jmp_loop, br_fail, br_true, br_false, xden_var, den_int, den_bool, den_str, den_nil, den_nilc, den_un, den_bin, den_tri, xon_and, xon_or, on_beq, xon_not, on_len, on_neg, on_conv, on_max, on_min, on_snoc, on_cat, on_cons, on_make, on_copy, on_plus, on_minus, on_cell, on_sel, on_slice, on_set, on_put, on_cmp, on_ar, ev_lss, ev_leq, ev_gtr, ev_geq, ev_eql, ev_neq, ar_add, ar_sub, ar_mul, ar_quo, ar_rem, pi_int, b_bool, r_row, c_cells, rowOf_r, List.map_cons, List.map_nil, List.cons_append, List.nil_append, List.getD_cons_zero, List.getD_cons_succ, List.getElem?_cons_zero, List.getElem?_cons_succ, List.take_zero, List.take_succ_cons, List.length_map, Int.toNat_natCast, decide_eq_true_eq, Int.ofNat_lt, Int.ofNat_le, xnat_nonneg, true_and, and_true, if_true, if_false, reduceIte, wrap_in, xints_at, xbools_at, xints_set, xints_snoc, xints_make, xints_nil, xbools_set, xbools_snoc, xbools_make, xcopy_make, List.length_replicate, List.length_cons, List.length_nil, Nat.reduceAdd, ge_iff_le]
      have hout : ∀ (vs : List Int) (m : List (List PV)) (j : Int), j ∉ whoF 0 s st → mapGet (pushP ((whoF 0 s st).zip vs) m) j = mapGet m j := fun vs m j hj =>
        pushP_out _ _ _ fun x hx hh => hj (hh ▸ (List.of_mem_zip hx).1)
      have hj2 : ∀ (p8 p9 p10 : PV) (xs : List (List PV)) (vs : List Int), growS (mapGet xs) 0 s = growV s (spreadF s st vs) →
          Run tr flex_Fill_j2 [rowOf eSz s, ints a, I size, B false, I sp, I L, I N, ints (whoF 0 s st), p8, p9, p10, .row xs] [.loop flex_Fill_l1 [rowOf eSz s, ints a, I size, B false, I sp, I L, I N, ints (whoF 0 s st)]] [rowOf eSz (growV s (spreadF s st vs))] := by
        intro p8 p9 p10 xs vs he
        have k3 := fl3_run s (ints a) (I size) (B false) (I sp) (I L) (I N) (ints (whoF 0 s st)) p8 p9 p10 xs (.loop flex_Fill_l1 [rowOf eSz s, ints a, I size, B false, I sp, I L, I N, ints (whoF 0 s st)]) hl 0 (Nat.zero_le _) [] rfl
        rw [List.drop_zero, List.nil_append, List.nil_append, he] at k3
        rw [u_flex_Fill_j2]
        simp (disch := first | omega | (simp only [List.length_set, List.length_map, List.length_replicate, List.length_append, List.length_modify]; omega)) only [xrun_ret, run_ite, run_fail, run_letj, xrun_loop, run_jump, xrun_call, jmp_join, jmp_loop, br_fail, br_true, br_false, xden_var, den_int, den_bool, den_str, den_nil, den_nilc, den_un, den_bin, den_tri, xon_and, xon_or, on_beq, xon_not, on_len, on_neg, on_conv, on_max, on_min, on_snoc, on_cat, on_cons, on_make, on_copy, on_plus, on_minus, on_cell, on_sel, on_slice, on_set, on_put, on_cmp, on_ar, ev_lss, ev_leq, ev_gtr, ev_geq, ev_eql, ev_neq, ar_add, ar_sub, ar_mul, ar_quo, ar_rem, pi_int, b_bool, r_row, c_cells, rowOf_r, List.map_cons, List.map_nil, List.cons_append, List.nil_append, List.getD_cons_zero, List.getD_cons_succ, List.getElem?_cons_zero, List.getElem?_cons_succ, List.take_zero, List.take_succ_cons, List.length_map, Int.toNat_natCast, decide_eq_true_eq, Int.ofNat_lt, Int.ofNat_le, xnat_nonneg, true_and, and_true, if_true, if_false, reduceIte, wrap_in, xints_at, xbools_at, xints_set, xints_snoc, xints_make, xints_nil, xbools_set, xbools_snoc, xbools_make, xcopy_make, List.length_replicate, List.length_cons, List.length_nil, Nat.reduceAdd]
        first | exact k3 | exact ⟨by omega, k3⟩
      have hv1 : ((frF s st).map (partF L N)).length = (whoF 0 s st).length := by simp [hfl]
      unfold valsF
      by_cases hc : 1000 ≤ N
      · rw [br_pos hc, if_pos hc]
        have hsum : sumI (frF s st) = N := by omega
        have hsh := share_sp L (frF s st) (by omega)
        rw [shareS_eq hL (by omega) hwg (by omega), hsum] at hsh
        have hpl := partsS_len L N (frF s st) 0 0
        have k5 := ff5_run s (ints a) (I size) (B false) (I sp) (I L) (I N) (I (whoF 0 s st).length) (ints (frF s st)) (.row (pushP ((whoF 0 s st).zip ((frF s st).map (partF L N))) [])) (whoF 0 s st) (partsS L N 0 0 (frF s st)) (.loop flex_Fill_l1 [rowOf eSz s, ints a, I size, B false, I sp, I L, I N, ints (whoF 0 s st)]) [rowOf eSz (growV s (spreadF s st (partsS L N 0 0 (frF s st))))]
          (fun x hx => by obtain ⟨q, e, _, g⟩ := w2 x hx; omega) (by omega) (by omega)
          (fun x hx => by have := partsS_in hL (by omega) (frF s st) 0 0 (Int.le_refl _) hL.1 (Int.le_refl _) (by omega) hwg x hx; omega) 0 (Nat.zero_le _) (pushP ((whoF 0 s st).zip ((frF s st).map (partF L N))) []) (by rw [pushP_len]; simp; omega)
          (by
            rw [List.drop_zero, List.drop_zero]
            refine hj2 _ _ _ _ _ ?_
            exact growV_eq s st 0 _ (pushP ((whoF 0 s st).zip ((frF s st).map (partF L N))) []) hst (by rw [hpl]; exact hfl) (fun j _ hj => by rw [hout _ _ _ hj]; rfl) _ (fun _ _ => rfl))
        simp (disch := first | omega | (simp only [List.length_set, List.length_map, List.length_replicate, List.length_append, List.length_modify]; omega)) only [xrun_ret, run_ite, run_fail, run_letj, xrun_loop, run_jump, xrun_call, jmp_join, jmp_loop, br_fail, br_true, br_false, xden_var, den_int, den_bool, den_str, den_nil, den_nilc, den_un, den_bin, den_tri, xon_and, xon_or, on_beq, xon_not, on_len, on_neg, on_conv, on_max, on_min, on_snoc, on_cat, on_cons, on_make, on_copy, on_plus, on_minus, on_cell, on_sel, on_slice, on_set, on_put, on_cmp, on_ar, ev_lss, ev_leq, ev_gtr, ev_geq, ev_eql, ev_neq, ar_add, ar_sub, ar_mul, ar_quo, ar_rem, pi_int, b_bool, r_row, c_cells, rowOf_r, List.map_cons, List.map_nil, List.cons_append, List.nil_append, List.getD_cons_zero, List.getD_cons_succ, List.getElem?_cons_zero, List.getElem?_cons_succ, List.take_zero, List.take_succ_cons, List.length_map, Int.toNat_natCast, decide_eq_true_eq, Int.ofNat_lt, Int.ofNat_le, xnat_nonneg, true_and, and_true, if_true, if_false, reduceIte, wrap_in, xints_at, xbools_at, xints_set, xints_snoc, xints_make, xints_nil, xbools_set, xbools_snoc, xbools_make, xcopy_make, List.length_replicate, List.length_cons, List.length_nil, Nat.reduceAdd, xcall_of hsh]
        first | exact k5 | exact ⟨by omega, k5⟩
      · rw [br_neg hc, if_neg hc]
        exact hj2 _ _ _ _ _ (growV_eq s st 0 _ [] hst hv1 (fun _ _ _ => rfl) _ (fun _ _ => rfl))
/-- The reference: what is left of the size. -/
theorem rf1_run (s : List Sz) (a : List Int) (p2 p3 : PV) (r : List PV) (ha : a.all lenB = true) (hal : a.length ≤ 10000) :
    ∀ j, j ≤ a.length → ∀ x : Int, 0 ≤ x → x ≤ 68719476736 →
      Run tr ref26_Fill_l1 [rowOf eSz s, ints a, p2, p3, I a.length, I (lessS x (a.drop j))] [.loop ref26_Fill_l1 [rowOf eSz s, ints a, p2, p3]] r →
      Run tr ref26_Fill_l1 [rowOf eSz s, ints a, p2, p3, I j, I x] [.loop ref26_Fill_l1 [rowOf eSz s, ints a, p2, p3]] r := by
  refine xup_ind fun j hj ih => ?_
  intro x h0 h1 hrun
  by_cases h : j < a.length
  · have hg := List.all_eq_true.1 ha _ (List.getElem_mem h)
    simp only [lenB, Bool.and_eq_true, decide_eq_true_eq] at hg
    rw [List.drop_eq_getElem_cons h] at hrun
    simp only [lessS] at hrun
    have hi := ih h (max 0 (x - a[j])) (by omega) (by omega) hrun
    have em : (if x - a[j] > 0 then x - a[j] else 0) = max 0 (x - a[j]) := by omega
    rw [u_ref26_Fill_l1]
    simp (disch := first | omega | (simp only [List.length_set, List.length_map, List.length_replicate, List.length_append, List.length_modify]; omega)) only [xrun_ret, run_ite, run_fail, run_letj, xrun_loop, run_jump, xrun_call, jmp_join, jmp_loop, br_fail, br_true, br_false, xden_var, den_int, den_bool, den_str, den_nil, den_nilc, den_un, den_bin, den_tri, xon_and, xon_or, on_beq, xon_not, on_len, on_neg, on_conv, on_max, on_min, on_snoc, on_cat, on_cons, on_make, on_copy, on_plus, on_minus, on_cell, on_sel, on_slice, on_set, on_put, on_cmp, on_ar, ev_lss, ev_leq, ev_gtr, ev_geq, ev_eql, ev_neq, ar_add, ar_sub, ar_mul, ar_quo, ar_rem, pi_int, b_bool, r_row, c_cells, rowOf_r, List.map_cons, List.map_nil, List.cons_append, List.nil_append, List.getD_cons_zero, List.getD_cons_succ, List.getElem?_cons_zero, List.getElem?_cons_succ, List.take_zero, List.take_succ_cons, List.length_map, Int.toNat_natCast, decide_eq_true_eq, Int.ofNat_lt, Int.ofNat_le, xnat_nonneg, true_and, and_true, if_true, if_false, reduceIte, wrap_in, xints_at, xbools_at, xints_set, xints_snoc, xints_make, xints_nil, xbools_set, xbools_snoc, xbools_make, xcopy_make, List.length_replicate, List.length_cons, List.length_nil, Nat.reduceAdd, h, em]
    first | exact hi | exact ⟨by omega, hi⟩
  · rw [List.drop_of_length_le (by omega)] at hrun
    simp only [lessS] at hrun
    obtain rfl : j = a.length := by omega
    exact hrun
/-- Its weights, 0 for who is stiff. -/
theorem rf2_run (s : List Sz) (st : List Bool) (p1 p2 p3 p4 p5 p7 p8 p9 : PV) (J0 : JT) (r : List PV) (hl : s.length ≤ 10000) (hst : st.length = s.length) :
    ∀ j, j ≤ s.length → ∀ out : List Int, out.length = j →
      Run tr ref26_Fill_l2 [rowOf eSz s, p1, p2, p3, p4, p5, bools st, p7, p8, p9, I s.length, ints (out ++ wtF (s.drop j) (st.drop j))] [J0, .loop ref26_Fill_l2 [rowOf eSz s, p1, p2, p3, p4, p5, bools st, p7, p8, p9]] r →
      Run tr ref26_Fill_l2 [rowOf eSz s, p1, p2, p3, p4, p5, bools st, p7, p8, p9, I j, ints out] [J0, .loop ref26_Fill_l2 [rowOf eSz s, p1, p2, p3, p4, p5, bools st, p7, p8, p9]] r := by
  refine xup_ind fun j hj ih => ?_
  intro out ho hrun
  by_cases h : j < s.length
  · have hjs : j < st.length := by omega
    have hf := flexible_sp s[j]
    have hguard : ¬ s[j].mx = 5 ∨ j < st.length := Or.inr hjs
    rw [List.drop_eq_getElem_cons h, List.drop_eq_getElem_cons hjs] at hrun
    simp only [wtF] at hrun
    rw [u_ref26_Fill_l2]
    simp (disch := first | omega | (simp only [List.length_set, List.length_map, List.length_replicate, List.length_append, List.length_modify]; omega)) only [xrun_ret, run_ite, run_fail, run_letj, xrun_loop, run_jump, xrun_call, jmp_join, jmp_loop, br_fail, br_true, br_false, xden_var, den_int, den_bool, den_str, den_nil, den_nilc, den_un, den_bin, den_tri, xon_and, xon_or, on_beq, xon_not, on_len, on_neg, on_conv, on_max, on_min, on_snoc, on_cat, on_cons, on_make, on_copy, on_plus, on_minus, on_cell, on_sel, on_slice, on_set, on_put, on_cmp, on_ar, ev_lss, ev_leq, ev_gtr, ev_geq, ev_eql, ev_neq, ar_add, ar_sub, ar_mul, ar_quo, ar_rem, pi_int, b_bool, r_row, c_cells, rowOf_r, List.map_cons, List.map_nil, List.cons_append, List.nil_append, List.getD_cons_zero, List.getD_cons_succ, List.getElem?_cons_zero, List.getElem?_cons_succ, List.take_zero, List.take_succ_cons, List.length_map, Int.toNat_natCast, decide_eq_true_eq, Int.ofNat_lt, Int.ofNat_le, xnat_nonneg, true_and, and_true, if_true, if_false, reduceIte, wrap_in, xints_at, xbools_at, xints_set, xints_snoc, xints_make, xints_nil, xbools_set, xbools_snoc, xbools_make, xcopy_make, List.length_replicate, List.length_cons, List.length_nil, Nat.reduceAdd, h, hjs, sz_at0, sz_at1, sz_at2, sz_at3, sz_at4, sz_at5, sz_at6, sz_snoc, sz_set, sz_put5, sz_put6, xcall_of hf, Bool.not_and, Bool.not_or, Bool.not_not, Bool.and_eq_true, Bool.or_eq_true, Bool.not_eq_true', Bool.and_eq_false_imp, Bool.or_eq_false_iff, decide_eq_false_iff_not, decide_eq_true_eq, beq_iff_eq, beq_eq_false_iff_ne, bne_iff_ne, bne_eq_false_iff_eq, ne_eq, gt_iff_lt, ge_iff_le, Bool.false_eq_true, Bool.true_eq_false, beq_self_eq_true, beq_true, beq_false, Bool.not_false, Bool.not_true, Bool.false_and, Bool.true_and, Bool.and_true, Bool.and_false, Bool.or_true, Bool.true_or, Bool.or_false, Bool.false_or, false_and, true_and, and_false, and_true, or_false, or_true, false_or, true_or, not_true_eq_false, not_false_eq_true, false_iff, iff_false, true_iff, iff_true, forall_const, false_imp_iff, true_imp_iff, reduceCtorEq, imp_false]
    by_cases hc : s[j].mx ≠ 5 ∨ st[j] = true
    · rw [if_pos hc] at hrun
      have hi := ih h (out ++ [0]) (by simp [ho]) (by simpa using hrun)
      have hn : ¬ (s[j].mx = 5 ∧ ¬ st[j] = true) := fun hh => by rcases hc with h1 | h1; exact h1 hh.1; exact hh.2 h1
      try simp only [Bool.not_eq_true] at hn
      first | rw [br_neg hn] | (rw [br_pos hguard, br_neg hn])
      rw [u_ref26_Fill_j3]
      simp (disch := first | omega | (simp only [List.length_set, List.length_map, List.length_replicate, List.length_append, List.length_modify]; omega)) only [xrun_ret, run_ite, run_fail, run_letj, xrun_loop, run_jump, xrun_call, jmp_join, jmp_loop, br_fail, br_true, br_false, xden_var, den_int, den_bool, den_str, den_nil, den_nilc, den_un, den_bin, den_tri, xon_and, xon_or, on_beq, xon_not, on_len, on_neg, on_conv, on_max, on_min, on_snoc, on_cat, on_cons, on_make, on_copy, on_plus, on_minus, on_cell, on_sel, on_slice, on_set, on_put, on_cmp, on_ar, ev_lss, ev_leq, ev_gtr, ev_geq, ev_eql, ev_neq, ar_add, ar_sub, ar_mul, ar_quo, ar_rem, pi_int, b_bool, r_row, c_cells, rowOf_r, List.map_cons, List.map_nil, List.cons_append, List.nil_append, List.getD_cons_zero, List.getD_cons_succ, List.getElem?_cons_zero, List.getElem?_cons_succ, List.take_zero, List.take_succ_cons, List.length_map, Int.toNat_natCast, decide_eq_true_eq, Int.ofNat_lt, Int.ofNat_le, xnat_nonneg, true_and, and_true, if_true, if_false, reduceIte, wrap_in, xints_at, xbools_at, xints_set, xints_snoc, xints_make, xints_nil, xbools_set, xbools_snoc, xbools_make, xcopy_make, List.length_replicate, List.length_cons, List.length_nil, Nat.reduceAdd, ho]
      first | exact hi | exact ⟨by omega, hi⟩ | exact ⟨hguard, hi⟩ | exact ⟨hguard, by omega, hi⟩
    · rw [if_neg hc] at hrun
      have hi := ih h (out ++ [s[j].fr]) (by simp [ho]) (by simpa using hrun)
      have hn : s[j].mx = 5 ∧ ¬ st[j] = true := ⟨Classical.byContradiction fun hh => hc (.inl hh), fun hh => hc (.inr hh)⟩
      try simp only [Bool.not_eq_true] at hn
      first | rw [br_pos hn] | (rw [br_pos hguard, br_pos hn])
      rw [u_ref26_Fill_j3]
      simp (disch := first | omega | (simp only [List.length_set, List.length_map, List.length_replicate, List.length_append, List.length_modify]; omega)) only [xrun_ret, run_ite, run_fail, run_letj, xrun_loop, run_jump, xrun_call, jmp_join, jmp_loop, br_fail, br_true, br_false, xden_var, den_int, den_bool, den_str, den_nil, den_nilc, den_un, den_bin, den_tri, xon_and, xon_or, on_beq, xon_not, on_len, on_neg, on_conv, on_max, on_min, on_snoc, on_cat, on_cons, on_make, on_copy, on_plus, on_minus, on_cell, on_sel, on_slice, on_set, on_put, on_cmp, on_ar, ev_lss, ev_leq, ev_gtr, ev_geq, ev_eql, ev_neq, ar_add, ar_sub, ar_mul, ar_quo, ar_rem, pi_int, b_bool, r_row, c_cells, rowOf_r, List.map_cons, List.map_nil, List.cons_append, List.nil_append, List.getD_cons_zero, List.getD_cons_succ, List.getElem?_cons_zero, List.getElem?_cons_succ, List.take_zero, List.take_succ_cons, List.length_map, Int.toNat_natCast, decide_eq_true_eq, Int.ofNat_lt, Int.ofNat_le, xnat_nonneg, true_and, and_true, if_true, if_false, reduceIte, wrap_in, xints_at, xbools_at, xints_set, xints_snoc, xints_make, xints_nil, xbools_set, xbools_snoc, xbools_make, xcopy_make, List.length_replicate, List.length_cons, List.length_nil, Nat.reduceAdd, h, sz_at0, sz_at1, sz_at2, sz_at3, sz_at4, sz_at5, sz_at6, sz_snoc, sz_set, sz_put5, sz_put6, ho]
      first | exact hi | exact ⟨by omega, hi⟩ | exact ⟨hguard, hi⟩ | exact ⟨hguard, by omega, hi⟩
  · rw [List.drop_of_length_le (by omega), List.drop_of_length_le (by omega)] at hrun
    simp only [wtF, List.append_nil] at hrun
    obtain rfl : j = s.length := by omega
    exact hrun
/-- What each gets there. -/
theorem rf4_run (s : List Sz) (st : List Bool) (ps vs : List Int) (p1 p2 p3 p4 p5 p8 p10 p11 : PV) (L N : Int) (J0 J1 : JT) (hs : s.all okF = true) (hl : s.length ≤ 10000) (hst : st.length = s.length) (hL : 0 ≤ L ∧ L ≤ 68719476736) (hN : 0 ≤ N ∧ N ≤ 109951162777600)
    (hps : 1000 ≤ N → ps.length = s.length) (hvl : vs.length = s.length) (hv : ∀ (j : Nat) (h : j < s.length) (hb : j < st.length) (h' : j < vs.length), vs[j] = if s[j].mx ≠ 5 ∨ st[j] = true then 0 else if 1000 ≤ N then ps.getD j 0 else (md L s[j].fr 1000).1) :
    ∀ j, j ≤ s.length → ∀ out : List Sz, out.length = j →
      Run tr ref26_Fill_l4 [rowOf eSz s, p1, p2, p3, p4, p5, bools st, I N, p8, I L, p10, p11, ints ps, I j, rowOf eSz out] [J0, J1, .loop ref26_Fill_l4 [rowOf eSz s, p1, p2, p3, p4, p5, bools st, I N, p8, I L, p10, p11, ints ps]] [rowOf eSz (out ++ growV (s.drop j) (vs.drop j))] := by
  refine xup_ind fun j hj ih => ?_
  intro out ho
  by_cases h : j < s.length
  · have hjs : j < st.length := by omega
    have hjv : j < vs.length := by omega
    have hok := okF_in (List.all_eq_true.1 hs _ (List.getElem_mem h))
    have hf := flexible_sp s[j]
    have hm := rmuldiv_sp L s[j].fr 1000 (by omega) (by omega) (by omega)
    have hguard : ¬ s[j].mx = 5 ∨ j < st.length := Or.inr hjs
    have hvj := hv j h hjs hjv
    have hi := ih h (out ++ [raiseS s[j] vs[j]]) (by simp [ho])
    rw [List.append_assoc, List.singleton_append] at hi
    rw [List.drop_eq_getElem_cons h, List.drop_eq_getElem_cons hjv]
    simp only [growV]
    generalize raiseS s[j] vs[j] :: growV (s.drop (j + 1)) (vs.drop (j + 1)) = R at hi
    simp only [raiseS] at hi
    have hrs := rraise_sp ⟨s[j].mn, s[j].mx, s[j].fr, s[j].fit, s[j].cap, max s[j].base vs[j], s[j].lim⟩
    rw [u_ref26_Fill_l4]
    simp (disch := first | omega | (simp only [List.length_set, List.length_map, List.length_replicate, List.length_append, List.length_modify]; omega)) only [xrun_ret, run_ite, run_fail, run_letj, xrun_loop, run_jump, xrun_call, jmp_join, jmp_loop, br_fail, br_true, br_false, xden_var, den_int, den_bool, den_str, den_nil, den_nilc, den_un, den_bin, den_tri, xon_and, xon_or, on_beq, xon_not, on_len, on_neg, on_conv, on_max, on_min, on_snoc, on_cat, on_cons, on_make, on_copy, on_plus, on_minus, on_cell, on_sel, on_slice, on_set, on_put, on_cmp, on_ar, ev_lss, ev_leq, ev_gtr, ev_geq, ev_eql, ev_neq, ar_add, ar_sub, ar_mul, ar_quo, ar_rem, pi_int, b_bool, r_row, c_cells, rowOf_r, List.map_cons, List.map_nil, List.cons_append, List.nil_append, List.getD_cons_zero, List.getD_cons_succ, List.getElem?_cons_zero, List.getElem?_cons_succ, List.take_zero, List.take_succ_cons, List.length_map, Int.toNat_natCast, decide_eq_true_eq, Int.ofNat_lt, Int.ofNat_le, xnat_nonneg, true_and, and_true, if_true, if_false, reduceIte, wrap_in, xints_at, xbools_at, xints_set, xints_snoc, xints_make, xints_nil, xbools_set, xbools_snoc, xbools_make, xcopy_make, List.length_replicate, List.length_cons, List.length_nil, Nat.reduceAdd, h, hjs, sz_at0, sz_at1, sz_at2, sz_at3, sz_at4, sz_at5, sz_at6, sz_snoc, sz_set, sz_put5, sz_put6, xcall_of hf, Bool.not_and, Bool.not_or, Bool.not_not, Bool.and_eq_true, Bool.or_eq_true, Bool.not_eq_true', Bool.and_eq_false_imp, Bool.or_eq_false_iff, decide_eq_false_iff_not, decide_eq_true_eq, beq_iff_eq, beq_eq_false_iff_ne, bne_iff_ne, bne_eq_false_iff_eq, ne_eq, gt_iff_lt, ge_iff_le, Bool.false_eq_true, Bool.true_eq_false, beq_self_eq_true, beq_true, beq_false, Bool.not_false, Bool.not_true, Bool.false_and, Bool.true_and, Bool.and_true, Bool.and_false, Bool.or_true, Bool.true_or, Bool.or_false, Bool.false_or, false_and, true_and, and_false, and_true, or_false, or_true, false_or, true_or, not_true_eq_false, not_false_eq_true, false_iff, iff_false, true_iff, iff_true, forall_const, false_imp_iff, true_imp_iff, reduceCtorEq, imp_false]
    by_cases hc : s[j].mx ≠ 5 ∨ st[j] = true
    · rw [if_pos hc] at hvj
      have hn : ¬ (s[j].mx = 5 ∧ ¬ st[j] = true) := fun hh => by rcases hc with h1 | h1; exact h1 hh.1; exact hh.2 h1
      try simp only [Bool.not_eq_true] at hn
      rw [hvj, show max s[j].base 0 = s[j].base by omega] at hrs hi
      first | rw [br_neg hn] | (rw [br_pos hguard, br_neg hn])
      rw [u_ref26_Fill_j5]
      simp (disch := first | omega | (simp only [List.length_set, List.length_map, List.length_replicate, List.length_append, List.length_modify]; omega)) only [xrun_ret, run_ite, run_fail, run_letj, xrun_loop, run_jump, xrun_call, jmp_join, jmp_loop, br_fail, br_true, br_false, xden_var, den_int, den_bool, den_str, den_nil, den_nilc, den_un, den_bin, den_tri, xon_and, xon_or, on_beq, xon_not, on_len, on_neg, on_conv, on_max, on_min, on_snoc, on_cat, on_cons, on_make, on_copy, on_plus, on_minus, on_cell, on_sel, on_slice, on_set, on_put, on_cmp, on_ar, ev_lss, ev_leq, ev_gtr, ev_geq, ev_eql, ev_neq, ar_add, ar_sub, ar_mul, ar_quo, ar_rem, pi_int, b_bool, r_row, c_cells, rowOf_r, List.map_cons, List.map_nil, List.cons_append, List.nil_append, List.getD_cons_zero, List.getD_cons_succ, List.getElem?_cons_zero, List.getElem?_cons_succ, List.take_zero, List.take_succ_cons, List.length_map, Int.toNat_natCast, decide_eq_true_eq, Int.ofNat_lt, Int.ofNat_le, xnat_nonneg, true_and, and_true, if_true, if_false, reduceIte, wrap_in, xints_at, xbools_at, xints_set, xints_snoc, xints_make, xints_nil, xbools_set, xbools_snoc, xbools_make, xcopy_make, List.length_replicate, List.length_cons, List.length_nil, Nat.reduceAdd, h, sz_at0, sz_at1, sz_at2, sz_at3, sz_at4, sz_at5, sz_at6, sz_snoc, sz_set, sz_put5, sz_put6, xcall_of hrs, ho]
      first | exact hi | exact ⟨by omega, hi⟩ | exact ⟨hguard, hi⟩ | exact ⟨hguard, by omega, hi⟩
    · rw [if_neg hc] at hvj
      have hn : s[j].mx = 5 ∧ ¬ st[j] = true := ⟨Classical.byContradiction fun hh => hc (.inl hh), fun hh => hc (.inr hh)⟩
      try simp only [Bool.not_eq_true] at hn
      have em : (if vs[j] > s[j].base then vs[j] else s[j].base) = max s[j].base vs[j] := by omega
      first | rw [br_pos hn] | (rw [br_pos hguard, br_pos hn])
      have hgo : ∀ p15 p16 p17 : PV, Run tr ref26_Fill_j6 [rowOf eSz s, p1, p2, p3, p4, p5, bools st, I N, p8, I L, p10, p11, ints ps, I j, rowOf eSz out, p15, p16, p17, I vs[j]] [J0, J1, .loop ref26_Fill_l4 [rowOf eSz s, p1, p2, p3, p4, p5, bools st, I N, p8, I L, p10, p11, ints ps], .join ref26_Fill_j5 [rowOf eSz s, p1, p2, p3, p4, p5, bools st, I N, p8, I L, p10, p11, ints ps, I j, rowOf eSz out]] [rowOf eSz (out ++ R)] := by
        intro p15 p16 p17
        rw [u_ref26_Fill_j6]
        simp (disch := first | omega | (simp only [List.length_set, List.length_map, List.length_replicate, List.length_append, List.length_modify]; omega)) only [xrun_ret, run_ite, run_fail, run_letj, xrun_loop, run_jump, xrun_call, jmp_join, jmp_loop, br_fail, br_true, br_false, xden_var, den_int, den_bool, den_str, den_nil, den_nilc, den_un, den_bin, den_tri, xon_and, xon_or, on_beq, xon_not, on_len, on_neg, on_conv, on_max, on_min, on_snoc, on_cat, on_cons, on_make, on_copy, on_plus, on_minus, on_cell, on_sel, on_slice, on_set, on_put, on_cmp, on_ar, ev_lss, ev_leq, ev_gtr, ev_geq, ev_eql, ev_neq, ar_add, ar_sub, ar_mul, ar_quo, ar_rem, pi_int, b_bool, r_row, c_cells, rowOf_r, List.map_cons, List.map_nil, List.cons_append, List.nil_append, List.getD_cons_zero, List.getD_cons_succ, List.getElem?_cons_zero, List.getElem?_cons_succ, List.take_zero, List.take_succ_cons, List.length_map, Int.toNat_natCast, decide_eq_true_eq, Int.ofNat_lt, Int.ofNat_le, xnat_nonneg, true_and, and_true, if_true, if_false, reduceIte, wrap_in, xints_at, xbools_at, xints_set, xints_snoc, xints_make, xints_nil, xbools_set, xbools_snoc, xbools_make, xcopy_make, List.length_replicate, List.length_cons, List.length_nil, Nat.reduceAdd, h, sz_at0, sz_at1, sz_at2, sz_at3, sz_at4, sz_at5, sz_at6, sz_snoc, sz_set, sz_put5, sz_put6, em]
        rw [u_ref26_Fill_j5]
        simp (disch := first | omega | (simp only [List.length_set, List.length_map, List.length_replicate, List.length_append, List.length_modify]; omega)) only [xrun_ret, run_ite, run_fail, run_letj, xrun_loop, run_jump, xrun_call, jmp_join, jmp_loop, br_fail, br_true, br_false, xden_var, den_int, den_bool, den_str, den_nil, den_nilc, den_un, den_bin, den_tri, xon_and, xon_or, on_beq, xon_not, on_len, on_neg, on_conv, on_max, on_min, on_snoc, on_cat, on_cons, on_make, on_copy, on_plus, on_minus, on_cell, on_sel, on_slice, on_set, on_put, on_cmp, on_ar, ev_lss, ev_leq, ev_gtr, ev_geq, ev_eql, ev_neq, ar_add, ar_sub, ar_mul, ar_quo, ar_rem, pi_int, b_bool, r_row, c_cells, rowOf_r, List.map_cons, List.map_nil, List.cons_append, List.nil_append, List.getD_cons_zero, List.getD_cons_succ, List.getElem?_cons_zero, List.getElem?_cons_succ, List.take_zero, List.take_succ_cons, List.length_map, Int.toNat_natCast, decide_eq_true_eq, Int.ofNat_lt, Int.ofNat_le, xnat_nonneg, true_and, and_true, if_true, if_false, reduceIte, wrap_in, xints_at, xbools_at, xints_set, xints_snoc, xints_make, xints_nil, xbools_set, xbools_snoc, xbools_make, xcopy_make, List.length_replicate, List.length_cons, List.length_nil, Nat.reduceAdd, h, sz_at0, sz_at1, sz_at2, sz_at3, sz_at4, sz_at5, sz_at6, sz_snoc, sz_set, sz_put5, sz_put6, xcall_of hrs, ho]
        first | exact hi | exact ⟨by omega, hi⟩
      simp (disch := first | omega | (simp only [List.length_set, List.length_map, List.length_replicate, List.length_append, List.length_modify]; omega)) only [xrun_ret, run_ite, run_fail, run_letj, xrun_loop, run_jump, xrun_call, jmp_join, jmp_loop, br_fail, br_true, br_false, xden_var, den_int, den_bool, den_str, den_nil, den_nilc, den_un, den_bin, den_tri, xon_and, xon_or, on_beq, xon_not, on_len, on_neg, on_conv, on_max, on_min, on_snoc, on_cat, on_cons, on_make, on_copy, on_plus, on_minus, on_cell, on_sel, on_slice, on_set, on_put, on_cmp, on_ar, ev_lss, ev_leq, ev_gtr, ev_geq, ev_eql, ev_neq, ar_add, ar_sub, ar_mul, ar_quo, ar_rem, pi_int, b_bool, r_row, c_cells, rowOf_r, List.map_cons, List.map_nil, List.cons_append, List.nil_append, List.getD_cons_zero, List.getD_cons_succ, List.getElem?_cons_zero, List.getElem?_cons_succ, List.take_zero, List.take_succ_cons, List.length_map, Int.toNat_natCast, decide_eq_true_eq, Int.ofNat_lt, Int.ofNat_le, xnat_nonneg, true_and, and_true, if_true, if_false, reduceIte, wrap_in, xints_at, xbools_at, xints_set, xints_snoc, xints_make, xints_nil, xbools_set, xbools_snoc, xbools_make, xcopy_make, List.length_replicate, List.length_cons, List.length_nil, Nat.reduceAdd, h, sz_at0, sz_at1, sz_at2, sz_at3, sz_at4, sz_at5, sz_at6, sz_snoc, sz_set, sz_put5, sz_put6, xcall_of hm, ge_iff_le]
      try (refine ⟨hguard, ?_⟩)
      by_cases hcn : 1000 ≤ N
      · have hjp : j < ps.length := by have := hps hcn; omega
        rw [if_pos hcn] at hvj
        have hpj : ps[j] = vs[j] := by rw [hvj, List.getD_eq_getElem?_getD, List.getElem?_eq_getElem hjp]; rfl
        rw [br_pos hcn]
        simp (disch := first | omega | (simp only [List.length_set, List.length_map, List.length_replicate, List.length_append, List.length_modify]; omega)) only [xrun_ret, run_ite, run_fail, run_letj, xrun_loop, run_jump, xrun_call, jmp_join, jmp_loop, br_fail, br_true, br_false, xden_var, den_int, den_bool, den_str, den_nil, den_nilc, den_un, den_bin, den_tri, xon_and, xon_or, on_beq, xon_not, on_len, on_neg, on_conv, on_max, on_min, on_snoc, on_cat, on_cons, on_make, on_copy, on_plus, on_minus, on_cell, on_sel, on_slice, on_set, on_put, on_cmp, on_ar, ev_lss, ev_leq, ev_gtr, ev_geq, ev_eql, ev_neq, ar_add, ar_sub, ar_mul, ar_quo, ar_rem, pi_int, b_bool, r_row, c_cells, rowOf_r, List.map_cons, List.map_nil, List.cons_append, List.nil_append, List.getD_cons_zero, List.getD_cons_succ, List.getElem?_cons_zero, List.getElem?_cons_succ, List.take_zero, List.take_succ_cons, List.length_map, Int.toNat_natCast, decide_eq_true_eq, Int.ofNat_lt, Int.ofNat_le, xnat_nonneg, true_and, and_true, if_true, if_false, reduceIte, wrap_in, xints_at, xbools_at, xints_set, xints_snoc, xints_make, xints_nil, xbools_set, xbools_snoc, xbools_make, xcopy_make, List.length_replicate, List.length_cons, List.length_nil, Nat.reduceAdd, hjp, hpj]
        first | exact hgo _ _ _ | exact ⟨by omega, hgo _ _ _⟩
      · rw [if_neg hcn] at hvj
        rw [br_neg hcn, ← hvj]
        first | exact hgo _ _ _ | exact ⟨by omega, hgo _ _ _⟩
  · rw [List.drop_of_length_le (by omega)]
    simp only [growV, List.append_nil]
    rw [u_ref26_Fill_l4]
    simp (disch := first | omega | (simp only [List.length_set, List.length_map, List.length_replicate, List.length_append, List.length_modify]; omega)) only [xrun_ret, run_ite, run_fail, run_letj, xrun_loop, run_jump, xrun_call, jmp_join, jmp_loop, br_fail, br_true, br_false, xden_var, den_int, den_bool, den_str, den_nil, den_nilc, den_un, den_bin, den_tri, xon_and, xon_or, on_beq, xon_not, on_len, on_neg, on_conv, on_max, on_min, on_snoc, on_cat, on_cons, on_make, on_copy, on_plus, on_minus, on_cell, on_sel, on_slice, on_set, on_put, on_cmp, on_ar, ev_lss, ev_leq, ev_gtr, ev_geq, ev_eql, ev_neq, ar_add, ar_sub, ar_mul, ar_quo, ar_rem, pi_int, b_bool, r_row, c_cells, rowOf_r, List.map_cons, List.map_nil, List.cons_append, List.nil_append, List.getD_cons_zero, List.getD_cons_succ, List.getElem?_cons_zero, List.getElem?_cons_succ, List.take_zero, List.take_succ_cons, List.length_map, Int.toNat_natCast, decide_eq_true_eq, Int.ofNat_lt, Int.ofNat_le, xnat_nonneg, true_and, and_true, if_true, if_false, reduceIte, wrap_in, xints_at, xbools_at, xints_set, xints_snoc, xints_make, xints_nil, xbools_set, xbools_snoc, xbools_make, xcopy_make, List.length_replicate, List.length_cons, List.length_nil, Nat.reduceAdd, h]
    try simp [growV]
theorem rfill_sp (s : List Sz) (a : List Int) (size : Int) (hl : s.length ≤ 10000) (ha : a.length ≤ 1000000) : Says tr c_ref26_Fill [rowOf eSz s, ints a, I size] [rowOf eSz (fillR s a size)] := by
  refine Says.of (t := ref26_Fill) rfl ?_
  rw [u_ref26_Fill]
  have h1 := rright_sp s size (by omega)
  have h2 := rgood24_sp s a [] 0 (by omega) ha (by simp)
  unfold fillR
  have hbad : Run tr ref26_Fill_j0 [rowOf eSz s, ints a, I size, B true] [] [rowOf eSz s] := by
    rw [u_ref26_Fill_j0]
    simp (disch := first | omega | (simp only [List.length_set, List.length_map, List.length_replicate, List.length_append, List.length_modify]; omega)) only [xrun_ret, run_ite, run_fail, run_letj, xrun_loop, run_jump, xrun_call, jmp_join, jmp_loop, br_fail, br_true, br_false, xden_var, den_int, den_bool, den_str, den_nil, den_nilc, den_un, den_bin, den_tri, xon_and, xon_or, on_beq, xon_not, on_len, on_neg, on_conv, on_max, on_min, on_snoc, on_cat, on_cons, on_make, on_copy, on_plus, on_minus, on_cell, on_sel, on_slice, on_set, on_put, on_cmp, on_ar, ev_lss, ev_leq, ev_gtr, ev_geq, ev_eql, ev_neq, ar_add, ar_sub, ar_mul, ar_quo, ar_rem, pi_int, b_bool, r_row, c_cells, rowOf_r, List.map_cons, List.map_nil, List.cons_append, List.nil_append, List.getD_cons_zero, List.getD_cons_succ, List.getElem?_cons_zero, List.getElem?_cons_succ, List.take_zero, List.take_succ_cons, List.length_map, Int.toNat_natCast, decide_eq_true_eq, Int.ofNat_lt, Int.ofNat_le, xnat_nonneg, true_and, and_true, if_true, if_false, reduceIte, wrap_in, xints_at, xbools_at, xints_set, xints_snoc, xints_make, xints_nil, xbools_set, xbools_snoc, xbools_make, xcopy_make, List.length_replicate, List.length_cons, List.length_nil, Nat.reduceAdd]
  cases hb : rightB s size with
  | false =>
    rw [hb] at h1
    simp (disch := first | omega | (simp only [List.length_set, List.length_map, List.length_replicate, List.length_append, List.length_modify]; omega)) only [xrun_ret, run_ite, run_fail, run_letj, xrun_loop, run_jump, xrun_call, jmp_join, jmp_loop, br_fail, br_true, br_false, xden_var, den_int, den_bool, den_str, den_nil, den_nilc, den_un, den_bin, den_tri, xon_and, xon_or, on_beq, xon_not, on_len, on_neg, on_conv, on_max, on_min, on_snoc, on_cat, on_cons, on_make, on_copy, on_plus, on_minus, on_cell, on_sel, on_slice, on_set, on_put, on_cmp, on_ar, ev_lss, ev_leq, ev_gtr, ev_geq, ev_eql, ev_neq, ar_add, ar_sub, ar_mul, ar_quo, ar_rem, pi_int, b_bool, r_row, c_cells, rowOf_r, List.map_cons, List.map_nil, List.cons_append, List.nil_append, List.getD_cons_zero, List.getD_cons_succ, List.getElem?_cons_zero, List.getElem?_cons_succ, List.take_zero, List.take_succ_cons, List.length_map, Int.toNat_natCast, decide_eq_true_eq, Int.ofNat_lt, Int.ofNat_le, xnat_nonneg, true_and, and_true, if_true, if_false, reduceIte, wrap_in, xints_at, xbools_at, xints_set, xints_snoc, xints_make, xints_nil, xbools_set, xbools_snoc, xbools_make, xcopy_make, List.length_replicate, List.length_cons, List.length_nil, Nat.reduceAdd, xcall_of h1, Bool.false_eq_true]
    repeat rw [br_neg (by simp)]
    exact hbad
  | true =>
    rw [hb] at h1
    cases hg : goodI s a [] 0 with
    | false =>
      rw [hg] at h2
      simp (disch := first | omega | (simp only [List.length_set, List.length_map, List.length_replicate, List.length_append, List.length_modify]; omega)) only [xrun_ret, run_ite, run_fail, run_letj, xrun_loop, run_jump, xrun_call, jmp_join, jmp_loop, br_fail, br_true, br_false, xden_var, den_int, den_bool, den_str, den_nil, den_nilc, den_un, den_bin, den_tri, xon_and, xon_or, on_beq, xon_not, on_len, on_neg, on_conv, on_max, on_min, on_snoc, on_cat, on_cons, on_make, on_copy, on_plus, on_minus, on_cell, on_sel, on_slice, on_set, on_put, on_cmp, on_ar, ev_lss, ev_leq, ev_gtr, ev_geq, ev_eql, ev_neq, ar_add, ar_sub, ar_mul, ar_quo, ar_rem, pi_int, b_bool, r_row, c_cells, rowOf_r, List.map_cons, List.map_nil, List.cons_append, List.nil_append, List.getD_cons_zero, List.getD_cons_succ, List.getElem?_cons_zero, List.getElem?_cons_succ, List.take_zero, List.take_succ_cons, List.length_map, Int.toNat_natCast, decide_eq_true_eq, Int.ofNat_lt, Int.ofNat_le, xnat_nonneg, true_and, and_true, if_true, if_false, reduceIte, wrap_in, xints_at, xbools_at, xints_set, xints_snoc, xints_make, xints_nil, xbools_set, xbools_snoc, xbools_make, xcopy_make, List.length_replicate, List.length_cons, List.length_nil, Nat.reduceAdd, xcall_of h1, show PV.row [] = rowOf eWn [] from rfl, xcall_of h2, Bool.not_false]
      exact hbad
    | true =>
      rw [hg] at h2
      obtain ⟨hsz, hs⟩ := rightB_in hb
      obtain ⟨e1, e2, e3, e4⟩ := goodI_in hg
      simp (disch := first | omega | (simp only [List.length_set, List.length_map, List.length_replicate, List.length_append, List.length_modify]; omega)) only [xrun_ret, run_ite, run_fail, run_letj, xrun_loop, run_jump, xrun_call, jmp_join, jmp_loop, br_fail, br_true, br_false, xden_var, den_int, den_bool, den_str, den_nil, den_nilc, den_un, den_bin, den_tri, xon_and, xon_or, on_beq, xon_not, on_len, on_neg, on_conv, on_max, on_min, on_snoc, on_cat, on_cons, on_make, on_copy, on_plus, on_minus, on_cell, on_sel, on_slice, on_set, on_put, on_cmp, on_ar, ev_lss, ev_leq, ev_gtr, ev_geq, ev_eql, ev_neq, ar_add, ar_sub, ar_mul, ar_quo, ar_rem, pi_int, b_bool, r_row, c_cells, rowOf_r, List.map_cons, List.map_nil, List.cons_append, List.nil_append, List.getD_cons_zero, List.getD_cons_succ, List.getElem?_cons_zero, List.getElem?_cons_succ, List.take_zero, List.take_succ_cons, List.length_map, Int.toNat_natCast, decide_eq_true_eq, Int.ofNat_lt, Int.ofNat_le, xnat_nonneg, true_and, and_true, if_true, if_false, reduceIte, wrap_in, xints_at, xbools_at, xints_set, xints_snoc, xints_make, xints_nil, xbools_set, xbools_snoc, xbools_make, xcopy_make, List.length_replicate, List.length_cons, List.length_nil, Nat.reduceAdd, xcall_of h1, show PV.row [] = rowOf eWn [] from rfl, xcall_of h2, Bool.not_true, Bool.and_self]
      rw [u_ref26_Fill_j0]
      have hsp := lessS_in a size e3 hsz.1 hsz.2
      have k1 := rf1_run s a (I size) (B false) [rowOf eSz (growV s (spreadF s (finS s (lessS size a)) (valsF s (finS s (lessS size a)) (leftS s (finS s (lessS size a)) (lessS size a)) (partsF s (finS s (lessS size a)) 0))))] e3 (by omega) 0 (Nat.zero_le _) size hsz.1 hsz.2 ?_
      · simp (disch := first | omega | (simp only [List.length_set, List.length_map, List.length_replicate, List.length_append, List.length_modify]; omega)) only [xrun_ret, run_ite, run_fail, run_letj, xrun_loop, run_jump, xrun_call, jmp_join, jmp_loop, br_fail, br_true, br_false, xden_var, den_int, den_bool, den_str, den_nil, den_nilc, den_un, den_bin, den_tri, xon_and, xon_or, on_beq, xon_not, on_len, on_neg, on_conv, on_max, on_min, on_snoc, on_cat, on_cons, on_make, on_copy, on_plus, on_minus, on_cell, on_sel, on_slice, on_set, on_put, on_cmp, on_ar, ev_lss, ev_leq, ev_gtr, ev_geq, ev_eql, ev_neq, ar_add, ar_sub, ar_mul, ar_quo, ar_rem, pi_int, b_bool, r_row, c_cells, rowOf_r, List.map_cons, List.map_nil, List.cons_append, List.nil_append, List.getD_cons_zero, List.getD_cons_succ, List.getElem?_cons_zero, List.getElem?_cons_succ, List.take_zero, List.take_succ_cons, List.length_map, Int.toNat_natCast, decide_eq_true_eq, Int.ofNat_lt, Int.ofNat_le, xnat_nonneg, true_and, and_true, if_true, if_false, reduceIte, wrap_in, xints_at, xbools_at, xints_set, xints_snoc, xints_make, xints_nil, xbools_set, xbools_snoc, xbools_make, xcopy_make, List.length_replicate, List.length_cons, List.length_nil, Nat.reduceAdd, Bool.false_eq_true]
        try rw [br_neg (by simp)]
        exact k1
      rw [List.drop_zero]
      have h4 := rstiff_sp s (lessS size a) hs hl hsp
      have hst := finS_len s (lessS size a)
      generalize lessS size a = sp at hsp h4 hst
      generalize finS s sp = st at h4 hst
      have h5 := rsum_sp s st hs hl hst
      have h6 := rleft_sp s st sp hs hl hst hsp
      have hL := leftS_in s st sp hs hsp.1 hsp.2
      have hN := partsF_in s st 0 hs (Int.le_refl _)
      have hfr := partsF_fr s st 0
      have hwt := sumI_wt s st
      have hwl := wtF_len s st hst
      have hwg := (frF_wg s st hs).2
      generalize leftS s st sp = L at h6 hL
      generalize partsF s st 0 = N at h5 hN hfr
      have hsh := rshare_sp L (wtF s st) (by omega)
      have hna : ¬ a.length < a.length := by omega
      rw [u_ref26_Fill_l1]
      simp (disch := first | omega | (simp only [List.length_set, List.length_map, List.length_replicate, List.length_append, List.length_modify]; omega)) only [xrun_ret, run_ite, run_fail, run_letj, xrun_loop, run_jump, xrun_call, jmp_join, jmp_loop, br_fail, br_true, br_false, xden_var, den_int, den_bool, den_str, den_nil, den_nilc, den_un, den_bin, den_tri, xon_and, xon_or, on_beq, xon_not, on_len, on_neg, on_conv, on_max, on_min, on_snoc, on_cat, on_cons, on_make, on_copy, on_plus, on_minus, on_cell, on_sel, on_slice, on_set, on_put, on_cmp, on_ar, ev_lss, ev_leq, ev_gtr, ev_geq, ev_eql, ev_neq, ar_add, ar_sub, ar_mul, ar_quo, ar_rem, pi_int, b_bool, r_row, c_cells, rowOf_r, List.map_cons, List.map_nil, List.cons_append, List.nil_append, List.getD_cons_zero, List.getD_cons_succ, List.getElem?_cons_zero, List.getElem?_cons_succ, List.take_zero, List.take_succ_cons, List.length_map, Int.toNat_natCast, decide_eq_true_eq, Int.ofNat_lt, Int.ofNat_le, xnat_nonneg, true_and, and_true, if_true, if_false, reduceIte, wrap_in, xints_at, xbools_at, xints_set, xints_snoc, xints_make, xints_nil, xbools_set, xbools_snoc, xbools_make, xcopy_make, List.length_replicate, List.length_cons, List.length_nil, Nat.reduceAdd, hna, xcall_of h4, xcall_of h5, xcall_of h6]
      refine rf2_run s st (ints a) (I size) (B false) (I a.length) (I sp) (I N) (B (anyF s st false)) (I L) (.loop ref26_Fill_l1 [rowOf eSz s, ints a, I size, B false]) _ hl hst 0 (Nat.zero_le _) [] rfl ?_
      rw [List.drop_zero, List.drop_zero, List.nil_append]
      have hna : ¬ s.length < s.length := by omega
      rw [u_ref26_Fill_l2]
      simp (disch := first | omega | (simp only [List.length_set, List.length_map, List.length_replicate, List.length_append, List.length_modify]; omega)) only [xrun_ret, run_ite, run_fail, run_letj, xrun_loop, run_jump, xrun_call, jmp_join, jmp_loop, br_fail, br_true, br_false, xden_var, den_int, den_bool, den_str, den_nil, den_nilc, den_un, den_bin, den_tri, xon_and, xon_or, on_beq, xon_not, on_len, on_neg, on_conv, on_max, on_min, on_snoc, on_cat, on_cons, on_make, on_copy, on_plus, on_minus, on_cell, on_sel, on_slice, on_set, on_put, on_cmp, on_ar, ev_lss, ev_leq, ev_gtr, ev_geq, ev_eql, ev_neq, ar_add, ar_sub, ar_mul, ar_quo, ar_rem, pi_int, b_bool, r_row, c_cells, rowOf_r, List.map_cons, List.map_nil, List.cons_append, List.nil_append, List.getD_cons_zero, List.getD_cons_succ, List.getElem?_cons_zero, List.getElem?_cons_succ, List.take_zero, List.take_succ_cons, List.length_map, Int.toNat_natCast, decide_eq_true_eq, Int.ofNat_lt, Int.ofNat_le, xnat_nonneg, true_and, and_true, if_true, if_false, reduceIte, wrap_in, xints_at, xbools_at, xints_set, xints_snoc, xints_make, xints_nil, xbools_set, xbools_snoc, xbools_make, xcopy_make, List.length_replicate, List.length_cons, List.length_nil, Nat.reduceAdd, hna, xcall_of hsh]
      have hvs : shareS L (wtF s st) = if 1000 ≤ N then spreadF s st (partsS L N 0 0 (frF s st)) else shareS L (wtF s st) := by
        by_cases hc : 1000 ≤ N
        · rw [if_pos hc, shareS_eq hL (by omega) hwg (by omega), ← partsS_wt L N s st 0 0 (md_zero L N (by omega)).symm, show sumI (wtF s st) = N by omega]
        · rw [if_neg hc]
      have k4 := rf4_run s st (shareS L (wtF s st)) (spreadF s st (valsF s st L N)) (ints a) (I size) (B false) (I a.length) (I sp) (B (anyF s st false)) (I s.length) (ints (wtF s st)) L N (.loop ref26_Fill_l1 [rowOf eSz s, ints a, I size, B false]) (.loop ref26_Fill_l2 [rowOf eSz s, ints a, I size, B false, I a.length, I sp, bools st, I N, B (anyF s st false), I L]) hs hl hst hL (by omega) (fun hc => by rw [hvs, if_pos hc]; exact spreadF_len _ _ _ hst) (spreadF_len _ _ _ hst) (fun j h hb h' => by
          unfold valsF at h' ⊢
          by_cases hc : 1000 ≤ N
          · rw [hvs]
            simp only [if_pos hc] at h' ⊢
            rw [List.getD_eq_getElem?_getD, List.getElem?_eq_getElem h', Option.getD_some]
            split
            · rename_i hcc
              exact spreadF_zero s st _ j h hb h' hcc
            · rfl
          · simp only [if_neg hc] at h' ⊢
            rw [spreadF_at (partF L N) s st j h hb h']
            have e : max N 1000 = 1000 := by omega
            simp only [partF, e]) 0 (Nat.zero_le _) [] rfl
      rw [List.drop_zero, List.drop_zero, List.nil_append] at k4
      first | exact k4 | exact ⟨by omega, k4⟩
end Go.Proofs.Ytpaabecgngbjcaa.T
