/- The plain law of FlexFills: what the trees come to answers as the statement says. No condition. -/
import Derived.Test.YtpaabecgngbjcaaT
import Derived.Test.YtpaabecgngbjcaaKflp
import Derived.Test.YtpaabecgngbjcaaKflv
set_option linter.unusedVariables false
set_option linter.unusedSimpArgs false
set_option maxRecDepth 10000
namespace Go.Proofs.Ytpaabecgngbjcaa
open Go Go.Proofs.Ytpaabecgngbjcaa.Sx Go.Proofs.Ytpaabecgngbjcaa.M Go.Proofs.Ytpaabecgngbjcaa.T
theorem stB_le : ∀ (s : List Sz) (st : List Bool), s.all okF = true → stB s st ≤ sumB s
  | [], st, _ => by cases st <;> exact Int.le_refl _
  | x :: s, [], h => by
    simp only [List.all_cons, Bool.and_eq_true] at h
    have hx := okF_in h.1
    have := stB_le s [] h.2
    have e : stB s [] = 0 := by cases s <;> rfl
    simp only [stB, sumB]
    omega
  | x :: s, b :: st, h => by
    simp only [List.all_cons, Bool.and_eq_true] at h
    have hx := okF_in h.1
    have := stB_le s st h.2
    simp only [stB, sumB]
    split <;> omega
/-- The parts of those that grew. -/
def grownP : List Sz → List Sz → Int
  | x :: s, y :: l => (if x.base < y.base then y.fr else 0) + grownP s l
  | _, _ => 0
theorem sumB_mono : ∀ (s l : List Sz), l.length = s.length → (∀ (i : Nat) (h : i < s.length) (h' : i < l.length), s[i].base ≤ l[i].base) → sumB s ≤ sumB l ∧ (sumB l ≤ sumB s → grownP s l = 0)
  | [], [], _, _ => ⟨Int.le_refl _, fun _ => rfl⟩
  | [], _ :: _, h, _ => by simp at h
  | _ :: _, [], h, _ => by simp at h
  | x :: s, y :: l, h, hb => by
    obtain ⟨h1, h2⟩ := sumB_mono s l (by simpa using h) (fun i h h' => hb (i + 1) (by simpa using h) (by simpa using h'))
    have h0 := hb 0 (by simp) (by simp)
    simp only [List.getElem_cons_zero] at h0
    simp only [sumB, grownP]
    refine ⟨by omega, fun hh => ?_⟩
    rw [h2 (by omega), if_neg (by omega)]
    rfl
theorem grownP_le : ∀ (s : List Sz) (st : List Bool) (vs : List Int), st.length = s.length → s.all okF = true → grownP s (growV s (spreadF s st vs)) ≤ sumI (frF s st)
  | [], [], _, _, _ => Int.le_refl _
  | [], _ :: _, _, h, _ => by simp at h
  | _ :: _, [], _, h, _ => by simp at h
  | x :: s, b :: st, vs, hl, h => by
    simp only [List.all_cons, Bool.and_eq_true] at h
    have hx := okF_in h.1
    by_cases hc : x.mx ≠ 5 ∨ b = true
    · have := grownP_le s st vs (by simpa using hl) h.2
      simp only [spreadF, if_pos hc, growV, grownP, frF, raiseS]
      rw [if_neg (by omega)]
      omega
    · have := grownP_le s st vs.tail (by simpa using hl) h.2
      simp only [spreadF, if_neg hc, growV, grownP, frF, raiseS, sumI]
      split <;> omega
/-- What is claimed of the tracks that were filled. -/
structure FillOk (s : List Sz) (a : List Int) (size : Int) (l : List Sz) : Prop where
  len : l.length = s.length
  each : ∀ (i : Nat) (h : i < s.length) (h' : i < l.length), s[i].base ≤ l[i].base ∧ l[i].base ≤ 80000000000000000 ∧ l[i].mx = s[i].mx ∧ l[i].fr = s[i].fr ∧ (l[i].mx ≠ 5 → l[i].base = s[i].base)
  alike : ∀ (i k : Nat) (h : i < s.length) (h' : i < l.length) (g : k < s.length) (g' : k < l.length), s[i].base < l[i].base → s[k].base < l[k].base → l[k].fr = l[i].fr → l[k].base ≤ l[i].base + 1 ∧ l[i].base ≤ l[k].base + 1
  most : sumB l + sumI a ≤ max size (sumB s + sumI a)
  full : grownP s l < 1000 ∨ sumB l + sumI a = size
theorem fill_ok {s : List Sz} {a : List Int} {size : Int} (hr : rightB s size = true) (hg : goodI s a [] 0 = true) : FillOk s a size (fillR s a size) := by
  obtain ⟨hsz, hs⟩ := rightB_in hr
  obtain ⟨e1, e2, e3, e4⟩ := goodI_in hg
  unfold fillR
  rw [if_pos (by rw [hr, hg]; rfl)]
  have hsp := lessS_in a size e3 hsz.1 hsz.2
  have hspe := lessS_eq a size e3 hsz.1
  have hA := sumI_nn a e3
  generalize lessS size a = sp at hsp hspe
  have hst := finS_len s sp
  have hfix := finS_fix s sp
  generalize finS s sp = st at hst hfix
  have hL := leftS_in s st sp hs hsp.1 hsp.2
  have hLe := leftS_eq s st sp hs hsp.1
  have hN := partsF_in s st 0 hs (Int.le_refl _)
  have hfr := partsF_fr s st 0
  have hwg := (frF_wg s st hs).1
  have hfix' : stepF (leftS s st sp) (partsF s st 0) s st = st := hfix
  generalize leftS s st sp = L at hL hLe hfix'
  generalize partsF s st 0 = N at hN hfr hfix'
  have hb := fix_base L N s st hst hfix'
  have hstn := stB_nn s st hs
  have hstl := stB_le s st hs
  have hcov : coverF (partF L N) s st (valsF s st L N) ∧ 0 ≤ sumI (valsF s st L N) ∧ sumI (valsF s st L N) ≤ L ∧ (1000 ≤ N → sumI (valsF s st L N) = L) := by
    unfold valsF
    by_cases hc : 1000 ≤ N
    · rw [if_pos hc]
      obtain ⟨c1, c2⟩ := cover_parts L N hL hc s st 0 hst hs (Int.le_refl _) (by omega) hb
      have e0 : L * 0 / N = 0 := by simp
      rw [e0] at c1 c2
      have e1 : L * (0 + sumI (frF s st)) / N = L := by
        rw [show 0 + sumI (frF s st) = N by omega]
        exact Int.mul_ediv_cancel _ (by omega)
      rw [e1] at c2
      exact ⟨c1, by omega, by omega, fun _ => by omega⟩
    · rw [if_neg hc]
      have h1 := sum_plain L N hL (by omega) (frF s st) hwg
      have e : max N 1000 = 1000 := by omega
      rw [e] at h1
      have h2 : L * sumI (frF s st) ≤ L * 1000 := Int.mul_le_mul_of_nonneg_left (by omega) hL.1
      exact ⟨cover_plain L N s st hst hb, h1.1, by omega, fun h => absurd h hc⟩
  obtain ⟨hcov, hv0, hv1, hv2⟩ := hcov
  generalize valsF s st L N = vs at hcov hv0 hv1 hv2
  have hsum := coverF_sum _ s st vs hst hs hcov
  obtain ⟨hlen, hat⟩ := coverF_at _ s st vs hst hs hcov
  have hgp := grownP_le s st vs hst hs
  generalize growV s (spreadF s st vs) = l at hsum hlen hat hgp
  obtain ⟨hm1, hm2⟩ := sumB_mono s l hlen (fun i h h' => (hat i h h').1)
  have hq : ∀ fr : Int, 0 ≤ fr ∧ fr ≤ 1073741824 → partF L N fr ≤ 73786976294838208 := fun fr hf => by
    rw [partF_eq hL (by omega) hf]
    have h1 : L * fr ≤ 68719476736 * 1073741824 := mul_lt' hL.1 hL.2 hf.1 hf.2
    have h0 : 0 ≤ L * fr := Int.mul_nonneg hL.1 hf.1
    refine Int.ediv_le_of_le_mul (by omega) ?_
    have : (73786976294838208 : Int) * 1000 ≤ 73786976294838208 * max N 1000 := Int.mul_le_mul_of_nonneg_left (by omega) (by omega)
    omega
  refine ⟨hlen, fun i h h' => ?_, fun i k h h' g g' hi hk hf => ?_, ?_, ?_⟩
  · obtain ⟨c1, c2, c3, c4⟩ := hat i h h'
    have hok := okF_in (List.all_eq_true.1 hs _ (List.getElem_mem h))
    have hqi := hq _ hok.2.2.2
    refine ⟨c1, ?_, c2, c3, fun hm => ?_⟩
    · rcases c4 with c4 | c4 <;> omega
    · rcases c4 with c4 | c4
      · exact c4
      · omega
  · obtain ⟨c1, c2, c3, c4⟩ := hat i h h'
    obtain ⟨d1, d2, d3, d4⟩ := hat k g g'
    have e : s[k].fr = s[i].fr := by omega
    rcases c4 with c4 | c4
    · omega
    · rcases d4 with d4 | d4
      · omega
      · rw [e] at d4
        omega
  · by_cases hz : L = 0 <;> omega
  · by_cases hz : L = 0
    · exact .inl (by rw [hm2 (by omega)]; decide)
    · by_cases hc : 1000 ≤ N
      · have := hv2 hc
        exact .inr (by omega)
      · exact .inl (by omega)
theorem ff4_law (s l : List Sz) (p1 p2 p3 p4 p7 p8 p9 : PV) (j : Nat) (P : Int) (a : List Int) (J0 J1 J2 : JT) (r : List PV) (hl : s.length ≤ 60) (hlen : l.length = s.length) (hj : j < l.length)
    (hal : ∀ (k : Nat) (g : k < s.length) (g' : k < l.length), s[k].base < l[k].base → l[k].fr = l[j].fr → l[k].base ≤ l[j].base + 1 ∧ l[j].base ≤ l[k].base + 1)
    (hbs : ∀ (i : Nat) (h' : i < l.length), -1 ≤ l[i].base ∧ l[i].base ≤ 80000000000000000) :
    ∀ k, k ≤ l.length →
      Jmp tr (some J2) 2 [I (IntKind.i64.wrap (P + l[j].fr))] [J0, J1, J2, .loop law26_FlexFills_l4 [rowOf eSz s, p1, p2, p3, p4, rowOf eSz l, I j, I P, p8, p9]] r →
      Run tr law26_FlexFills_l4 [rowOf eSz s, p1, p2, p3, p4, rowOf eSz l, I j, I P, p8, p9, I k] [J0, J1, J2, .loop law26_FlexFills_l4 [rowOf eSz s, p1, p2, p3, p4, rowOf eSz l, I j, I P, p8, p9]] r := by
  refine xup_ind fun k hk ih => ?_
  intro hrun
  by_cases h : k < l.length
  · have hks : k < s.length := by omega
    have hi := ih h hrun
    have b1 := hbs j hj
    have b2 := hbs k h
    rw [u_law26_FlexFills_l4]
    simp (disch := first | omega | (simp only [List.length_set, List.length_map, List.length_replicate, List.length_append, List.length_modify]; omega)) only [xrun_ret, run_ite, run_fail, run_letj, xrun_loop, run_jump, xrun_call, jmp_join, jmp_loop, br_fail, br_true, br_false, xden_var, den_int, den_bool, den_str, den_nil, den_nilc, den_un, den_bin, den_tri, xon_and, xon_or, on_beq, xon_not, on_len, on_neg, on_conv, on_max, on_min, on_snoc, on_cat, on_cons, on_make, on_copy, on_plus, on_minus, on_cell, on_sel, on_slice, on_set, on_put, on_cmp, on_ar, ev_lss, ev_leq, ev_gtr, ev_geq, ev_eql, ev_neq, ar_add, ar_sub, ar_mul, ar_quo, ar_rem, pi_int, b_bool, r_row, c_cells, rowOf_r, List.map_cons, List.map_nil, List.cons_append, List.nil_append, List.getD_cons_zero, List.getD_cons_succ, List.getElem?_cons_zero, List.getElem?_cons_succ, List.take_zero, List.take_succ_cons, List.length_map, Int.toNat_natCast, decide_eq_true_eq, Int.ofNat_lt, Int.ofNat_le, xnat_nonneg, true_and, and_true, if_true, if_false, reduceIte, wrap_in, xints_at, xbools_at, xints_set, xints_snoc, xints_make, xints_nil, xbools_set, xbools_snoc, xbools_make, xcopy_make, List.length_replicate, List.length_cons, List.length_nil, Nat.reduceAdd, h, hj, hks, sz_at0, sz_at1, sz_at2, sz_at3, sz_at4, sz_at5, sz_at6, sz_snoc, sz_set, sz_put5, sz_put6, Bool.not_and, Bool.not_or, Bool.not_not, Bool.and_eq_true, Bool.or_eq_true, Bool.not_eq_true', Bool.and_eq_false_imp, Bool.or_eq_false_iff, decide_eq_false_iff_not, decide_eq_true_eq, beq_iff_eq, beq_eq_false_iff_ne, bne_iff_ne, bne_eq_false_iff_eq, ne_eq, gt_iff_lt, ge_iff_le, Bool.false_eq_true, Bool.true_eq_false, beq_self_eq_true, beq_true, beq_false, Bool.not_false, Bool.not_true, Bool.false_and, Bool.true_and, Bool.and_true, Bool.and_false, Bool.or_true, Bool.true_or, Bool.or_false, Bool.false_or, false_and, true_and, and_false, and_true, or_false, or_true, false_or, true_or, not_true_eq_false, not_false_eq_true, false_iff, iff_false, true_iff, iff_true, forall_const, false_imp_iff, true_imp_iff, reduceCtorEq, imp_false]
    by_cases hc : ((l[k].mx = 5 ∧ l[k].fr = l[j].fr) ∧ l[k].base > s[k].base) ∧ (l[k].base > l[j].base + 1 ∨ l[j].base > l[k].base + 1)
    · have := hal k hks h hc.1.2 hc.1.1.2
      omega
    · rw [br_neg hc]
      first | exact hi | exact ⟨Or.inr hks, hi⟩ | exact ⟨by omega, hi⟩
  · rw [u_law26_FlexFills_l4]
    simp only [run_ite, xden_var, den_bin, den_un, on_cmp, ev_lss, List.getD_cons_succ, List.getD_cons_zero, pi_int, b_bool, on_len, rowOf_r, List.length_map]
    rw [br_neg (by simp; omega)]
    simp (disch := first | omega | (simp only [List.length_set, List.length_map, List.length_replicate, List.length_append, List.length_modify]; omega)) only [xrun_ret, run_ite, run_fail, run_letj, xrun_loop, run_jump, xrun_call, jmp_join, jmp_loop, br_fail, br_true, br_false, xden_var, den_int, den_bool, den_str, den_nil, den_nilc, den_un, den_bin, den_tri, xon_and, xon_or, on_beq, xon_not, on_len, on_neg, on_conv, on_max, on_min, on_snoc, on_cat, on_cons, on_make, on_copy, on_plus, on_minus, on_cell, on_sel, on_slice, on_set, on_put, on_cmp, on_ar, ev_lss, ev_leq, ev_gtr, ev_geq, ev_eql, ev_neq, ar_add, ar_sub, ar_mul, ar_quo, ar_rem, pi_int, b_bool, r_row, c_cells, rowOf_r, List.map_cons, List.map_nil, List.cons_append, List.nil_append, List.getD_cons_zero, List.getD_cons_succ, List.getElem?_cons_zero, List.getElem?_cons_succ, List.take_zero, List.take_succ_cons, List.length_map, Int.toNat_natCast, decide_eq_true_eq, Int.ofNat_lt, Int.ofNat_le, xnat_nonneg, true_and, and_true, if_true, if_false, reduceIte, wrap_in, xints_at, xbools_at, xints_set, xints_snoc, xints_make, xints_nil, xbools_set, xbools_snoc, xbools_make, xcopy_make, List.length_replicate, List.length_cons, List.length_nil, Nat.reduceAdd, hj, sz_at0, sz_at1, sz_at2, sz_at3, sz_at4, sz_at5, sz_at6, sz_snoc, sz_set, sz_put5, sz_put6]
    first | exact hrun | simpa using hrun
theorem ff2_law (s l : List Sz) (a : List Int) (size : Int) (p3 p4 : PV) (J0 : JT) (hs : s.all okF = true) (ha : a.all lenB = true) (hal : a.length = s.length) (hl : s.length ≤ 60) (ho : FillOk s a size l) :
    ∀ j, j ≤ l.length → ∀ P w u : Int, 0 ≤ P ∧ P ≤ 1073741824 * j → 0 ≤ w ∧ w ≤ 80000100000000000 * j → 0 ≤ u ∧ u ≤ 80000100000000000 * j →
      w + sumB (l.drop j) + sumI (a.drop j) ≤ max size (u + sumB (s.drop j) + sumI (a.drop j)) → (P + grownP (s.drop j) (l.drop j) < 1000 ∨ w + sumB (l.drop j) + sumI (a.drop j) = size) →
      Run tr law26_FlexFills_l2 [rowOf eSz s, ints a, I size, p3, p4, rowOf eSz l, I j, I P, I w, I u] [J0, .loop law26_FlexFills_l2 [rowOf eSz s, ints a, I size, p3, p4, rowOf eSz l]] [B true] := by
  have hlen := ho.len
  have hbs : ∀ (i : Nat) (h' : i < l.length), -1 ≤ l[i].base ∧ l[i].base ≤ 80000000000000000 := fun i h' => by
    have h := ho.each i (by omega) h'
    have hok := okF_in (List.all_eq_true.1 hs _ (List.getElem_mem (show i < s.length by omega)))
    omega
  refine xup_ind fun j hj ih => ?_
  intro P w u hP hw hu hm hf
  by_cases h : j < l.length
  · have hjs : j < s.length := by omega
    have hja : j < a.length := by omega
    have hok := okF_in (List.all_eq_true.1 hs _ (List.getElem_mem hjs))
    have hga := List.all_eq_true.1 ha _ (List.getElem_mem hja)
    simp only [lenB, Bool.and_eq_true, decide_eq_true_eq] at hga
    obtain ⟨c1, c2, c3, c4, c5⟩ := ho.each j hjs h
    have hbad : ¬ (l[j].base < s[j].base ∨ ¬ l[j].mx = 5 ∧ ¬ l[j].base = s[j].base) := by
      rintro (hh | ⟨h1, h2⟩)
      · omega
      · exact h2 (c5 h1)
    rw [List.drop_eq_getElem_cons h, List.drop_eq_getElem_cons hjs, List.drop_eq_getElem_cons hja] at hm hf
    simp only [sumB, sumI, grownP] at hm hf
    have hj3 : ∀ P' : Int, P' = P + (if s[j].base < l[j].base then l[j].fr else 0) → Run tr law26_FlexFills_j3 [rowOf eSz s, ints a, I size, p3, p4, rowOf eSz l, I j, I P, I w, I u, I P'] [J0, .loop law26_FlexFills_l2 [rowOf eSz s, ints a, I size, p3, p4, rowOf eSz l]] [B true] := by
      intro P' hP'
      have hi := ih h P' (w + (l[j].base + a[j])) (u + (s[j].base + a[j])) (by subst hP'; split <;> omega) (by omega) (by omega) (by omega) (by
        rcases hf with hf | hf
        · exact .inl (by omega)
        · exact .inr (by omega))
      rw [u_law26_FlexFills_j3]
      simp (disch := first | omega | (simp only [List.length_set, List.length_map, List.length_replicate, List.length_append, List.length_modify]; omega)) only [xrun_ret, run_ite, run_fail, run_letj, xrun_loop, run_jump, xrun_call, jmp_join, jmp_loop, br_fail, br_true, br_false, xden_var, den_int, den_bool, den_str, den_nil, den_nilc, den_un, den_bin, den_tri, xon_and, xon_or, on_beq, xon_not, on_len, on_neg, on_conv, on_max, on_min, on_snoc, on_cat, on_cons, on_make, on_copy, on_plus, on_minus, on_cell, on_sel, on_slice, on_set, on_put, on_cmp, on_ar, ev_lss, ev_leq, ev_gtr, ev_geq, ev_eql, ev_neq, ar_add, ar_sub, ar_mul, ar_quo, ar_rem, pi_int, b_bool, r_row, c_cells, rowOf_r, List.map_cons, List.map_nil, List.cons_append, List.nil_append, List.getD_cons_zero, List.getD_cons_succ, List.getElem?_cons_zero, List.getElem?_cons_succ, List.take_zero, List.take_succ_cons, List.length_map, Int.toNat_natCast, decide_eq_true_eq, Int.ofNat_lt, Int.ofNat_le, xnat_nonneg, true_and, and_true, if_true, if_false, reduceIte, wrap_in, xints_at, xbools_at, xints_set, xints_snoc, xints_make, xints_nil, xbools_set, xbools_snoc, xbools_make, xcopy_make, List.length_replicate, List.length_cons, List.length_nil, Nat.reduceAdd, h, hjs, hja, sz_at0, sz_at1, sz_at2, sz_at3, sz_at4, sz_at5, sz_at6, sz_snoc, sz_set, sz_put5, sz_put6]
      first | exact hi | exact ⟨by omega, hi⟩
    rw [u_law26_FlexFills_l2]
    simp (disch := first | omega | (simp only [List.length_set, List.length_map, List.length_replicate, List.length_append, List.length_modify]; omega)) only [xrun_ret, run_ite, run_fail, run_letj, xrun_loop, run_jump, xrun_call, jmp_join, jmp_loop, br_fail, br_true, br_false, xden_var, den_int, den_bool, den_str, den_nil, den_nilc, den_un, den_bin, den_tri, xon_and, xon_or, on_beq, xon_not, on_len, on_neg, on_conv, on_max, on_min, on_snoc, on_cat, on_cons, on_make, on_copy, on_plus, on_minus, on_cell, on_sel, on_slice, on_set, on_put, on_cmp, on_ar, ev_lss, ev_leq, ev_gtr, ev_geq, ev_eql, ev_neq, ar_add, ar_sub, ar_mul, ar_quo, ar_rem, pi_int, b_bool, r_row, c_cells, rowOf_r, List.map_cons, List.map_nil, List.cons_append, List.nil_append, List.getD_cons_zero, List.getD_cons_succ, List.getElem?_cons_zero, List.getElem?_cons_succ, List.take_zero, List.take_succ_cons, List.length_map, Int.toNat_natCast, decide_eq_true_eq, Int.ofNat_lt, Int.ofNat_le, xnat_nonneg, true_and, and_true, if_true, if_false, reduceIte, wrap_in, xints_at, xbools_at, xints_set, xints_snoc, xints_make, xints_nil, xbools_set, xbools_snoc, xbools_make, xcopy_make, List.length_replicate, List.length_cons, List.length_nil, Nat.reduceAdd, h, hjs, hja, sz_at0, sz_at1, sz_at2, sz_at3, sz_at4, sz_at5, sz_at6, sz_snoc, sz_set, sz_put5, sz_put6, Bool.not_and, Bool.not_or, Bool.not_not, Bool.and_eq_true, Bool.or_eq_true, Bool.not_eq_true', Bool.and_eq_false_imp, Bool.or_eq_false_iff, decide_eq_false_iff_not, decide_eq_true_eq, beq_iff_eq, beq_eq_false_iff_ne, bne_iff_ne, bne_eq_false_iff_eq, ne_eq, gt_iff_lt, ge_iff_le, Bool.false_eq_true, Bool.true_eq_false, beq_self_eq_true, beq_true, beq_false, Bool.not_false, Bool.not_true, Bool.false_and, Bool.true_and, Bool.and_true, Bool.and_false, Bool.or_true, Bool.true_or, Bool.or_false, Bool.false_or, false_and, true_and, and_false, and_true, or_false, or_true, false_or, true_or, not_true_eq_false, not_false_eq_true, false_iff, iff_false, true_iff, iff_true, forall_const, false_imp_iff, true_imp_iff, reduceCtorEq, imp_false]
    rw [br_neg hbad]
    by_cases hg : l[j].base > s[j].base
    · rw [br_pos hg]
      have e0 : (P + l[j].fr) = P + (if s[j].base < l[j].base then l[j].fr else 0) := by rw [if_pos hg]
      have h4 := ff4_law s l (ints a) (I size) p3 p4 p4 (I w) (I u) j P a J0 (.loop law26_FlexFills_l2 [rowOf eSz s, ints a, I size, p3, p4, rowOf eSz l]) (.join law26_FlexFills_j3 [rowOf eSz s, ints a, I size, p3, p4, rowOf eSz l, I j, I P, I w, I u]) [B true] hl hlen h
        (fun k g g' hk he => ho.alike j k hjs h g g' hg hk he) hbs 0 (Nat.zero_le _) (by
          rw [jmp_join, wrap_in (by omega) (by omega)]
          exact hj3 _ e0)
      first | exact h4 | exact ⟨by omega, h4⟩
    · rw [br_neg hg]
      have h3 := hj3 P (by rw [if_neg (by omega)]; omega)
      first | exact h3 | exact ⟨by omega, h3⟩
  · rw [List.drop_of_length_le (by omega), List.drop_of_length_le (by omega), List.drop_of_length_le (by omega)] at hm hf
    simp only [sumB, sumI, grownP, Int.add_zero] at hm hf
    have e : (if size < u then u else size) = max size u := by omega
    have e' : (if u > size then u else size) = max size u := by omega
    rw [u_law26_FlexFills_l2]
    simp (disch := first | omega | (simp only [List.length_set, List.length_map, List.length_replicate, List.length_append, List.length_modify]; omega)) only [xrun_ret, run_ite, run_fail, run_letj, xrun_loop, run_jump, xrun_call, jmp_join, jmp_loop, br_fail, br_true, br_false, xden_var, den_int, den_bool, den_str, den_nil, den_nilc, den_un, den_bin, den_tri, xon_and, xon_or, on_beq, xon_not, on_len, on_neg, on_conv, on_max, on_min, on_snoc, on_cat, on_cons, on_make, on_copy, on_plus, on_minus, on_cell, on_sel, on_slice, on_set, on_put, on_cmp, on_ar, ev_lss, ev_leq, ev_gtr, ev_geq, ev_eql, ev_neq, ar_add, ar_sub, ar_mul, ar_quo, ar_rem, pi_int, b_bool, r_row, c_cells, rowOf_r, List.map_cons, List.map_nil, List.cons_append, List.nil_append, List.getD_cons_zero, List.getD_cons_succ, List.getElem?_cons_zero, List.getElem?_cons_succ, List.take_zero, List.take_succ_cons, List.length_map, Int.toNat_natCast, decide_eq_true_eq, Int.ofNat_lt, Int.ofNat_le, xnat_nonneg, true_and, and_true, if_true, if_false, reduceIte, wrap_in, xints_at, xbools_at, xints_set, xints_snoc, xints_make, xints_nil, xbools_set, xbools_snoc, xbools_make, xcopy_make, List.length_replicate, List.length_cons, List.length_nil, Nat.reduceAdd, h, e, e', Bool.not_and, Bool.not_or, Bool.not_not, Bool.and_eq_true, Bool.or_eq_true, Bool.not_eq_true', Bool.and_eq_false_imp, Bool.or_eq_false_iff, decide_eq_false_iff_not, decide_eq_true_eq, beq_iff_eq, beq_eq_false_iff_ne, bne_iff_ne, bne_eq_false_iff_eq, ne_eq, gt_iff_lt, ge_iff_le, Bool.false_eq_true, Bool.true_eq_false, beq_self_eq_true, beq_true, beq_false, Bool.not_false, Bool.not_true, Bool.false_and, Bool.true_and, Bool.and_true, Bool.and_false, Bool.or_true, Bool.true_or, Bool.or_false, Bool.false_or, false_and, true_and, and_false, and_true, or_false, or_true, false_or, true_or, not_true_eq_false, not_false_eq_true, false_iff, iff_false, true_iff, iff_true, forall_const, false_imp_iff, true_imp_iff, reduceCtorEq, imp_false, xcall_of lives_sp]
    rw [br_neg (by omega), br_pos (by omega)]
    trivial
theorem rgood24_any (s : List Sz) (a : List Int) (ws : List Wn) (mode : Int) (hs : s.length ≤ 1000000) (hw : ws.length ≤ 1000000) : Says tr c_ref24_Good [rowOf eSz s, ints a, rowOf eWn ws, I mode] [B (goodI s a ws mode)] := by
  by_cases ha : a.length ≤ 1000000
  · exact rgood24_sp s a ws mode hs ha hw
  refine Says.of (t := ref24_Good) rfl ?_
  rw [u_ref24_Good]
  simp (disch := first | omega | (simp only [List.length_set, List.length_map, List.length_replicate, List.length_append, List.length_modify]; omega)) only [xrun_ret, run_ite, run_fail, run_letj, xrun_loop, run_jump, xrun_call, jmp_join, jmp_loop, br_fail, br_true, br_false, xden_var, den_int, den_bool, den_str, den_nil, den_nilc, den_un, den_bin, den_tri, xon_and, xon_or, on_beq, xon_not, on_len, on_neg, on_conv, on_max, on_min, on_snoc, on_cat, on_cons, on_make, on_copy, on_plus, on_minus, on_cell, on_sel, on_slice, on_set, on_put, on_cmp, on_ar, ev_lss, ev_leq, ev_gtr, ev_geq, ev_eql, ev_neq, ar_add, ar_sub, ar_mul, ar_quo, ar_rem, pi_int, b_bool, r_row, c_cells, rowOf_r, List.map_cons, List.map_nil, List.cons_append, List.nil_append, List.getD_cons_zero, List.getD_cons_succ, List.getElem?_cons_zero, List.getElem?_cons_succ, List.take_zero, List.take_succ_cons, List.length_map, Int.toNat_natCast, decide_eq_true_eq, Int.ofNat_lt, Int.ofNat_le, xnat_nonneg, true_and, and_true, if_true, if_false, reduceIte, wrap_in, xints_at, xbools_at, xints_set, xints_snoc, xints_make, xints_nil, xbools_set, xbools_snoc, xbools_make, xcopy_make, List.length_replicate, List.length_cons, List.length_nil, Nat.reduceAdd, Bool.not_and, Bool.not_or, Bool.not_not, Bool.and_eq_true, Bool.or_eq_true, Bool.not_eq_true', Bool.and_eq_false_imp, Bool.or_eq_false_iff, decide_eq_false_iff_not, decide_eq_true_eq, beq_iff_eq, beq_eq_false_iff_ne, bne_iff_ne, bne_eq_false_iff_eq, ne_eq, gt_iff_lt, ge_iff_le, Bool.false_eq_true, Bool.true_eq_false, beq_self_eq_true, beq_true, beq_false, Bool.not_false, Bool.not_true, Bool.false_and, Bool.true_and, Bool.and_true, Bool.and_false, Bool.or_true, Bool.true_or, Bool.or_false, Bool.false_or, false_and, true_and, and_false, and_true, or_false, or_true, false_or, true_or, not_true_eq_false, not_false_eq_true, false_iff, iff_false, true_iff, iff_true, forall_const, false_imp_iff, true_imp_iff, reduceCtorEq, imp_false]
  rw [br_pos (by omega)]
  have h : ¬ a.length = s.length := by omega
  unfold goodI
  simp [h]
/-- The tracks, one by one: lengths, or not. -/
theorem ff1_law (s : List Sz) (a : List Int) (size : Int) (hl : s.length ≤ 60) (ha : a.length ≤ 10000) (hgd : ∀ x ∈ s, Gd x)
    (hgo : s.all okF = true → Run tr law26_FlexFills_l1 [rowOf eSz s, ints a, I size, B false, I s.length] [.loop law26_FlexFills_l1 [rowOf eSz s, ints a, I size, B false]] [B true]) :
    ∀ j, j ≤ s.length → (s.take j).all okF = true → Run tr law26_FlexFills_l1 [rowOf eSz s, ints a, I size, B false, I j] [.loop law26_FlexFills_l1 [rowOf eSz s, ints a, I size, B false]] [B true] := by
  refine xup_ind fun j hj ih => ?_
  intro hall
  by_cases h : j < s.length
  · have hg := gd_in (hgd _ (List.getElem_mem h))
    rw [u_law26_FlexFills_l1]
    simp (disch := first | omega | (simp only [List.length_set, List.length_map, List.length_replicate, List.length_append, List.length_modify]; omega)) only [xrun_ret, run_ite, run_fail, run_letj, xrun_loop, run_jump, xrun_call, jmp_join, jmp_loop, br_fail, br_true, br_false, xden_var, den_int, den_bool, den_str, den_nil, den_nilc, den_un, den_bin, den_tri, xon_and, xon_or, on_beq, xon_not, on_len, on_neg, on_conv, on_max, on_min, on_snoc, on_cat, on_cons, on_make, on_copy, on_plus, on_minus, on_cell, on_sel, on_slice, on_set, on_put, on_cmp, on_ar, ev_lss, ev_leq, ev_gtr, ev_geq, ev_eql, ev_neq, ar_add, ar_sub, ar_mul, ar_quo, ar_rem, pi_int, b_bool, r_row, c_cells, rowOf_r, List.map_cons, List.map_nil, List.cons_append, List.nil_append, List.getD_cons_zero, List.getD_cons_succ, List.getElem?_cons_zero, List.getElem?_cons_succ, List.take_zero, List.take_succ_cons, List.length_map, Int.toNat_natCast, decide_eq_true_eq, Int.ofNat_lt, Int.ofNat_le, xnat_nonneg, true_and, and_true, if_true, if_false, reduceIte, wrap_in, xints_at, xbools_at, xints_set, xints_snoc, xints_make, xints_nil, xbools_set, xbools_snoc, xbools_make, xcopy_make, List.length_replicate, List.length_cons, List.length_nil, Nat.reduceAdd, h, sz_at0, sz_at1, sz_at2, sz_at3, sz_at4, sz_at5, sz_at6, sz_snoc, sz_set, sz_put5, sz_put6, Bool.not_and, Bool.not_or, Bool.not_not, Bool.and_eq_true, Bool.or_eq_true, Bool.not_eq_true', Bool.and_eq_false_imp, Bool.or_eq_false_iff, decide_eq_false_iff_not, decide_eq_true_eq, beq_iff_eq, beq_eq_false_iff_ne, bne_iff_ne, bne_eq_false_iff_eq, ne_eq, gt_iff_lt, ge_iff_le, Bool.false_eq_true, Bool.true_eq_false, beq_self_eq_true, beq_true, beq_false, Bool.not_false, Bool.not_true, Bool.false_and, Bool.true_and, Bool.and_true, Bool.and_false, Bool.or_true, Bool.true_or, Bool.or_false, Bool.false_or, false_and, true_and, and_false, and_true, or_false, or_true, false_or, true_or, not_true_eq_false, not_false_eq_true, false_iff, iff_false, true_iff, iff_true, forall_const, false_imp_iff, true_imp_iff, reduceCtorEq, imp_false, xcall_of lives_sp]
    by_cases hc : s[j].base > 68719476736
    · rw [br_pos hc]
      trivial
    · rw [br_neg hc]
      have hi := ih h (by
        rw [← List.take_append_getElem h, List.all_append, hall]
        simp only [List.all_cons, List.all_nil, Bool.and_true, Bool.true_and, okF, isB, Bool.and_eq_true, decide_eq_true_eq]
        exact ⟨hgd _ (List.getElem_mem h), by omega, by omega⟩)
      first | exact hi | exact ⟨by omega, hi⟩
  · obtain rfl : j = s.length := by omega
    rw [List.take_length] at hall
    exact hgo hall
theorem PureFlexFills : Pure_FlexFills := by
  intro p0 p1 p2 hp0 _ hb0 hp1 hw1 hb1 hp2 hw2
  obtain ⟨s, rfl⟩ := sz_open hp0
  obtain ⟨a, rfl⟩ := ints_open hp1
  obtain ⟨size, rfl⟩ := int_open hp2
  have hasz : a.length * 8 ≤ 140737488351232 := by simpa [rowOf_r] using hb1
  refine Says.told (tr := tr) (f := c_law26_FlexFills) (args := [rowOf eSz s, ints a, I size]) ?_
  refine Says.of (t := law26_FlexFills) rfl ?_
  have hbad : Run tr law26_FlexFills_j0 [rowOf eSz s, ints a, I size, B true] [] [B true] := by
    rw [u_law26_FlexFills_j0]
    simp (disch := first | omega | (simp only [List.length_set, List.length_map, List.length_replicate, List.length_append, List.length_modify]; omega)) only [xrun_ret, run_ite, run_fail, run_letj, xrun_loop, run_jump, xrun_call, jmp_join, jmp_loop, br_fail, br_true, br_false, xden_var, den_int, den_bool, den_str, den_nil, den_nilc, den_un, den_bin, den_tri, xon_and, xon_or, on_beq, xon_not, on_len, on_neg, on_conv, on_max, on_min, on_snoc, on_cat, on_cons, on_make, on_copy, on_plus, on_minus, on_cell, on_sel, on_slice, on_set, on_put, on_cmp, on_ar, ev_lss, ev_leq, ev_gtr, ev_geq, ev_eql, ev_neq, ar_add, ar_sub, ar_mul, ar_quo, ar_rem, pi_int, b_bool, r_row, c_cells, rowOf_r, List.map_cons, List.map_nil, List.cons_append, List.nil_append, List.getD_cons_zero, List.getD_cons_succ, List.getElem?_cons_zero, List.getElem?_cons_succ, List.take_zero, List.take_succ_cons, List.length_map, Int.toNat_natCast, decide_eq_true_eq, Int.ofNat_lt, Int.ofNat_le, xnat_nonneg, true_and, and_true, if_true, if_false, reduceIte, wrap_in, xints_at, xbools_at, xints_set, xints_snoc, xints_make, xints_nil, xbools_set, xbools_snoc, xbools_make, xcopy_make, List.length_replicate, List.length_cons, List.length_nil, Nat.reduceAdd, xcall_of lives_sp]
  rw [u_law26_FlexFills]
  simp (disch := first | omega | (simp only [List.length_set, List.length_map, List.length_replicate, List.length_append, List.length_modify]; omega)) only [xrun_ret, run_ite, run_fail, run_letj, xrun_loop, run_jump, xrun_call, jmp_join, jmp_loop, br_fail, br_true, br_false, xden_var, den_int, den_bool, den_str, den_nil, den_nilc, den_un, den_bin, den_tri, xon_and, xon_or, on_beq, xon_not, on_len, on_neg, on_conv, on_max, on_min, on_snoc, on_cat, on_cons, on_make, on_copy, on_plus, on_minus, on_cell, on_sel, on_slice, on_set, on_put, on_cmp, on_ar, ev_lss, ev_leq, ev_gtr, ev_geq, ev_eql, ev_neq, ar_add, ar_sub, ar_mul, ar_quo, ar_rem, pi_int, b_bool, r_row, c_cells, rowOf_r, List.map_cons, List.map_nil, List.cons_append, List.nil_append, List.getD_cons_zero, List.getD_cons_succ, List.getElem?_cons_zero, List.getElem?_cons_succ, List.take_zero, List.take_succ_cons, List.length_map, Int.toNat_natCast, decide_eq_true_eq, Int.ofNat_lt, Int.ofNat_le, xnat_nonneg, true_and, and_true, if_true, if_false, reduceIte, wrap_in, xints_at, xbools_at, xints_set, xints_snoc, xints_make, xints_nil, xbools_set, xbools_snoc, xbools_make, xcopy_make, List.length_replicate, List.length_cons, List.length_nil, Nat.reduceAdd, Bool.not_and, Bool.not_or, Bool.not_not, Bool.and_eq_true, Bool.or_eq_true, Bool.not_eq_true', Bool.and_eq_false_imp, Bool.or_eq_false_iff, decide_eq_false_iff_not, decide_eq_true_eq, beq_iff_eq, beq_eq_false_iff_ne, bne_iff_ne, bne_eq_false_iff_eq, ne_eq, gt_iff_lt, ge_iff_le, Bool.false_eq_true, Bool.true_eq_false, beq_self_eq_true, beq_true, beq_false, Bool.not_false, Bool.not_true, Bool.false_and, Bool.true_and, Bool.and_true, Bool.and_false, Bool.or_true, Bool.true_or, Bool.or_false, Bool.false_or, false_and, true_and, and_false, and_true, or_false, or_true, false_or, true_or, not_true_eq_false, not_false_eq_true, false_iff, iff_false, true_iff, iff_true, forall_const, false_imp_iff, true_imp_iff, reduceCtorEq, imp_false]
  by_cases hc : (s.length : Int) > 60
  · rw [br_pos hc]
    exact hbad
  rw [br_neg hc]
  have h2 := rgood24_any s a [] 0 (by omega) (by simp)
  simp (disch := first | omega | (simp only [List.length_set, List.length_map, List.length_replicate, List.length_append, List.length_modify]; omega)) only [xrun_ret, run_ite, run_fail, run_letj, xrun_loop, run_jump, xrun_call, jmp_join, jmp_loop, br_fail, br_true, br_false, xden_var, den_int, den_bool, den_str, den_nil, den_nilc, den_un, den_bin, den_tri, xon_and, xon_or, on_beq, xon_not, on_len, on_neg, on_conv, on_max, on_min, on_snoc, on_cat, on_cons, on_make, on_copy, on_plus, on_minus, on_cell, on_sel, on_slice, on_set, on_put, on_cmp, on_ar, ev_lss, ev_leq, ev_gtr, ev_geq, ev_eql, ev_neq, ar_add, ar_sub, ar_mul, ar_quo, ar_rem, pi_int, b_bool, r_row, c_cells, rowOf_r, List.map_cons, List.map_nil, List.cons_append, List.nil_append, List.getD_cons_zero, List.getD_cons_succ, List.getElem?_cons_zero, List.getElem?_cons_succ, List.take_zero, List.take_succ_cons, List.length_map, Int.toNat_natCast, decide_eq_true_eq, Int.ofNat_lt, Int.ofNat_le, xnat_nonneg, true_and, and_true, if_true, if_false, reduceIte, wrap_in, xints_at, xbools_at, xints_set, xints_snoc, xints_make, xints_nil, xbools_set, xbools_snoc, xbools_make, xcopy_make, List.length_replicate, List.length_cons, List.length_nil, Nat.reduceAdd, show ints [] = rowOf eWn [] from rfl, xcall_of h2]
  cases hg : goodI s a [] 0 with
  | false =>
    simp only [Bool.not_false, Bool.true_or]
    exact hbad
  | true =>
    by_cases hsz : 0 ≤ size ∧ size ≤ 68719476736
    · obtain ⟨e1, e2, e3, e4⟩ := goodI_in hg
      have hgd : ∀ x ∈ s, Gd x := by
        have := hg
        simp only [goodI, Bool.and_eq_true, List.all_eq_true, decide_eq_true_eq] at this
        exact this.1.1.2
      have d1 : decide (size < 0) = false := decide_eq_false (by omega)
      have d2 : decide (size > 68719476736) = false := decide_eq_false (by omega)
      simp only [Bool.not_true, d1, d2, Bool.or_self]
      rw [u_law26_FlexFills_j0]
      have h1 := ff1_law s a size (by omega) (by omega) hgd (fun hs => by
        have hr : rightB s size = true := by simp [rightB, hs]; omega
        have ho := fill_ok hr hg
        have hcall := ffill_sp s a size (by omega) (by omega)
        have hlen := ho.len
        have hn : ¬ s.length < s.length := by omega
        have k2 := ff2_law s (fillR s a size) a size (B false) (I s.length) (.loop law26_FlexFills_l1 [rowOf eSz s, ints a, I size, B false]) hs e3 e1 (by omega) ho 0 (Nat.zero_le _) 0 0 0 (by omega) (by omega) (by omega) (by
          have := ho.most
          simpa using this) (by
          have := ho.full
          simpa using this)
        rw [u_law26_FlexFills_l1]
        simp (disch := first | omega | (simp only [List.length_set, List.length_map, List.length_replicate, List.length_append, List.length_modify]; omega)) only [xrun_ret, run_ite, run_fail, run_letj, xrun_loop, run_jump, xrun_call, jmp_join, jmp_loop, br_fail, br_true, br_false, xden_var, den_int, den_bool, den_str, den_nil, den_nilc, den_un, den_bin, den_tri, xon_and, xon_or, on_beq, xon_not, on_len, on_neg, on_conv, on_max, on_min, on_snoc, on_cat, on_cons, on_make, on_copy, on_plus, on_minus, on_cell, on_sel, on_slice, on_set, on_put, on_cmp, on_ar, ev_lss, ev_leq, ev_gtr, ev_geq, ev_eql, ev_neq, ar_add, ar_sub, ar_mul, ar_quo, ar_rem, pi_int, b_bool, r_row, c_cells, rowOf_r, List.map_cons, List.map_nil, List.cons_append, List.nil_append, List.getD_cons_zero, List.getD_cons_succ, List.getElem?_cons_zero, List.getElem?_cons_succ, List.take_zero, List.take_succ_cons, List.length_map, Int.toNat_natCast, decide_eq_true_eq, Int.ofNat_lt, Int.ofNat_le, xnat_nonneg, true_and, and_true, if_true, if_false, reduceIte, wrap_in, xints_at, xbools_at, xints_set, xints_snoc, xints_make, xints_nil, xbools_set, xbools_snoc, xbools_make, xcopy_make, List.length_replicate, List.length_cons, List.length_nil, Nat.reduceAdd, hn, xcall_of hcall, Bool.not_and, Bool.not_or, Bool.not_not, Bool.and_eq_true, Bool.or_eq_true, Bool.not_eq_true', Bool.and_eq_false_imp, Bool.or_eq_false_iff, decide_eq_false_iff_not, decide_eq_true_eq, beq_iff_eq, beq_eq_false_iff_ne, bne_iff_ne, bne_eq_false_iff_eq, ne_eq, gt_iff_lt, ge_iff_le, Bool.false_eq_true, Bool.true_eq_false, beq_self_eq_true, beq_true, beq_false, Bool.not_false, Bool.not_true, Bool.false_and, Bool.true_and, Bool.and_true, Bool.and_false, Bool.or_true, Bool.true_or, Bool.or_false, Bool.false_or, false_and, true_and, and_false, and_true, or_false, or_true, false_or, true_or, not_true_eq_false, not_false_eq_true, false_iff, iff_false, true_iff, iff_true, forall_const, false_imp_iff, true_imp_iff, reduceCtorEq, imp_false]
        rw [br_neg (by omega)]
        exact k2) 0 (Nat.zero_le _) rfl
      simp (disch := first | omega | (simp only [List.length_set, List.length_map, List.length_replicate, List.length_append, List.length_modify]; omega)) only [xrun_ret, run_ite, run_fail, run_letj, xrun_loop, run_jump, xrun_call, jmp_join, jmp_loop, br_fail, br_true, br_false, xden_var, den_int, den_bool, den_str, den_nil, den_nilc, den_un, den_bin, den_tri, xon_and, xon_or, on_beq, xon_not, on_len, on_neg, on_conv, on_max, on_min, on_snoc, on_cat, on_cons, on_make, on_copy, on_plus, on_minus, on_cell, on_sel, on_slice, on_set, on_put, on_cmp, on_ar, ev_lss, ev_leq, ev_gtr, ev_geq, ev_eql, ev_neq, ar_add, ar_sub, ar_mul, ar_quo, ar_rem, pi_int, b_bool, r_row, c_cells, rowOf_r, List.map_cons, List.map_nil, List.cons_append, List.nil_append, List.getD_cons_zero, List.getD_cons_succ, List.getElem?_cons_zero, List.getElem?_cons_succ, List.take_zero, List.take_succ_cons, List.length_map, Int.toNat_natCast, decide_eq_true_eq, Int.ofNat_lt, Int.ofNat_le, xnat_nonneg, true_and, and_true, if_true, if_false, reduceIte, wrap_in, xints_at, xbools_at, xints_set, xints_snoc, xints_make, xints_nil, xbools_set, xbools_snoc, xbools_make, xcopy_make, List.length_replicate, List.length_cons, List.length_nil, Nat.reduceAdd, Bool.false_eq_true]
      try rw [br_neg (by simp)]
      exact h1
    · have : ((!true || decide (size < 0)) || decide (size > 68719476736)) = true := by
        simp
        omega
      rw [this]
      exact hbad
end Go.Proofs.Ytpaabecgngbjcaa
