/- What the trees of content's Starts, and of the document's, come to. No condition beyond what each states. -/
import Derived.Test.YtbkohlhonhmhmaaT
import Derived.Test.YtbkohlhonhmhmaaKtrk
import Derived.Test.YtbkohlhonhmhmaaKdiv
import Derived.Test.YtbkohlhonhmhmaaKrmul
set_option linter.unusedVariables false
set_option linter.unusedSimpArgs false
namespace Go.Proofs.Ytbkohlhonhmhmaa.T
open Go Go.Proofs.Ytbkohlhonhmhmaa.Sx Go.Proofs.Ytbkohlhonhmhmaa.M
/-- Which part of what is free is added at a track. -/
def ratP (al k n : Int) : Int × Int := if al = 7 then (if 1 < n then (k, n - 1) else (0, 1)) else if al = 8 then (2 * k + 1, 2 * n) else if al = 9 then (k + 1, n + 1) else (0, 1)
/-- What is added at a track. -/
def addS (al fr n k : Int) : Int := if al = 4 then fr else if al = 5 then fr / 2 else if fr ≤ 0 ∨ n = 0 then 0 else (md fr (ratP al k n).1 (ratP al k n).2).1
theorem part_in {f p q : Int} (hf : 0 ≤ f) (hf1 : f ≤ 68719476736) (hp : 0 ≤ p) (hpq : p ≤ q) (hq : 0 < q) : md f p q = (f * p / q, 0) ∧ 0 ≤ f * p / q ∧ f * p / q ≤ f := by
  have h0 : 0 ≤ f * p / q := Int.ediv_nonneg (Int.mul_nonneg hf hp) (by omega)
  have h1 : f * p / q ≤ f := by
    have : f * p ≤ f * q := Int.mul_le_mul_of_nonneg_left hpq hf
    have h2 := Int.ediv_le_ediv hq this
    rw [Int.mul_ediv_cancel _ (by omega)] at h2
    exact h2
  exact ⟨md_pos hf hp hq (by omega), h0, h1⟩
theorem rat_in (al k n : Int) (hk : 0 ≤ k) (hk1 : k ≤ n - 1) : 0 ≤ (ratP al k n).1 ∧ (ratP al k n).1 ≤ (ratP al k n).2 ∧ 0 < (ratP al k n).2 := by
  unfold ratP
  (repeat' split) <;> omega
theorem add_in {al fr n k : Int} (hf : -68719476736 ≤ fr ∧ fr ≤ 68719476736) (hk : 0 ≤ k) (hk1 : n ≠ 0 → k ≤ n - 1) : -68719476736 ≤ addS al fr n k ∧ addS al fr n k ≤ 68719476736 := by
  unfold addS
  split
  · exact hf
  split
  · omega
  split
  · omega
  · rename_i h
    obtain ⟨r1, r2, r3⟩ := rat_in al k n hk (hk1 (by omega))
    obtain ⟨h1, h2, h3⟩ := part_in (by omega : 0 ≤ fr) hf.2 r1 r2 r3
    rw [h1]
    exact ⟨by omega, by omega⟩
/-- How many are there. -/
def ngo : List Bool → Int
  | [] => 0
  | b :: bs => (if b = true then 0 else 1) + ngo bs
theorem ngo_in (g : List Bool) : 0 ≤ ngo g ∧ ngo g ≤ g.length := by
  induction g with
  | nil => simp [ngo]
  | cons b bs ih => simp only [ngo, List.length_cons]; split <;> omega
/-- Where all tracks begin. -/
def begS (al fr n : Int) : Int → Int → List Bool → List Int → List Int → List Int
  | k, at_, g :: gs, a :: as, s :: ss => (at_ + a + addS al fr n (max (if g = true then k else k + 1) 0)) :: begS al fr n (if g = true then k else k + 1) (at_ + a + s) gs as ss
  | _, _, _, _, _ => []
theorem begS_length (al fr n : Int) : ∀ (k at_ : Int) (g : List Bool) (a s : List Int), g.length = s.length → a.length = s.length → (begS al fr n k at_ g a s).length = s.length
  | k, at_, [], _, s, hg, ha => by
    have : s = [] := List.length_eq_zero_iff.1 (by simpa using hg.symm)
    subst this; rfl
  | k, at_, g :: gs, [], s, hg, ha => by
    have : s = [] := List.length_eq_zero_iff.1 (by simpa using ha.symm)
    subst this; rfl
  | k, at_, g :: gs, a :: as, [], hg, ha => by simp at hg
  | k, at_, g :: gs, a :: as, s :: ss, hg, ha => by
    simp only [begS, List.length_cons]
    rw [begS_length al fr n _ _ gs as ss (by simpa using hg) (by simpa using ha)]
/-- What Starts comes to. -/
def startS (low : Int) (l : List Tr) (g : List Bool) (a s : List Int) (size al : Int) : List Int × Int :=
  if (tkSum low l g a s).2 = 2 ∨ size < 0 ∨ 68719476736 < size ∨ al < 2 ∨ 9 < al then ([], 2)
  else if (tkSum low l g a s).2 ≠ 0 then ([], (tkSum low l g a s).2)
  else (begS al (size - (tkSum low l g a s).1) (ngo g) (-1) 0 g a s, 0)
theorem sumS_in : ∀ (s a : List Int) (n : Int), (∀ x ∈ s, 0 ≤ x) → (∀ x ∈ a, 0 ≤ x) → 0 ≤ n → n ≤ 68719476736 → (sumS s a n).2 = 0 → n ≤ (sumS s a n).1 ∧ (sumS s a n).1 ≤ 68719476736
  | [], _, n, _, _, h0, h1, h => by simp [sumS]; omega
  | x :: xs, [], n, _, _, h0, h1, h => by simp [sumS]; omega
  | x :: xs, a :: as, n, hs, ha, h0, h1, h => by
    have hx := hs x (by simp)
    have ha' := ha a (by simp)
    simp only [sumS] at h ⊢
    split
    · rename_i hc
      rw [if_pos hc] at h
      have := sumS_in xs as (n + x + a) (fun y hy => hs y (by simp [hy])) (fun y hy => ha y (by simp [hy])) (by omega) hc h
      omega
    · rename_i hc
      rw [if_neg hc] at h
      cases h
theorem ratio_sp (al k n : Int) (hk : 0 ≤ k) (hk1 : k ≤ 1000000) (hn : 0 ≤ n) (hn1 : n ≤ 1000000) : Says tr c_content_ratio [I al, I k, I n] [I (ratP al k n).1, I (ratP al k n).2] := by
  refine Says.of (t := content_ratio) rfl ?_
  rw [u_content_ratio]
  unfold ratP
  simp (disch := first | omega | (simp only [List.length_set, List.length_map, List.length_replicate, List.length_append, List.length_modify]; omega)) only [xrun_ret, run_ite, run_fail, run_letj, xrun_loop, run_jump, xrun_call, jmp_join, jmp_loop, br_fail, br_true, br_false, xden_var, den_int, den_bool, den_str, den_nil, den_nilc, den_un, den_bin, den_tri, xon_and, xon_or, on_beq, xon_not, on_len, on_neg, on_conv, on_max, on_min, on_snoc, on_cat, on_cons, on_make, on_copy, on_plus, on_minus, on_cell, on_sel, on_slice, on_set, on_put, on_cmp, on_ar, ev_lss, ev_leq, ev_gtr, ev_geq, ev_eql, ev_neq, ar_add, ar_sub, ar_mul, ar_quo, ar_rem, pi_int, b_bool, r_row, c_cells, rowOf_r, List.map_cons, List.map_nil, List.cons_append, List.nil_append, List.getD_cons_zero, List.getD_cons_succ, List.getElem?_cons_zero, List.getElem?_cons_succ, List.take_zero, List.take_succ_cons, List.length_map, Int.toNat_natCast, decide_eq_true_eq, Int.ofNat_lt, Int.ofNat_le, xnat_nonneg, true_and, and_true, if_true, if_false, reduceIte, wrap_in, xints_at, xbools_at, xints_set, xints_snoc, xints_make, xints_nil, xbools_set, xbools_snoc, xbools_make, xcopy_make, List.length_replicate, List.length_cons, List.length_nil, Nat.reduceAdd, Bool.not_and, Bool.not_or, Bool.not_not, Bool.and_eq_true, Bool.or_eq_true, Bool.not_eq_true', Bool.and_eq_false_imp, Bool.or_eq_false_iff, decide_eq_false_iff_not, decide_eq_true_eq, beq_iff_eq, beq_eq_false_iff_ne, bne_iff_ne, bne_eq_false_iff_eq, ne_eq, gt_iff_lt, ge_iff_le, Bool.false_eq_true, Bool.true_eq_false, beq_self_eq_true, beq_true, beq_false, Bool.not_false, Bool.not_true, Bool.false_and, Bool.true_and, Bool.and_true, Bool.and_false, Bool.or_true, Bool.true_or, Bool.or_false, Bool.false_or, false_and, true_and, and_false, and_true, or_false, or_true, false_or, true_or, not_true_eq_false, not_false_eq_true, false_iff, iff_false, true_iff, iff_true, forall_const, false_imp_iff, true_imp_iff, reduceCtorEq, imp_false, u_content_ratio_j0]
  by_cases h7 : al = 7
  · rw [br_pos h7, if_pos h7]
    by_cases h1 : 1 < n
    · rw [br_pos h1, if_pos h1]
    · rw [br_neg h1, if_neg h1]
  rw [br_neg h7, if_neg h7]
  by_cases h8 : al = 8
  · rw [br_pos h8, if_pos h8]
  rw [br_neg h8, if_neg h8]
  by_cases h9 : al = 9
  · rw [br_pos h9, if_pos h9]
  rw [br_neg h9, if_neg h9]
section
variable (low : Int) (l : List Tr) (g : List Bool) (a s : List Int) (size al v : Int)
/-- Starts, where all is as it may be. -/
structure Beg : Prop where
  hok : SumOk low l g a s
  hsum : sumS s a 0 = (v, 0)
  h0 : 0 ≤ size
  h1 : size ≤ 68719476736
variable {low l g a s size al v}
theorem beg_free (B : Beg low l g a s size v) : -68719476736 ≤ size - v ∧ size - v ≤ 68719476736 := by
  have := sumS_in s a 0 (fun x hx => (B.hok.2.2 x hx).1) (fun x hx => (gdi_in B.hok.1 x hx).1) (by omega) (by omega) (by rw [B.hsum])
  rw [B.hsum] at this
  have := B.h0
  have := B.h1
  omega
end
theorem starts_good {low : Int} {l : List Tr} {g : List Bool} {a s : List Int} {size al v : Int} (B : Beg low l g a s size v) (x : PV) : Run tr content_Starts_l1 [I low, rowOf eTr l, bools g, ints a, ints s, I size, I al, I v, I 0, x, I 0, I 0] [.loop content_Starts_l1 [I low, rowOf eTr l, bools g, ints a, ints s, I size, I al, I v, I 0, x]] [ints (begS al (size - v) (ngo g) (-1) 0 g a s), I 0] := by
  have hl := B.hok.1.1
  have hgl : g.length = s.length := by rw [B.hok.1.2.1, B.hok.2.1]
  have hal : a.length = s.length := by rw [B.hok.1.2.2.1, B.hok.2.1]
  have hsl : s.length ≤ 40000 := by rw [B.hok.2.1]; exact hl
  have hn := ngo_in g
  have hfr := beg_free B
  have hvi := sumS_in s a 0 (fun x hx => (B.hok.2.2 x hx).1) (fun x hx => (gdi_in B.hok.1 x hx).1) (by omega) (by omega) (by rw [B.hsum])
  rw [B.hsum] at hvi
  have hs0 := B.h0
  have hs1 := B.h1
  have key := xup_ind (n := g.length) (P := fun i => ∀ c : Int, 0 ≤ c → c + ngo (g.drop i) = ngo g → Run tr content_Starts_l1 [I low, rowOf eTr l, bools g, ints a, ints s, I size, I al, I v, I 0, x, I i, I c] [.loop content_Starts_l1 [I low, rowOf eTr l, bools g, ints a, ints s, I size, I al, I v, I 0, x]] [ints (begS al (size - v) (ngo g) (-1) 0 g a s), I 0]) ?_ 0 (Nat.zero_le _)
  · simpa using key 0 (by omega) (by simp)
  intro i hi ih c hc hall
  rw [u_content_Starts_l1]
  by_cases h : i < g.length
  · rw [List.drop_eq_getElem_cons h] at hall
    simp only [ngo] at hall
    have hnn := ngo_in (g.drop (i + 1))
    simp (disch := first | omega | (simp only [List.length_set, List.length_map, List.length_replicate, List.length_append, List.length_modify]; omega)) only [xrun_ret, run_ite, run_fail, run_letj, xrun_loop, run_jump, xrun_call, jmp_join, jmp_loop, br_fail, br_true, br_false, xden_var, den_int, den_bool, den_str, den_nil, den_nilc, den_un, den_bin, den_tri, xon_and, xon_or, on_beq, xon_not, on_len, on_neg, on_conv, on_max, on_min, on_snoc, on_cat, on_cons, on_make, on_copy, on_plus, on_minus, on_cell, on_sel, on_slice, on_set, on_put, on_cmp, on_ar, ev_lss, ev_leq, ev_gtr, ev_geq, ev_eql, ev_neq, ar_add, ar_sub, ar_mul, ar_quo, ar_rem, pi_int, b_bool, r_row, c_cells, rowOf_r, List.map_cons, List.map_nil, List.cons_append, List.nil_append, List.getD_cons_zero, List.getD_cons_succ, List.getElem?_cons_zero, List.getElem?_cons_succ, List.take_zero, List.take_succ_cons, List.length_map, Int.toNat_natCast, decide_eq_true_eq, Int.ofNat_lt, Int.ofNat_le, xnat_nonneg, true_and, and_true, if_true, if_false, reduceIte, wrap_in, xints_at, xbools_at, xints_set, xints_snoc, xints_make, xints_nil, xbools_set, xbools_snoc, xbools_make, xcopy_make, List.length_replicate, List.length_cons, List.length_nil, Nat.reduceAdd, h, u_content_Starts_j2]
    refine br_split ?_ ?_ <;> intro _
    · rename_i hg
      rw [if_pos hg] at hall
      exact ih h c hc (by omega)
    · rename_i hg
      rw [if_neg hg] at hall
      exact ih h (c + 1) (by omega) (by omega)
  · rw [List.drop_of_length_le (by omega)] at hall
    simp only [ngo, Int.add_zero] at hall
    subst hall
    have hlen : (s.length : Int) ≤ 17592186044416 := by omega
    simp (disch := first | omega | (simp only [List.length_set, List.length_map, List.length_replicate, List.length_append, List.length_modify]; omega)) only [xrun_ret, run_ite, run_fail, run_letj, xrun_loop, run_jump, xrun_call, jmp_join, jmp_loop, br_fail, br_true, br_false, xden_var, den_int, den_bool, den_str, den_nil, den_nilc, den_un, den_bin, den_tri, xon_and, xon_or, on_beq, xon_not, on_len, on_neg, on_conv, on_max, on_min, on_snoc, on_cat, on_cons, on_make, on_copy, on_plus, on_minus, on_cell, on_sel, on_slice, on_set, on_put, on_cmp, on_ar, ev_lss, ev_leq, ev_gtr, ev_geq, ev_eql, ev_neq, ar_add, ar_sub, ar_mul, ar_quo, ar_rem, pi_int, b_bool, r_row, c_cells, rowOf_r, List.map_cons, List.map_nil, List.cons_append, List.nil_append, List.getD_cons_zero, List.getD_cons_succ, List.getElem?_cons_zero, List.getElem?_cons_succ, List.take_zero, List.take_succ_cons, List.length_map, Int.toNat_natCast, decide_eq_true_eq, Int.ofNat_lt, Int.ofNat_le, xnat_nonneg, true_and, and_true, if_true, if_false, reduceIte, wrap_in, xints_at, xbools_at, xints_set, xints_snoc, xints_make, xints_nil, xbools_set, xbools_snoc, xbools_make, xcopy_make, List.length_replicate, List.length_cons, List.length_nil, Nat.reduceAdd, h, hlen]
    have hRl := begS_length al (size - v) (ngo g) (-1) 0 g a s hgl hal
    obtain ⟨R, hR⟩ : ∃ R, begS al (size - v) (ngo g) (-1) 0 g a s = R := ⟨_, rfl⟩
    rw [hR] at hRl ⊢
    obtain ⟨J, hJ⟩ : ∃ J, J = JT.loop content_Starts_l1 [I low, rowOf eTr l, bools g, ints a, ints s, I size, I al, I v, I 0, x] := ⟨_, rfl⟩
    rw [← hJ]
    have hmx : R.length = (List.replicate s.length (0 : Int)).length := by simp [hRl]
    have key := xup_ind (n := s.length) (P := fun j => ∀ k t : Int, -1 ≤ k → k + ngo (g.drop j) = ngo g - 1 → 0 ≤ t → t ≤ 68719476736 → sumS (s.drop j) (a.drop j) t = (v, 0) → begS al (size - v) (ngo g) k t (g.drop j) (a.drop j) (s.drop j) = R.drop j →
      Run tr content_Starts_l3 [I low, rowOf eTr l, bools g, ints a, ints s, I size, I al, I v, I 0, x, I i, I (ngo g), I j, I k, I t, ints (mix R (List.replicate s.length 0) j)] [J, .loop content_Starts_l3 [I low, rowOf eTr l, bools g, ints a, ints s, I size, I al, I v, I 0, x, I i, I (ngo g)]] [ints R, I 0]) ?_ 0 (Nat.zero_le _)
    · simpa [mix_zero] using key (-1) 0 (by omega) (by simp; omega) (by omega) (by omega) (by simpa using B.hsum) (by simpa using hR)
    intro j hj ihj k t hk hkn ht0 ht1 hsum hall
    rw [u_content_Starts_l3]
    by_cases hjs : j < s.length
    · have hjg : j < g.length := by omega
      have hja : j < a.length := by omega
      have h2 := B.hok.2.2 s[j] (List.getElem_mem _)
      have h3 := gdi_in B.hok.1 a[j] (List.getElem_mem _)
      have hnn := ngo_in (g.drop (j + 1))
      have hml := mix_len hmx j
      rw [List.length_replicate] at hml
      rw [List.drop_eq_getElem_cons hjg] at hkn hall
      rw [List.drop_eq_getElem_cons hja] at hsum hall
      rw [List.drop_eq_getElem_cons hjs] at hsum hall
      have hdr : R.drop j = R[j]'(by omega) :: R.drop (j + 1) := List.drop_eq_getElem_cons (by omega)
      rw [hdr] at hall
      simp only [sumS] at hsum
      simp only [ngo] at hkn
      simp only [begS, List.cons.injEq] at hall
      have hc : t + s[j] + a[j] ≤ 68719476736 := by
        refine Classical.byContradiction fun hn => ?_
        rw [if_neg hn] at hsum
        cases hsum
      rw [if_pos hc] at hsum
      obtain ⟨k', hk'⟩ : ∃ k', (if g[j] = true then k else k + 1) = k' := ⟨_, rfl⟩
      rw [hk'] at hall
      have hk1 : -1 ≤ k' ∧ k' + ngo (g.drop (j + 1)) = ngo g - 1 := by
        rw [← hk']
        split <;> (rename_i hgj; simp only [hgj] at hkn; simp at hkn; omega)
      have hka : ngo g ≠ 0 → max k' 0 ≤ ngo g - 1 := by omega
      have hadd := add_in (al := al) hfr (show 0 ≤ max k' 0 by omega) hka
      -- behind the test whether it is gone
      have hj5 : ∀ k0 w : Int, w = addS al (size - v) (ngo g) (max k' 0) → Run tr content_Starts_j5 [I low, rowOf eTr l, bools g, ints a, ints s, I size, I al, I v, I 0, x, I i, I (ngo g), I j, I k0, I t, ints (mix R (List.replicate s.length 0) j), I k', I w] [J, .loop content_Starts_l3 [I low, rowOf eTr l, bools g, ints a, ints s, I size, I al, I v, I 0, x, I i, I (ngo g)]] [ints R, I 0] := by
        intro k0 w hw
        subst hw
        have hset := mix_set hmx (i := j) (by simpa using hjs) hall.1
        have e : t + s[j] + a[j] = t + a[j] + s[j] := by omega
        rw [e] at hsum hc
        have := ihj hjs k' (t + a[j] + s[j]) hk1.1 hk1.2 (by omega) (by omega) hsum hall.2
        rw [u_content_Starts_j5]
        simp (disch := first | omega | (simp only [List.length_set, List.length_map, List.length_replicate, List.length_append, List.length_modify]; omega)) only [xrun_ret, run_ite, run_fail, run_letj, xrun_loop, run_jump, xrun_call, jmp_join, jmp_loop, br_fail, br_true, br_false, xden_var, den_int, den_bool, den_str, den_nil, den_nilc, den_un, den_bin, den_tri, xon_and, xon_or, on_beq, xon_not, on_len, on_neg, on_conv, on_max, on_min, on_snoc, on_cat, on_cons, on_make, on_copy, on_plus, on_minus, on_cell, on_sel, on_slice, on_set, on_put, on_cmp, on_ar, ev_lss, ev_leq, ev_gtr, ev_geq, ev_eql, ev_neq, ar_add, ar_sub, ar_mul, ar_quo, ar_rem, pi_int, b_bool, r_row, c_cells, rowOf_r, List.map_cons, List.map_nil, List.cons_append, List.nil_append, List.getD_cons_zero, List.getD_cons_succ, List.getElem?_cons_zero, List.getElem?_cons_succ, List.take_zero, List.take_succ_cons, List.length_map, Int.toNat_natCast, decide_eq_true_eq, Int.ofNat_lt, Int.ofNat_le, xnat_nonneg, true_and, and_true, if_true, if_false, reduceIte, wrap_in, xints_at, xbools_at, xints_set, xints_snoc, xints_make, xints_nil, xbools_set, xbools_snoc, xbools_make, xcopy_make, List.length_replicate, List.length_cons, List.length_nil, Nat.reduceAdd, hml, hjs, hja, hset]
        exact this
      have hj4 : ∀ k0 : Int, Run tr content_Starts_j4 [I low, rowOf eTr l, bools g, ints a, ints s, I size, I al, I v, I 0, x, I i, I (ngo g), I j, I k0, I t, ints (mix R (List.replicate s.length 0) j), I k'] [J, .loop content_Starts_l3 [I low, rowOf eTr l, bools g, ints a, ints s, I size, I al, I v, I 0, x, I i, I (ngo g)]] [ints R, I 0] := by
        intro k0
        rw [u_content_Starts_j4]
        simp (disch := first | omega | (simp only [List.length_set, List.length_map, List.length_replicate, List.length_append, List.length_modify]; omega)) only [xrun_ret, run_ite, run_fail, run_letj, xrun_loop, run_jump, xrun_call, jmp_join, jmp_loop, br_fail, br_true, br_false, xden_var, den_int, den_bool, den_str, den_nil, den_nilc, den_un, den_bin, den_tri, xon_and, xon_or, on_beq, xon_not, on_len, on_neg, on_conv, on_max, on_min, on_snoc, on_cat, on_cons, on_make, on_copy, on_plus, on_minus, on_cell, on_sel, on_slice, on_set, on_put, on_cmp, on_ar, ev_lss, ev_leq, ev_gtr, ev_geq, ev_eql, ev_neq, ar_add, ar_sub, ar_mul, ar_quo, ar_rem, pi_int, b_bool, r_row, c_cells, rowOf_r, List.map_cons, List.map_nil, List.cons_append, List.nil_append, List.getD_cons_zero, List.getD_cons_succ, List.getElem?_cons_zero, List.getElem?_cons_succ, List.take_zero, List.take_succ_cons, List.length_map, Int.toNat_natCast, decide_eq_true_eq, Int.ofNat_lt, Int.ofNat_le, xnat_nonneg, true_and, and_true, if_true, if_false, reduceIte, wrap_in, xints_at, xbools_at, xints_set, xints_snoc, xints_make, xints_nil, xbools_set, xbools_snoc, xbools_make, xcopy_make, List.length_replicate, List.length_cons, List.length_nil, Nat.reduceAdd, hja, Bool.not_and, Bool.not_or, Bool.not_not, Bool.and_eq_true, Bool.or_eq_true, Bool.not_eq_true', Bool.and_eq_false_imp, Bool.or_eq_false_iff, decide_eq_false_iff_not, decide_eq_true_eq, beq_iff_eq, beq_eq_false_iff_ne, bne_iff_ne, bne_eq_false_iff_eq, ne_eq, gt_iff_lt, ge_iff_le, Bool.false_eq_true, Bool.true_eq_false, beq_self_eq_true, beq_true, beq_false, Bool.not_false, Bool.not_true, Bool.false_and, Bool.true_and, Bool.and_true, Bool.and_false, Bool.or_true, Bool.true_or, Bool.or_false, Bool.false_or, false_and, true_and, and_false, and_true, or_false, or_true, false_or, true_or, not_true_eq_false, not_false_eq_true, false_iff, iff_false, true_iff, iff_true, forall_const, false_imp_iff, true_imp_iff, reduceCtorEq, imp_false, xcall_of (div_sp (size - v) 2 (by omega) (by decide))]
        unfold addS at hj5
        by_cases h4 : al = 4
        · rw [br_pos h4]
          exact hj5 _ _ (by rw [if_pos h4])
        rw [br_neg h4]
        by_cases h5 : al = 5
        · rw [br_pos h5]
          exact hj5 _ _ (by rw [if_neg h4, if_pos h5])
        rw [br_neg h5]
        by_cases h6 : size - v ≤ 0 ∨ ngo g = 0
        · rw [br_pos h6]
          exact hj5 _ _ (by rw [if_neg h4, if_neg h5, if_pos h6])
        rw [br_neg h6]
        obtain ⟨r1, r2, r3⟩ := rat_in al (max k' 0) (ngo g) (by omega) (by omega)
        have r4 : (ratP al (max k' 0) (ngo g)).2 ≤ 100000 := by
          unfold ratP
          (repeat' split) <;> simp only <;> omega
        simp (disch := first | omega | (simp only [List.length_set, List.length_map, List.length_replicate, List.length_append, List.length_modify]; omega)) only [xrun_ret, run_ite, run_fail, run_letj, xrun_loop, run_jump, xrun_call, jmp_join, jmp_loop, br_fail, br_true, br_false, xden_var, den_int, den_bool, den_str, den_nil, den_nilc, den_un, den_bin, den_tri, xon_and, xon_or, on_beq, xon_not, on_len, on_neg, on_conv, on_max, on_min, on_snoc, on_cat, on_cons, on_make, on_copy, on_plus, on_minus, on_cell, on_sel, on_slice, on_set, on_put, on_cmp, on_ar, ev_lss, ev_leq, ev_gtr, ev_geq, ev_eql, ev_neq, ar_add, ar_sub, ar_mul, ar_quo, ar_rem, pi_int, b_bool, r_row, c_cells, rowOf_r, List.map_cons, List.map_nil, List.cons_append, List.nil_append, List.getD_cons_zero, List.getD_cons_succ, List.getElem?_cons_zero, List.getElem?_cons_succ, List.take_zero, List.take_succ_cons, List.length_map, Int.toNat_natCast, decide_eq_true_eq, Int.ofNat_lt, Int.ofNat_le, xnat_nonneg, true_and, and_true, if_true, if_false, reduceIte, wrap_in, xints_at, xbools_at, xints_set, xints_snoc, xints_make, xints_nil, xbools_set, xbools_snoc, xbools_make, xcopy_make, List.length_replicate, List.length_cons, List.length_nil, Nat.reduceAdd, xcall_of (ratio_sp al (max k' 0) (ngo g) (by omega) (by omega) (by omega) (by omega)), xcall_of (muldiv_sp (size - v) (ratP al (max k' 0) (ngo g)).1 (ratP al (max k' 0) (ngo g)).2 (by omega) (by omega) (by omega))]
        exact hj5 _ _ (by rw [if_neg h4, if_neg h5, if_neg h6])
      simp (disch := first | omega | (simp only [List.length_set, List.length_map, List.length_replicate, List.length_append, List.length_modify]; omega)) only [xrun_ret, run_ite, run_fail, run_letj, xrun_loop, run_jump, xrun_call, jmp_join, jmp_loop, br_fail, br_true, br_false, xden_var, den_int, den_bool, den_str, den_nil, den_nilc, den_un, den_bin, den_tri, xon_and, xon_or, on_beq, xon_not, on_len, on_neg, on_conv, on_max, on_min, on_snoc, on_cat, on_cons, on_make, on_copy, on_plus, on_minus, on_cell, on_sel, on_slice, on_set, on_put, on_cmp, on_ar, ev_lss, ev_leq, ev_gtr, ev_geq, ev_eql, ev_neq, ar_add, ar_sub, ar_mul, ar_quo, ar_rem, pi_int, b_bool, r_row, c_cells, rowOf_r, List.map_cons, List.map_nil, List.cons_append, List.nil_append, List.getD_cons_zero, List.getD_cons_succ, List.getElem?_cons_zero, List.getElem?_cons_succ, List.take_zero, List.take_succ_cons, List.length_map, Int.toNat_natCast, decide_eq_true_eq, Int.ofNat_lt, Int.ofNat_le, xnat_nonneg, true_and, and_true, if_true, if_false, reduceIte, wrap_in, xints_at, xbools_at, xints_set, xints_snoc, xints_make, xints_nil, xbools_set, xbools_snoc, xbools_make, xcopy_make, List.length_replicate, List.length_cons, List.length_nil, Nat.reduceAdd, hjs, hjg]
      refine br_split ?_ ?_ <;> intro _
      · rename_i hgj
        rw [if_pos hgj] at hk'
        rw [hk']
        exact hj4 _
      · rename_i hgj
        rw [if_neg hgj] at hk'
        rw [hk']
        exact hj4 _
    · simp (disch := first | omega | (simp only [List.length_set, List.length_map, List.length_replicate, List.length_append, List.length_modify]; omega)) only [xrun_ret, run_ite, run_fail, run_letj, xrun_loop, run_jump, xrun_call, jmp_join, jmp_loop, br_fail, br_true, br_false, xden_var, den_int, den_bool, den_str, den_nil, den_nilc, den_un, den_bin, den_tri, xon_and, xon_or, on_beq, xon_not, on_len, on_neg, on_conv, on_max, on_min, on_snoc, on_cat, on_cons, on_make, on_copy, on_plus, on_minus, on_cell, on_sel, on_slice, on_set, on_put, on_cmp, on_ar, ev_lss, ev_leq, ev_gtr, ev_geq, ev_eql, ev_neq, ar_add, ar_sub, ar_mul, ar_quo, ar_rem, pi_int, b_bool, r_row, c_cells, rowOf_r, List.map_cons, List.map_nil, List.cons_append, List.nil_append, List.getD_cons_zero, List.getD_cons_succ, List.getElem?_cons_zero, List.getElem?_cons_succ, List.take_zero, List.take_succ_cons, List.length_map, Int.toNat_natCast, decide_eq_true_eq, Int.ofNat_lt, Int.ofNat_le, xnat_nonneg, true_and, and_true, if_true, if_false, reduceIte, wrap_in, xints_at, xbools_at, xints_set, xints_snoc, xints_make, xints_nil, xbools_set, xbools_snoc, xbools_make, xcopy_make, List.length_replicate, List.length_cons, List.length_nil, Nat.reduceAdd, hjs]
      rw [mix_full' hmx (by simp; omega)]
theorem starts_sp (low : Int) (l : List Tr) (g : List Bool) (a s : List Int) (size al : Int) (hs : s.length ≤ 1000000000) : Says tr c_content_Starts [I low, rowOf eTr l, bools g, ints a, ints s, I size, I al] [ints (startS low l g a s size al).1, I (startS low l g a s size al).2] := by
  refine Says.of (t := content_Starts) rfl ?_
  rw [u_content_Starts]
  have his : Says tr c_fixed_Is [I size] [B (decide (-68719476736 ≤ size) && decide (size ≤ 68719476736))] := by
    refine Says.of (t := fixed_Is) rfl ?_
    rw [u_fixed_Is]
    simp (disch := first | omega | (simp only [List.length_set, List.length_map, List.length_replicate, List.length_append, List.length_modify]; omega)) only [xrun_ret, run_ite, run_fail, run_letj, xrun_loop, run_jump, xrun_call, jmp_join, jmp_loop, br_fail, br_true, br_false, xden_var, den_int, den_bool, den_str, den_nil, den_nilc, den_un, den_bin, den_tri, xon_and, xon_or, on_beq, xon_not, on_len, on_neg, on_conv, on_max, on_min, on_snoc, on_cat, on_cons, on_make, on_copy, on_plus, on_minus, on_cell, on_sel, on_slice, on_set, on_put, on_cmp, on_ar, ev_lss, ev_leq, ev_gtr, ev_geq, ev_eql, ev_neq, ar_add, ar_sub, ar_mul, ar_quo, ar_rem, pi_int, b_bool, r_row, c_cells, rowOf_r, List.map_cons, List.map_nil, List.cons_append, List.nil_append, List.getD_cons_zero, List.getD_cons_succ, List.getElem?_cons_zero, List.getElem?_cons_succ, List.take_zero, List.take_succ_cons, List.length_map, Int.toNat_natCast, decide_eq_true_eq, Int.ofNat_lt, Int.ofNat_le, xnat_nonneg, true_and, and_true, if_true, if_false, reduceIte, wrap_in, xints_at, xbools_at, xints_set, xints_snoc, xints_make, xints_nil, xbools_set, xbools_snoc, xbools_make, xcopy_make, List.length_replicate, List.length_cons, List.length_nil, Nat.reduceAdd, ge_iff_le]
  have hj0 : ∀ b : Bool, (b = true ↔ ((tkSum low l g a s).2 = 2 ∨ size < 0 ∨ 68719476736 < size ∨ al < 2 ∨ 9 < al)) → Run tr content_Starts_j0 [I low, rowOf eTr l, bools g, ints a, ints s, I size, I al, I (tkSum low l g a s).1, I (tkSum low l g a s).2, B b] [] [ints (startS low l g a s size al).1, I (startS low l g a s size al).2] := by
    intro b hb
    unfold startS
    rw [u_content_Starts_j0]
    simp (disch := first | omega | (simp only [List.length_set, List.length_map, List.length_replicate, List.length_append, List.length_modify]; omega)) only [xrun_ret, run_ite, run_fail, run_letj, xrun_loop, run_jump, xrun_call, jmp_join, jmp_loop, br_fail, br_true, br_false, xden_var, den_int, den_bool, den_str, den_nil, den_nilc, den_un, den_bin, den_tri, xon_and, xon_or, on_beq, xon_not, on_len, on_neg, on_conv, on_max, on_min, on_snoc, on_cat, on_cons, on_make, on_copy, on_plus, on_minus, on_cell, on_sel, on_slice, on_set, on_put, on_cmp, on_ar, ev_lss, ev_leq, ev_gtr, ev_geq, ev_eql, ev_neq, ar_add, ar_sub, ar_mul, ar_quo, ar_rem, pi_int, b_bool, r_row, c_cells, rowOf_r, List.map_cons, List.map_nil, List.cons_append, List.nil_append, List.getD_cons_zero, List.getD_cons_succ, List.getElem?_cons_zero, List.getElem?_cons_succ, List.take_zero, List.take_succ_cons, List.length_map, Int.toNat_natCast, decide_eq_true_eq, Int.ofNat_lt, Int.ofNat_le, xnat_nonneg, true_and, and_true, if_true, if_false, reduceIte, wrap_in, xints_at, xbools_at, xints_set, xints_snoc, xints_make, xints_nil, xbools_set, xbools_snoc, xbools_make, xcopy_make, List.length_replicate, List.length_cons, List.length_nil, Nat.reduceAdd, Bool.not_and, Bool.not_or, Bool.not_not, Bool.and_eq_true, Bool.or_eq_true, Bool.not_eq_true', Bool.and_eq_false_imp, Bool.or_eq_false_iff, decide_eq_false_iff_not, decide_eq_true_eq, beq_iff_eq, beq_eq_false_iff_ne, bne_iff_ne, bne_eq_false_iff_eq, ne_eq, gt_iff_lt, ge_iff_le, Bool.false_eq_true, Bool.true_eq_false, beq_self_eq_true, beq_true, beq_false, Bool.not_false, Bool.not_true, Bool.false_and, Bool.true_and, Bool.and_true, Bool.and_false, Bool.or_true, Bool.true_or, Bool.or_false, Bool.false_or, false_and, true_and, and_false, and_true, or_false, or_true, false_or, true_or, not_true_eq_false, not_false_eq_true, false_iff, iff_false, true_iff, iff_true, forall_const, false_imp_iff, true_imp_iff, reduceCtorEq, imp_false]
    by_cases h : b = true
    · rw [br_pos h, if_pos (hb.1 h)]
    · have hn : ¬ ((tkSum low l g a s).2 = 2 ∨ size < 0 ∨ 68719476736 < size ∨ al < 2 ∨ 9 < al) := fun hh => h (hb.2 hh)
      rw [br_neg h, if_neg hn]
      by_cases he : (tkSum low l g a s).2 = 0
      · rw [br_neg (by simp [he]), if_neg (by simp [he])]
        have hok : SumOk low l g a s := by
          refine Classical.byContradiction fun hno => ?_
          simp [tkSum, hno] at he
        have hsum : sumS s a 0 = ((tkSum low l g a s).1, 0) := by
          simp only [tkSum, hok, if_true] at he ⊢
          exact Prod.ext rfl he
        have B0 : Beg low l g a s size (tkSum low l g a s).1 := ⟨hok, hsum, by omega, by omega⟩
        have := starts_good (al := al) B0 (PV.bool b)
        rw [he]
        exact this
      · rw [br_pos he, if_pos he]
  simp (disch := first | omega | (simp only [List.length_set, List.length_map, List.length_replicate, List.length_append, List.length_modify]; omega)) only [xrun_ret, run_ite, run_fail, run_letj, xrun_loop, run_jump, xrun_call, jmp_join, jmp_loop, br_fail, br_true, br_false, xden_var, den_int, den_bool, den_str, den_nil, den_nilc, den_un, den_bin, den_tri, xon_and, xon_or, on_beq, xon_not, on_len, on_neg, on_conv, on_max, on_min, on_snoc, on_cat, on_cons, on_make, on_copy, on_plus, on_minus, on_cell, on_sel, on_slice, on_set, on_put, on_cmp, on_ar, ev_lss, ev_leq, ev_gtr, ev_geq, ev_eql, ev_neq, ar_add, ar_sub, ar_mul, ar_quo, ar_rem, pi_int, b_bool, r_row, c_cells, rowOf_r, List.map_cons, List.map_nil, List.cons_append, List.nil_append, List.getD_cons_zero, List.getD_cons_succ, List.getElem?_cons_zero, List.getElem?_cons_succ, List.take_zero, List.take_succ_cons, List.length_map, Int.toNat_natCast, decide_eq_true_eq, Int.ofNat_lt, Int.ofNat_le, xnat_nonneg, true_and, and_true, if_true, if_false, reduceIte, wrap_in, xints_at, xbools_at, xints_set, xints_snoc, xints_make, xints_nil, xbools_set, xbools_snoc, xbools_make, xcopy_make, List.length_replicate, List.length_cons, List.length_nil, Nat.reduceAdd, xcall_of (tsum_sp low l g a s), Bool.not_and, Bool.not_or, Bool.not_not, Bool.and_eq_true, Bool.or_eq_true, Bool.not_eq_true', Bool.and_eq_false_imp, Bool.or_eq_false_iff, decide_eq_false_iff_not, decide_eq_true_eq, beq_iff_eq, beq_eq_false_iff_ne, bne_iff_ne, bne_eq_false_iff_eq, ne_eq, gt_iff_lt, ge_iff_le, Bool.false_eq_true, Bool.true_eq_false, beq_self_eq_true, beq_true, beq_false, Bool.not_false, Bool.not_true, Bool.false_and, Bool.true_and, Bool.and_true, Bool.and_false, Bool.or_true, Bool.true_or, Bool.or_false, Bool.false_or, false_and, true_and, and_false, and_true, or_false, or_true, false_or, true_or, not_true_eq_false, not_false_eq_true, false_iff, iff_false, true_iff, iff_true, forall_const, false_imp_iff, true_imp_iff, reduceCtorEq, imp_false]
  refine br_split ?_ ?_ <;> intro _
  · rename_i h
    exact hj0 true (by simp; omega)
  · rename_i h
    simp (disch := first | omega | (simp only [List.length_set, List.length_map, List.length_replicate, List.length_append, List.length_modify]; omega)) only [xrun_ret, run_ite, run_fail, run_letj, xrun_loop, run_jump, xrun_call, jmp_join, jmp_loop, br_fail, br_true, br_false, xden_var, den_int, den_bool, den_str, den_nil, den_nilc, den_un, den_bin, den_tri, xon_and, xon_or, on_beq, xon_not, on_len, on_neg, on_conv, on_max, on_min, on_snoc, on_cat, on_cons, on_make, on_copy, on_plus, on_minus, on_cell, on_sel, on_slice, on_set, on_put, on_cmp, on_ar, ev_lss, ev_leq, ev_gtr, ev_geq, ev_eql, ev_neq, ar_add, ar_sub, ar_mul, ar_quo, ar_rem, pi_int, b_bool, r_row, c_cells, rowOf_r, List.map_cons, List.map_nil, List.cons_append, List.nil_append, List.getD_cons_zero, List.getD_cons_succ, List.getElem?_cons_zero, List.getElem?_cons_succ, List.take_zero, List.take_succ_cons, List.length_map, Int.toNat_natCast, decide_eq_true_eq, Int.ofNat_lt, Int.ofNat_le, xnat_nonneg, true_and, and_true, if_true, if_false, reduceIte, wrap_in, xints_at, xbools_at, xints_set, xints_snoc, xints_make, xints_nil, xbools_set, xbools_snoc, xbools_make, xcopy_make, List.length_replicate, List.length_cons, List.length_nil, Nat.reduceAdd, xcall_of his, Bool.not_and, Bool.not_or, Bool.not_not, Bool.and_eq_true, Bool.or_eq_true, Bool.not_eq_true', Bool.and_eq_false_imp, Bool.or_eq_false_iff, decide_eq_false_iff_not, decide_eq_true_eq, beq_iff_eq, beq_eq_false_iff_ne, bne_iff_ne, bne_eq_false_iff_eq, ne_eq, gt_iff_lt, ge_iff_le, Bool.false_eq_true, Bool.true_eq_false, beq_self_eq_true, beq_true, beq_false, Bool.not_false, Bool.not_true, Bool.false_and, Bool.true_and, Bool.and_true, Bool.and_false, Bool.or_true, Bool.true_or, Bool.or_false, Bool.false_or, false_and, true_and, and_false, and_true, or_false, or_true, false_or, true_or, not_true_eq_false, not_false_eq_true, false_iff, iff_false, true_iff, iff_true, forall_const, false_imp_iff, true_imp_iff, reduceCtorEq, imp_false]
    refine hj0 _ ?_
    simp only [Bool.not_and, Bool.not_or, Bool.not_not, Bool.and_eq_true, Bool.or_eq_true, Bool.not_eq_true', Bool.and_eq_false_imp, Bool.or_eq_false_iff, decide_eq_false_iff_not, decide_eq_true_eq, beq_iff_eq, beq_eq_false_iff_ne, bne_iff_ne, bne_eq_false_iff_eq, ne_eq, gt_iff_lt, ge_iff_le, Bool.false_eq_true, Bool.true_eq_false, beq_self_eq_true, beq_true, beq_false, Bool.not_false, Bool.not_true, Bool.false_and, Bool.true_and, Bool.and_true, Bool.and_false, Bool.or_true, Bool.true_or, Bool.or_false, Bool.false_or, false_and, true_and, and_false, and_true, or_false, or_true, false_or, true_or, not_true_eq_false, not_false_eq_true, false_iff, iff_false, true_iff, iff_true, forall_const, false_imp_iff, true_imp_iff, reduceCtorEq, imp_false]
    omega
theorem rstarts_good {low : Int} {l : List Tr} {g : List Bool} {a s : List Int} {size al v : Int} (B : Beg low l g a s size v) : Run tr ref28_Starts_l0 [I low, rowOf eTr l, bools g, ints a, ints s, I size, I al, I v, I 0, I 0, I 0] [.loop ref28_Starts_l0 [I low, rowOf eTr l, bools g, ints a, ints s, I size, I al, I v, I 0]] [ints (begS al (size - v) (ngo g) (-1) 0 g a s), I 0] := by
  have hl := B.hok.1.1
  have hgl : g.length = s.length := by rw [B.hok.1.2.1, B.hok.2.1]
  have hal : a.length = s.length := by rw [B.hok.1.2.2.1, B.hok.2.1]
  have hsl : s.length ≤ 40000 := by rw [B.hok.2.1]; exact hl
  have hn := ngo_in g
  have hfr := beg_free B
  have hvi := sumS_in s a 0 (fun x hx => (B.hok.2.2 x hx).1) (fun x hx => (gdi_in B.hok.1 x hx).1) (by omega) (by omega) (by rw [B.hsum])
  rw [B.hsum] at hvi
  have hs0 := B.h0
  have hs1 := B.h1
  have key := xup_ind (n := g.length) (P := fun i => ∀ c : Int, 0 ≤ c → c + ngo (g.drop i) = ngo g → Run tr ref28_Starts_l0 [I low, rowOf eTr l, bools g, ints a, ints s, I size, I al, I v, I 0, I i, I c] [.loop ref28_Starts_l0 [I low, rowOf eTr l, bools g, ints a, ints s, I size, I al, I v, I 0]] [ints (begS al (size - v) (ngo g) (-1) 0 g a s), I 0]) ?_ 0 (Nat.zero_le _)
  · simpa using key 0 (by omega) (by simp)
  intro i hi ih c hc hall
  rw [u_ref28_Starts_l0]
  by_cases h : i < g.length
  · rw [List.drop_eq_getElem_cons h] at hall
    simp only [ngo] at hall
    have hnn := ngo_in (g.drop (i + 1))
    simp (disch := first | omega | (simp only [List.length_set, List.length_map, List.length_replicate, List.length_append, List.length_modify]; omega)) only [xrun_ret, run_ite, run_fail, run_letj, xrun_loop, run_jump, xrun_call, jmp_join, jmp_loop, br_fail, br_true, br_false, xden_var, den_int, den_bool, den_str, den_nil, den_nilc, den_un, den_bin, den_tri, xon_and, xon_or, on_beq, xon_not, on_len, on_neg, on_conv, on_max, on_min, on_snoc, on_cat, on_cons, on_make, on_copy, on_plus, on_minus, on_cell, on_sel, on_slice, on_set, on_put, on_cmp, on_ar, ev_lss, ev_leq, ev_gtr, ev_geq, ev_eql, ev_neq, ar_add, ar_sub, ar_mul, ar_quo, ar_rem, pi_int, b_bool, r_row, c_cells, rowOf_r, List.map_cons, List.map_nil, List.cons_append, List.nil_append, List.getD_cons_zero, List.getD_cons_succ, List.getElem?_cons_zero, List.getElem?_cons_succ, List.take_zero, List.take_succ_cons, List.length_map, Int.toNat_natCast, decide_eq_true_eq, Int.ofNat_lt, Int.ofNat_le, xnat_nonneg, true_and, and_true, if_true, if_false, reduceIte, wrap_in, xints_at, xbools_at, xints_set, xints_snoc, xints_make, xints_nil, xbools_set, xbools_snoc, xbools_make, xcopy_make, List.length_replicate, List.length_cons, List.length_nil, Nat.reduceAdd, h, u_ref28_Starts_j1]
    refine br_split ?_ ?_ <;> intro _
    · rename_i hg
      rw [if_pos hg] at hall
      exact ih h c hc (by omega)
    · rename_i hg
      rw [if_neg hg] at hall
      exact ih h (c + 1) (by omega) (by omega)
  · rw [List.drop_of_length_le (by omega)] at hall
    simp only [ngo, Int.add_zero] at hall
    subst hall
    simp (disch := first | omega | (simp only [List.length_set, List.length_map, List.length_replicate, List.length_append, List.length_modify]; omega)) only [xrun_ret, run_ite, run_fail, run_letj, xrun_loop, run_jump, xrun_call, jmp_join, jmp_loop, br_fail, br_true, br_false, xden_var, den_int, den_bool, den_str, den_nil, den_nilc, den_un, den_bin, den_tri, xon_and, xon_or, on_beq, xon_not, on_len, on_neg, on_conv, on_max, on_min, on_snoc, on_cat, on_cons, on_make, on_copy, on_plus, on_minus, on_cell, on_sel, on_slice, on_set, on_put, on_cmp, on_ar, ev_lss, ev_leq, ev_gtr, ev_geq, ev_eql, ev_neq, ar_add, ar_sub, ar_mul, ar_quo, ar_rem, pi_int, b_bool, r_row, c_cells, rowOf_r, List.map_cons, List.map_nil, List.cons_append, List.nil_append, List.getD_cons_zero, List.getD_cons_succ, List.getElem?_cons_zero, List.getElem?_cons_succ, List.take_zero, List.take_succ_cons, List.length_map, Int.toNat_natCast, decide_eq_true_eq, Int.ofNat_lt, Int.ofNat_le, xnat_nonneg, true_and, and_true, if_true, if_false, reduceIte, wrap_in, xints_at, xbools_at, xints_set, xints_snoc, xints_make, xints_nil, xbools_set, xbools_snoc, xbools_make, xcopy_make, List.length_replicate, List.length_cons, List.length_nil, Nat.reduceAdd, h]
    have hRl := begS_length al (size - v) (ngo g) (-1) 0 g a s hgl hal
    obtain ⟨R, hR⟩ : ∃ R, begS al (size - v) (ngo g) (-1) 0 g a s = R := ⟨_, rfl⟩
    rw [hR] at hRl ⊢
    obtain ⟨J, hJ⟩ : ∃ J, J = JT.loop ref28_Starts_l0 [I low, rowOf eTr l, bools g, ints a, ints s, I size, I al, I v, I 0] := ⟨_, rfl⟩
    rw [← hJ]
    have key := xup_ind (n := s.length) (P := fun j => ∀ k t : Int, -1 ≤ k → k + ngo (g.drop j) = ngo g - 1 → 0 ≤ t → t ≤ 68719476736 → sumS (s.drop j) (a.drop j) t = (v, 0) → begS al (size - v) (ngo g) k t (g.drop j) (a.drop j) (s.drop j) = R.drop j →
      Run tr ref28_Starts_l2 [I low, rowOf eTr l, bools g, ints a, ints s, I size, I al, I v, I 0, I i, I (ngo g), I j, I k, I t, ints (R.take j)] [J, .loop ref28_Starts_l2 [I low, rowOf eTr l, bools g, ints a, ints s, I size, I al, I v, I 0, I i, I (ngo g)]] [ints R, I 0]) ?_ 0 (Nat.zero_le _)
    · simpa [rowOf] using key (-1) 0 (by omega) (by simp; omega) (by omega) (by omega) (by simpa using B.hsum) (by simpa using hR)
    intro j hj ihj k t hk hkn ht0 ht1 hsum hall
    rw [u_ref28_Starts_l2]
    by_cases hjs : j < s.length
    · have hjg : j < g.length := by omega
      have hja : j < a.length := by omega
      have h2 := B.hok.2.2 s[j] (List.getElem_mem _)
      have h3 := gdi_in B.hok.1 a[j] (List.getElem_mem _)
      have hnn := ngo_in (g.drop (j + 1))
      rw [List.drop_eq_getElem_cons hjg] at hkn hall
      rw [List.drop_eq_getElem_cons hja] at hsum hall
      rw [List.drop_eq_getElem_cons hjs] at hsum hall
      have hdr : R.drop j = R[j]'(by omega) :: R.drop (j + 1) := List.drop_eq_getElem_cons (by omega)
      rw [hdr] at hall
      simp only [sumS] at hsum
      simp only [ngo] at hkn
      simp only [begS, List.cons.injEq] at hall
      have hc : t + s[j] + a[j] ≤ 68719476736 := by
        refine Classical.byContradiction fun hn => ?_
        rw [if_neg hn] at hsum
        cases hsum
      rw [if_pos hc] at hsum
      obtain ⟨k', hk'⟩ : ∃ k', (if g[j] = true then k else k + 1) = k' := ⟨_, rfl⟩
      rw [hk'] at hall
      have hk1 : -1 ≤ k' ∧ k' + ngo (g.drop (j + 1)) = ngo g - 1 := by
        rw [← hk']
        split <;> (rename_i hgj; simp only [hgj] at hkn; simp at hkn; omega)
      have hka : ngo g ≠ 0 → max k' 0 ≤ ngo g - 1 := by omega
      have hadd := add_in (al := al) hfr (show 0 ≤ max k' 0 by omega) hka
      have htl : (R.take j).length = j := by simp; omega
      have hj3 : ∀ k0 : Int, Run tr ref28_Starts_j3 [I low, rowOf eTr l, bools g, ints a, ints s, I size, I al, I v, I 0, I i, I (ngo g), I j, I k0, I t, ints (R.take j), I k'] [J, .loop ref28_Starts_l2 [I low, rowOf eTr l, bools g, ints a, ints s, I size, I al, I v, I 0, I i, I (ngo g)]] [ints R, I 0] := by
        intro k0
        have hsn := take_snoc (a := R) (i := j) (by omega) hall.1
        have e : t + s[j] + a[j] = t + a[j] + s[j] := by omega
        rw [e] at hsum hc
        have := ihj hjs k' (t + a[j] + s[j]) hk1.1 hk1.2 (by omega) (by omega) hsum hall.2
        have hra : Says tr c_ref28_added [I al, I (size - v), I (max k' 0), I (ngo g)] [I (addS al (size - v) (ngo g) (max k' 0))] := by
          refine Says.of (t := ref28_added) rfl ?_
          rw [u_ref28_added]
          simp (disch := first | omega | (simp only [List.length_set, List.length_map, List.length_replicate, List.length_append, List.length_modify]; omega)) only [xrun_ret, run_ite, run_fail, run_letj, xrun_loop, run_jump, xrun_call, jmp_join, jmp_loop, br_fail, br_true, br_false, xden_var, den_int, den_bool, den_str, den_nil, den_nilc, den_un, den_bin, den_tri, xon_and, xon_or, on_beq, xon_not, on_len, on_neg, on_conv, on_max, on_min, on_snoc, on_cat, on_cons, on_make, on_copy, on_plus, on_minus, on_cell, on_sel, on_slice, on_set, on_put, on_cmp, on_ar, ev_lss, ev_leq, ev_gtr, ev_geq, ev_eql, ev_neq, ar_add, ar_sub, ar_mul, ar_quo, ar_rem, pi_int, b_bool, r_row, c_cells, rowOf_r, List.map_cons, List.map_nil, List.cons_append, List.nil_append, List.getD_cons_zero, List.getD_cons_succ, List.getElem?_cons_zero, List.getElem?_cons_succ, List.take_zero, List.take_succ_cons, List.length_map, Int.toNat_natCast, decide_eq_true_eq, Int.ofNat_lt, Int.ofNat_le, xnat_nonneg, true_and, and_true, if_true, if_false, reduceIte, wrap_in, xints_at, xbools_at, xints_set, xints_snoc, xints_make, xints_nil, xbools_set, xbools_snoc, xbools_make, xcopy_make, List.length_replicate, List.length_cons, List.length_nil, Nat.reduceAdd, Bool.not_and, Bool.not_or, Bool.not_not, Bool.and_eq_true, Bool.or_eq_true, Bool.not_eq_true', Bool.and_eq_false_imp, Bool.or_eq_false_iff, decide_eq_false_iff_not, decide_eq_true_eq, beq_iff_eq, beq_eq_false_iff_ne, bne_iff_ne, bne_eq_false_iff_eq, ne_eq, gt_iff_lt, ge_iff_le, Bool.false_eq_true, Bool.true_eq_false, beq_self_eq_true, beq_true, beq_false, Bool.not_false, Bool.not_true, Bool.false_and, Bool.true_and, Bool.and_true, Bool.and_false, Bool.or_true, Bool.true_or, Bool.or_false, Bool.false_or, false_and, true_and, and_false, and_true, or_false, or_true, false_or, true_or, not_true_eq_false, not_false_eq_true, false_iff, iff_false, true_iff, iff_true, forall_const, false_imp_iff, true_imp_iff, reduceCtorEq, imp_false, xcall_of (rdiv_sp (size - v) 2 (by omega) (by decide))]
          unfold addS
          by_cases h4 : al = 4
          · rw [br_pos h4, if_pos h4]
          rw [br_neg h4, if_neg h4]
          by_cases h5 : al = 5
          · rw [br_pos h5, if_pos h5]
          rw [br_neg h5, if_neg h5]
          by_cases h6 : size - v ≤ 0
          · rw [br_pos h6, if_pos (Or.inl h6)]
          rw [br_neg h6]
          have hmd0 : ∀ q : Int, 0 < q → q ≤ 100000 → md (size - v) 0 q = (0, 0) := by
            intro q hq hq1
            obtain ⟨p1, p2, p3⟩ := part_in (by omega : 0 ≤ size - v) hfr.2 (Int.le_refl 0) (by omega : (0 : Int) ≤ q) hq
            rw [p1]
            simp
          have hfin : ∀ p q : Int, -100000 ≤ p → p ≤ 100000 → -100000 ≤ q → q ≤ 100000 → (q ≤ 0 ∨ ngo g ≤ 0 → (if size - v ≤ 0 ∨ ngo g = 0 then 0 else (md (size - v) (ratP al (max k' 0) (ngo g)).1 (ratP al (max k' 0) (ngo g)).2).1) = 0) → (¬ (q ≤ 0 ∨ ngo g ≤ 0) → (if size - v ≤ 0 ∨ ngo g = 0 then 0 else (md (size - v) (ratP al (max k' 0) (ngo g)).1 (ratP al (max k' 0) (ngo g)).2).1) = (md (size - v) p q).1) →
              Run tr ref28_added_j0 [I al, I (size - v), I (max k' 0), I (ngo g), I q, I p] [] [I (if size - v ≤ 0 ∨ ngo g = 0 then 0 else (md (size - v) (ratP al (max k' 0) (ngo g)).1 (ratP al (max k' 0) (ngo g)).2).1)] := by
            intro p q hp0 hp1 hq0 hq1 f1 f2
            rw [u_ref28_added_j0]
            simp (disch := first | omega | (simp only [List.length_set, List.length_map, List.length_replicate, List.length_append, List.length_modify]; omega)) only [xrun_ret, run_ite, run_fail, run_letj, xrun_loop, run_jump, xrun_call, jmp_join, jmp_loop, br_fail, br_true, br_false, xden_var, den_int, den_bool, den_str, den_nil, den_nilc, den_un, den_bin, den_tri, xon_and, xon_or, on_beq, xon_not, on_len, on_neg, on_conv, on_max, on_min, on_snoc, on_cat, on_cons, on_make, on_copy, on_plus, on_minus, on_cell, on_sel, on_slice, on_set, on_put, on_cmp, on_ar, ev_lss, ev_leq, ev_gtr, ev_geq, ev_eql, ev_neq, ar_add, ar_sub, ar_mul, ar_quo, ar_rem, pi_int, b_bool, r_row, c_cells, rowOf_r, List.map_cons, List.map_nil, List.cons_append, List.nil_append, List.getD_cons_zero, List.getD_cons_succ, List.getElem?_cons_zero, List.getElem?_cons_succ, List.take_zero, List.take_succ_cons, List.length_map, Int.toNat_natCast, decide_eq_true_eq, Int.ofNat_lt, Int.ofNat_le, xnat_nonneg, true_and, and_true, if_true, if_false, reduceIte, wrap_in, xints_at, xbools_at, xints_set, xints_snoc, xints_make, xints_nil, xbools_set, xbools_snoc, xbools_make, xcopy_make, List.length_replicate, List.length_cons, List.length_nil, Nat.reduceAdd, Bool.not_and, Bool.not_or, Bool.not_not, Bool.and_eq_true, Bool.or_eq_true, Bool.not_eq_true', Bool.and_eq_false_imp, Bool.or_eq_false_iff, decide_eq_false_iff_not, decide_eq_true_eq, beq_iff_eq, beq_eq_false_iff_ne, bne_iff_ne, bne_eq_false_iff_eq, ne_eq, gt_iff_lt, ge_iff_le, Bool.false_eq_true, Bool.true_eq_false, beq_self_eq_true, beq_true, beq_false, Bool.not_false, Bool.not_true, Bool.false_and, Bool.true_and, Bool.and_true, Bool.and_false, Bool.or_true, Bool.true_or, Bool.or_false, Bool.false_or, false_and, true_and, and_false, and_true, or_false, or_true, false_or, true_or, not_true_eq_false, not_false_eq_true, false_iff, iff_false, true_iff, iff_true, forall_const, false_imp_iff, true_imp_iff, reduceCtorEq, imp_false, xcall_of (rmuldiv_sp (size - v) p q (by omega) (by omega) (by omega))]
            refine br_split ?_ ?_ <;> intro _
            · rename_i hh
              rw [f1 hh]
            · rename_i hh
              rw [f2 hh]
          have hng : ngo g ≤ 40000 := by omega
          by_cases h7 : al = 7
          · rw [br_pos h7]
            refine hfin (max k' 0) (ngo g - 1) (by omega) (by omega) (by omega) (by omega) (fun hh => ?_) (fun hh => ?_)
            · split
              · rfl
              · have : ¬ 1 < ngo g := by omega
                simp only [ratP, h7, this, if_true, if_false]
                rw [hmd0 1 (by omega) (by omega)]
            · have h1 : 1 < ngo g := by omega
              rw [if_neg (by omega)]
              simp only [ratP, h7, h1, if_true]
          rw [br_neg h7]
          by_cases h8 : al = 8
          · rw [br_pos h8]
            refine hfin (2 * max k' 0 + 1) (2 * ngo g) (by omega) (by omega) (by omega) (by omega) (fun hh => ?_) (fun hh => ?_)
            · rw [if_pos (by omega)]
            · rw [if_neg (by omega)]
              simp only [ratP, h7, h8, if_true, if_false]
              rfl
          rw [br_neg h8]
          by_cases h9 : al = 9
          · rw [br_pos h9]
            refine hfin (max k' 0 + 1) (ngo g + 1) (by omega) (by omega) (by omega) (by omega) (fun hh => ?_) (fun hh => ?_)
            · rw [if_pos (by omega)]
            · rw [if_neg (by omega)]
              simp only [ratP, h7, h8, h9, if_true, if_false]
              rfl
          rw [br_neg h9]
          refine hfin 0 1 (by omega) (by omega) (by omega) (by omega) (fun hh => ?_) (fun hh => ?_)
          · rw [if_pos (by omega)]
          · rw [if_neg (by omega)]
            simp only [ratP, h7, h8, h9, if_false]
        rw [u_ref28_Starts_j3]
        simp (disch := first | omega | (simp only [List.length_set, List.length_map, List.length_replicate, List.length_append, List.length_modify]; omega)) only [xrun_ret, run_ite, run_fail, run_letj, xrun_loop, run_jump, xrun_call, jmp_join, jmp_loop, br_fail, br_true, br_false, xden_var, den_int, den_bool, den_str, den_nil, den_nilc, den_un, den_bin, den_tri, xon_and, xon_or, on_beq, xon_not, on_len, on_neg, on_conv, on_max, on_min, on_snoc, on_cat, on_cons, on_make, on_copy, on_plus, on_minus, on_cell, on_sel, on_slice, on_set, on_put, on_cmp, on_ar, ev_lss, ev_leq, ev_gtr, ev_geq, ev_eql, ev_neq, ar_add, ar_sub, ar_mul, ar_quo, ar_rem, pi_int, b_bool, r_row, c_cells, rowOf_r, List.map_cons, List.map_nil, List.cons_append, List.nil_append, List.getD_cons_zero, List.getD_cons_succ, List.getElem?_cons_zero, List.getElem?_cons_succ, List.take_zero, List.take_succ_cons, List.length_map, Int.toNat_natCast, decide_eq_true_eq, Int.ofNat_lt, Int.ofNat_le, xnat_nonneg, true_and, and_true, if_true, if_false, reduceIte, wrap_in, xints_at, xbools_at, xints_set, xints_snoc, xints_make, xints_nil, xbools_set, xbools_snoc, xbools_make, xcopy_make, List.length_replicate, List.length_cons, List.length_nil, Nat.reduceAdd, hja, hjs, xcall_of hra, htl, hsn]
        exact ⟨by omega, this⟩
      simp (disch := first | omega | (simp only [List.length_set, List.length_map, List.length_replicate, List.length_append, List.length_modify]; omega)) only [xrun_ret, run_ite, run_fail, run_letj, xrun_loop, run_jump, xrun_call, jmp_join, jmp_loop, br_fail, br_true, br_false, xden_var, den_int, den_bool, den_str, den_nil, den_nilc, den_un, den_bin, den_tri, xon_and, xon_or, on_beq, xon_not, on_len, on_neg, on_conv, on_max, on_min, on_snoc, on_cat, on_cons, on_make, on_copy, on_plus, on_minus, on_cell, on_sel, on_slice, on_set, on_put, on_cmp, on_ar, ev_lss, ev_leq, ev_gtr, ev_geq, ev_eql, ev_neq, ar_add, ar_sub, ar_mul, ar_quo, ar_rem, pi_int, b_bool, r_row, c_cells, rowOf_r, List.map_cons, List.map_nil, List.cons_append, List.nil_append, List.getD_cons_zero, List.getD_cons_succ, List.getElem?_cons_zero, List.getElem?_cons_succ, List.take_zero, List.take_succ_cons, List.length_map, Int.toNat_natCast, decide_eq_true_eq, Int.ofNat_lt, Int.ofNat_le, xnat_nonneg, true_and, and_true, if_true, if_false, reduceIte, wrap_in, xints_at, xbools_at, xints_set, xints_snoc, xints_make, xints_nil, xbools_set, xbools_snoc, xbools_make, xcopy_make, List.length_replicate, List.length_cons, List.length_nil, Nat.reduceAdd, hjs, hjg]
      refine br_split ?_ ?_ <;> intro _
      · rename_i hgj
        rw [if_pos hgj] at hk'
        rw [hk']
        exact hj3 _
      · rename_i hgj
        rw [if_neg hgj] at hk'
        rw [hk']
        exact hj3 _
    · simp (disch := first | omega | (simp only [List.length_set, List.length_map, List.length_replicate, List.length_append, List.length_modify]; omega)) only [xrun_ret, run_ite, run_fail, run_letj, xrun_loop, run_jump, xrun_call, jmp_join, jmp_loop, br_fail, br_true, br_false, xden_var, den_int, den_bool, den_str, den_nil, den_nilc, den_un, den_bin, den_tri, xon_and, xon_or, on_beq, xon_not, on_len, on_neg, on_conv, on_max, on_min, on_snoc, on_cat, on_cons, on_make, on_copy, on_plus, on_minus, on_cell, on_sel, on_slice, on_set, on_put, on_cmp, on_ar, ev_lss, ev_leq, ev_gtr, ev_geq, ev_eql, ev_neq, ar_add, ar_sub, ar_mul, ar_quo, ar_rem, pi_int, b_bool, r_row, c_cells, rowOf_r, List.map_cons, List.map_nil, List.cons_append, List.nil_append, List.getD_cons_zero, List.getD_cons_succ, List.getElem?_cons_zero, List.getElem?_cons_succ, List.take_zero, List.take_succ_cons, List.length_map, Int.toNat_natCast, decide_eq_true_eq, Int.ofNat_lt, Int.ofNat_le, xnat_nonneg, true_and, and_true, if_true, if_false, reduceIte, wrap_in, xints_at, xbools_at, xints_set, xints_snoc, xints_make, xints_nil, xbools_set, xbools_snoc, xbools_make, xcopy_make, List.length_replicate, List.length_cons, List.length_nil, Nat.reduceAdd, hjs]
      rw [List.take_of_length_le (by omega)]
theorem rstarts_sp (low : Int) (l : List Tr) (g : List Bool) (a s : List Int) (size al : Int) : Says tr c_ref28_Starts [I low, rowOf eTr l, bools g, ints a, ints s, I size, I al] [ints (startS low l g a s size al).1, I (startS low l g a s size al).2] := by
  refine Says.of (t := ref28_Starts) rfl ?_
  rw [u_ref28_Starts]
  simp (disch := first | omega | (simp only [List.length_set, List.length_map, List.length_replicate, List.length_append, List.length_modify]; omega)) only [xrun_ret, run_ite, run_fail, run_letj, xrun_loop, run_jump, xrun_call, jmp_join, jmp_loop, br_fail, br_true, br_false, xden_var, den_int, den_bool, den_str, den_nil, den_nilc, den_un, den_bin, den_tri, xon_and, xon_or, on_beq, xon_not, on_len, on_neg, on_conv, on_max, on_min, on_snoc, on_cat, on_cons, on_make, on_copy, on_plus, on_minus, on_cell, on_sel, on_slice, on_set, on_put, on_cmp, on_ar, ev_lss, ev_leq, ev_gtr, ev_geq, ev_eql, ev_neq, ar_add, ar_sub, ar_mul, ar_quo, ar_rem, pi_int, b_bool, r_row, c_cells, rowOf_r, List.map_cons, List.map_nil, List.cons_append, List.nil_append, List.getD_cons_zero, List.getD_cons_succ, List.getElem?_cons_zero, List.getElem?_cons_succ, List.take_zero, List.take_succ_cons, List.length_map, Int.toNat_natCast, decide_eq_true_eq, Int.ofNat_lt, Int.ofNat_le, xnat_nonneg, true_and, and_true, if_true, if_false, reduceIte, wrap_in, xints_at, xbools_at, xints_set, xints_snoc, xints_make, xints_nil, xbools_set, xbools_snoc, xbools_make, xcopy_make, List.length_replicate, List.length_cons, List.length_nil, Nat.reduceAdd, xcall_of (rtsum_sp low l g a s), Bool.not_and, Bool.not_or, Bool.not_not, Bool.and_eq_true, Bool.or_eq_true, Bool.not_eq_true', Bool.and_eq_false_imp, Bool.or_eq_false_iff, decide_eq_false_iff_not, decide_eq_true_eq, beq_iff_eq, beq_eq_false_iff_ne, bne_iff_ne, bne_eq_false_iff_eq, ne_eq, gt_iff_lt, ge_iff_le, Bool.false_eq_true, Bool.true_eq_false, beq_self_eq_true, beq_true, beq_false, Bool.not_false, Bool.not_true, Bool.false_and, Bool.true_and, Bool.and_true, Bool.and_false, Bool.or_true, Bool.true_or, Bool.or_false, Bool.false_or, false_and, true_and, and_false, and_true, or_false, or_true, false_or, true_or, not_true_eq_false, not_false_eq_true, false_iff, iff_false, true_iff, iff_true, forall_const, false_imp_iff, true_imp_iff, reduceCtorEq, imp_false]
  unfold startS
  refine br_split ?_ ?_ <;> intro _
  · rename_i h
    rw [if_pos (by omega)]
  · rename_i h
    rw [if_neg (by omega)]
    by_cases he : (tkSum low l g a s).2 = 0
    · rw [br_neg (by simp [he]), if_neg (by simp [he])]
      have hok : SumOk low l g a s := by
        refine Classical.byContradiction fun hno => ?_
        simp [tkSum, hno] at he
      have hsum : sumS s a 0 = ((tkSum low l g a s).1, 0) := by
        simp only [tkSum, hok, if_true] at he ⊢
        exact Prod.ext rfl he
      have B0 : Beg low l g a s size (tkSum low l g a s).1 := ⟨hok, hsum, by omega, by omega⟩
      have := rstarts_good (al := al) B0
      rw [he]
      exact this
    · rw [br_pos he, if_pos he]
end Go.Proofs.Ytbkohlhonhmhmaa.T
