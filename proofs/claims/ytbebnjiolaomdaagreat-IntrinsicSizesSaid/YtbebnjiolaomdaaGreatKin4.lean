/- What the document's trees come to that tell what is wanted, as far as fixed tracks let it. No condition beyond what each states. -/
import Derived.Test.YtbebnjiolaomdaaGreatT
import Derived.Test.YtbebnjiolaomdaaGreatKin3
set_option linter.unusedVariables false
set_option linter.unusedSimpArgs false
set_option maxRecDepth 10000
namespace Go.Proofs.YtbebnjiolaomdaaGreat.T
open Go Go.Proofs.YtbebnjiolaomdaaGreat.Sx Go.Proofs.YtbebnjiolaomdaaGreat.M
theorem cut_cons {α : Type} (l : List α) {i t : Nat} (hi : i < t) (hl : i < l.length) : (l.drop i).take (t - i) = l[i] :: (l.drop (i + 1)).take (t - (i + 1)) := by
 rw [List.drop_eq_getElem_cons hl, show t - i = (t - (i + 1)) + 1 by omega, List.take_succ_cons]
theorem rgaps_sp (a : List Int) (f t : Nat) (least mn mx : Int) (hft : f < t) (hta : t ≤ a.length) (ha : a.length ≤ 1000000) : Says tr c_ref24_gaps [ints a, I f, I t, I least, I mn, I mx] [I (gapsW ((a.drop (f + 1)).take (t - (f + 1))) 0)] := by
 refine Says.of (t := ref24_gaps) rfl ?_
 rw [u_ref24_gaps]
 have key : ∀ i, i ≤ t → ∀ acc, Run tr ref24_gaps_l0 [ints a, I f, I t, I least, I mn, I mx, I i, I acc] [.loop ref24_gaps_l0 [ints a, I f, I t, I least, I mn, I mx]] [I (gapsW ((a.drop i).take (t - i)) acc)] := by
  refine xup_ind fun i hi ih acc => ?_
  rw [u_ref24_gaps_l0]
  by_cases h : i < t
  · have hl : i < a.length := by omega
    rw [cut_cons a h hl]
    simp (disch := first | omega | (simp only [ln0]; omega)) only [rs, reduceIte, Nat.reduceAdd, h, hl]
    exact ih h _
  · rw [show t - i = 0 by omega, List.take_zero]
    simp (disch := first | omega | (simp only [ln0]; omega)) only [rs, reduceIte, Nat.reduceAdd, h]
    rfl
 simp (disch := first | omega | (simp only [ln0]; omega)) only [rs, reduceIte, Nat.reduceAdd]
 exact key (f + 1) (by omega) 0
theorem rfits_sp (x : Sz) : Says tr c_ref24_fits (eSz x) [I (max x.cap x.base)] := by
 refine Says.of (t := ref24_fits) rfl ?_
 rw [u_ref24_fits]
 simp only [eSz]
 simp (disch := first | omega | (simp only [ln0]; omega)) only [rs, reduceIte, Nat.reduceAdd]
theorem rlimited_sp (s : List Sz) (a : List Int) (f t : Nat) (least mn mx n : Int) (hft : f < t) (hts : t ≤ s.length) (hal : a.length = s.length) (hs : s.length ≤ 1000000) :
    Says tr c_ref24_limited [rowOf eSz s, ints a, I f, I t, I least, I mn, I mx, I n] [I (limG ⟨f, t, least, mn, mx⟩ n ((s.drop f).take (t - f)) (gapsW ((a.drop (f + 1)).take (t - (f + 1))) 0))] := by
 refine Says.of (t := ref24_limited) rfl ?_
 rw [u_ref24_limited]
 simp (disch := first | omega | (simp only [ln0]; omega)) only [rs, reduceIte, Nat.reduceAdd, xcall_of (rgaps_sp a f t least mn mx hft (by omega) (by omega))]
 generalize gapsW ((a.drop (f + 1)).take (t - (f + 1))) 0 = G
 have key : ∀ i, i ≤ t → ∀ most, Run tr ref24_limited_l0 [rowOf eSz s, ints a, I f, I t, I least, I mn, I mx, I n, I G, I i, I most] [.loop ref24_limited_l0 [rowOf eSz s, ints a, I f, I t, I least, I mn, I mx, I n, I G]] [I (limG ⟨f, t, least, mn, mx⟩ n ((s.drop i).take (t - i)) most)] := by
  refine xup_ind fun i hi ih most => ?_
  rw [u_ref24_limited_l0]
  by_cases h : i < t
  · have hl : i < s.length := by omega
    rw [cut_cons s h hl]
    have h1 := rfits_sp s[i]
    simp only [limG]
    simp (disch := first | omega | (simp only [ln0]; omega)) only [rs, reduceIte, Nat.reduceAdd, h, hl, sz_at0, sz_at1, sz_at2, sz_at3, sz_at4, sz_at5, sz_at6, sz_snoc, sz_set, sz_put5, sz_put6, bx, reduceCtorEq, forall_const, ne_eq, ref24_limited_j1]
    by_cases hx : s[i].mx ≠ 1 ∧ s[i].fit = false
    · rw [br_pos (by simpa using hx), if_pos hx]
    · rw [br_neg (by simpa using hx), if_neg hx]
      have hi' := ih h
      simp (disch := first | omega | (simp only [ln0]; omega)) only [rs, reduceIte, Nat.reduceAdd, h, hl, sz_at0, sz_at1, sz_at2, sz_at3, sz_at4, sz_at5, sz_at6, sz_snoc, sz_set, sz_put5, sz_put6, bx, reduceCtorEq, forall_const, ne_eq, xcall_of h1, ref24_limited_j1]
      unfold limit
      cases hfit : s[i].fit with
      | true => rw [br_pos (by simp)]; simpa [limit, hfit] using hi' _
      | false => rw [br_neg (by simp)]; simpa [limit, hfit] using hi' _
  · rw [show t - i = 0 by omega, List.take_zero]
    simp (disch := first | omega | (simp only [ln0]; omega)) only [rs, reduceIte, Nat.reduceAdd, h]
    rfl
 exact key f (by omega) G
end Go.Proofs.YtbebnjiolaomdaaGreat.T
