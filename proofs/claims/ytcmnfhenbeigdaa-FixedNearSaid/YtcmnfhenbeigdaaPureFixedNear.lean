/- The plain law of FixedNear: what the printed functions compute answers as the statement says. -/
import Derived.Test.YtcmnfhenbeigdaaPAx6
import Derived.Test.YtcmnfhenbeigdaaFix
namespace Go.Proofs.Ytcmnfhenbeigdaa.Pure
open Go.RowKit Go.Proofs.Ytcmnfhenbeigdaa.PA Go.Proofs.YtcmnfhenbeigdaaW.PrintWords Go.Proofs.Ytcmnfhenbeigdaa.Evs Go.Proofs.Ytcmnfhenbeigdaa.Fix
set_option linter.unusedVariables false
set_option linter.unusedSimpArgs false
theorem nrd_at (l : List Int) (i : Nat) (h : i < l.length) : rd l (i : Int) = l[i] := by simp [rd, List.getD_eq_getElem?_getD, List.getElem?_eq_getElem h]
/-- A part between two is its own quotient, or one more. -/
theorem between (x y c : Int) (hc : 0 < c) : y / c ≤ (x + y) / c - x / c ∧ (x + y) / c - x / c ≤ y / c + 1 := by
  have h1 := Int.mul_ediv_add_emod x c
  have h2 := Int.emod_nonneg x (b := c) (by omega)
  have h3 := Int.emod_lt_of_pos x hc
  have h4 := Int.mul_ediv_add_emod y c
  have h5 := Int.emod_nonneg y (b := c) (by omega)
  have h6 := Int.emod_lt_of_pos y hc
  have e : x + y = (x % c + y % c) + c * (x / c + y / c) := by rw [Int.mul_add]; omega
  rw [e, Int.add_mul_ediv_left _ _ (by omega)]
  have h7 : 0 ≤ (x % c + y % c) / c := Int.ediv_nonneg (by omega) (by omega)
  have h8 : (x % c + y % c) / c < 2 := by rw [Int.ediv_lt_iff_lt_mul hc]; omega
  omega
theorem near_loop1 (l : List Int) (n all : Int) (hn : 0 ≤ n) (hn1 : n ≤ 1073741824) (ha : 0 < all) (ha1 : all ≤ 70368744177664) (hok : fixed_Share.ok l = true) (hsum : fixed_Share.sum l ≤ all)
    (ys : List Int) (hys : ys.length = l.length) (hm : ys.length ≤ 9223372036854775806) (d : Nat) :
    ∀ (i : Nat) (s : Int), i + d = ys.length → 0 ≤ s → ys.drop i = shr' n all s (l.drop i) → fixed_Share.ok (l.drop i) = true → s + fixed_Share.sum (l.drop i) ≤ all → Ev (fun k => parterrelaw01_FixedNear.l1 k l n all ys (ys.length : Int) i) true := by
  induction d with
  | zero =>
    intro i s hi hs ht _ _
    refine Ev.step (f := fun k => (parterrelaw01_lives.f k).bind fun t => some t) (fun k => ?_) (Ev.bind lives_ev (Ev.now _))
    simp only [parterrelaw01_FixedNear.l1]
    rw [if_neg (by omega)]
  | succ d ih =>
    intro i s hi hs ht hoki hsi
    have hay : ys.drop i = ys[i] :: ys.drop (i + 1) := List.drop_eq_getElem_cons (by omega)
    have hal : l.drop i = l[i] :: l.drop (i + 1) := List.drop_eq_getElem_cons (by omega)
    have ec : ((i : Int) + 1) = ((i + 1 : Nat) : Int) := by simp
    rw [hal] at hoki hsi
    rw [hay, hal] at ht
    simp only [shr', List.cons.injEq] at ht
    obtain ⟨hy, ht⟩ := ht
    obtain ⟨w0, w1, hok'⟩ := ok_cons hoki
    simp only [fixed_Share.sum] at hsi
    have hsn := sum_in hok'
    have hbt := between (n * s) (n * l[i]) all ha
    have e : n * s + n * l[i] = n * (s + l[i]) := by rw [Int.mul_add]
    rw [e, ← hy] at hbt
    have hq0 := due_nonneg (n := n) (s := l[i]) hn w0 ha
    have hq1 := due_le (n := n) (s := l[i]) hn (by omega) ha
    have hmd := muldiv_ev (lit_wf n (by omega) (by omega)) (lit_wf l[i] (by omega) (by omega)) (lit_wf all (by omega) (by omega))
    rw [md_pos hn w0 ha (by omega)] at hmd
    have hz : l[i] = 0 → ys[i] = 0 := by
      intro h
      rw [hy, h]
      simp
    refine Ev.step (f := fun k => (fixed_MulDiv.f k n l[i] all).bind fun bt164 => (if bt164.2 = 0 then (if ys[i] < bt164.1 then (some false) else (if ys[i] > (wrap64 (bt164.1 + 1)) then (some false) else (if l[i] = 0 then (if ys[i] = 0 then (parterrelaw01_FixedNear.l1 k l n all ys (ys.length : Int) ((i + 1 : Nat) : Int)) else (some false)) else (parterrelaw01_FixedNear.l1 k l n all ys (ys.length : Int) ((i + 1 : Nat) : Int))))) else (some false))) (fun k => ?_) ?_
    · simp only [parterrelaw01_FixedNear.l1]
      rw [if_pos (by omega), if_pos (by omega), if_pos (by omega), if_pos (by omega), nrd_at ys i (by omega), nrd_at l i (by omega), wrap_in ((i : Int) + 1) (by omega) (by omega), ec]
    · refine Ev.bind hmd ?_
      have hnext := ih (i + 1) (s + l[i]) (by omega) (by omega) ht hok' (by omega)
      rw [wrap_in (n * l[i] / all + 1) (by omega) (by omega)]
      simp only [if_true, show ¬ ys[i] < n * l[i] / all by omega, show ¬ ys[i] > n * l[i] / all + 1 by omega, if_false]
      by_cases hw : l[i] = 0
      · simp only [hw, if_true, hz hw]
        exact hnext
      · simp only [hw, if_false]
        exact hnext
theorem near_loop0 (l : List Int) (n : Int) (ys : List Int) (hl : l.length ≤ 1000) (hok : fixed_Share.ok l = true)
    (hc : Ev (fun k => parterrelaw01_FixedNear.l1 k l n (fixed_Share.sum l) ys (ys.length : Int) 0) true) (d : Nat) :
    ∀ (i : Nat) (s : Int), i + d = l.length → 0 ≤ s → s + fixed_Share.sum (l.drop i) = fixed_Share.sum l → fixed_Share.ok (l.drop i) = true → Ev (fun k => parterrelaw01_FixedNear.l0 k l n ys s l (l.length : Int) i) true := by
  have hsl := sum_in hok
  induction d with
  | zero =>
    intro i s hi hs ht _
    rw [List.drop_of_length_le (by omega)] at ht
    simp only [fixed_Share.sum] at ht
    have e : s = fixed_Share.sum l := by omega
    refine Ev.step (fun k => ?_) hc
    simp only [parterrelaw01_FixedNear.l0]
    rw [if_neg (by omega), e]
  | succ d ih =>
    intro i s hi hs ht hoki
    have hal : l.drop i = l[i] :: l.drop (i + 1) := List.drop_eq_getElem_cons (by omega)
    have ec : ((i : Int) + 1) = ((i + 1 : Nat) : Int) := by simp
    rw [hal] at hoki ht
    obtain ⟨w0, w1, hok'⟩ := ok_cons hoki
    simp only [fixed_Share.sum] at ht
    have hsn := sum_in hok'
    refine Ev.step (f := fun k => parterrelaw01_FixedNear.l0 k l n ys (s + l[i]) l (l.length : Int) ((i + 1 : Nat) : Int)) (fun k => ?_) (ih (i + 1) (s + l[i]) (by omega) (by omega) (by omega) hok')
    simp only [parterrelaw01_FixedNear.l0]
    rw [if_pos (by omega), if_pos (by omega), if_pos (by omega), nrd_at l i (by omega), wrap_in (s + l[i]) (by omega) (by omega), wrap_in ((i : Int) + 1) (by omega) (by omega), ec]
theorem FixedNear : parterrelaw01_FixedNear.Pure := by
  intro a l ha hl1 hl2 hl
  refine Ev.rounds ?_
  unfold parterrelaw01_FixedNear.f
  by_cases hlen : (l.length : Int) > 1000
  · simp only [hlen, if_true]
    exact Ev.bind lives_ev (Ev.now _)
  simp only [hlen, if_false]
  obtain ⟨u, hu, u0⟩ : ∃ u, IntKind.u64.wrap a = u ∧ 0 ≤ u := ⟨_, rfl, by rw [IntKind.wrap_u64]; omega⟩
  rw [hu, Int.tmod_eq_emod_of_nonneg u0, wrap_in (u % 1073741824) (by omega) (by omega)]
  obtain ⟨n, hn, n0, n1⟩ : ∃ n, u % 1073741824 = n ∧ 0 ≤ n ∧ n ≤ 1073741824 := ⟨_, rfl, by omega, by omega⟩
  rw [hn]
  refine Ev.bind (share_ev n l) ?_
  by_cases hz : n < 0 ∨ 68719476736 < n ∨ 65536 < l.length ∨ fixed_Share.ok l = false ∨ fixed_Share.sum l = 0
  · have : shareS n l = [] := by unfold shareS; rw [if_pos hz]
    simp only [this, List.length_nil, Int.ofNat_zero, if_true]
    exact Ev.bind lives_ev (Ev.now _)
  · have : shareS n l = shr' n (fixed_Share.sum l) 0 l := by unfold shareS; rw [if_neg hz]
    have hok : fixed_Share.ok l = true := by cases e : fixed_Share.ok l <;> simp_all
    have hsi := sum_in hok
    have hne : ¬ ((shr' n (fixed_Share.sum l) 0 l).length : Int) = 0 := by
      rw [shr_length]
      intro h
      have : l = [] := List.length_eq_zero_iff.mp (by omega)
      subst this
      simp [fixed_Share.sum] at hz
    simp only [this, hne, if_false]
    refine near_loop0 l n _ (by omega) hok ?_ l.length 0 0 (by omega) (by omega) (by simp) (by simpa using hok)
    exact near_loop1 l n (fixed_Share.sum l) n0 n1 (by omega) (by omega) hok (by omega) _ (shr_length _ _ _ _) (by rw [shr_length]; omega) (shr' n (fixed_Share.sum l) 0 l).length 0 0 (by omega) (by omega) (by simp) (by simpa using hok) (by simp)
end Go.Proofs.Ytcmnfhenbeigdaa.Pure
