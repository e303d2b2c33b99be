/- The plain law of FixedAdds: what the printed functions compute answers as the statement says. -/
import Derived.Test.YtcmnfhenbeigdaaPAx10
import Derived.Test.YtcmnfhenbeigdaaFix
namespace Go.Proofs.Ytcmnfhenbeigdaa.Pure
open Go.RowKit Go.Proofs.Ytcmnfhenbeigdaa.PA Go.Proofs.YtcmnfhenbeigdaaW.PrintWords Go.Proofs.Ytcmnfhenbeigdaa.Evs Go.Proofs.Ytcmnfhenbeigdaa.Fix
set_option linter.unusedVariables false
set_option linter.unusedSimpArgs false
/-- The sum, or why there is none, given what it comes to. -/
def adS (a b x : Int) : Int × Int := if ¬ (-68719476736 ≤ a ∧ a ≤ 68719476736) ∨ ¬ (-68719476736 ≤ b ∧ b ≤ 68719476736) then (0, 2) else if -68719476736 ≤ x ∧ x ≤ 68719476736 then (x, 0) else (0, 10)
theorem adis_eq (x : Int) : fixed_Is.f x = some (decide (-68719476736 ≤ x ∧ x ≤ 68719476736)) := by
  unfold fixed_Is.f
  by_cases h : x ≥ -68719476736
  · simp [h]
  · simp [h]
theorem radis_eq (x : Int) : parterreref01_Is.f x = some (decide (-68719476736 ≤ x ∧ x ≤ 68719476736)) := by
  unfold parterreref01_Is.f
  by_cases h : x ≥ -68719476736
  · simp [h]
  · simp [h]
theorem adw_ev (a b x : Int) : Ev (fun k => fixed_within.f k a b x) (adS a b x) := by
  unfold fixed_within.f adS
  simp only [adis_eq, Option.bind_some]
  by_cases h1 : -68719476736 ≤ a ∧ a ≤ 68719476736
  · simp only [h1, decide_true, if_true]
    refine Ev.step (f := fun _ => some _) (fun k => ?_) (Ev.now _)
    simp only [fixed_within.j0, adis_eq, Option.bind_some]
    by_cases h2 : -68719476736 ≤ b ∧ b ≤ 68719476736
    · by_cases h3 : -68719476736 ≤ x ∧ x ≤ 68719476736
      · simp [h2, h3]
      · simp [h2, h3]
    · simp [h2]
  · simp only [h1, decide_false]
    refine Ev.step (f := fun _ => some _) (fun k => ?_) (Ev.now _)
    simp [fixed_within.j0]
theorem fadd_ev (a b : Int) : Ev (fun k => fixed_Add.f k a b) (adS a b (wrap64 (a + b))) := Ev.bind (adw_ev a b (wrap64 (a + b))) (Ev.now _)
theorem fsub_ev (a b : Int) : Ev (fun k => fixed_Sub.f k a b) (adS a b (wrap64 (a - b))) := Ev.bind (adw_ev a b (wrap64 (a - b))) (Ev.now _)
theorem radd_ev (a b : Int) : Ev (fun k => parterreref01_Add.f k a b) (adS a b (wrap64 (a + b))) := by
  unfold parterreref01_Add.f adS
  simp only [radis_eq, Option.bind_some]
  by_cases h1 : -68719476736 ≤ a ∧ a ≤ 68719476736
  · simp only [h1, decide_true, if_true]
    refine Ev.step (f := fun _ => some _) (fun k => ?_) (Ev.now _)
    simp only [parterreref01_Add.j0, radis_eq, Option.bind_some]
    by_cases h2 : -68719476736 ≤ b ∧ b ≤ 68719476736
    · by_cases h3 : -68719476736 ≤ wrap64 (a + b) ∧ wrap64 (a + b) ≤ 68719476736
      · simp [h2, h3]
      · simp [h2, h3]
    · simp [h2]
  · simp only [h1, decide_false]
    refine Ev.step (f := fun _ => some _) (fun k => ?_) (Ev.now _)
    simp [parterreref01_Add.j0]
theorem rsub_ev (a b : Int) : Ev (fun k => parterreref01_Sub.f k a b) (adS a b (wrap64 (a - b))) := by
  unfold parterreref01_Sub.f adS
  simp only [radis_eq, Option.bind_some]
  by_cases h1 : -68719476736 ≤ a ∧ a ≤ 68719476736
  · simp only [h1, decide_true, if_true]
    refine Ev.step (f := fun _ => some _) (fun k => ?_) (Ev.now _)
    simp only [parterreref01_Sub.j0, radis_eq, Option.bind_some]
    by_cases h2 : -68719476736 ≤ b ∧ b ≤ 68719476736
    · by_cases h3 : -68719476736 ≤ wrap64 (a - b) ∧ wrap64 (a - b) ≤ 68719476736
      · simp [h2, h3]
      · simp [h2, h3]
    · simp [h2]
  · simp only [h1, decide_false]
    refine Ev.step (f := fun _ => some _) (fun k => ?_) (Ev.now _)
    simp [parterreref01_Sub.j0]
/-- The sum of a row, from what is there on. -/
def smS : List Int → Int → Int × Int
  | [], s => (s, 0)
  | x :: xs, s => if (adS s x (wrap64 (s + x))).2 = 0 then smS xs (adS s x (wrap64 (s + x))).1 else (0, (adS s x (wrap64 (s + x))).2)
theorem rd_at (l : List Int) (i : Nat) (h : i < l.length) : rd l (i : Int) = l[i] := by simp [rd, List.getD_eq_getElem?_getD, List.getElem?_eq_getElem h]
theorem fsum_loop (l : List Int) (hm : l.length ≤ 9223372036854775806) (d : Nat) :
    ∀ (i : Nat) (s : Int), i + d = l.length → Ev (fun k => fixed_Sum.l0 k s 0 l (l.length : Int) i) (smS (l.drop i) s) := by
  induction d with
  | zero =>
    intro i s hi
    refine Ev.step (f := fun _ => some _) (fun k => ?_) (Ev.now _)
    simp only [fixed_Sum.l0]
    rw [if_neg (by omega), List.drop_of_length_le (by omega)]
    rfl
  | succ d ih =>
    intro i s hi
    have ha : l.drop i = l[i] :: l.drop (i + 1) := List.drop_eq_getElem_cons (by omega)
    have ec : ((i : Int) + 1) = ((i + 1 : Nat) : Int) := by simp
    refine Ev.step (f := fun k => (fixed_Add.f k s l[i]).bind fun t => if t.2 = 0 then fixed_Sum.l0 k t.1 0 l (l.length : Int) ((i + 1 : Nat) : Int) else some (0, t.2)) (fun k => ?_) ?_
    · simp only [fixed_Sum.l0]
      rw [if_pos (by omega), if_pos (by omega), if_pos (by omega), rd_at l i (by omega), wrap_in _ (by omega) (by omega), ec]
    · refine Ev.bind (fadd_ev s l[i]) ?_
      rw [ha]
      simp only [smS]
      by_cases h : (adS s l[i] (wrap64 (s + l[i]))).2 = 0
      · simp only [h, if_true]
        exact ih (i + 1) _ (by omega)
      · simp only [h, if_false]
        exact Ev.now _
theorem rsum_loop (l : List Int) (hm : l.length ≤ 9223372036854775806) (d : Nat) :
    ∀ (i : Nat) (s : Int), i + d = l.length → Ev (fun k => parterreref01_Sum.l0 k l s i) (smS (l.drop i) s) := by
  induction d with
  | zero =>
    intro i s hi
    refine Ev.step (f := fun _ => some _) (fun k => ?_) (Ev.now _)
    simp only [parterreref01_Sum.l0]
    rw [if_neg (by omega), List.drop_of_length_le (by omega)]
    rfl
  | succ d ih =>
    intro i s hi
    have ha : l.drop i = l[i] :: l.drop (i + 1) := List.drop_eq_getElem_cons (by omega)
    have ec : ((i : Int) + 1) = ((i + 1 : Nat) : Int) := by simp
    refine Ev.step (f := fun k => (parterreref01_Add.f k s l[i]).bind fun t => if t.2 = 0 then parterreref01_Sum.l0 k l t.1 ((i + 1 : Nat) : Int) else some (0, t.2)) (fun k => ?_) ?_
    · simp only [parterreref01_Sum.l0]
      rw [if_pos (by omega), if_pos (by omega), rd_at l i (by omega), wrap_in _ (by omega) (by omega), ec]
    · refine Ev.bind (radd_ev s l[i]) ?_
      rw [ha]
      simp only [smS]
      by_cases h : (adS s l[i] (wrap64 (s + l[i]))).2 = 0
      · simp only [h, if_true]
        exact ih (i + 1) _ (by omega)
      · simp only [h, if_false]
        exact Ev.now _
theorem FixedAdds : parterrelaw01_FixedAdds.Pure := by
  intro a b l ha hb hl1 hl2 hl
  refine Ev.rounds ?_
  unfold parterrelaw01_FixedAdds.f
  refine Ev.bind (fadd_ev a b) ?_
  refine Ev.bind (radd_ev a b) ?_
  refine Ev.bind (fsub_ev a b) ?_
  refine Ev.bind (rsub_ev a b) ?_
  simp only [if_true, adis_eq, radis_eq, Option.bind_some, bne_self_eq_false]
  by_cases hlen : (l.length : Int) > 1000
  · refine Ev.step (f := fun k => (parterrelaw01_lives.f k).bind fun t => some t) (fun k => ?_) (Ev.bind lives_ev (Ev.now _))
    simp [parterrelaw01_FixedAdds.j0, hlen]
  · refine Ev.step (f := fun k => (fixed_Sum.f k l).bind fun b1 => (parterreref01_Sum.f k l).bind fun b2 => if b1.1 = b2.1 then (if b1.2 = b2.2 then (parterrelaw01_lives.f k).bind fun t => some t else some false) else some false) (fun k => ?_) ?_
    · simp only [parterrelaw01_FixedAdds.j0]
      rw [if_neg (by decide), if_neg hlen]
    · refine Ev.bind (a := smS l 0) (by simpa [fixed_Sum.f] using fsum_loop l (by omega) l.length 0 0 (by omega)) ?_
      refine Ev.bind (a := smS l 0) (by simpa [parterreref01_Sum.f] using rsum_loop l (by omega) l.length 0 0 (by omega)) ?_
      simp only [if_true]
      exact Ev.bind lives_ev (Ev.now _)
end Go.Proofs.Ytcmnfhenbeigdaa.Pure
