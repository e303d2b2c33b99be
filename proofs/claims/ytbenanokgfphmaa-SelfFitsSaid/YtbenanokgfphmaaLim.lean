/- Sizes resolved and kept within limits, the size of a box in its area, in plain words: the code's and the document's. No condition beyond what each lemma states. -/
import Derived.Test.YtbenanokgfphmaaPBx10
import Derived.Test.YtbenanokgfphmaaSelfB
import Derived.Test.YtbenanokgfphmaaPct
namespace Go.Proofs.Ytbenanokgfphmaa.Self
open Go.RowKit Go.Proofs.Ytbenanokgfphmaa.PB Go.Proofs.YtbenanokgfphmaaW.PrintWords Go.Proofs.YtbenanokgfphmaaW.PrintMore Go.Proofs.Ytbenanokgfphmaa.Evs Go.Proofs.Ytbenanokgfphmaa.Fix
set_option linter.unusedVariables false
set_option linter.unusedSimpArgs false
theorem content_eq (a b : Int) : self_isContent.f a b = some (decide (SzP a ∧ SzP b)) := by
  unfold self_isContent.f
  rw [size_eq, size_eq]
  by_cases h : SzP a <;> simp [h]
theorem rcontent_eq (a b : Int) : parterreref29_content.f a b = some (decide (SzP a ∧ SzP b)) := by
  unfold parterreref29_content.f
  rw [rsize_eq, rsize_eq]
  by_cases h : SzP a <;> simp [h]
/-- A length resolved. -/
def resS (k0 k1 basis : Int) (d : Bool) : Int × Bool × Int := if k0 = 2 then (k1, true, 0) else if k0 = 3 then (if d = true then ((pcS k1 basis).1, ((pcS k1 basis).2 == 0), (pcS k1 basis).2) else (0, false, 0)) else (0, false, 0)
theorem resolve_ev {k0 k1 basis : Int} (h1 : (Lit.int .i64 k1).wf = true) (hb : (Lit.int .i64 basis).wf = true) (d : Bool) : Ev (fun k => value_Resolve.f k k0 k1 basis d) (resS k0 k1 basis d) := by
  unfold value_Resolve.f resS
  by_cases h2 : k0 = 2
  · simp only [h2, beq_self_eq_true, if_true]; exact Ev.now _
  · have h2' : (k0 == 2) = false := by simp [h2]
    simp only [h2, h2', Bool.false_eq_true, if_false]
    by_cases h3 : k0 = 3
    · simp only [h3, if_true]
      cases d
      · simp only [Bool.false_eq_true, if_false]; exact Ev.now _
      · simp only [if_true]; exact Ev.bind (pct_ev h1 hb) (Ev.now _)
    · simp only [h3, if_false]; exact Ev.now _
theorem rresolve_ev {k0 k1 basis : Int} (h1 : (Lit.int .i64 k1).wf = true) (hb : (Lit.int .i64 basis).wf = true) (d : Bool) : Ev (fun k => parterreref05_Resolve.f k k0 k1 basis d) (resS k0 k1 basis d) := by
  unfold parterreref05_Resolve.f resS
  by_cases h2 : k0 = 2
  · simp only [h2, if_true]; exact Ev.now _
  · simp only [h2, if_false]
    by_cases h3 : k0 = 3
    · simp only [h3, if_true]
      cases d
      · simp only [Bool.false_eq_true, if_false]; exact Ev.now _
      · simp only [if_true]; exact Ev.bind (rpct_ev h1 hb) (Ev.now _)
    · simp only [h3, if_false]; exact Ev.now _
/-- A size resolved, by content too. -/
def limS (k0 k1 basis : Int) (d : Bool) (c0 c1 : Int) : Int × Bool × Int :=
  if ¬ (SzP c0 ∧ SzP c1) ∨ (d = true ∧ ¬ SzP basis) then (0, false, 2) else if k0 = 4 then (c0, true, 0) else if k0 = 5 then (c1, true, 0) else (mx 0 (resS k0 k1 basis d).1, (resS k0 k1 basis d).2.1, (resS k0 k1 basis d).2.2)
theorem limit_ev {k0 k1 basis : Int} (h1 : (Lit.int .i64 k1).wf = true) (hb : (Lit.int .i64 basis).wf = true) (d : Bool) (c0 c1 : Int) : Ev (fun k => self_Limit.f k k0 k1 basis d c0 c1) (limS k0 k1 basis d c0 c1) := by
  have hj : ∀ B : Bool, Ev (fun k => self_Limit.j0 k basis d B k0 k1 c0 c1) (if B = true then (0, false, 2) else if k0 = 4 then (c0, true, 0) else if k0 = 5 then (c1, true, 0) else (mx 0 (resS k0 k1 basis d).1, (resS k0 k1 basis d).2.1, (resS k0 k1 basis d).2.2)) := by
    intro B
    cases B
    · simp only [Bool.false_eq_true, if_false]
      refine Ev.step (f := fun k => if k0 = 4 then some (c0, true, 0) else if k0 = 5 then some (c1, true, 0) else (value_Resolve.f k k0 k1 basis d).bind fun b => some (mx 0 b.1, b.2.1, b.2.2)) (fun k => by simp [self_Limit.j0]) ?_
      by_cases h4 : k0 = 4
      · simp only [h4, if_true]; exact Ev.now _
      · by_cases h5 : k0 = 5
        · simp only [h4, h5, if_true, if_false]; exact Ev.now _
        · simp only [h4, h5, if_false]; exact Ev.bind (resolve_ev h1 hb d) (Ev.now _)
    · exact Ev.step (f := fun _ => some (0, false, 2)) (fun k => by simp [self_Limit.j0]) (Ev.now _)
  unfold self_Limit.f limS
  simp only [content_eq, size_eq, Option.bind_some]
  by_cases hc : SzP c0 ∧ SzP c1
  · simp only [hc, and_self, decide_true, if_true, not_true, false_or]
    cases d
    · simpa using hj false
    · by_cases hs : SzP basis
      · simpa [hs] using hj false
      · simpa [hs] using hj true
  · simp only [hc, decide_false, Bool.false_eq_true, if_false, not_false_eq_true, true_or, if_true]
    simpa using hj true
theorem rlimit_ev {k0 k1 basis : Int} (h1 : (Lit.int .i64 k1).wf = true) (hb : (Lit.int .i64 basis).wf = true) (d : Bool) (c0 c1 : Int) : Ev (fun k => parterreref29_Limit.f k k0 k1 basis d c0 c1) (limS k0 k1 basis d c0 c1) := by
  have hj : ∀ B : Bool, Ev (fun k => parterreref29_Limit.j0 k basis d B k0 k1 c0 c1) (if B = true then (0, false, 2) else if k0 = 4 then (c0, true, 0) else if k0 = 5 then (c1, true, 0) else (mx 0 (resS k0 k1 basis d).1, (resS k0 k1 basis d).2.1, (resS k0 k1 basis d).2.2)) := by
    intro B
    cases B
    · simp only [Bool.false_eq_true, if_false]
      refine Ev.step (f := fun k => if k0 = 4 then some (c0, true, 0) else if k0 = 5 then some (c1, true, 0) else (parterreref05_Resolve.f k k0 k1 basis d).bind fun b => some (mx 0 b.1, b.2.1, b.2.2)) (fun k => by simp [parterreref29_Limit.j0]) ?_
      by_cases h4 : k0 = 4
      · simp only [h4, if_true]; exact Ev.now _
      · by_cases h5 : k0 = 5
        · simp only [h4, h5, if_true, if_false]; exact Ev.now _
        · simp only [h4, h5, if_false]; exact Ev.bind (rresolve_ev h1 hb d) (Ev.now _)
    · exact Ev.step (f := fun _ => some (0, false, 2)) (fun k => by simp [parterreref29_Limit.j0]) (Ev.now _)
  unfold parterreref29_Limit.f limS
  simp only [rcontent_eq, rsize_eq, Option.bind_some]
  by_cases hc : SzP c0 ∧ SzP c1
  · simp only [hc, and_self, decide_true, if_true, not_true, false_or]
    cases d
    · simpa using hj false
    · by_cases hs : SzP basis
      · simpa [hs] using hj false
      · simpa [hs] using hj true
  · simp only [hc, decide_false, Bool.false_eq_true, if_false, not_false_eq_true, true_or, if_true]
    simpa using hj true
/-- A size kept within limits. -/
def clS (n l0 l1 h0 h1 basis : Int) (d : Bool) (c0 c1 : Int) : Int × Int :=
  if SzP n then (if (limS h0 h1 basis d c0 c1).2.2 = 0 then (if (limS l0 l1 basis d c0 c1).2.2 = 0 then
      (if (limS l0 l1 basis d c0 c1).2.1 = true then mx (if (limS h0 h1 basis d c0 c1).2.1 = true then mn n (limS h0 h1 basis d c0 c1).1 else n) (limS l0 l1 basis d c0 c1).1 else (if (limS h0 h1 basis d c0 c1).2.1 = true then mn n (limS h0 h1 basis d c0 c1).1 else n), 0)
    else (0, (limS l0 l1 basis d c0 c1).2.2)) else (0, (limS h0 h1 basis d c0 c1).2.2)) else (0, 2)
theorem clamp_ev {n l0 l1 h0 h1 basis : Int} (hl : (Lit.int .i64 l1).wf = true) (hh : (Lit.int .i64 h1).wf = true) (hb : (Lit.int .i64 basis).wf = true) (d : Bool) (c0 c1 : Int) : Ev (fun k => self_Clamp.f k n l0 l1 h0 h1 basis d c0 c1) (clS n l0 l1 h0 h1 basis d c0 c1) := by
  unfold self_Clamp.f clS
  simp only [size_eq, Option.bind_some]
  by_cases hn : SzP n
  · simp only [hn, decide_true, if_true]
    refine Ev.bind (limit_ev hh hb d c0 c1) ?_
    have hj : ∀ m : Int, Ev (fun k => self_Clamp.j0 k (limS h0 h1 basis d c0 c1).2.2 m l0 l1 basis d c0 c1) (if (limS h0 h1 basis d c0 c1).2.2 = 0 then (if (limS l0 l1 basis d c0 c1).2.2 = 0 then (if (limS l0 l1 basis d c0 c1).2.1 = true then mx m (limS l0 l1 basis d c0 c1).1 else m, 0) else (0, (limS l0 l1 basis d c0 c1).2.2)) else (0, (limS h0 h1 basis d c0 c1).2.2)) := by
      intro m
      by_cases he : (limS h0 h1 basis d c0 c1).2.2 = 0
      · simp only [he, if_true]
        refine Ev.step (f := fun k => (self_Limit.f k l0 l1 basis d c0 c1).bind fun b => if b.2.1 = true then ((self_Clamp_3.f m b.1).bind fun t => if b.2.2 = 0 then some (t, 0) else some (0, b.2.2)) else (if b.2.2 = 0 then some (m, 0) else some (0, b.2.2))) (fun k => by simp only [self_Clamp.j0, if_true]) ?_
        refine Ev.bind (limit_ev hl hb d c0 c1) ?_
        by_cases h1 : (limS l0 l1 basis d c0 c1).2.1 = true
        · by_cases h2 : (limS l0 l1 basis d c0 c1).2.2 = 0
          · simp only [h1, h2, if_true, self_Clamp_3.f, Option.bind_some]; exact Ev.now _
          · simp only [h1, h2, if_true, if_false, self_Clamp_3.f, Option.bind_some]; exact Ev.now _
        · by_cases h2 : (limS l0 l1 basis d c0 c1).2.2 = 0
          · simp only [h1, h2, if_true, Bool.false_eq_true, if_false]; exact Ev.now _
          · simp only [h1, h2, Bool.false_eq_true, if_false]; exact Ev.now _
      · simp only [he, if_false]
        exact Ev.step (f := fun _ => some (0, (limS h0 h1 basis d c0 c1).2.2)) (fun k => by simp [self_Clamp.j0, he]) (Ev.now _)
    by_cases h : (limS h0 h1 basis d c0 c1).2.1 = true
    · simp only [h, if_true, self_Clamp_2.f, Option.bind_some]
      exact hj _
    · simp only [h, Bool.false_eq_true, if_false]
      exact hj _
  · simp only [hn, decide_false, Bool.false_eq_true, if_false]; exact Ev.now _
theorem rclamp_ev {n l0 l1 h0 h1 basis : Int} (hl : (Lit.int .i64 l1).wf = true) (hh : (Lit.int .i64 h1).wf = true) (hb : (Lit.int .i64 basis).wf = true) (d : Bool) (c0 c1 : Int) : Ev (fun k => parterreref29_Clamp.f k n l0 l1 h0 h1 basis d c0 c1) (clS n l0 l1 h0 h1 basis d c0 c1) := by
  unfold parterreref29_Clamp.f clS
  simp only [rsize_eq, Option.bind_some]
  by_cases hn : SzP n
  · simp only [hn, decide_true, if_true]
    refine Ev.bind (rlimit_ev hh hb d c0 c1) ?_
    have hj : ∀ m : Int, Ev (fun k => parterreref29_Clamp.j0 k m basis d l0 l1 c0 c1) (if (limS l0 l1 basis d c0 c1).2.2 = 0 then (if (limS l0 l1 basis d c0 c1).2.1 = true then mx m (limS l0 l1 basis d c0 c1).1 else m, 0) else (0, (limS l0 l1 basis d c0 c1).2.2)) := by
      intro m
      refine Ev.step (f := fun k => (parterreref29_Limit.f k l0 l1 basis d c0 c1).bind fun b => if b.2.2 = 0 then (if b.2.1 = true then some (mx m b.1, 0) else some (m, 0)) else some (0, b.2.2)) (fun k => by simp only [parterreref29_Clamp.j0]) ?_
      refine Ev.bind (rlimit_ev hl hb d c0 c1) ?_
      by_cases h1 : (limS l0 l1 basis d c0 c1).2.1 = true
      · by_cases h2 : (limS l0 l1 basis d c0 c1).2.2 = 0
        · simp only [h1, h2, if_true]; exact Ev.now _
        · simp only [h1, h2, if_false]; exact Ev.now _
      · by_cases h2 : (limS l0 l1 basis d c0 c1).2.2 = 0
        · simp only [h1, h2, if_true, Bool.false_eq_true, if_false]; exact Ev.now _
        · simp only [h1, h2, if_false]; exact Ev.now _
    by_cases he : (limS h0 h1 basis d c0 c1).2.2 = 0
    · by_cases h : (limS h0 h1 basis d c0 c1).2.1 = true
      · simp only [he, h, if_true]
        exact hj _
      · simp only [he, h, if_true, Bool.false_eq_true, if_false]
        exact hj _
    · simp only [he, if_false]; exact Ev.now _
  · simp only [hn, decide_false, Bool.false_eq_true, if_false]; exact Ev.now _
end Go.Proofs.Ytbenanokgfphmaa.Self
