/- What the printed Inner and Used, and the document's, compute, in plain words. No condition beyond what each lemma states. -/
import Derived.Test.YtbenanokgfphmaaPBx14
import Derived.Test.YtbenanokgfphmaaPBx12
import Derived.Test.YtbenanokgfphmaaLim
namespace Go.Proofs.Ytbenanokgfphmaa.Self
open Go.RowKit Go.Proofs.Ytbenanokgfphmaa.PB Go.Proofs.YtbenanokgfphmaaW.PrintWords Go.Proofs.YtbenanokgfphmaaW.PrintMore Go.Proofs.Ytbenanokgfphmaa.Evs
set_option linter.unusedVariables false
set_option linter.unusedSimpArgs false
theorem mg_in {u : Bool} {n : Int} (h : MgP u n) : -68719476736 ≤ n ∧ n ≤ 68719476736 := ⟨h.1, h.2.1⟩
/-- An area without margins. -/
def inS (area : Int) (au : Bool) (an : Int) (bu : Bool) (bn : Int) : Int := if SzP area ∧ MgP au an ∧ MgP bu bn then mx 0 (mn (area - an - bn) 68719476736) else 0
theorem inner_eq (area : Int) (au : Bool) (an : Int) (bu : Bool) (bn : Int) : self_Inner.f area au an bu bn = some (inS area au an bu bn) := by
  unfold self_Inner.f inS
  simp only [size_eq, margin_eq, Option.bind_some, decide_eq_true_eq]
  by_cases h1 : SzP area
  · by_cases h2 : MgP au an
    · by_cases h3 : MgP bu bn
      · have := h1.1
        have := h1.2
        have := mg_in h2
        have := mg_in h3
        simp only [h1, h2, h3, if_true, and_self, fixed_Clamp.f, Option.bind_some]
        rw [wrap_in (area - an) (by omega) (by omega), wrap_in (area - an - bn) (by omega) (by omega)]
      · simp only [h1, h2, h3, if_true, if_false, and_false]
    · simp only [h1, h2, if_true, if_false, false_and, and_false]
  · simp only [h1, if_false, false_and]
theorem rinner_eq (area : Int) (au : Bool) (an : Int) (bu : Bool) (bn : Int) : parterreref29_Inner.f area au an bu bn = some (inS area au an bu bn) := by
  unfold parterreref29_Inner.f inS
  simp only [rsize_eq, rmargin_eq, Option.bind_some, decide_eq_true_eq]
  by_cases h1 : SzP area
  · by_cases h2 : MgP au an
    · by_cases h3 : MgP bu bn
      · have := h1.1
        have := h1.2
        have := mg_in h2
        have := mg_in h3
        simp only [h1, h2, h3, if_true, and_self]
        rw [wrap_in (area - an) (by omega) (by omega), wrap_in (area - an - bn) (by omega) (by omega)]
        congr 1
        unfold mx mn
        (repeat' split) <;> omega
      · simp only [h1, h2, h3, if_true, if_false, and_false]
    · simp only [h1, h2, if_true, if_false, false_and, and_false]
  · simp only [h1, if_false, false_and]
/-- A box's size in an area. -/
def usS (v0 v1 l0 l1 m0 m1 area : Int) (au : Bool) (an : Int) (bu : Bool) (bn c0 c1 : Int) (st : Bool) : Int × Int :=
  if SzP area ∧ MgP au an ∧ MgP bu bn ∧ (SzP c0 ∧ SzP c1) then
    (if (limS v0 v1 area true c0 c1).2.2 = 0 then
      (if (limS v0 v1 area true c0 c1).2.1 = true then clS (limS v0 v1 area true c0 c1).1 l0 l1 m0 m1 area true c0 c1
        else if (st && (!au && !bu)) = true then clS (inS area au an bu bn) l0 l1 m0 m1 area true c0 c1 else clS (mx c0 (mn (inS area au an bu bn) c1)) l0 l1 m0 m1 area true c0 c1)
      else (0, (limS v0 v1 area true c0 c1).2.2))
  else (0, 2)
theorem used_ev {v0 v1 l0 l1 m0 m1 area : Int} (hv : (Lit.int .i64 v1).wf = true) (hl : (Lit.int .i64 l1).wf = true) (hh : (Lit.int .i64 m1).wf = true) (ha : (Lit.int .i64 area).wf = true) (au : Bool) (an : Int) (bu : Bool) (bn c0 c1 : Int) (st : Bool) :
    Ev (fun k => self_Used.f k v0 v1 l0 l1 m0 m1 area au an bu bn c0 c1 st) (usS v0 v1 l0 l1 m0 m1 area au an bu bn c0 c1 st) := by
  have hbad : Ev (fun k => self_Used.j0 k area st true v0 v1 l0 l1 m0 m1 au an bu bn c0 c1) (0, 2) := Ev.step (f := fun _ => some (0, 2)) (fun k => by simp only [self_Used.j0, if_true]) (Ev.now _)
  have hj1 : ∀ z : Bool, Ev (fun k => self_Used.j1 k area z l0 l1 m0 m1 au an bu bn c0 c1) (if z = true then clS (inS area au an bu bn) l0 l1 m0 m1 area true c0 c1 else clS (mx c0 (mn (inS area au an bu bn) c1)) l0 l1 m0 m1 area true c0 c1) := by
    intro z
    cases z with
    | true =>
      refine Ev.step (f := fun k => (self_Clamp.f k (inS area au an bu bn) l0 l1 m0 m1 area true c0 c1).bind fun b => some (b.1, b.2)) (fun k => by simp only [self_Used.j1, if_true, inner_eq, Option.bind_some]) ?_
      exact Ev.bind (clamp_ev hl hh ha true c0 c1) (Ev.now _)
    | false =>
      refine Ev.step (f := fun k => (self_Clamp.f k (mx c0 (mn (inS area au an bu bn) c1)) l0 l1 m0 m1 area true c0 c1).bind fun b => some (b.1, b.2)) (fun k => by simp only [self_Used.j1, Bool.false_eq_true, if_false, inner_eq, fixed_Clamp.f, Option.bind_some]) ?_
      exact Ev.bind (clamp_ev hl hh ha true c0 c1) (Ev.now _)
  unfold self_Used.f usS
  simp only [size_eq, margin_eq, content_eq, Option.bind_some, decide_eq_true_eq]
  by_cases h1 : SzP area
  · by_cases h2 : MgP au an
    · by_cases h3 : MgP bu bn
      · by_cases h4 : SzP c0 ∧ SzP c1
        · simp only [h1, h2, h3, h4, if_true, and_self, decide_true, Bool.not_true]
          refine Ev.step (f := fun k => (self_Limit.f k v0 v1 area true c0 c1).bind fun bt254 => (if bt254.2.2 = 0 then (if bt254.2.1 = true then ((self_Clamp.f k bt254.1 l0 l1 m0 m1 area true c0 c1).bind fun bt257 => (some (bt257.1, bt257.2))) else (if st = true then (if (!au) = true then (self_Used.j1 k area (!bu) l0 l1 m0 m1 au an bu bn c0 c1) else (self_Used.j1 k area false l0 l1 m0 m1 au an bu bn c0 c1)) else (self_Used.j1 k area false l0 l1 m0 m1 au an bu bn c0 c1))) else (some (0, bt254.2.2)))) (fun k => by simp only [self_Used.j0, Bool.false_eq_true, if_false]) ?_
          refine Ev.bind (limit_ev hv ha true c0 c1) ?_
          by_cases h5 : (limS v0 v1 area true c0 c1).2.2 = 0
          · simp only [h5, if_true]
            by_cases h6 : (limS v0 v1 area true c0 c1).2.1 = true
            · simp only [h6, if_true]
              exact Ev.bind (clamp_ev hl hh ha true c0 c1) (Ev.now _)
            · simp only [h6, Bool.false_eq_true, if_false]
              cases st with
              | false => exact hj1 false
              | true =>
                cases au with
                | true => exact hj1 false
                | false =>
                  cases bu with
                  | true => exact hj1 false
                  | false => exact hj1 true
          · simp only [h5, if_false]; exact Ev.now _
        · simp only [h1, h2, h3, h4, if_true, if_false, and_false, decide_false, Bool.not_false]
          exact hbad
      · simp only [h1, h2, h3, if_true, if_false, false_and, and_false]
        exact hbad
    · simp only [h1, h2, if_true, if_false, false_and, and_false]
      exact hbad
  · simp only [h1, if_false, false_and]
    exact hbad
theorem rused_ev {v0 v1 l0 l1 m0 m1 area : Int} (hv : (Lit.int .i64 v1).wf = true) (hl : (Lit.int .i64 l1).wf = true) (hh : (Lit.int .i64 m1).wf = true) (ha : (Lit.int .i64 area).wf = true) (au : Bool) (an : Int) (bu : Bool) (bn c0 c1 : Int) (st : Bool) :
    Ev (fun k => parterreref29_Used.f k v0 v1 l0 l1 m0 m1 area au an bu bn c0 c1 st) (usS v0 v1 l0 l1 m0 m1 area au an bu bn c0 c1 st) := by
  have hbad : Ev (fun k => parterreref29_Used.j0 k area st true v0 v1 l0 l1 m0 m1 au an bu bn c0 c1) (0, 2) := Ev.step (f := fun _ => some (0, 2)) (fun k => by simp only [parterreref29_Used.j0, if_true]) (Ev.now _)
  have hj2 : ∀ n : Int, Ev (fun k => parterreref29_Used.j2 k area n l0 l1 m0 m1 c0 c1) (clS n l0 l1 m0 m1 area true c0 c1) := by
    intro n
    by_cases hn : SzP n
    · refine Ev.step (f := fun k => (parterreref29_Clamp.f k n l0 l1 m0 m1 area true c0 c1).bind fun b => some (b.1, b.2)) (fun k => by simp only [parterreref29_Used.j2, rsize_eq, hn, decide_true, Option.bind_some, if_true]) ?_
      exact Ev.bind (rclamp_ev hl hh ha true c0 c1) (Ev.now _)
    · have e : clS n l0 l1 m0 m1 area true c0 c1 = (0, 2) := by unfold clS; rw [if_neg hn]
      rw [e]
      exact Ev.step (f := fun _ => some (0, 2)) (fun k => by simp only [parterreref29_Used.j2, rsize_eq, hn, decide_false, Option.bind_some, Bool.false_eq_true, if_false]) (Ev.now _)
  have hmn : ∀ a b : Int, mn a b = mn b a := by intro a b; unfold mn; (repeat' split) <;> omega
  have hj1 : ∀ (n : Int) (y z : Bool), Ev (fun k => parterreref29_Used.j1 k area n y z l0 l1 m0 m1 au an bu bn c0 c1) (if z = true then clS (inS area au an bu bn) l0 l1 m0 m1 area true c0 c1 else if y = true then clS n l0 l1 m0 m1 area true c0 c1 else clS (mx c0 (mn (inS area au an bu bn) c1)) l0 l1 m0 m1 area true c0 c1) := by
    intro n y z
    cases z with
    | true => exact Ev.step (fun k => by simp only [parterreref29_Used.j1, if_true, rinner_eq, Option.bind_some]) (hj2 _)
    | false =>
      cases y with
      | true => exact Ev.step (fun k => by simp only [parterreref29_Used.j1, Bool.false_eq_true, if_false, if_true]) (hj2 _)
      | false =>
        simp only [Bool.false_eq_true, if_false]
        rw [hmn]
        exact Ev.step (fun k => by simp only [parterreref29_Used.j1, Bool.false_eq_true, if_false, rinner_eq, Option.bind_some]) (hj2 _)
  unfold parterreref29_Used.f usS
  simp only [rsize_eq, rmargin_eq, rcontent_eq, Option.bind_some, decide_eq_true_eq]
  by_cases h1 : SzP area
  · by_cases h2 : MgP au an
    · by_cases h3 : MgP bu bn
      · by_cases h4 : SzP c0 ∧ SzP c1
        · simp only [h1, h2, h3, h4, if_true, and_self, decide_true, Bool.not_true]
          refine Ev.step (f := fun k => (parterreref29_Limit.f k v0 v1 area true c0 c1).bind fun bt283 => (if bt283.2.2 = 0 then (if bt283.2.1 = true then (parterreref29_Used.j1 k area bt283.1 true false l0 l1 m0 m1 au an bu bn c0 c1) else (if st = true then (if au = true then (parterreref29_Used.j1 k area bt283.1 false false l0 l1 m0 m1 au an bu bn c0 c1) else (parterreref29_Used.j1 k area bt283.1 false (!bu) l0 l1 m0 m1 au an bu bn c0 c1)) else (parterreref29_Used.j1 k area bt283.1 false false l0 l1 m0 m1 au an bu bn c0 c1))) else (some (0, bt283.2.2)))) (fun k => by simp only [parterreref29_Used.j0, Bool.false_eq_true, if_false]) ?_
          refine Ev.bind (rlimit_ev hv ha true c0 c1) ?_
          by_cases h5 : (limS v0 v1 area true c0 c1).2.2 = 0
          · simp only [h5, if_true]
            by_cases h6 : (limS v0 v1 area true c0 c1).2.1 = true
            · simp only [h6, if_true]
              exact hj1 _ true false
            · simp only [h6, Bool.false_eq_true, if_false]
              cases st with
              | false => exact hj1 _ false false
              | true =>
                cases au with
                | true => exact hj1 _ false false
                | false =>
                  cases bu with
                  | true => exact hj1 _ false false
                  | false => exact hj1 _ false true
          · simp only [h5, if_false]; exact Ev.now _
        · simp only [h1, h2, h3, h4, if_true, if_false, and_false, decide_false, Bool.not_false]
          exact hbad
      · simp only [h1, h2, h3, if_true, if_false, false_and, and_false]
        exact hbad
    · simp only [h1, h2, if_true, if_false, false_and, and_false]
      exact hbad
  · simp only [h1, if_false, false_and]
    exact hbad
end Go.Proofs.Ytbenanokgfphmaa.Self
