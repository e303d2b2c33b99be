/- A part of a length, in plain words: the code's and the document's. No condition beyond what each lemma states. -/
import Derived.Test.YtbenanokgfphmaaPBx7
import Derived.Test.YtbenanokgfphmaaPBx9
import Derived.Test.YtbenanokgfphmaaRMd
namespace Go.Proofs.Ytbenanokgfphmaa.Fix
open Go.RowKit Go.Proofs.Ytbenanokgfphmaa.PB Go.Proofs.YtbenanokgfphmaaW.PrintWords Go.Proofs.Ytbenanokgfphmaa.Evs
set_option linter.unusedVariables false
set_option linter.unusedSimpArgs false
theorem pis_eq (x : Int) : fixed_Is.f x = some (decide (-68719476736 ≤ x ∧ x ≤ 68719476736)) := by
  unfold fixed_Is.f
  by_cases h : x ≥ -68719476736
  · simp [h]
  · simp [h]
theorem rpis_eq (x : Int) : parterreref01_Is.f x = some (decide (-68719476736 ≤ x ∧ x ≤ 68719476736)) := pis_eq x
/-- A part of a length. -/
def pcS (a b : Int) : Int × Int := if ¬ (-68719476736 ≤ b ∧ b ≤ 68719476736) ∨ a < -1073741824 ∨ a > 1073741824 then (0, 2) else if (md b a 100000).2 = 0 then (if -68719476736 ≤ (md b a 100000).1 ∧ (md b a 100000).1 ≤ 68719476736 then ((md b a 100000).1, 0) else (0, 10)) else (0, 10)
theorem pct_j0 {a b : Int} (ha : (Lit.int .i64 a).wf = true) (hb : (Lit.int .i64 b).wf = true) (B : Bool) : Ev (fun k => fixed_Percent.j0 k a b B) (if B = true then (0, 2) else if (md b a 100000).2 = 0 then (if -68719476736 ≤ (md b a 100000).1 ∧ (md b a 100000).1 ≤ 68719476736 then ((md b a 100000).1, 0) else (0, 10)) else (0, 10)) := by
  cases B
  · refine Ev.step (f := fun k => (fixed_MulDiv.f k b a 100000).bind fun m => if m.2 = 0 then ((fixed_Is.f m.1).bind fun t => if t = true then some (m.1, 0) else some (0, 10)) else some (0, 10)) (fun k => by simp [fixed_Percent.j0]) ?_
    refine Ev.bind (muldiv_ev hb ha (lit_wf 100000 (by decide) (by decide))) ?_
    simp only [pis_eq, Option.bind_some, Bool.false_eq_true, if_false]
    by_cases h : (md b a 100000).2 = 0
    · by_cases h2 : -68719476736 ≤ (md b a 100000).1 ∧ (md b a 100000).1 ≤ 68719476736
      · simp only [h, h2, and_self, decide_true, if_true]; exact Ev.now _
      · simp only [h, h2, decide_false, Bool.false_eq_true, if_true, if_false]; exact Ev.now _
    · simp only [h, if_false]; exact Ev.now _
  · exact Ev.step (f := fun _ => some (0, 2)) (fun k => by simp [fixed_Percent.j0]) (Ev.now _)
theorem rpct_j0 {a b : Int} (ha : (Lit.int .i64 a).wf = true) (hb : (Lit.int .i64 b).wf = true) (B : Bool) : Ev (fun k => parterreref01_Percent.j0 k a b B) (if B = true then (0, 2) else if (md b a 100000).2 = 0 then (if -68719476736 ≤ (md b a 100000).1 ∧ (md b a 100000).1 ≤ 68719476736 then ((md b a 100000).1, 0) else (0, 10)) else (0, 10)) := by
  cases B
  · refine Ev.step (f := fun k => (parterreref01_MulDiv.f k b a 100000).bind fun m => if m.2 = 0 then ((parterreref01_Is.f m.1).bind fun t => if t = true then some (m.1, 0) else some (0, 10)) else some (0, 10)) (fun k => by simp [parterreref01_Percent.j0]) ?_
    refine Ev.bind (rmuldiv_ev hb ha (lit_wf 100000 (by decide) (by decide))) ?_
    simp only [rpis_eq, Option.bind_some, Bool.false_eq_true, if_false]
    by_cases h : (md b a 100000).2 = 0
    · by_cases h2 : -68719476736 ≤ (md b a 100000).1 ∧ (md b a 100000).1 ≤ 68719476736
      · simp only [h, h2, and_self, decide_true, if_true]; exact Ev.now _
      · simp only [h, h2, decide_false, Bool.false_eq_true, if_true, if_false]; exact Ev.now _
    · simp only [h, if_false]; exact Ev.now _
  · exact Ev.step (f := fun _ => some (0, 2)) (fun k => by simp [parterreref01_Percent.j0]) (Ev.now _)
theorem pct_bool (a b : Int) : (if ¬ (-68719476736 ≤ b ∧ b ≤ 68719476736) then true else if a < -1073741824 then true else decide (a > 1073741824)) = decide (¬ (-68719476736 ≤ b ∧ b ≤ 68719476736) ∨ a < -1073741824 ∨ a > 1073741824) := by
  by_cases h1 : -68719476736 ≤ b ∧ b ≤ 68719476736 <;> by_cases h2 : a < -1073741824 <;> simp [h1, h2]
theorem pct_ev {a b : Int} (ha : (Lit.int .i64 a).wf = true) (hb : (Lit.int .i64 b).wf = true) : Ev (fun k => fixed_Percent.f k a b) (pcS a b) := by
  have h := pct_j0 ha hb (decide (¬ (-68719476736 ≤ b ∧ b ≤ 68719476736) ∨ a < -1073741824 ∨ a > 1073741824))
  simp only [decide_eq_true_eq] at h
  refine Ev.congr (fun k => ?_) h
  rw [← pct_bool]
  unfold fixed_Percent.f
  rw [pis_eq]
  simp only [Option.bind_some]
  by_cases h1 : -68719476736 ≤ b ∧ b ≤ 68719476736 <;> by_cases h2 : a < -1073741824 <;> simp [h1, h2]
theorem rpct_ev {a b : Int} (ha : (Lit.int .i64 a).wf = true) (hb : (Lit.int .i64 b).wf = true) : Ev (fun k => parterreref01_Percent.f k a b) (pcS a b) := by
  have h := rpct_j0 ha hb (decide (¬ (-68719476736 ≤ b ∧ b ≤ 68719476736) ∨ a < -1073741824 ∨ a > 1073741824))
  simp only [decide_eq_true_eq] at h
  refine Ev.congr (fun k => ?_) h
  rw [← pct_bool]
  unfold parterreref01_Percent.f
  rw [rpis_eq]
  simp only [Option.bind_some]
  by_cases h1 : -68719476736 ≤ b ∧ b ≤ 68719476736 <;> by_cases h2 : a < -1073741824 <;> simp [h1, h2]
end Go.Proofs.Ytbenanokgfphmaa.Fix
