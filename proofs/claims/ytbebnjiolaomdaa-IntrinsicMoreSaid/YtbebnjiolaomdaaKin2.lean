/- What the document's tree comes to that tells whether tracks, and what is wanted of them, may be. No condition beyond what each states. -/
import Derived.Test.YtbebnjiolaomdaaT
import Derived.Test.YtbebnjiolaomdaaKin1
set_option linter.unusedVariables false
set_option linter.unusedSimpArgs false
set_option maxRecDepth 10000
namespace Go.Proofs.Ytbebnjiolaomdaa.T
open Go Go.Proofs.Ytbebnjiolaomdaa.Sx Go.Proofs.Ytbebnjiolaomdaa.M

def wOk (n : Nat) (w : Wn) : Bool := !decide ((w.fm < 0 ∨ w.to ≤ w.fm) ∨ (n : Int) < w.to) && (wi w.least && (wi w.mn && wi w.mx))
theorem okW_wOk (n : Nat) : okW n = wOk n := by
  funext w
  unfold okW wOk
  have : (decide (0 ≤ w.fm) && decide (w.fm < w.to) && decide (w.to ≤ (n : Int))) = !decide ((w.fm < 0 ∨ w.to ≤ w.fm) ∨ (n : Int) < w.to) := by
    rw [Bool.eq_iff_iff]
    simp only [Bool.and_eq_true, decide_eq_true_eq, Bool.not_eq_true', decide_eq_false_iff_not]
    omega
  rw [this]
  simp only [Bool.and_assoc]
def bothB : List Sz → List Int → Bool
  | x :: s, y :: a => decide (Gd x) && wi y && bothB s a
  | _, _ => true
theorem bothB_eq : ∀ (s : List Sz) (a : List Int), a.length = s.length → bothB s a = (s.all (fun x => decide (Gd x)) && a.all wi)
  | [], [], _ => rfl
  | x :: s, y :: a, h => by
    simp only [bothB, List.all_cons]
    rw [bothB_eq s a (by simpa using h)]
    cases decide (Gd x) <;> cases wi y <;> cases s.all (fun x => decide (Gd x)) <;> cases a.all wi <;> rfl
  | [], _ :: _, h => by simp at h
  | _ :: _, [], h => by simp at h
end Go.Proofs.Ytbebnjiolaomdaa.T
