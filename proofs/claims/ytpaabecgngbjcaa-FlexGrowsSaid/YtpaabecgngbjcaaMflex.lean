/- How a space is shared among flexible tracks: plain laws, no program in sight. No condition beyond what each states. -/
import Derived.Test.YtpaabecgngbjcaaKw
import Derived.Test.YtpaabecgngbjcaaMmul
set_option linter.unusedVariables false
set_option linter.unusedSimpArgs false
namespace Go.Proofs.Ytpaabecgngbjcaa.M
open Go Go.Proofs.Ytpaabecgngbjcaa.Sx

/-- What is left of a space, with some stiff. -/
def leftS : List Sz → List Bool → Int → Int
  | x :: s, b :: st, n => leftS s st (if x.mx ≠ 5 ∨ b = true then max 0 (n - x.base) else n)
  | _, _, n => n
/-- The parts of those that are not stiff. -/
def partsF : List Sz → List Bool → Int → Int
  | x :: s, b :: st, n => partsF s st (if x.mx ≠ 5 ∨ b = true then n else n + x.fr)
  | _, _, n => n
/-- Who is not stiff. -/
def whoF : Nat → List Sz → List Bool → List Int
  | i, x :: s, b :: st => if x.mx ≠ 5 ∨ b = true then whoF (i + 1) s st else (i : Int) :: whoF (i + 1) s st
  | _, _, _ => []
def partF (L N fr : Int) : Int := (md L fr (max N 1000)).1
/-- Who is stiff then. -/
def stepF (L N : Int) : List Sz → List Bool → List Bool
  | x :: s, b :: st => (b || (decide (x.mx = 5) && decide (partF L N x.fr < x.base))) :: stepF L N s st
  | _, st => st
def stepS (s : List Sz) (space : Int) (st : List Bool) : List Bool := stepF (leftS s st space) (partsF s st 0) s st
def iterS (s : List Sz) (space : Int) : Nat → List Bool → List Bool
  | 0, st => st
  | k + 1, st => iterS s space k (stepS s space st)
def cntT : List Bool → Nat
  | [] => 0
  | true :: r => cntT r + 1
  | false :: r => cntT r
theorem cntT_le : ∀ st : List Bool, cntT st ≤ st.length
  | [] => Nat.le_refl _
  | true :: r => by simp only [cntT, List.length_cons]; have := cntT_le r; omega
  | false :: r => by simp only [cntT, List.length_cons]; have := cntT_le r; omega
theorem stepF_length (L N : Int) : ∀ (s : List Sz) (st : List Bool), (stepF L N s st).length = st.length
  | [], st => by cases st <;> rfl
  | x :: s, [] => rfl
  | x :: s, b :: st => by simp [stepF, stepF_length L N s st]
theorem stepF_cnt (L N : Int) : ∀ (s : List Sz) (st : List Bool), cntT st ≤ cntT (stepF L N s st) ∧ (cntT st = cntT (stepF L N s st) → stepF L N s st = st)
  | [], st => by cases st <;> simp [stepF]
  | x :: s, [] => by simp [stepF]
  | x :: s, b :: st => by
    obtain ⟨h1, h2⟩ := stepF_cnt L N s st
    simp only [stepF]
    cases b with
    | true => simp only [Bool.true_or, cntT]; exact ⟨by omega, fun h => by rw [h2 (by omega)]⟩
    | false =>
      cases hc : (decide (x.mx = 5) && decide (partF L N x.fr < x.base)) with
      | true => simp only [Bool.false_or, cntT]; exact ⟨by omega, fun h => by omega⟩
      | false => simp only [Bool.false_or, cntT]; exact ⟨h1, fun h => by rw [h2 h]⟩
theorem iterS_fix {s : List Sz} {space : Int} {st : List Bool} (h : stepS s space st = st) : ∀ k, iterS s space k st = st
  | 0 => rfl
  | k + 1 => by rw [iterS, h, iterS_fix h k]
theorem stepS_length (s : List Sz) (space : Int) (st : List Bool) : (stepS s space st).length = st.length := stepF_length _ _ _ _
/-- After so many turns nothing turns any more. -/
theorem iterS_done (s : List Sz) (space : Int) : ∀ (k : Nat) (st : List Bool), st.length < k + cntT st + 1 → stepS s space (iterS s space k st) = iterS s space k st
  | 0, st, h => by
    have h1 := (stepF_cnt (leftS s st space) (partsF s st 0) s st)
    have h2 := cntT_le (stepF (leftS s st space) (partsF s st 0) s st)
    rw [stepF_length] at h2
    exact h1.2 (by omega)
  | k + 1, st, h => by
    have h1 := (stepF_cnt (leftS s st space) (partsF s st 0) s st)
    by_cases hf : stepS s space st = st
    · rw [iterS_fix hf]
      exact hf
    · rw [iterS]
      refine iterS_done s space k _ ?_
      rw [stepS_length]
      have : cntT st ≠ cntT (stepF (leftS s st space) (partsF s st 0) s st) := fun e => hf (h1.2 e)
      show st.length < k + cntT (stepF _ _ s st) + 1
      omega
/-- Whichever way is gone to where nothing turns: it is the same. -/
theorem iterS_eq {s : List Sz} {space : Int} : ∀ (a b : Nat) (st : List Bool), stepS s space (iterS s space a st) = iterS s space a st → a ≤ b → iterS s space b st = iterS s space a st
  | 0, b, st, h, _ => iterS_fix h b
  | a + 1, 0, st, h, hb => by omega
  | a + 1, b + 1, st, h, hb => by rw [iterS, iterS]; exact iterS_eq a b _ h (by omega)
end Go.Proofs.Ytpaabecgngbjcaa.M
