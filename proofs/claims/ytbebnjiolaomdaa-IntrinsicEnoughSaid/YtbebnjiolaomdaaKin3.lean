/- What the trees come to that tell what is wanted, as far as fixed tracks let it. No condition beyond what each states. -/
import Derived.Test.YtbebnjiolaomdaaT
import Derived.Test.YtbebnjiolaomdaaKin2
set_option linter.unusedVariables false
set_option linter.unusedSimpArgs false
set_option maxRecDepth 10000
namespace Go.Proofs.Ytbebnjiolaomdaa.T
open Go Go.Proofs.Ytbebnjiolaomdaa.Sx Go.Proofs.Ytbebnjiolaomdaa.M
theorem row_cut {α : Type} (e : α → List PV) (l : List α) (i n : Nat) : ((l.map e).drop i).take n = ((l.drop i).take n).map e := by rw [List.map_take, List.map_drop]
def limit (x : Sz) : Int := if x.fit then max x.cap x.base else x.lim
theorem loose_sp (x : Sz) : Says tr c_intrinsic_loose (eSz x) [B (decide (x.mx ≠ 1))] := by
 refine Says.of (t := intrinsic_loose) rfl ?_
 rw [u_intrinsic_loose]
 simp only [eSz]
 simp (disch := first | omega | (simp only [ln0]; omega)) only [rs, reduceIte, Nat.reduceAdd]
 have : (x.mx != 1) = decide (x.mx ≠ 1) := by by_cases h : x.mx = 1 <;> simp [h]
 rw [this]
theorem limit_sp (x : Sz) : Says tr c_intrinsic_limit (eSz x) [I (limit x)] := by
 refine Says.of (t := intrinsic_limit) rfl ?_
 rw [u_intrinsic_limit]
 simp only [eSz]
 simp (disch := first | omega | (simp only [ln0]; omega)) only [rs, reduceIte, Nat.reduceAdd]
 unfold limit
 refine br_split ?_ ?_ <;> intro _ <;> rename_i h <;> simp [h]
def gapsW : List Int → Int → Int
 | [], n => n
 | x :: r, n => gapsW r (IntKind.i64.wrap (n + x))
def limG (w : Wn) (n : Int) : List Sz → Int → Int
 | [], most => max (min n most) w.least
 | x :: r, most => if x.mx ≠ 1 ∧ x.fit = false then max n w.least else limG w n r (IntKind.i64.wrap (most + limit x))
end Go.Proofs.Ytbebnjiolaomdaa.T
