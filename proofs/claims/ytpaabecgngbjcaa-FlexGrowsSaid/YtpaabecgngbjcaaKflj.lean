/- What the tree comes to that stores how big each track is to be. No condition beyond what each states. -/
import Derived.Test.YtpaabecgngbjcaaT
import Derived.Test.YtpaabecgngbjcaaKfli
set_option linter.unusedVariables false
set_option linter.unusedSimpArgs false
set_option maxRecDepth 10000
namespace Go.Proofs.Ytpaabecgngbjcaa.T
open Go Go.Proofs.Ytpaabecgngbjcaa.Sx Go.Proofs.Ytpaabecgngbjcaa.M

/-- What is stored for those that are flexible, the newest first. -/
def mapU (unit : Int) : Nat → List Sz → List (List PV) → List (List PV)
  | _, [], m => m
  | i, x :: s, m => mapU unit (i + 1) s (if x.mx = 5 then [I i, I (gU unit x)] :: m else m)
theorem mapU_out (unit : Int) : ∀ (s : List Sz) (i : Nat) (m : List (List PV)) (j : Int), (j < i ∨ i + s.length ≤ j) → mapGet (mapU unit i s m) j = mapGet m j
  | [], _, _, _, _ => rfl
  | x :: s, i, m, j, h => by
    simp only [List.length_cons] at h
    rw [mapU, mapU_out unit s (i + 1) _ j (by omega)]
    split
    · rw [mapGet]
      have : ¬ (i : Int) = j := by omega
      show (if (i : Int) = j then _ else _) = _
      rw [if_neg this]
    · rfl
theorem growU_eq (unit : Int) : ∀ (s : List Sz) (i : Nat) (m : List (List PV)), (∀ j : Int, i ≤ j → mapGet m j = 0) → ∀ g : Int → Int, (∀ j : Int, i ≤ j → g j = mapGet (mapU unit i s m) j) → growS g i s = growU unit s
  | [], _, _, _, _, _ => rfl
  | x :: s, i, m, hm, g, hg => by
    have hh : mapGet (mapU unit i (x :: s) m) i = gU unit x := by
      rw [mapU, mapU_out unit s (i + 1) _ i (by omega)]
      split
      · show (if (i : Int) = i then gU unit x else _) = _
        rw [if_pos rfl]
      · rename_i hx
        rw [hm i (Int.le_refl _), gU, if_neg hx]
    simp only [growS, growU, List.map_cons]
    rw [hg i (Int.le_refl _), hh]
    congr 1
    refine growU_eq unit s (i + 1) (if x.mx = 5 then [I i, I (gU unit x)] :: m else m) (fun j hj => ?_) g (fun j hj => hg j (by omega))
    split
    · show (if (i : Int) = j then _ else mapGet m j) = 0
      rw [if_neg (by omega)]
      exact hm j (by omega)
    · exact hm j (by omega)
end Go.Proofs.Ytpaabecgngbjcaa.T
