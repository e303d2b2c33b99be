-- the printed definitions of the document's Sum alone (written by a program of this session)
import Derived.Test.YtbkohlhonhmhmaaPAx12
set_option linter.unusedVariables false
namespace Go.Proofs.Ytbkohlhonhmhmaa.PA
open Go.RowKit Go.Proofs.YtbkohlhonhmhmaaW.PrintWords Go.Proofs.YtbkohlhonhmhmaaW.PrintLast Go.Proofs.YtbkohlhonhmhmaaW.PrintMore
mutual
def parterreref21_Good.j0 : Nat → Bool → Int → List (S57) → List Bool → List Int → Option (Bool)
  | 0, _, _, _, _, _ => none
  | k + 1, x35, x266000, x266001, x266002, x266003 => if x35 = true then (some false) else (parterreref21_Good.l0 k 0 x266000 x266001 x266002 x266003)
def parterreref21_Good.l0 : Nat → Int → Int → List (S57) → List Bool → List Int → Option (Bool)
  | 0, _, _, _, _, _ => none
  | k + 1, x3, x266000, x266001, x266002, x266003 => if x3 < (x266001.length : Int) then (if 0 ≤ x3 then ((parterreref06_Right.f k ((rd_T57 x266001 x3).f0.f0) ((rd_T57 x266001 x3).f0.f1) ((rd_T57 x266001 x3).f1.f0) ((rd_T57 x266001 x3).f1.f1) ((rd_T57 x266001 x3).f2) ((rd_T57 x266001 x3).f3.f0) ((rd_T57 x266001 x3).f3.f1)).bind fun t267 => (if t267 = true then (if x3 < (x266003.length : Int) then ((parterreref21_within.f (rd x266003 x3)).bind fun t269 => (if t269 = true then (if x3 = 0 then (if (rd x266003 x3) = 0 then (parterreref21_Good.l0 k (wrap64 (x3 + 1)) x266000 x266001 x266002 x266003) else (some false)) else (if x3 < (x266002.length : Int) then (if rdOf false x266002 x3 = true then (if (rd x266003 x3) = 0 then (parterreref21_Good.l0 k (wrap64 (x3 + 1)) x266000 x266001 x266002 x266003) else (some false)) else (parterreref21_Good.l0 k (wrap64 (x3 + 1)) x266000 x266001 x266002 x266003)) else (none))) else (some false))) else (none)) else (some false))) else (none)) else (some true)
end
def parterreref21_Good.f (k : Nat) (a0_0 : Int) (l0_1 : List (S57)) (l0_2 : List Bool) (l0_3 : List Int) : Option (Bool) := if (l0_1.length : Int) > 40000 then (parterreref21_Good.j0 k true a0_0 l0_1 l0_2 l0_3) else (if (l0_2.length : Int) = (l0_1.length : Int) then (if (l0_3.length : Int) = (l0_1.length : Int) then (if a0_0 > 0 then (parterreref21_Good.j0 k true a0_0 l0_1 l0_2 l0_3) else (parterreref21_Good.j0 k (decide (a0_0 < (-10000))) a0_0 l0_1 l0_2 l0_3)) else (parterreref21_Good.j0 k true a0_0 l0_1 l0_2 l0_3)) else (parterreref21_Good.j0 k true a0_0 l0_1 l0_2 l0_3))
mutual
def parterreref27_Sum.j0 : Nat → List Int → Bool → Int → List (S57) → List Bool → List Int → Option (Int × Int)
  | 0, _, _, _, _, _, _ => none
  | k + 1, x1, x19, x274000, x274001, x274002, x274003 => if x19 = true then (some (0, 2)) else (parterreref27_Sum.l0 k x1 0 x274000 x274001 x274002 x274003)
def parterreref27_Sum.l0 : Nat → List Int → Int → Int → List (S57) → List Bool → List Int → Option (Int × Int)
  | 0, _, _, _, _, _, _ => none
  | k + 1, x1, x6, x274000, x274001, x274002, x274003 => if x6 < (x1.length : Int) then (if 0 ≤ x6 then (if (rd x1 x6) < 0 then (some (0, 2)) else (if (rd x1 x6) > 68719476736 then (some (0, 2)) else (parterreref27_Sum.l0 k x1 (wrap64 (x6 + 1)) x274000 x274001 x274002 x274003))) else (none)) else (parterreref27_Sum.l1 k x1 0 0 x274000 x274001 x274002 x274003)
def parterreref27_Sum.l1 : Nat → List Int → Int → Int → Int → List (S57) → List Bool → List Int → Option (Int × Int)
  | 0, _, _, _, _, _, _, _ => none
  | k + 1, x1, x7, x8, x274000, x274001, x274002, x274003 => if x8 < (x1.length : Int) then (if 0 ≤ x8 then (if x8 < (x274003.length : Int) then (if (wrap64 ((wrap64 (x7 + (rd x1 x8))) + (rd x274003 x8))) > 68719476736 then (some (0, 10)) else (parterreref27_Sum.l1 k x1 (wrap64 ((wrap64 (x7 + (rd x1 x8))) + (rd x274003 x8))) (wrap64 (x8 + 1)) x274000 x274001 x274002 x274003)) else (none)) else (none)) else (some (x7, 0))
end
def parterreref27_Sum.f (k : Nat) (a0_0 : Int) (l0_1 : List (S57)) (l0_2 : List Bool) (l0_3 : List Int) (l1 : List Int) : Option (Int × Int) := (parterreref21_Good.f k a0_0 l0_1 l0_2 l0_3).bind fun t274 => (if t274 = true then (parterreref27_Sum.j0 k l1 ((l1.length : Int) != (l0_1.length : Int)) a0_0 l0_1 l0_2 l0_3) else (parterreref27_Sum.j0 k l1 true a0_0 l0_1 l0_2 l0_3))
def parterreref01_Div.f (a0 : Int) (a1 : Int) : Option (Int) := if a1 = 0 then (some 0) else (if a1 = (-1) then (some (wrap64 (-a0))) else (if (Int.tmod a0 a1) = 0 then (some (wrap64 (Int.tdiv a0 a1))) else (if ((decide (a0 < 0)) != (decide (a1 < 0))) = true then (some (wrap64 ((wrap64 (Int.tdiv a0 a1)) - 1))) else (some (wrap64 (Int.tdiv a0 a1))))))
def parterreref01_Wide_twice.f (a0_0 : Int) (a0_1 : Int) (a1 : Int) : Option (Int × Int) := some (IntKind.u64.wrap ((IntKind.u64.wrap (2 * a0_0)) + (IntKind.u64.wrap (Int.tdiv a0_1 9223372036854775808))), IntKind.u64.wrap ((IntKind.u64.wrap (2 * a0_1)) + a1))
end Go.Proofs.Ytbkohlhonhmhmaa.PA
