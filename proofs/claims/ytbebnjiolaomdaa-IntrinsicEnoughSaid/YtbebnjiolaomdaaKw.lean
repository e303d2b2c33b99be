/- Typed elements of rows, and how they are read in written trees. Plain definitions and lemmas. No condition beyond what each states. -/
import Derived.Test.YtbebnjiolaomdaaSx6
set_option linter.unusedVariables false
set_option linter.unusedSimpArgs false
namespace Go.Proofs.Ytbebnjiolaomdaa.M
open Go Go.Proofs.Ytbebnjiolaomdaa.Sx
structure Sz where
 mn : Int
 mx : Int
 fr : Int
 fit : Bool
 cap : Int
 base : Int
 lim : Int
 deriving DecidableEq
@[reducible] def eSz (x : Sz) : List PV := [I x.mn, I x.mx, I x.fr, B x.fit, I x.cap, I x.base, I x.lim]
theorem sz_at0 (l : List Sz) (i : Nat) (h : i < l.length) (k : LK) : cellAt (l.map eSz) (i : Int) 0 k = I l[i].mn := by rw [xcell_at l i h]; rfl
theorem sz_at1 (l : List Sz) (i : Nat) (h : i < l.length) (k : LK) : cellAt (l.map eSz) (i : Int) 1 k = I l[i].mx := by rw [xcell_at l i h]; rfl
theorem sz_at2 (l : List Sz) (i : Nat) (h : i < l.length) (k : LK) : cellAt (l.map eSz) (i : Int) 2 k = I l[i].fr := by rw [xcell_at l i h]; rfl
theorem sz_at3 (l : List Sz) (i : Nat) (h : i < l.length) (k : LK) : cellAt (l.map eSz) (i : Int) 3 k = B l[i].fit := by rw [xcell_at l i h]; rfl
theorem sz_at4 (l : List Sz) (i : Nat) (h : i < l.length) (k : LK) : cellAt (l.map eSz) (i : Int) 4 k = I l[i].cap := by rw [xcell_at l i h]; rfl
theorem sz_at5 (l : List Sz) (i : Nat) (h : i < l.length) (k : LK) : cellAt (l.map eSz) (i : Int) 5 k = I l[i].base := by rw [xcell_at l i h]; rfl
theorem sz_at6 (l : List Sz) (i : Nat) (h : i < l.length) (k : LK) : cellAt (l.map eSz) (i : Int) 6 k = I l[i].lim := by rw [xcell_at l i h]; rfl
theorem sz_snoc (l : List Sz) (a b c : Int) (d : Bool) (e f g : Int) : PV.row (l.map eSz ++ [[I a, I b, I c, B d, I e, I f, I g]]) = rowOf eSz (l ++ [⟨a, b, c, d, e, f, g⟩]) := xmap_snoc l _ rfl
theorem sz_set (l : List Sz) (i : Nat) (a b c : Int) (d : Bool) (e f g : Int) : PV.row ((l.map eSz).set i [I a, I b, I c, B d, I e, I f, I g]) = rowOf eSz (l.set i ⟨a, b, c, d, e, f, g⟩) := xmap_set l i _ rfl
theorem sz_put5 (l : List Sz) (i : Nat) (x : Int) : PV.row ((l.map eSz).modify i (·.set 5 (I x))) = rowOf eSz (l.modify i fun y => { y with base := x }) := rowOf_put l i 5 (I x) _ (fun y => rfl)
theorem sz_put6 (l : List Sz) (i : Nat) (x : Int) : PV.row ((l.map eSz).modify i (·.set 6 (I x))) = rowOf eSz (l.modify i fun y => { y with lim := x }) := rowOf_put l i 6 (I x) _ (fun y => rfl)
def Gd (x : Sz) : Prop :=
 1 ≤ x.mn ∧ x.mn ≤ 4 ∧ 1 ≤ x.mx ∧ x.mx ≤ 5 ∧ 0 ≤ x.fr ∧ x.fr ≤ 1073741824 ∧ (x.mx ≠ 5 → x.fr = 0) ∧ 0 ≤ x.cap ∧ x.cap ≤ 68719476736 ∧ (x.fit = false → x.cap = 0) ∧ (x.fit = true → x.mn = 2 ∧ x.mx = 4) ∧
 0 ≤ x.base ∧ x.base < 1125899906842624 ∧ x.base ≤ x.lim ∧ x.lim ≤ 1125899906842624
instance (x : Sz) : Decidable (Gd x) := by unfold Gd; infer_instance
theorem sz_open {p : PV} (h : (LK.row [.int .i64, .int .i64, .int .i64, .bool, .int .i64, .int .i64, .int .i64]).ok p) : ∃ l : List Sz, p = rowOf eSz l := by
 refine row_open (W := fun _ => True) (fun x hx _ => ?_) h (fun _ _ => trivial)
 match x, hx with
 | [.int k0 a, .int k1 b, .int k2 c, .bool d, .int k4 e, .int k5 f, .int k6 g], hx =>
  simp only [LK.oks, LK.ok] at hx
  obtain ⟨rfl, rfl, rfl, _, rfl, rfl, rfl, _⟩ := hx
  exact ⟨⟨a, b, c, d, e, f, g⟩, rfl⟩
structure Tr where
 k0 : Int
 n0 : Int
 k1 : Int
 n1 : Int
 fit : Bool
 k2 : Int
 n2 : Int
 deriving DecidableEq
theorem int_open {p : PV} (h : (LK.int .i64).ok p) : ∃ x : Int, p = I x := by
 match p, h with
 | .int k x, h => simp only [LK.ok] at h; subst h; exact ⟨x, rfl⟩
theorem ints_open {p : PV} (h : (LK.row [.int .i64]).ok p) : ∃ l : List Int, p = ints l := by
 refine row_open (W := fun _ => True) (fun x hx _ => ?_) h (fun _ _ => trivial)
 match x, hx with
 | [.int k0 a], hx => simp only [LK.oks, LK.ok] at hx; obtain ⟨rfl, _⟩ := hx; exact ⟨a, rfl⟩
end Go.Proofs.Ytbebnjiolaomdaa.M
