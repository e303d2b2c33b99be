/- Typed elements of rows, and how they are read in written trees. Plain definitions and lemmas. No condition beyond what each states. -/
import Derived.Test.YtbebnjiolaomdaaSx6
set_option linter.unusedVariables false
set_option linter.unusedSimpArgs false
namespace Go.Proofs.Ytbebnjiolaomdaa.M
open Go Go.Proofs.Ytbebnjiolaomdaa.Sx

/-- A track that is being sized. -/
structure Sz where
  mn : Int
  mx : Int
  fr : Int
  fit : Bool
  cap : Int
  base : Int
  lim : Int
  deriving DecidableEq
@[reducible] def eSz (x : Sz) : List PV := [I x.mn, I x.mx, I x.fr, B x.fit, I x.cap, I x.base, I x.lim]
theorem sz_at0 (l : List Sz) (i : Nat) (h : i < l.length) (k : LK) : cellAt (l.map eSz) (i : Int) 0 k = I l[i].mn := by rw [xcell_at l i h]; rfl
theorem sz_at1 (l : List Sz) (i : Nat) (h : i < l.length) (k : LK) : cellAt (l.map eSz) (i : Int) 1 k = I l[i].mx := by rw [xcell_at l i h]; rfl
theorem sz_at2 (l : List Sz) (i : Nat) (h : i < l.length) (k : LK) : cellAt (l.map eSz) (i : Int) 2 k = I l[i].fr := by rw [xcell_at l i h]; rfl
theorem sz_at3 (l : List Sz) (i : Nat) (h : i < l.length) (k : LK) : cellAt (l.map eSz) (i : Int) 3 k = B l[i].fit := by rw [xcell_at l i h]; rfl
theorem sz_at4 (l : List Sz) (i : Nat) (h : i < l.length) (k : LK) : cellAt (l.map eSz) (i : Int) 4 k = I l[i].cap := by rw [xcell_at l i h]; rfl
theorem sz_at5 (l : List Sz) (i : Nat) (h : i < l.length) (k : LK) : cellAt (l.map eSz) (i : Int) 5 k = I l[i].base := by rw [xcell_at l i h]; rfl
theorem sz_at6 (l : List Sz) (i : Nat) (h : i < l.length) (k : LK) : cellAt (l.map eSz) (i : Int) 6 k = I l[i].lim := by rw [xcell_at l i h]; rfl
theorem sz_snoc (l : List Sz) (a b c : Int) (d : Bool) (e f g : Int) : PV.row (l.map eSz ++ [[I a, I b, I c, B d, I e, I f, I g]]) = rowOf eSz (l ++ [⟨a, b, c, d, e, f, g⟩]) := xmap_snoc l _ rfl
theorem sz_set (l : List Sz) (i : Nat) (a b c : Int) (d : Bool) (e f g : Int) : PV.row ((l.map eSz).set i [I a, I b, I c, B d, I e, I f, I g]) = rowOf eSz (l.set i ⟨a, b, c, d, e, f, g⟩) := xmap_set l i _ rfl
theorem sz_put5 (l : List Sz) (i : Nat) (x : Int) : PV.row ((l.map eSz).modify i (·.set 5 (I x))) = rowOf eSz (l.modify i fun y => { y with base := x }) := rowOf_put l i 5 (I x) _ (fun y => rfl)
theorem sz_put6 (l : List Sz) (i : Nat) (x : Int) : PV.row ((l.map eSz).modify i (·.set 6 (I x))) = rowOf eSz (l.modify i fun y => { y with lim := x }) := rowOf_put l i 6 (I x) _ (fun y => rfl)
/-- A track that is sized is one that may be. -/
def Gd (x : Sz) : Prop :=
  1 ≤ x.mn ∧ x.mn ≤ 4 ∧ 1 ≤ x.mx ∧ x.mx ≤ 5 ∧ 0 ≤ x.fr ∧ x.fr ≤ 1073741824 ∧ (x.mx ≠ 5 → x.fr = 0) ∧ 0 ≤ x.cap ∧ x.cap ≤ 68719476736 ∧ (x.fit = false → x.cap = 0) ∧ (x.fit = true → x.mn = 2 ∧ x.mx = 4) ∧
  0 ≤ x.base ∧ x.base < 1125899906842624 ∧ x.base ≤ x.lim ∧ x.lim ≤ 1125899906842624
instance (x : Sz) : Decidable (Gd x) := by unfold Gd; infer_instance
def goodB (l : List Sz) : Bool := l.all fun x => decide (Gd x)
theorem goodB_iff (l : List Sz) : goodB l = true ↔ ∀ x ∈ l, Gd x := by simp [goodB]
theorem gd_in {x : Sz} (h : Gd x) : 0 ≤ x.base ∧ x.base < 1125899906842624 ∧ x.base ≤ x.lim ∧ x.lim ≤ 1125899906842624 := by
  unfold Gd at h
  omega
/-- Whatever row of such cells is handed in. -/
theorem sz_open {p : PV} (h : (LK.row [.int .i64, .int .i64, .int .i64, .bool, .int .i64, .int .i64, .int .i64]).ok p) : ∃ l : List Sz, p = rowOf eSz l := by
  refine row_open (W := fun _ => True) (fun x hx _ => ?_) h (fun _ _ => trivial)
  match x, hx with
  | [.int k0 a, .int k1 b, .int k2 c, .bool d, .int k4 e, .int k5 f, .int k6 g], hx =>
    simp only [LK.oks, LK.ok] at hx
    obtain ⟨rfl, rfl, rfl, _, rfl, rfl, rfl, _⟩ := hx
    exact ⟨⟨a, b, c, d, e, f, g⟩, rfl⟩
/-- What is had from a place on, each gap ahead; more than a length is refused. -/
def sumS : List Int → List Int → Int → Int × Int
  | b :: bs, a :: as, n => if n + b + a ≤ 68719476736 then sumS bs as (n + b + a) else (0, 10)
  | _, _, n => (n, 0)
def lensB (l : List Int) : Bool := l.all fun a => decide (0 ≤ a) && decide (a ≤ 68719476736)
theorem lensB_iff (l : List Int) : lensB l = true ↔ ∀ a ∈ l, 0 ≤ a ∧ a ≤ 68719476736 := by simp [lensB]
theorem lensB_drop (l : List Int) (i : Nat) (h : i < l.length) : lensB (l.drop i) = (decide (0 ≤ l[i]) && decide (l[i] ≤ 68719476736) && lensB (l.drop (i + 1))) := by rw [List.drop_eq_getElem_cons h]; rfl
/-- A track: its least size, its greatest size, whether it fits, at most what. -/
structure Tr where
  k0 : Int
  n0 : Int
  k1 : Int
  n1 : Int
  fit : Bool
  k2 : Int
  n2 : Int
  deriving DecidableEq
@[reducible] def eTr (x : Tr) : List PV := [I x.k0, I x.n0, I x.k1, I x.n1, B x.fit, I x.k2, I x.n2]
theorem tr_at0 (l : List Tr) (i : Nat) (h : i < l.length) (k : LK) : cellAt (l.map eTr) (i : Int) 0 k = I l[i].k0 := by rw [xcell_at l i h]; rfl
theorem tr_at1 (l : List Tr) (i : Nat) (h : i < l.length) (k : LK) : cellAt (l.map eTr) (i : Int) 1 k = I l[i].n0 := by rw [xcell_at l i h]; rfl
theorem tr_at2 (l : List Tr) (i : Nat) (h : i < l.length) (k : LK) : cellAt (l.map eTr) (i : Int) 2 k = I l[i].k1 := by rw [xcell_at l i h]; rfl
theorem tr_at3 (l : List Tr) (i : Nat) (h : i < l.length) (k : LK) : cellAt (l.map eTr) (i : Int) 3 k = I l[i].n1 := by rw [xcell_at l i h]; rfl
theorem tr_at4 (l : List Tr) (i : Nat) (h : i < l.length) (k : LK) : cellAt (l.map eTr) (i : Int) 4 k = B l[i].fit := by rw [xcell_at l i h]; rfl
theorem tr_at5 (l : List Tr) (i : Nat) (h : i < l.length) (k : LK) : cellAt (l.map eTr) (i : Int) 5 k = I l[i].k2 := by rw [xcell_at l i h]; rfl
theorem tr_at6 (l : List Tr) (i : Nat) (h : i < l.length) (k : LK) : cellAt (l.map eTr) (i : Int) 6 k = I l[i].n2 := by rw [xcell_at l i h]; rfl
theorem tr_snoc (l : List Tr) (a b c d : Int) (e : Bool) (f g : Int) : PV.row (l.map eTr ++ [[I a, I b, I c, I d, B e, I f, I g]]) = rowOf eTr (l ++ [⟨a, b, c, d, e, f, g⟩]) := xmap_snoc l _ rfl
theorem tr_open {p : PV} (h : (LK.row [.int .i64, .int .i64, .int .i64, .int .i64, .bool, .int .i64, .int .i64]).ok p) : ∃ l : List Tr, p = rowOf eTr l := by
  refine row_open (W := fun _ => True) (fun x hx _ => ?_) h (fun _ _ => trivial)
  match x, hx with
  | [.int k0 a, .int k1 b, .int k2 c, .int k3 d, .bool e, .int k5 f, .int k6 g], hx =>
    simp only [LK.oks, LK.ok] at hx
    obtain ⟨rfl, rfl, rfl, rfl, _, rfl, rfl, _⟩ := hx
    exact ⟨⟨a, b, c, d, e, f, g⟩, rfl⟩
/-- The tracks along an axis. -/
theorem trks_open {q : List PV} (h : LK.oks [.int .i64, .row [.int .i64, .int .i64, .int .i64, .int .i64, .bool, .int .i64, .int .i64], .row [.bool], .row [.int .i64]] q) (hw : LK.wfs [.int .i64, .row [.int .i64, .int .i64, .int .i64, .int .i64, .bool, .int .i64, .int .i64], .row [.bool], .row [.int .i64]] q) :
    ∃ (low : PV) (l : List Tr) (g a : PV), q = [low, rowOf eTr l, g, a] ∧ (LK.int .i64).ok low ∧ (LK.row [.bool]).ok g ∧ (LK.row [.int .i64]).ok a ∧ (LK.int .i64).wf low ∧ (LK.row [.int .i64, .int .i64, .int .i64, .int .i64, .bool, .int .i64, .int .i64]).wf (rowOf eTr l) ∧ (LK.row [.bool]).wf g ∧ (LK.row [.int .i64]).wf a := by
  match q, h with
  | [low, r, g, a], h =>
    simp only [LK.oks] at h
    simp only [LK.wfs] at hw
    obtain ⟨_, _, e, w1, _, _, e2, w2, _, _, e3, w3, _, _, e4, w4, _⟩ := hw
    cases e
    cases e2
    cases e3
    cases e4
    obtain ⟨l, rfl⟩ := tr_open h.2.1
    exact ⟨low, l, g, a, rfl, h.1, h.2.2.1, h.2.2.2.1, w1, w2, w3, w4⟩
theorem int_open {p : PV} (h : (LK.int .i64).ok p) : ∃ x : Int, p = I x := by
  match p, h with
  | .int k x, h => simp only [LK.ok] at h; subst h; exact ⟨x, rfl⟩
theorem bool_open {p : PV} (h : (LK.bool).ok p) : ∃ x : Bool, p = B x := by
  match p, h with
  | .bool x, h => exact ⟨x, rfl⟩
theorem ints_open {p : PV} (h : (LK.row [.int .i64]).ok p) : ∃ l : List Int, p = ints l := by
  refine row_open (W := fun _ => True) (fun x hx _ => ?_) h (fun _ _ => trivial)
  match x, hx with
  | [.int k0 a], hx => simp only [LK.oks, LK.ok] at hx; obtain ⟨rfl, _⟩ := hx; exact ⟨a, rfl⟩
theorem bools_open {p : PV} (h : (LK.row [.bool]).ok p) : ∃ l : List Bool, p = bools l := by
  refine row_open (W := fun _ => True) (fun x hx _ => ?_) h (fun _ _ => trivial)
  match x, hx with
  | [.bool a], hx => exact ⟨a, rfl⟩
theorem int_wf {x : Int} (h : (LK.int .i64).wf (I x)) : -9223372036854775808 ≤ x ∧ x ≤ 9223372036854775807 := Go.bounds_i64 h
theorem xints_wf {l : List Int} (h : (LK.row [.int .i64]).wf (ints l)) : ∀ x ∈ l, -9223372036854775808 ≤ x ∧ x ≤ 9223372036854775807 := by
  intro x hx
  have := h.2 [I x] (by simp only [rowOf, PV.r]; exact List.mem_map.2 ⟨x, hx, rfl⟩)
  simp only [LK.wfs] at this
  obtain ⟨p, r, he, hw, _⟩ := this
  cases he
  exact int_wf hw
end Go.Proofs.Ytbebnjiolaomdaa.M
