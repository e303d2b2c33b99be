/- What the printed functions of the package occupy and of its reference compute, in plain words: which cells are right, which share one, which are free, where the next free place is. No condition beyond those that each lemma states. -/
import Derived.Test.YtckpmhclngoefaaPCx3
import Derived.Test.YtckpmhclngoefaaPCx4
import Derived.Test.YtckpmhclngoefaaPCx2
import Derived.Test.YtckpmhclngoefaaEv
namespace Go.Proofs.Ytckpmhclngoefaa.OccB
open Go.RowKit Go.Proofs.Ytckpmhclngoefaa.PC Go.Proofs.YtckpmhclngoefaaW.PrintWords Go.Proofs.Ytckpmhclngoefaa.Evs
set_option linter.unusedVariables false
set_option linter.unusedSimpArgs false

def GoodP (r c h w : Int) : Prop := -10000 ≤ r ∧ r ≤ 10000 ∧ -10000 ≤ c ∧ c ≤ 10000 ∧ 1 ≤ h ∧ h ≤ 20000 ∧ 1 ≤ w ∧ w ≤ 20000
instance (r c h w : Int) : Decidable (GoodP r c h w) := by unfold GoodP; infer_instance
def OvP (x : S24) (r c h w : Int) : Prop := GoodP x.f0 x.f1 x.f2 x.f3 ∧ GoodP r c h w ∧ x.f0 < r + h ∧ r < x.f0 + x.f2 ∧ x.f1 < c + w ∧ c < x.f1 + x.f3
instance (x : S24) (r c h w : Int) : Decidable (OvP x r c h w) := by unfold OvP; infer_instance
/-- Is a cell free? -/
def fr (l : List S24) (r c h w : Int) : Bool := l.all (fun x => !decide (OvP x r c h w)) && decide (GoodP r c h w)

theorem good_eq (r c h w : Int) : occupy_good.f r c h w = some (decide (GoodP r c h w)) := by
  unfold occupy_good.f occupy_good_1.f occupy_good_2.f GoodP
  by_cases h1 : -10000 ≤ r <;> by_cases h2 : r ≤ 10000 <;> by_cases h3 : -10000 ≤ c <;> by_cases h4 : c ≤ 10000 <;> by_cases h5 : 1 ≤ h <;> by_cases h6 : h ≤ 20000 <;> by_cases h7 : 1 ≤ w <;> by_cases h8 : w ≤ 20000 <;> simp [h1, h2, h3, h4, h5, h6, h7, h8]
theorem rgood_eq (r c h w : Int) : parterreref19_Good.f r c h w = some (decide (GoodP r c h w)) := by
  unfold parterreref19_Good.f GoodP
  by_cases h1 : -10000 ≤ r <;> by_cases h2 : r ≤ 10000 <;> by_cases h3 : -10000 ≤ c <;> by_cases h4 : c ≤ 10000 <;> by_cases h5 : 1 ≤ h <;> by_cases h6 : h ≤ 20000 <;> by_cases h7 : 1 ≤ w <;> by_cases h8 : w ≤ 20000 <;> simp [h1, h2, h3, h4, h5, h6, h7, h8]

theorem meet_eq (x n y m : Int) (h1 : -10000 ≤ x) (h2 : x ≤ 10000) (h3 : 1 ≤ n) (h4 : n ≤ 20000) (h5 : -10000 ≤ y) (h6 : y ≤ 10000) (h7 : 1 ≤ m) (h8 : m ≤ 20000) :
    occupy_Overlap_1.f x n y m = some (decide (x < y + m ∧ y < x + n)) := by
  unfold occupy_Overlap_1.f
  rw [wrap_in (y + m) (by omega) (by omega), wrap_in (x + n) (by omega) (by omega)]
  by_cases h : x < y + m <;> simp [h]

theorem overlap_ev (x : S24) (r c h w : Int) : Ev (fun k => occupy_Overlap.f k x.f0 x.f1 x.f2 x.f3 r c h w) (decide (OvP x r c h w)) := by
  unfold occupy_Overlap.f
  simp only [good_eq, Option.bind_some]
  by_cases h1 : GoodP x.f0 x.f1 x.f2 x.f3
  · by_cases h2 : GoodP r c h w
    · have g1 := h1
      have g2 := h2
      unfold GoodP at g1 g2
      simp only [h1, h2, decide_true, if_true, Bool.not_true]
      refine Ev.step (f := fun _ => some (decide (OvP x r c h w))) (fun k => ?_) (Ev.now _)
      simp only [occupy_Overlap.j0]
      rw [meet_eq _ _ _ _ (by omega) (by omega) (by omega) (by omega) (by omega) (by omega) (by omega) (by omega), meet_eq _ _ _ _ (by omega) (by omega) (by omega) (by omega) (by omega) (by omega) (by omega) (by omega)]
      unfold OvP
      simp only [Option.bind_some, Bool.false_eq_true, if_false, h1, h2, true_and]
      by_cases h3 : x.f0 < r + h ∧ r < x.f0 + x.f2
      · simp [h3]
      · simp only [h3, decide_false, Bool.false_eq_true, if_false]
        congr 1
        symm
        rw [decide_eq_false_iff_not]
        omega
    · have : ¬ OvP x r c h w := fun g => h2 g.2.1
      simp only [h1, h2, this, decide_true, decide_false, if_true, Bool.not_false]
      refine Ev.step (f := fun _ => some false) (fun k => ?_) (Ev.now _)
      simp [occupy_Overlap.j0]
  · have : ¬ OvP x r c h w := fun g => h1 g.1
    simp only [h1, this, decide_false, Bool.false_eq_true, if_false]
    refine Ev.step (f := fun _ => some false) (fun k => ?_) (Ev.now _)
    simp [occupy_Overlap.j0]
theorem roverlap_eq (x : S24) (r c h w : Int) : parterreref19_Overlap.f x.f0 x.f1 x.f2 x.f3 r c h w = some (decide (OvP x r c h w)) := by
  unfold parterreref19_Overlap.f
  simp only [rgood_eq, Option.bind_some]
  by_cases h1 : GoodP x.f0 x.f1 x.f2 x.f3
  · by_cases h2 : GoodP r c h w
    · have g1 := h1
      have g2 := h2
      unfold GoodP at g1 g2
      simp only [h1, h2, decide_true, if_true]
      rw [wrap_in (r + h) (by omega) (by omega), wrap_in (c + w) (by omega) (by omega), wrap_in (x.f0 + x.f2) (by omega) (by omega), wrap_in (x.f1 + x.f3) (by omega) (by omega)]
      unfold OvP
      simp only [h1, h2, true_and]
      by_cases a1 : x.f0 < r + h <;> by_cases a2 : r < x.f0 + x.f2 <;> by_cases a3 : x.f1 < c + w <;> simp [a1, a2, a3]
    · have : ¬ OvP x r c h w := fun g => h2 g.2.1
      simp [h1, h2, this]
  · have : ¬ OvP x r c h w := fun g => h1 g.1
    simp [h1, this]

/-! Free -/
theorem rd_T_eq (l : List S24) (i : Nat) (h : i < l.length) : rd_T24 l (i : Int) = l[i] := by
  unfold rd_T24
  simp [h]
theorem fr_cons (x : S24) (l : List S24) (r c h w : Int) : fr (x :: l) r c h w = (!decide (OvP x r c h w) && fr l r c h w) := by
  unfold fr
  simp [Bool.and_assoc]
theorem free_from (l : List S24) (hl : l.length ≤ 4398046511104) (r c h w : Int) (d : Nat) : ∀ i : Nat, i + d = l.length → Ev (fun k => occupy_Free.l0 k l (l.length : Int) (i : Int) r c h w) (fr (l.drop i) r c h w) := by
  induction d with
  | zero =>
    intro i hi
    refine Ev.step (f := fun _ => some (fr (l.drop i) r c h w)) (fun k => ?_) (Ev.now _)
    simp only [occupy_Free.l0]
    rw [if_neg (by omega), good_eq, List.drop_of_length_le (by omega)]
    simp [fr]
  | succ d ih =>
    intro i hi
    have hlt : i < l.length := by omega
    refine Ev.step (f := fun k => (occupy_Overlap.f k (l[i]).f0 (l[i]).f1 (l[i]).f2 (l[i]).f3 r c h w).bind fun t => if t = true then some false else occupy_Free.l0 k l (l.length : Int) ((i + 1 : Nat) : Int) r c h w) (fun k => ?_) ?_
    · simp only [occupy_Free.l0]
      rw [if_pos (by omega), if_pos (by omega), if_pos (by omega), rd_T_eq l i hlt, wrap_in ((i : Int) + 1) (by omega) (by omega)]
      rfl
    · refine Ev.bind (overlap_ev l[i] r c h w) ?_
      rw [List.drop_eq_getElem_cons hlt, fr_cons]
      by_cases ho : OvP l[i] r c h w
      · simp only [ho, decide_true, if_true, Bool.not_true, Bool.false_and]
        exact Ev.now _
      · simp only [ho, decide_false, Bool.false_eq_true, if_false, Bool.not_false, Bool.true_and]
        exact ih (i + 1) (by omega)
theorem free_ev (l : List S24) (hl : l.length ≤ 4398046511104) (r c h w : Int) : Ev (fun k => occupy_Free.f k l r c h w) (fr l r c h w) := by
  unfold occupy_Free.f
  have := free_from l hl r c h w l.length 0 (by omega)
  simpa using this
theorem rfree_from (l : List S24) (hl : l.length ≤ 4398046511104) (r c h w : Int) (d : Nat) : ∀ i : Nat, i + d = l.length → Ev (fun k => parterreref19_Free.l0 k l (i : Int) r c h w) (fr (l.drop i) r c h w) := by
  induction d with
  | zero =>
    intro i hi
    refine Ev.step (f := fun _ => some (fr (l.drop i) r c h w)) (fun k => ?_) (Ev.now _)
    simp only [parterreref19_Free.l0]
    rw [if_neg (by omega), rgood_eq, List.drop_of_length_le (by omega)]
    simp [fr]
  | succ d ih =>
    intro i hi
    have hlt : i < l.length := by omega
    refine Ev.step (f := fun k => if decide (OvP l[i] r c h w) = true then some false else parterreref19_Free.l0 k l ((i + 1 : Nat) : Int) r c h w) (fun k => ?_) ?_
    · simp only [parterreref19_Free.l0]
      rw [if_pos (by omega), if_pos (by omega), rd_T_eq l i hlt, roverlap_eq, wrap_in ((i : Int) + 1) (by omega) (by omega)]
      rfl
    · rw [List.drop_eq_getElem_cons hlt, fr_cons]
      by_cases ho : OvP l[i] r c h w
      · simp only [ho, decide_true, if_true, Bool.not_true, Bool.false_and]
        exact Ev.now _
      · simp only [ho, decide_false, Bool.false_eq_true, if_false, Bool.not_false, Bool.true_and]
        exact ih (i + 1) (by omega)
theorem rfree_ev (l : List S24) (hl : l.length ≤ 4398046511104) (r c h w : Int) : Ev (fun k => parterreref19_Free.f k l r c h w) (fr l r c h w) := by
  unfold parterreref19_Free.f
  have := rfree_from l hl r c h w l.length 0 (by omega)
  simpa using this

/-! The next column at which a cell is free: looked for one by one, n of them. -/
def nx (l : List S24) (r h w : Int) : Nat → Int → Int × Bool
  | 0, _ => (0, false)
  | n + 1, c => if fr l r c h w = true then (c, true) else nx l r h w n (c + 1)
/-- How many columns there are to look at. -/
def room (c w most : Int) : Nat := (most - w - c + 1).toNat
theorem nx_skip (l : List S24) (r h w : Int) (d : Nat) : ∀ (n : Nat) (c : Int), (∀ j : Nat, j < d → fr l r (c + j) h w = false) → nx l r h w (d + n) c = nx l r h w n (c + d) := by
  induction d with
  | zero => intro n c _; simp
  | succ d ih =>
    intro n c hf
    have h0 := hf 0 (by omega)
    simp only [Int.natCast_zero, Int.add_zero] at h0
    rw [show d + 1 + n = (d + n) + 1 by omega]
    simp only [nx, h0, Bool.false_eq_true, if_false]
    rw [ih n (c + 1) (fun j hj => by have := hf (j + 1) (by omega); rw [show c + 1 + (j : Int) = c + ((j + 1 : Nat) : Int) by omega]; exact this)]
    congr 1
    omega
theorem nx_none (l : List S24) (r h w : Int) (n : Nat) (c : Int) (hf : ∀ j : Nat, j < n → fr l r (c + j) h w = false) : nx l r h w n c = (0, false) := by
  have := nx_skip l r h w n 0 c hf
  simpa [nx] using this
/-- What stands in the way keeps all places free up to its end. -/
theorem blocked {x : S24} {l : List S24} {r c h w : Int} (hx : x ∈ l) (ho : OvP x r c h w) (c' : Int) (h1 : c ≤ c') (h2 : c' < x.f1 + x.f3) : fr l r c' h w = false := by
  unfold fr
  by_cases hg : GoodP r c' h w
  · have : OvP x r c' h w := by
      obtain ⟨a, b, d1, d2, d3, d4⟩ := ho
      exact ⟨a, hg, d1, d2, by omega, h2⟩
    have h3 : l.all (fun x => !decide (OvP x r c' h w)) = false := by
      rw [List.all_eq_false]
      exact ⟨x, hx, by simp [this]⟩
    simp [h3]
  · simp [hg]

/-- The inner loop: what stands in the way is gone behind. -/
theorem right_ev (l : List S24) (hl : l.length ≤ 4398046511104) (r h w most : Int) (hm : most ≤ 10000) (hw1 : 1 ≤ w) (hw2 : w ≤ 20000) (hr : -10000 ≤ r ∧ r ≤ 10000) (hh : 1 ≤ h ∧ h ≤ 20000) (n : Nat) :
    ∀ c : Int, -10000 ≤ c → c ≤ 30000 → room c w most ≤ n → Ev (fun k => occupy_Right.l0 k l most r c h w) (nx l r h w (room c w most) c) := by
  induction n using Nat.strongRecOn with
  | _ n ih =>
  intro c hc1 hc2 hn
  by_cases hlast : c + w ≤ most
  · have hgood : GoodP r c h w := ⟨hr.1, hr.2, hc1, by omega, hh.1, hh.2, hw1, hw2⟩
    have inner : ∀ (d i : Nat), i + d = l.length → (∀ j (hj : j < i) (hj' : j < l.length), ¬ OvP l[j] r c h w) → Ev (fun k => occupy_Right.l1 k l most l (l.length : Int) (i : Int) r c h w) (nx l r h w (room c w most) c) := by
      intro d
      induction d with
      | zero =>
        intro i hi hno
        refine Ev.step (f := fun _ => some (nx l r h w (room c w most) c)) (fun k => ?_) (Ev.now _)
        simp only [occupy_Right.l1]
        rw [if_neg (by omega)]
        have hfr : fr l r c h w = true := by
          unfold fr
          simp only [hgood, decide_true, Bool.and_true]
          rw [List.all_eq_true]
          intro x hx
          obtain ⟨j, hj⟩ := List.getElem?_of_mem hx
          obtain ⟨hj1, rfl⟩ := List.getElem?_eq_some_iff.1 hj
          simp [hno j (by omega) hj1]
        obtain ⟨m, hm'⟩ : ∃ m, room c w most = m + 1 := ⟨room c w most - 1, by unfold room; omega⟩
        rw [hm']
        simp [nx, hfr]
      | succ d ihd =>
        intro i hi hno
        have hlt : i < l.length := by omega
        refine Ev.step (f := fun k => (occupy_Overlap.f k (l[i]).f0 (l[i]).f1 (l[i]).f2 (l[i]).f3 r c h w).bind fun t => if t = true then occupy_Right.l0 k l most r (wrap64 ((l[i]).f1 + (l[i]).f3)) h w else occupy_Right.l1 k l most l (l.length : Int) ((i + 1 : Nat) : Int) r c h w) (fun k => ?_) ?_
        · simp only [occupy_Right.l1]
          rw [if_pos (by omega), if_pos (by omega), if_pos (by omega), rd_T_eq l i hlt, wrap_in ((i : Int) + 1) (by omega) (by omega)]
          rfl
        · refine Ev.bind (overlap_ev l[i] r c h w) ?_
          by_cases ho : OvP l[i] r c h w
          · simp only [ho, decide_true, if_true]
            obtain ⟨g1, g2, o1, o2, o3, o4⟩ := id ho
            have g1' := g1
            unfold GoodP at g1'
            rw [wrap_in _ (by omega) (by omega)]
            have hd : ∃ e : Nat, (l[i]).f1 + (l[i]).f3 = c + e := ⟨((l[i]).f1 + (l[i]).f3 - c).toNat, by omega⟩
            obtain ⟨e, he⟩ := hd
            have hblk : ∀ j : Nat, j < e → fr l r (c + j) h w = false := fun j hj => blocked (List.getElem_mem hlt) ho (c + j) (by omega) (by omega)
            have heq : nx l r h w (room c w most) c = nx l r h w (room ((l[i]).f1 + (l[i]).f3) w most) ((l[i]).f1 + (l[i]).f3) := by
              by_cases hle : e ≤ room c w most
              · rw [show room c w most = e + (room c w most - e) by omega, nx_skip l r h w e _ c hblk, he]
                congr 1
                unfold room at hle ⊢
                omega
              · rw [nx_none l r h w _ c (fun j hj => hblk j (by omega))]
                have : room ((l[i]).f1 + (l[i]).f3) w most = 0 := by unfold room at hle ⊢; omega
                rw [this]
                rfl
            rw [heq]
            have hpos : room ((l[i]).f1 + (l[i]).f3) w most < n := by unfold room at hn ⊢; omega
            exact ih _ hpos _ (by omega) (by omega) (Nat.le_refl _)
          · simp only [ho, decide_false, Bool.false_eq_true, if_false]
            refine ihd (i + 1) (by omega) (fun j hj hj' => ?_)
            by_cases hji : j = i
            · subst hji; exact ho
            · exact hno j (by omega) hj'
    refine Ev.step (f := fun k => occupy_Right.l1 k l most l (l.length : Int) ((0 : Nat) : Int) r c h w) (fun k => ?_) (inner l.length 0 (by omega) (fun j hj => absurd hj (by omega)))
    simp only [occupy_Right.l0]
    rw [wrap_in _ (by omega) (by omega), if_pos hlast]
    rfl
  · refine Ev.step (f := fun _ => some (nx l r h w (room c w most) c)) (fun k => ?_) (Ev.now _)
    simp only [occupy_Right.l0]
    rw [wrap_in _ (by omega) (by omega), if_neg hlast, show room c w most = 0 by unfold room; omega]
    rfl
/-- The next column, or none. -/
def rightS (l : List S24) (r c h w most : Int) : Int × Bool := if GoodP r c h w ∧ most ≤ 10000 ∧ -10000 ≤ most then nx l r h w (room c w most) c else (0, false)
theorem Right_ev (l : List S24) (hl : l.length ≤ 4398046511104) (r c h w most : Int) : Ev (fun k => occupy_Right.f k l r c h w most) (rightS l r c h w most) := by
  unfold occupy_Right.f rightS
  simp only [good_eq, Option.bind_some]
  by_cases hg : GoodP r c h w
  · simp only [hg, decide_true, if_true, true_and]
    by_cases h1 : most > 10000
    · rw [if_neg (by omega)]
      simp only [h1, if_true]
      refine Ev.step (f := fun _ => some (0, false)) (fun k => ?_) (Ev.now _)
      simp [occupy_Right.j0]
    · simp only [h1, if_false]
      by_cases h2 : most < -10000
      · rw [if_neg (by omega)]
        simp only [h2, decide_true]
        refine Ev.step (f := fun _ => some (0, false)) (fun k => ?_) (Ev.now _)
        simp [occupy_Right.j0]
      · rw [if_pos (by omega)]
        simp only [h2, decide_false]
        have g := hg
        unfold GoodP at g
        refine Ev.step (f := fun k => occupy_Right.l0 k l most r c h w) (fun k => ?_) (right_ev l hl r h w most (by omega) (by omega) (by omega) (by omega) (by omega) _ c (by omega) (by omega) (Nat.le_refl _))
        simp [occupy_Right.j0]
  · simp only [hg, decide_false, Bool.false_eq_true, if_false, false_and]
    refine Ev.step (f := fun _ => some (0, false)) (fun k => ?_) (Ev.now _)
    simp [occupy_Right.j0]

/-! ### What all have together -/
/-- What is told of the cells from here on: is there one yet, the lowest and the highest. -/
def bdS : List S24 → Bool → Int → Int → Int → Int → Int × Int × Int × Int × Int × Int × Int × Int
  | [], is, a, b, c, d => (a, b, 0, 0, c, d, 0, 0)
  | x :: xs, is, a, b, c, d => if GoodP x.f0 x.f1 x.f2 x.f3 then (if is = true then bdS xs true (mn a x.f0) (mn b x.f1) (mx c (x.f0 + x.f2)) (mx d (x.f1 + x.f3)) else bdS xs true x.f0 x.f1 (x.f0 + x.f2) (x.f1 + x.f3)) else bdS xs is a b c d
theorem bounds_from (l : List S24) (hl : l.length ≤ 4398046511104) (d : Nat) : ∀ (i : Nat) (is : Bool) (a b c e : Int), i + d = l.length → (is = true → a < c) → (is = false → a = 0 ∧ b = 0 ∧ c = 0 ∧ e = 0) →
    Ev (fun k => occupy_Bounds.l0 k l (l.length : Int) (i : Int) a b 0 0 c e 0 0) (bdS (l.drop i) is a b c e) := by
  induction d with
  | zero =>
    intro i is a b c e hi _ _
    refine Ev.step (f := fun _ => some _) (fun k => ?_) (Ev.now _)
    simp only [occupy_Bounds.l0]
    rw [if_neg (by omega), List.drop_of_length_le (by omega)]
    rfl
  | succ d ih =>
    intro i is a b c e hi h1 h2
    have hx : l.drop i = l[i] :: l.drop (i + 1) := List.drop_eq_getElem_cons (by omega)
    have ec : ((i : Int) + 1) = ((i + 1 : Nat) : Int) := by simp
    rw [hx]
    simp only [bdS]
    by_cases hg : GoodP l[i].f0 l[i].f1 l[i].f2 l[i].f3
    · have hg' := hg
      unfold GoodP at hg'
      have hn : ¬ (l[i].f0 + l[i].f2 ≤ l[i].f0) := by omega
      rw [if_pos hg]
      cases is
      · obtain ⟨rfl, rfl, rfl, rfl⟩ := h2 rfl
        refine Ev.step (fun k => ?_) (ih (i + 1) true _ _ _ _ (by omega) (by omega) (by simp))
        simp only [occupy_Bounds.l0]
        rw [if_pos (by omega), if_pos (by omega), if_pos (by omega), rd_T_eq l i (by omega), good_eq]
        simp only [Option.bind_some, hg, decide_true, if_true]
        rw [if_pos (by decide), if_pos (by decide), wrap_in ((i : Int) + 1) (by omega) (by omega), wrap_in (l[i].f0 + l[i].f2) (by omega) (by omega), wrap_in (l[i].f1 + l[i].f3) (by omega) (by omega), ec]
      · have h3 := h1 rfl
        have hmn : mn a l[i].f0 < mx c (l[i].f0 + l[i].f2) := by unfold mn mx; split <;> split <;> omega
        refine Ev.step (fun k => ?_) (ih (i + 1) true _ _ _ _ (by omega) (fun _ => hmn) (by simp))
        have hne : (a == c && (b == e && ((0 : Int) == 0 && ((0 : Int) == 0)))) = false := by
          have : (a == c) = false := by simp; omega
          rw [this]; rfl
        simp only [occupy_Bounds.l0]
        rw [if_pos (by omega), if_pos (by omega), if_pos (by omega), rd_T_eq l i (by omega), good_eq]
        simp only [Option.bind_some, hg, decide_true, if_true, hne, Bool.false_eq_true, if_false, ite_self]
        rw [wrap_in ((i : Int) + 1) (by omega) (by omega), wrap_in (l[i].f0 + l[i].f2) (by omega) (by omega), wrap_in (l[i].f1 + l[i].f3) (by omega) (by omega), ec]
    · rw [if_neg hg]
      refine Ev.step (fun k => ?_) (ih (i + 1) is _ _ _ _ (by omega) h1 h2)
      simp only [occupy_Bounds.l0]
      rw [if_pos (by omega), if_pos (by omega), if_pos (by omega), rd_T_eq l i (by omega), good_eq]
      simp only [Option.bind_some, hg, decide_false, Bool.false_eq_true, if_false]
      rw [wrap_in ((i : Int) + 1) (by omega) (by omega), ec]
theorem rbounds_from (l : List S24) (hl : l.length ≤ 4398046511104) (d : Nat) : ∀ (i : Nat) (is : Bool) (a b c e : Int), i + d = l.length →
    Ev (fun k => parterreref19_Bounds.l0 k l is (i : Int) a b 0 0 c e 0 0) (bdS (l.drop i) is a b c e) := by
  induction d with
  | zero =>
    intro i is a b c e hi
    refine Ev.step (f := fun _ => some _) (fun k => ?_) (Ev.now _)
    simp only [parterreref19_Bounds.l0]
    rw [if_neg (by omega), List.drop_of_length_le (by omega)]
    rfl
  | succ d ih =>
    intro i is a b c e hi
    have hx : l.drop i = l[i] :: l.drop (i + 1) := List.drop_eq_getElem_cons (by omega)
    have ec : ((i : Int) + 1) = ((i + 1 : Nat) : Int) := by simp
    rw [hx]
    simp only [bdS]
    by_cases hg : GoodP l[i].f0 l[i].f1 l[i].f2 l[i].f3
    · have hg' := hg
      unfold GoodP at hg'
      rw [if_pos hg]
      cases is
      · refine Ev.step (fun k => ?_) (ih (i + 1) true _ _ _ _ (by omega))
        simp only [parterreref19_Bounds.l0]
        rw [if_pos (by omega), if_pos (by omega), rd_T_eq l i (by omega), rgood_eq]
        simp only [Option.bind_some, hg, decide_true, if_true, Bool.false_eq_true, if_false]
        rw [wrap_in ((i : Int) + 1) (by omega) (by omega), wrap_in (l[i].f0 + l[i].f2) (by omega) (by omega), wrap_in (l[i].f1 + l[i].f3) (by omega) (by omega), ec]
      · refine Ev.step (fun k => ?_) (ih (i + 1) true _ _ _ _ (by omega))
        simp only [parterreref19_Bounds.l0]
        rw [if_pos (by omega), if_pos (by omega), rd_T_eq l i (by omega), rgood_eq]
        simp only [Option.bind_some, hg, decide_true, if_true]
        rw [wrap_in ((i : Int) + 1) (by omega) (by omega), wrap_in (l[i].f0 + l[i].f2) (by omega) (by omega), wrap_in (l[i].f1 + l[i].f3) (by omega) (by omega), ec]
    · rw [if_neg hg]
      refine Ev.step (fun k => ?_) (ih (i + 1) is _ _ _ _ (by omega))
      simp only [parterreref19_Bounds.l0]
      rw [if_pos (by omega), if_pos (by omega), rd_T_eq l i (by omega), rgood_eq]
      simp only [Option.bind_some, hg, decide_false, Bool.false_eq_true, if_false]
      rw [wrap_in ((i : Int) + 1) (by omega) (by omega), ec]
end Go.Proofs.Ytckpmhclngoefaa.OccB
