/- Whether tracks may be, and what tracks and gaps have, in plain words. No condition beyond what each lemma states. -/
import Derived.Test.YtbkohlhonhmhmaaTrk
namespace Go.Proofs.Ytbkohlhonhmhmaa.Trk
open Go.RowKit Go.Proofs.Ytbkohlhonhmhmaa.PA Go.Proofs.YtbkohlhonhmhmaaW.PrintWords Go.Proofs.YtbkohlhonhmhmaaW.PrintMore Go.Proofs.Ytbkohlhonhmhmaa.Evs
set_option linter.unusedVariables false
set_option linter.unusedSimpArgs false
theorem right_ev (a0 a1 a2 a3 : Int) (a4 : Bool) (a5 a6 : Int) : Ev (fun k => track_Right.f k a0 a1 a2 a3 a4 a5 a6) (RtP a0 a1 a2 a3 a4 a5 a6) := ev_deep 2 (right_eq a0 a1 a2 a3 a4 a5 a6)
theorem rright_ev (a0 a1 a2 a3 : Int) (a4 : Bool) (a5 a6 : Int) : Ev (fun k => parterreref06_Right.f k a0 a1 a2 a3 a4 a5 a6) (RtP a0 a1 a2 a3 a4 a5 a6) := ev_deep 2 (rright_eq a0 a1 a2 a3 a4 a5 a6)
def inP (n : Int) : Bool := decide (0 ≤ n ∧ n ≤ 68719476736)
theorem is_eq (n : Int) (h : 0 ≤ n) : fixed_Is.f n = some (decide (n ≤ 68719476736)) := by unfold fixed_Is.f; rw [if_pos (by omega)]
theorem iwithin_eq (n : Int) : implicit_within.f n = some (inP n) := by
  unfold implicit_within.f inP
  by_cases h : n ≥ 0
  · rw [if_pos h, is_eq n h]
    exact congrArg some (dec2 0 n h _)
  · rw [if_neg h]
    exact congrArg some (dec2n 0 n h _)
theorem twithin_eq (n : Int) : tracks_within.f n = some (inP n) := by
  unfold tracks_within.f inP
  by_cases h : n ≥ 0
  · rw [if_pos h, is_eq n h]
    exact congrArg some (dec2 0 n h _)
  · rw [if_neg h]
    exact congrArg some (dec2n 0 n h _)
theorem rwithin_eq (n : Int) : parterreref21_within.f n = some (inP n) := by
  unfold parterreref21_within.f inP
  by_cases h : n ≥ 0
  · rw [if_pos h]
    exact congrArg some (dec2 0 n h _)
  · rw [if_neg h]
    exact congrArg some (dec2n 0 n h _)
def RtS (x : S57) : Bool := RtP x.f0.f0 x.f0.f1 x.f1.f0 x.f1.f1 x.f2 x.f3.f0 x.f3.f1
def okAt (l : List S57) (g : List Bool) (a : List Int) (i : Nat) : Bool := RtS (rd_T57 l (i : Int)) && (inP (rd a (i : Int)) && (!(decide (i = 0) || rdOf false g (i : Int)) || decide (rd a (i : Int) = 0)))
def gdi (l : List S57) (g : List Bool) (a : List Int) : Nat → Nat → Bool
  | 0, _ => true
  | d + 1, i => okAt l g a i && gdi l g a d (i + 1)
theorem gdi_at {l : List S57} {g : List Bool} {a : List Int} : ∀ (d i : Nat), gdi l g a d i = true → ∀ j, i ≤ j → j < i + d → okAt l g a j = true
  | 0, i, _, j, h1, h2 => absurd h2 (by omega)
  | d + 1, i, h, j, h1, h2 => by
    simp only [gdi, Bool.and_eq_true] at h
    by_cases e : j = i
    · subst e; exact h.1
    · exact gdi_at d (i + 1) h.2 j (by omega) (by omega)
theorem good_loop (lo : Int) (l : List S57) (g : List Bool) (a : List Int) (hg : g.length = l.length) (ha : a.length = l.length) (hm : l.length ≤ 40000) (d : Nat) : ∀ i : Nat, i + d = l.length → Ev (fun k => implicit_Good.l0 k l (l.length : Int) (i : Int) lo l g a) (gdi l g a d i) := by
  induction d with
  | zero =>
    intro i hi
    refine Ev.step (f := fun _ => some true) (fun k => ?_) (Ev.now _)
    simp only [implicit_Good.l0]
    rw [if_neg (by omega)]
  | succ d ih =>
    intro i hi
    have ec : ((i : Int) + 1) = ((i + 1 : Nat) : Int) := by simp
    have ew : wrap64 ((i : Int) + 1) = ((i + 1 : Nat) : Int) := by rw [wrap_in ((i : Int) + 1) (by omega) (by omega), ec]
    have key : ∀ fst : Bool, fst = (decide (i = 0) || rdOf false g (i : Int)) → Ev (fun k => implicit_Good.j2 k (i : Int) fst l (l.length : Int) (i : Int) lo l g a (rd_T57 l (i : Int)).f0.f0 (rd_T57 l (i : Int)).f0.f1 (rd_T57 l (i : Int)).f1.f0 (rd_T57 l (i : Int)).f1.f1 (rd_T57 l (i : Int)).f2 (rd_T57 l (i : Int)).f3.f0 (rd_T57 l (i : Int)).f3.f1) (gdi l g a (d + 1) i) := by
      intro fst hf
      have hx := right_ev (rd_T57 l (i : Int)).f0.f0 (rd_T57 l (i : Int)).f0.f1 (rd_T57 l (i : Int)).f1.f0 (rd_T57 l (i : Int)).f1.f1 (rd_T57 l (i : Int)).f2 (rd_T57 l (i : Int)).f3.f0 (rd_T57 l (i : Int)).f3.f1
      refine Ev.step (fun k => by simp only [implicit_Good.j2]; rfl) (Ev.bind hx ?_)
      simp only [gdi, okAt, ← hf]
      have eR : RtS (rd_T57 l (i : Int)) = RtP (rd_T57 l (i : Int)).f0.f0 (rd_T57 l (i : Int)).f0.f1 (rd_T57 l (i : Int)).f1.f0 (rd_T57 l (i : Int)).f1.f1 (rd_T57 l (i : Int)).f2 (rd_T57 l (i : Int)).f3.f0 (rd_T57 l (i : Int)).f3.f1 := rfl
      rw [← eR]
      cases RtS (rd_T57 l (i : Int)) with
      | false => simp only [Bool.false_eq_true, if_false, Bool.false_and]; exact Ev.now _
      | true =>
        have c1 : (0 ≤ (i : Int)) = True := eq_true (by omega)
        have c2 : ((i : Int) < (a.length : Int)) = True := eq_true (by omega)
        simp only [if_true, Bool.true_and, c1, c2, iwithin_eq, Option.bind_some, ew]
        cases hin : inP (rd a (i : Int)) with
        | false => simp only [Bool.false_eq_true, if_false, Bool.false_and]; exact Ev.now _
        | true =>
          have hn : 0 ≤ rd a (i : Int) := (of_decide_eq_true hin).1
          simp only [if_true, Bool.true_and]
          cases fst with
          | false => simp only [Bool.false_eq_true, if_false, Bool.not_false, Bool.true_or, Bool.true_and]; exact ih (i + 1) (by omega)
          | true =>
            simp only [if_true, Bool.not_true, Bool.false_or]
            by_cases h0 : rd a (i : Int) > 0
            · have h0' : ¬ rd a (i : Int) = 0 := by omega
              simp only [if_pos h0, decide_eq_false h0', Bool.false_and]; exact Ev.now _
            · have h0' : rd a (i : Int) = 0 := by omega
              simp only [if_neg h0, decide_eq_true h0', Bool.true_and]; exact ih (i + 1) (by omega)
    by_cases hz : i = 0
    · refine Ev.step (fun k => ?_) (key true (by simp [hz]))
      simp only [implicit_Good.l0]
      rw [if_pos (by omega), if_pos (by omega), if_pos (by omega), if_pos (by omega)]
    · refine Ev.step (fun k => ?_) (key (rdOf false g (i : Int)) (by simp [hz]))
      simp only [implicit_Good.l0]
      rw [if_pos (by omega), if_pos (by omega), if_pos (by omega), if_neg (by omega), if_pos (by omega)]
theorem rgood_loop (lo : Int) (l : List S57) (g : List Bool) (a : List Int) (hg : g.length = l.length) (ha : a.length = l.length) (hm : l.length ≤ 40000) (d : Nat) : ∀ i : Nat, i + d = l.length → Ev (fun k => parterreref21_Good.l0 k (i : Int) lo l g a) (gdi l g a d i) := by
  induction d with
  | zero =>
    intro i hi
    refine Ev.step (f := fun _ => some true) (fun k => ?_) (Ev.now _)
    simp only [parterreref21_Good.l0]
    rw [if_neg (by omega)]
  | succ d ih =>
    intro i hi
    have ec : ((i : Int) + 1) = ((i + 1 : Nat) : Int) := by simp
    have ew : wrap64 ((i : Int) + 1) = ((i + 1 : Nat) : Int) := by rw [wrap_in ((i : Int) + 1) (by omega) (by omega), ec]
    have hx := rright_ev (rd_T57 l (i : Int)).f0.f0 (rd_T57 l (i : Int)).f0.f1 (rd_T57 l (i : Int)).f1.f0 (rd_T57 l (i : Int)).f1.f1 (rd_T57 l (i : Int)).f2 (rd_T57 l (i : Int)).f3.f0 (rd_T57 l (i : Int)).f3.f1
    have c0 : ((i : Int) < (l.length : Int)) = True := eq_true (by omega)
    have c1 : (0 ≤ (i : Int)) = True := eq_true (by omega)
    have c2 : ((i : Int) < (a.length : Int)) = True := eq_true (by omega)
    have c3 : ((i : Int) < (g.length : Int)) = True := eq_true (by omega)
    refine Ev.step (fun k => by simp only [parterreref21_Good.l0, c0, c1, if_true]; rfl) (Ev.bind hx ?_)
    simp only [gdi, okAt]
    have eR : RtS (rd_T57 l (i : Int)) = RtP (rd_T57 l (i : Int)).f0.f0 (rd_T57 l (i : Int)).f0.f1 (rd_T57 l (i : Int)).f1.f0 (rd_T57 l (i : Int)).f1.f1 (rd_T57 l (i : Int)).f2 (rd_T57 l (i : Int)).f3.f0 (rd_T57 l (i : Int)).f3.f1 := rfl
    rw [← eR]
    cases RtS (rd_T57 l (i : Int)) with
    | false => simp only [Bool.false_eq_true, if_false, Bool.false_and]; exact Ev.now _
    | true =>
      simp only [if_true, Bool.true_and, c2, c3, rwithin_eq, Option.bind_some, ew]
      cases hin : inP (rd a (i : Int)) with
      | false => simp only [Bool.false_eq_true, if_false, Bool.false_and]; exact Ev.now _
      | true =>
        simp only [if_true, Bool.true_and]
        have fin : ∀ Z : Nat → Option Bool, Ev Z (gdi l g a d (i + 1)) → Ev (fun k => if rd a (i : Int) = 0 then Z k else some false) (decide (rd a (i : Int) = 0) && gdi l g a d (i + 1)) := by
          intro Z hZ
          by_cases h0 : rd a (i : Int) = 0
          · simp only [if_pos h0, decide_eq_true h0, Bool.true_and]; exact hZ
          · simp only [if_neg h0, decide_eq_false h0, Bool.false_and]; exact Ev.now _
        by_cases hz : i = 0
        · have hz' : ((i : Int) = 0) = True := eq_true (by omega)
          have hd : decide (i = 0) = true := decide_eq_true hz
          simp only [hz', if_true, hd, Bool.true_or, Bool.not_true, Bool.false_or]
          exact fin _ (ih (i + 1) (by omega))
        · have hz' : ((i : Int) = 0) = False := eq_false (by omega)
          have hd : decide (i = 0) = false := decide_eq_false hz
          simp only [hz', if_false, hd, Bool.false_or]
          cases hgi : rdOf false g (i : Int) with
          | true => simp only [if_true, Bool.not_true, Bool.false_or]; exact fin _ (ih (i + 1) (by omega))
          | false => simp only [Bool.false_eq_true, if_false, Bool.not_false, Bool.true_or, Bool.true_and]; exact ih (i + 1) (by omega)
/-- May tracks be? -/
def TkC (lo : Int) (l : List S57) (g : List Bool) (a : List Int) : Prop := l.length ≤ 40000 ∧ g.length = l.length ∧ a.length = l.length ∧ lo ≤ 0 ∧ -10000 ≤ lo
instance (lo : Int) (l : List S57) (g : List Bool) (a : List Int) : Decidable (TkC lo l g a) := by unfold TkC; infer_instance
def TkB (lo : Int) (l : List S57) (g : List Bool) (a : List Int) : Bool := decide (TkC lo l g a) && gdi l g a l.length 0
theorem good_ev (lo : Int) (l : List S57) (g : List Bool) (a : List Int) : Ev (fun k => implicit_Good.f k lo l g a) (TkB lo l g a) := by
  have hj : ∀ b : Bool, b = !decide (TkC lo l g a) → Ev (fun k => implicit_Good.j0 k b lo l g a) (TkB lo l g a) := by
    intro b hb
    unfold TkB
    by_cases h : TkC lo l g a
    · rw [decide_eq_true h] at hb ⊢
      refine Ev.step (fun k => ?_) (by rw [Bool.true_and]; exact good_loop lo l g a h.2.1 h.2.2.1 h.1 l.length 0 (by omega))
      simp only [implicit_Good.j0]
      rw [hb]
      rfl
    · rw [decide_eq_false h] at hb ⊢
      refine Ev.step (f := fun _ => some false) (fun k => ?_) (Ev.now _)
      simp only [implicit_Good.j0]
      rw [hb]
      rfl
  have no : ¬ TkC lo l g a → true = !decide (TkC lo l g a) := fun h => by rw [decide_eq_false h]; rfl
  unfold implicit_Good.f
  by_cases h1 : (l.length : Int) > 40000
  · simp only [if_pos h1]; exact hj _ (no (fun h => by have := h.1; omega))
  simp only [if_neg h1]
  by_cases h2 : (g.length : Int) = (l.length : Int)
  · simp only [if_pos h2]
    by_cases h3 : (a.length : Int) = (l.length : Int)
    · simp only [if_pos h3]
      by_cases h4 : lo > 0
      · simp only [if_pos h4]; exact hj _ (no (fun h => by have := h.2.2.2.1; omega))
      · simp only [if_neg h4]
        refine hj _ ?_
        by_cases h5 : lo < -10000
        · rw [decide_eq_true h5]; exact no (fun h => by have := h.2.2.2.2; omega)
        · rw [decide_eq_false h5, decide_eq_true (show TkC lo l g a from ⟨by omega, by omega, by omega, by omega, by omega⟩)]; rfl
    · simp only [if_neg h3]; exact hj _ (no (fun h => by have := h.2.2.1; omega))
  · simp only [if_neg h2]; exact hj _ (no (fun h => by have := h.2.1; omega))
theorem rgood_ev (lo : Int) (l : List S57) (g : List Bool) (a : List Int) : Ev (fun k => parterreref21_Good.f k lo l g a) (TkB lo l g a) := by
  have hj : ∀ b : Bool, b = !decide (TkC lo l g a) → Ev (fun k => parterreref21_Good.j0 k b lo l g a) (TkB lo l g a) := by
    intro b hb
    unfold TkB
    by_cases h : TkC lo l g a
    · rw [decide_eq_true h] at hb ⊢
      refine Ev.step (fun k => ?_) (by rw [Bool.true_and]; exact rgood_loop lo l g a h.2.1 h.2.2.1 h.1 l.length 0 (by omega))
      simp only [parterreref21_Good.j0]
      rw [hb]
      rfl
    · rw [decide_eq_false h] at hb ⊢
      refine Ev.step (f := fun _ => some false) (fun k => ?_) (Ev.now _)
      simp only [parterreref21_Good.j0]
      rw [hb]
      rfl
  have no : ¬ TkC lo l g a → true = !decide (TkC lo l g a) := fun h => by rw [decide_eq_false h]; rfl
  unfold parterreref21_Good.f
  by_cases h1 : (l.length : Int) > 40000
  · simp only [if_pos h1]; exact hj _ (no (fun h => by have := h.1; omega))
  simp only [if_neg h1]
  by_cases h2 : (g.length : Int) = (l.length : Int)
  · simp only [if_pos h2]
    by_cases h3 : (a.length : Int) = (l.length : Int)
    · simp only [if_pos h3]
      by_cases h4 : lo > 0
      · simp only [if_pos h4]; exact hj _ (no (fun h => by have := h.2.2.2.1; omega))
      · simp only [if_neg h4]
        refine hj _ ?_
        by_cases h5 : lo < -10000
        · rw [decide_eq_true h5]; exact no (fun h => by have := h.2.2.2.2; omega)
        · rw [decide_eq_false h5, decide_eq_true (show TkC lo l g a from ⟨by omega, by omega, by omega, by omega, by omega⟩)]; rfl
    · simp only [if_neg h3]; exact hj _ (no (fun h => by have := h.2.2.1; omega))
  · simp only [if_neg h2]; exact hj _ (no (fun h => by have := h.2.1; omega))
def szi (s : List Int) : Nat → Nat → Bool
  | 0, _ => true
  | d + 1, i => inP (rd s (i : Int)) && szi s d (i + 1)
theorem szi_at {s : List Int} : ∀ (d i : Nat), szi s d i = true → ∀ j : Nat, i ≤ j → j < i + d → 0 ≤ rd s (j : Int) ∧ rd s (j : Int) ≤ 68719476736
  | 0, i, _, j, h1, h2 => absurd h2 (by omega)
  | d + 1, i, h, j, h1, h2 => by
    simp only [szi, Bool.and_eq_true] at h
    by_cases e : j = i
    · subst e; exact of_decide_eq_true h.1
    · exact szi_at d (i + 1) h.2 j (by omega) (by omega)
/-- The sum of sizes and gaps, from one on. -/
def suml (s a : List Int) : Nat → Nat → Int → Int × Int
  | 0, _, n => (n, 0)
  | d + 1, i, n => if n + rd s (i : Int) + rd a (i : Int) > 68719476736 then (0, 10) else suml s a d (i + 1) (n + rd s (i : Int) + rd a (i : Int))
def sumS (lo : Int) (l : List S57) (g : List Bool) (a s : List Int) : Int × Int :=
  if TkB lo l g a = true ∧ s.length = l.length ∧ szi s s.length 0 = true then suml s a s.length 0 0 else (0, 2)
theorem sum_l1 (lo : Int) (l : List S57) (g : List Bool) (a s : List Int) (ha : s.length ≤ a.length) (hm : s.length ≤ 40000) (h1 : ∀ j : Nat, j < s.length → 0 ≤ rd s (j : Int) ∧ rd s (j : Int) ≤ 68719476736) (h2 : ∀ j : Nat, j < s.length → 0 ≤ rd a (j : Int) ∧ rd a (j : Int) ≤ 68719476736) (d : Nat) :
    ∀ (i : Nat) (n : Int), i + d = s.length → 0 ≤ n → n ≤ 68719476736 → Ev (fun k => tracks_Sum.l1 k n s (s.length : Int) (i : Int) lo l g a) (suml s a d i n) ∧ Ev (fun k => parterreref27_Sum.l1 k s n (i : Int) lo l g a) (suml s a d i n) := by
  induction d with
  | zero =>
    intro i n hi hn0 hn1
    constructor
    · refine Ev.step (f := fun _ => some (n, 0)) (fun k => ?_) (Ev.now _)
      simp only [tracks_Sum.l1]
      rw [if_neg (by omega)]
    · refine Ev.step (f := fun _ => some (n, 0)) (fun k => ?_) (Ev.now _)
      simp only [parterreref27_Sum.l1]
      rw [if_neg (by omega)]
  | succ d ih =>
    intro i n hi hn0 hn1
    have ec : ((i : Int) + 1) = ((i + 1 : Nat) : Int) := by simp
    have b1 := h1 i (by omega)
    have b2 := h2 i (by omega)
    have e1 : wrap64 (n + wrap64 (rd s (i : Int) + rd a (i : Int))) = n + rd s (i : Int) + rd a (i : Int) := by
      rw [wrap_in (rd s (i : Int) + rd a (i : Int)) (by omega) (by omega), wrap_in _ (by omega) (by omega)]; omega
    have e2 : wrap64 (wrap64 (n + rd s (i : Int)) + rd a (i : Int)) = n + rd s (i : Int) + rd a (i : Int) := by
      rw [wrap_in (n + rd s (i : Int)) (by omega) (by omega), wrap_in _ (by omega) (by omega)]
    by_cases hb : n + rd s (i : Int) + rd a (i : Int) > 68719476736
    · have er : suml s a (d + 1) i n = (0, 10) := by simp only [suml]; rw [if_pos hb]
      rw [er]
      constructor
      · refine Ev.step (f := fun _ => some (0, 10)) (fun k => ?_) (Ev.now _)
        simp only [tracks_Sum.l1]
        rw [if_pos (by omega), if_pos (by omega), if_pos (by omega), if_pos (by omega), e1, is_eq _ (by omega), decide_eq_false (by omega)]
        rfl
      · refine Ev.step (f := fun _ => some (0, 10)) (fun k => ?_) (Ev.now _)
        simp only [parterreref27_Sum.l1]
        rw [if_pos (by omega), if_pos (by omega), if_pos (by omega), e2, if_pos hb]
    · have er : suml s a (d + 1) i n = suml s a d (i + 1) (n + rd s (i : Int) + rd a (i : Int)) := by simp only [suml]; rw [if_neg hb]
      rw [er]
      have hn := ih (i + 1) (n + rd s (i : Int) + rd a (i : Int)) (by omega) (by omega) (by omega)
      constructor
      · refine Ev.step (fun k => ?_) hn.1
        simp only [tracks_Sum.l1]
        rw [if_pos (by omega), if_pos (by omega), if_pos (by omega), if_pos (by omega), e1, is_eq _ (by omega), decide_eq_true (by omega), wrap_in ((i : Int) + 1) (by omega) (by omega), ec]
        rfl
      · refine Ev.step (fun k => ?_) hn.2
        simp only [parterreref27_Sum.l1]
        rw [if_pos (by omega), if_pos (by omega), if_pos (by omega), e2, if_neg hb, wrap_in ((i : Int) + 1) (by omega) (by omega), ec]
theorem sum_l0 (lo : Int) (l : List S57) (g : List Bool) (a s : List Int) (hm : s.length ≤ 40000) (R : Int × Int) (hc : szi s s.length 0 = true → Ev (fun k => tracks_Sum.l1 k 0 s (s.length : Int) 0 lo l g a) R ∧ Ev (fun k => parterreref27_Sum.l1 k s 0 0 lo l g a) R) (d : Nat) :
    ∀ (i : Nat), i + d = s.length → (szi s d i = szi s s.length 0) → Ev (fun k => tracks_Sum.l0 k s 0 s (s.length : Int) (i : Int) lo l g a) (if szi s s.length 0 = true then R else (0, 2)) ∧ Ev (fun k => parterreref27_Sum.l0 k s (i : Int) lo l g a) (if szi s s.length 0 = true then R else (0, 2)) := by
  induction d with
  | zero =>
    intro i hi hz
    have hz' : szi s s.length 0 = true := by rw [← hz]; rfl
    rw [if_pos hz']
    constructor
    · refine Ev.step (fun k => ?_) (hc hz').1
      simp only [tracks_Sum.l0]
      rw [if_neg (by omega)]
    · refine Ev.step (fun k => ?_) (hc hz').2
      simp only [parterreref27_Sum.l0]
      rw [if_neg (by omega)]
  | succ d ih =>
    intro i hi hz
    have ec : ((i : Int) + 1) = ((i + 1 : Nat) : Int) := by simp
    cases hin : inP (rd s (i : Int)) with
    | false =>
      have hz' : ¬ szi s s.length 0 = true := by rw [← hz]; simp only [szi, hin, Bool.false_and]; decide
      have hn : ¬ (0 ≤ rd s (i : Int) ∧ rd s (i : Int) ≤ 68719476736) := of_decide_eq_false hin
      rw [if_neg hz']
      constructor
      · refine Ev.step (f := fun _ => some (0, 2)) (fun k => ?_) (Ev.now _)
        simp only [tracks_Sum.l0]
        rw [if_pos (by omega), if_pos (by omega), if_pos (by omega), twithin_eq, hin]
        rfl
      · refine Ev.step (f := fun _ => some (0, 2)) (fun k => ?_) (Ev.now _)
        simp only [parterreref27_Sum.l0]
        rw [if_pos (by omega), if_pos (by omega)]
        by_cases h0 : rd s (i : Int) < 0
        · rw [if_pos h0]
        · rw [if_neg h0, if_pos (by omega)]
    | true =>
      have hn : 0 ≤ rd s (i : Int) ∧ rd s (i : Int) ≤ 68719476736 := of_decide_eq_true hin
      have hi2 := ih (i + 1) (by omega) (by rw [← hz]; simp only [szi, hin, Bool.true_and])
      constructor
      · refine Ev.step (fun k => ?_) hi2.1
        simp only [tracks_Sum.l0]
        rw [if_pos (by omega), if_pos (by omega), if_pos (by omega), twithin_eq, hin, wrap_in ((i : Int) + 1) (by omega) (by omega), ec]
        rfl
      · refine Ev.step (fun k => ?_) hi2.2
        simp only [parterreref27_Sum.l0]
        rw [if_pos (by omega), if_pos (by omega), if_neg (by omega), if_neg (by omega), wrap_in ((i : Int) + 1) (by omega) (by omega), ec]
theorem tk_ahead {lo : Int} {l : List S57} {g : List Bool} {a : List Int} (h : TkB lo l g a = true) : TkC lo l g a ∧ ∀ j : Nat, j < l.length → 0 ≤ rd a (j : Int) ∧ rd a (j : Int) ≤ 68719476736 := by
  unfold TkB at h
  rw [Bool.and_eq_true] at h
  refine ⟨of_decide_eq_true h.1, fun j hj => ?_⟩
  have := gdi_at _ _ h.2 j (by omega) (by omega)
  unfold okAt at this
  simp only [Bool.and_eq_true] at this
  exact of_decide_eq_true this.2.1
theorem sum_both (lo : Int) (l : List S57) (g : List Bool) (a s : List Int) : Ev (fun k => tracks_Sum.f k lo l g a s) (sumS lo l g a s) ∧ Ev (fun k => parterreref27_Sum.f k lo l g a s) (sumS lo l g a s) := by
  have bad : ∀ b : Bool, b = true → (¬ (TkB lo l g a = true ∧ s.length = l.length ∧ szi s s.length 0 = true)) → Ev (fun k => tracks_Sum.j0 k s 0 b lo l g a) (sumS lo l g a s) ∧ Ev (fun k => parterreref27_Sum.j0 k s b lo l g a) (sumS lo l g a s) := by
    intro b hb hno
    subst hb
    unfold sumS
    rw [if_neg hno]
    constructor
    · refine Ev.step (f := fun _ => some (0, 2)) (fun k => ?_) (Ev.now _)
      simp only [tracks_Sum.j0, if_true]
    · refine Ev.step (f := fun _ => some (0, 2)) (fun k => ?_) (Ev.now _)
      simp only [parterreref27_Sum.j0, if_true]
  have hb : Ev (fun k => if TkB lo l g a = true then tracks_Sum.j0 k s 0 ((s.length : Int) != (l.length : Int)) lo l g a else tracks_Sum.j0 k s 0 true lo l g a) (sumS lo l g a s) ∧ Ev (fun k => if TkB lo l g a = true then parterreref27_Sum.j0 k s ((s.length : Int) != (l.length : Int)) lo l g a else parterreref27_Sum.j0 k s true lo l g a) (sumS lo l g a s) := by
    by_cases hT : TkB lo l g a = true
    · simp only [if_pos hT]
      by_cases hl : s.length = l.length
      · have e : ((s.length : Int) != (l.length : Int)) = false := by simp [hl]
        rw [e]
        have hta := tk_ahead hT
        have hm : s.length ≤ 40000 := by have := hta.1.1; omega
        have := sum_l0 lo l g a s hm (suml s a s.length 0 0) (fun hz => sum_l1 lo l g a s (by have := hta.1.2.2.1; omega) hm (fun j hj => szi_at _ _ hz j (by omega) (by omega)) (fun j hj => hta.2 j (by omega)) s.length 0 0 (by omega) (by omega) (by omega)) s.length 0 (by omega) rfl
        have e2 : (if szi s s.length 0 = true then suml s a s.length 0 0 else (0, 2)) = sumS lo l g a s := by
          unfold sumS
          by_cases hz : szi s s.length 0 = true
          · rw [if_pos hz, if_pos ⟨hT, hl, hz⟩]
          · rw [if_neg hz, if_neg (fun h => hz h.2.2)]
        rw [e2] at this
        constructor
        · refine Ev.step (fun k => ?_) this.1
          simp only [tracks_Sum.j0, Bool.false_eq_true, if_false]
          rfl
        · refine Ev.step (fun k => ?_) this.2
          simp only [parterreref27_Sum.j0, Bool.false_eq_true, if_false]
          rfl
      · have e : ((s.length : Int) != (l.length : Int)) = true := by simp; omega
        exact bad _ e (fun h => hl h.2.1)
    · simp only [if_neg hT]
      exact bad true rfl (fun h => hT h.1)
  exact ⟨Ev.bind (good_ev lo l g a) hb.1, Ev.bind (rgood_ev lo l g a) hb.2⟩
end Go.Proofs.Ytbkohlhonhmhmaa.Trk
