/- Tracks: which may be, and what tracks and gaps have, in plain words. No condition beyond what each lemma states. -/
import Derived.Test.YtbkohlhonhmhmaaPAx7
import Derived.Test.YtbkohlhonhmhmaaPAx24
import Derived.Test.YtbkohlhonhmhmaaEv
namespace Go.Proofs.Ytbkohlhonhmhmaa.Trk
open Go.RowKit Go.Proofs.Ytbkohlhonhmhmaa.PA Go.Proofs.YtbkohlhonhmhmaaW.PrintWords Go.Proofs.YtbkohlhonhmhmaaW.PrintMore Go.Proofs.Ytbkohlhonhmhmaa.Evs
set_option linter.unusedVariables false
set_option linter.unusedSimpArgs false
theorem ev_deep {α : Type} {g : Nat → Option α} {r : α} (D : Nat) (h : ∀ k, g (k + D) = some r) : Ev g r := ⟨D, fun k hk => by have := h (k - D); rwa [Nat.sub_add_cancel hk] at this⟩
theorem rs_at (l : List S57) (i : Nat) (h : i < l.length) : rd_T57 l (i : Int) = l[i] := by simp [rd_T57, List.getD_eq_getElem?_getD, List.getElem?_eq_getElem h]
theorem rd_at (l : List Int) (i : Nat) (h : i < l.length) : rd l (i : Int) = l[i] := by simp [rd, List.getD_eq_getElem?_getD, List.getElem?_eq_getElem h]
theorem rdb_at (l : List Bool) (i : Nat) (h : i < l.length) : rdOf false l (i : Int) = l[i] := by simp [rdOf, List.getD_eq_getElem?_getD, List.getElem?_eq_getElem h]
/-- May a length be, of the kinds that are let in? -/
def valP (au fr : Bool) (a b : Int) : Bool :=
  if a = 2 then decide (0 ≤ b ∧ b ≤ 68719476736) else if a = 3 then decide (0 ≤ b ∧ b ≤ 1073741824) else if a = 6 then fr && decide (0 ≤ b ∧ b ≤ 1073741824) else au && decide (b = 0 ∧ (a = 1 ∨ a = 4 ∨ a = 5))
def AlP (c : Int) (au fr : Bool) : Prop := c = 1 ∧ au = false ∧ fr = false ∨ c = 13 ∧ au = true ∧ fr = false ∨ c = 29 ∧ au = true ∧ fr = true
theorem al_bits {c : Int} {au fr : Bool} (h : AlP c au fr) : (Go.bits .and .i64 c 2 > 0 ↔ False) ∧ (Go.bits .and .i64 c 1 > 0 ↔ True) ∧ (Go.bits .and .i64 c 16 > 0 ↔ fr = true) ∧ (Go.bits .and .i64 c 4 > 0 ↔ au = true) ∧ (Go.bits .and .i64 c 8 > 0 ↔ au = true) ∧ (Go.bits .and .i64 c 32 > 0 ↔ False) ∧ (Go.bits .and .i64 c 0 > 0 ↔ False) := by
  rcases h with ⟨rfl, rfl, rfl⟩ | ⟨rfl, rfl, rfl⟩ | ⟨rfl, rfl, rfl⟩ <;> decide
theorem dec2 (x y : Int) (h : y ≥ x) (z : Int) : decide (y ≤ z) = decide (x ≤ y ∧ y ≤ z) := decide_eq_decide.mpr ⟨fun h2 => ⟨h, h2⟩, fun h2 => h2.2⟩
theorem dec2n (x y : Int) (h : ¬ y ≥ x) (z : Int) : false = decide (x ≤ y ∧ y ≤ z) := (decide_eq_false (fun h2 => h h2.1)).symm
theorem val_eq {c : Int} {au fr : Bool} (h : AlP c au fr) (a b : Int) (k : Nat) : value_Good.f (k + 2) a b c = some (valP au fr a b) := by
  obtain ⟨b2, b1, b16, b4, b8, b32, b0⟩ := al_bits h
  unfold value_Good.f valP
  by_cases h2 : a = 2
  · rw [if_pos h2, if_pos h2]
    by_cases hb : b < 0
    · rw [if_pos hb, if_neg (fun hh => b2.mp hh)]
      exact congrArg some (dec2n 0 b (by omega) _)
    · rw [if_neg hb]
      exact congrArg some (dec2 0 b (by omega) _)
  rw [if_neg h2, if_neg h2]
  by_cases h3 : a = 3
  · rw [if_pos h3, if_pos h3, if_pos (b1.mpr trivial)]
    by_cases hb : b < 0
    · rw [if_pos hb, if_neg (fun hh => b2.mp hh)]
      exact congrArg some (dec2n 0 b (by omega) _)
    · rw [if_neg hb]
      exact congrArg some (dec2 0 b (by omega) _)
  rw [if_neg h3, if_neg h3]
  by_cases h6 : a = 6
  · rw [if_pos h6, if_pos h6]
    cases fr with
    | false => rw [if_neg (fun hh => by cases b16.mp hh)]; rfl
    | true =>
      rw [if_pos (b16.mpr rfl)]
      by_cases hb : b ≥ 0
      · rw [if_pos hb]
        exact congrArg some (by rw [Bool.true_and]; exact dec2 0 b hb _)
      · rw [if_neg hb]
        exact congrArg some (by rw [Bool.true_and]; exact dec2n 0 b hb _)
  rw [if_neg h6, if_neg h6]
  by_cases hb : b = 0
  · have key : ∀ t : Int, (Go.bits .and .i64 c t > 0 ↔ (au = true ∧ (a = 1 ∨ a = 4 ∨ a = 5))) → decide (Go.bits .and .i64 c t > 0) = (au && decide (b = 0 ∧ (a = 1 ∨ a = 4 ∨ a = 5))) := by
      intro t ht
      rw [Bool.eq_iff_iff]
      simp only [decide_eq_true_eq, Bool.and_eq_true, ht, hb, true_and]
    rw [if_pos hb]
    unfold value_keyBit.f
    by_cases h1 : a = 1
    · rw [if_pos h1]
      exact congrArg some (key 4 (by rw [b4]; simp [h1]))
    rw [if_neg h1]
    by_cases h4 : a = 4
    · have e : (a == 4) = true := by simp [h4]
      rw [if_pos h4, e]
      simp only [value_keyBit.j0, if_true, Option.bind_some]
      exact congrArg some (key 8 (by rw [b8]; simp [h4]))
    rw [if_neg h4]
    by_cases h5 : a = 5
    · have e : (a == 5) = true := by simp [h5]
      rw [e]
      simp only [value_keyBit.j0, if_true, Option.bind_some]
      exact congrArg some (key 8 (by rw [b8]; simp [h5]))
    have e : (a == 5) = false := by simp [h5]
    rw [e]
    simp only [value_keyBit.j0, Bool.false_eq_true, if_false]
    by_cases h7 : a = 7
    · rw [if_pos h7]
      exact congrArg some (key 32 (by rw [b32]; simp [h1, h4, h5]))
    · rw [if_neg h7]
      exact congrArg some (key 0 (by rw [b0]; simp [h1, h4, h5]))
  · rw [if_neg hb]
    simp [hb]
theorem rhas_eq {c : Int} {au fr : Bool} (h : AlP c au fr) : parterreref05_bits.f c = some c ∧ parterreref05_Has.f c 2 = some false ∧ parterreref05_Has.f c 1 = some true ∧ parterreref05_Has.f c 16 = some fr ∧ parterreref05_Has.f c 4 = some au ∧ parterreref05_Has.f c 8 = some au ∧ parterreref05_Has.f c 32 = some false := by
  rcases h with ⟨rfl, rfl, rfl⟩ | ⟨rfl, rfl, rfl⟩ | ⟨rfl, rfl, rfl⟩ <;> decide +kernel
theorem rval_eq {c : Int} {au fr : Bool} (h : AlP c au fr) (a b : Int) (k : Nat) : parterreref05_Good.f (k + 2) a b c = some (valP au fr a b) := by
  obtain ⟨b0, b2, b1, b16, b4, b8, b32⟩ := rhas_eq h
  unfold parterreref05_Good.f valP
  rw [b0, Option.bind_some]
  by_cases h2 : a = 2
  · rw [if_pos h2, if_pos h2, b2, Option.bind_some, if_neg (by decide)]
    by_cases hb : b ≥ 0
    · rw [if_pos hb]
      exact congrArg some (dec2 0 b hb _)
    · rw [if_neg hb]
      exact congrArg some (dec2n 0 b hb _)
  rw [if_neg h2, if_neg h2]
  by_cases h3 : a = 3
  · rw [if_pos h3, if_pos h3, b2, Option.bind_some, if_neg (by decide), b1, Option.bind_some, if_pos rfl]
    by_cases hb : b ≥ 0
    · rw [if_pos hb]
      exact congrArg some (dec2 0 b hb _)
    · rw [if_neg hb]
      exact congrArg some (dec2n 0 b hb _)
  rw [if_neg h3, if_neg h3]
  by_cases h1 : a = 1
  · rw [if_pos h1, b4, Option.bind_some, if_neg (show ¬ a = 6 by omega)]
    cases au <;> simp [h1]
    by_cases hb : b = 0 <;> simp [hb]
  rw [if_neg h1]
  have hj : ∀ x : Bool, x = decide (a = 4 ∨ a = 5) → parterreref05_Good.j0 (k + 2) c a x a b = some (if a = 6 then (fr && decide (0 ≤ b ∧ b ≤ 1073741824)) else (au && decide (b = 0 ∧ (a = 1 ∨ a = 4 ∨ a = 5)))) := by
    intro x hx
    simp only [parterreref05_Good.j0]
    by_cases h45 : a = 4 ∨ a = 5
    · rw [decide_eq_true h45] at hx
      rw [hx, if_pos rfl, b8, Option.bind_some, if_neg (show ¬ a = 6 by omega)]
      cases au <;> simp [h45]
      by_cases hb : b = 0 <;> simp [hb]
    · rw [decide_eq_false h45] at hx
      rw [hx, if_neg (by decide)]
      by_cases h6 : a = 6
      · rw [if_pos h6, if_pos h6, b16, Option.bind_some]
        cases fr with
        | false => rfl
        | true =>
          rw [if_pos rfl]
          by_cases hb : b ≥ 0
          · rw [if_pos hb]
            exact congrArg some (by rw [Bool.true_and]; exact dec2 0 b hb _)
          · rw [if_neg hb]
            exact congrArg some (by rw [Bool.true_and]; exact dec2n 0 b hb _)
      · have e : (au && decide (b = 0 ∧ (a = 1 ∨ a = 4 ∨ a = 5))) = false := by
          have : ¬ (a = 1 ∨ a = 4 ∨ a = 5) := by omega
          simp [this]
        rw [if_neg h6, if_neg h6, e]
        by_cases h7 : a = 7
        · rw [if_pos h7, b32, Option.bind_some, if_neg (by decide)]
        · rw [if_neg h7]
  by_cases h4 : a = 4
  · rw [if_pos h4]
    exact hj _ (by simp [h4])
  · rw [if_neg h4]
    exact hj _ (by by_cases h5 : a = 5 <;> simp [h4, h5])
/-- May a track be? -/
def RtP (a0 a1 a2 a3 : Int) (a4 : Bool) (a5 a6 : Int) : Bool :=
  if a4 = true then decide (a0 = 1 ∧ a1 = 0 ∧ a2 = 5 ∧ a3 = 0) && (decide (a5 = 2 ∨ a5 = 3) && valP false false a5 a6)
  else decide (a5 = 0 ∧ a6 = 0) && (valP true false a0 a1 && valP true true a2 a3)
theorem right_eq (a0 a1 a2 a3 : Int) (a4 : Bool) (a5 a6 : Int) (k : Nat) : track_Right.f (k + 2) a0 a1 a2 a3 a4 a5 a6 = some (RtP a0 a1 a2 a3 a4 a5 a6) := by
  unfold track_Right.f RtP track_fit.f track_auto.f
  cases a4 with
  | true =>
    simp only [if_true, Option.bind_some]
    by_cases h : a0 = 1 ∧ a1 = 0 ∧ a2 = 5 ∧ a3 = 0
    · obtain ⟨rfl, rfl, rfl, rfl⟩ := h
      have hl : track_isLen.f a5 a6 = some (decide (a5 = 2 ∨ a5 = 3)) := by
        unfold track_isLen.f
        by_cases h2 : a5 = 2
        · simp [h2]
        · by_cases h3 : a5 = 3 <;> simp [h2, h3]
      simp only [beq_self_eq_true, Bool.and_self, if_true, hl, Option.bind_some, val_eq (Or.inl ⟨rfl, rfl, rfl⟩)]
      cases decide (a5 = 2 ∨ a5 = 3) <;> simp
    · rw [if_neg, decide_eq_false h, Bool.false_and]
      simp only [Bool.and_eq_true, beq_iff_eq]
      rintro ⟨⟨h1, h2⟩, ⟨h3, h4⟩, _⟩
      exact h ⟨h1, h2, h3, h4⟩
  | false =>
    simp only [Bool.false_eq_true, if_false, val_eq (Or.inr (Or.inl ⟨rfl, rfl, rfl⟩)), val_eq (Or.inr (Or.inr ⟨rfl, rfl, rfl⟩)), Option.bind_some]
    by_cases h : a5 = 0 ∧ a6 = 0
    · rw [if_pos (by simp [h.1, h.2]), decide_eq_true h, Bool.true_and]
      cases valP true false a0 a1 <;> simp
    · rw [if_neg (by simpa using h), decide_eq_false h, Bool.false_and]
theorem rright_eq (a0 a1 a2 a3 : Int) (a4 : Bool) (a5 a6 : Int) (k : Nat) : parterreref06_Right.f (k + 2) a0 a1 a2 a3 a4 a5 a6 = some (RtP a0 a1 a2 a3 a4 a5 a6) := by
  unfold parterreref06_Right.f RtP
  cases a4 with
  | true =>
    simp only [if_true]
    by_cases h1 : a0 = 1 ∧ a1 = 0
    · rw [if_pos (by simp [h1.1, h1.2])]
      by_cases h2 : a2 = 5 ∧ a3 = 0
      · have hl : parterreref06_isLen.f a5 a6 = some (decide (a5 = 2 ∨ a5 = 3)) := by
          unfold parterreref06_isLen.f
          by_cases h2 : a5 = 2
          · simp [h2]
          · by_cases h3 : a5 = 3 <;> simp [h2, h3]
        rw [if_pos (by simp [h2.1, h2.2]), decide_eq_true ⟨h1.1, h1.2, h2.1, h2.2⟩, hl]
        simp only [Option.bind_some, rval_eq (Or.inl ⟨rfl, rfl, rfl⟩)]
        cases decide (a5 = 2 ∨ a5 = 3) <;> simp
      · rw [if_neg (by simpa using h2), decide_eq_false (fun hh => h2 ⟨hh.2.2.1, hh.2.2.2⟩), Bool.false_and]
    · rw [if_neg (by simpa using h1), decide_eq_false (fun hh => h1 ⟨hh.1, hh.2.1⟩), Bool.false_and]
  | false =>
    simp only [Bool.false_eq_true, if_false, rval_eq (Or.inr (Or.inl ⟨rfl, rfl, rfl⟩)), rval_eq (Or.inr (Or.inr ⟨rfl, rfl, rfl⟩)), Option.bind_some]
    by_cases h : a5 = 0 ∧ a6 = 0
    · rw [if_pos (by simp [h.1, h.2]), decide_eq_true h, Bool.true_and]
      cases valP true false a0 a1 <;> simp
    · rw [if_neg (by simpa using h), decide_eq_false h, Bool.false_and]
end Go.Proofs.Ytbkohlhonhmhmaa.Trk
