/- What is got up to a level is told by the space and the rooms; with more space nobody gets less. No condition beyond what each lemma states. -/
import Derived.Test.YtecccaniopkphaaSpread
namespace Go.Proofs.Ytecccaniopkphaa.Spread
open Go.RowKit Go.Proofs.Ytecccaniopkphaa.PA Go.Proofs.YtecccaniopkphaaW.PrintWords Go.Proofs.YtecccaniopkphaaW.PrintMore Go.Proofs.Ytecccaniopkphaa.Evs
set_option linter.unusedVariables false
set_option linter.unusedSimpArgs false
theorem T_step (L : Int) (rs : List Int) : T (L + 1) rs = T L rs + op L rs := by
  induction rs with
  | nil => rfl
  | cons r rs ih =>
    simp only [T, op, ih]
    unfold mn
    (repeat' split) <;> omega
theorem T_mono {L M : Int} (h : L ≤ M) (rs : List Int) : T L rs ≤ T M rs := by
  induction rs with
  | nil => exact Int.le_refl _
  | cons r rs ih =>
    simp only [T]
    unfold mn
    (repeat' split) <;> omega
/-- The level and how many get one more are told, if somebody is above the level. -/
theorem isup_level {S S' : Int} {room : List Int} {L t L' t' : Int} (h : T L room + t = S) (h' : T L' room + t' = S') (hS : S ≤ S') (ht : 0 ≤ t) (ht' : t' < op L' room) : L < L' ∨ (L = L' ∧ t ≤ t') := by
  rcases Int.lt_trichotomy L L' with h1 | h1 | h1
  · exact Or.inl h1
  · subst h1; exact Or.inr ⟨rfl, by omega⟩
  · exfalso
    have h2 := T_mono (show L' + 1 ≤ L by omega) room
    rw [T_step] at h2
    omega
/-- Where all rooms are full they stay full. -/
theorem isup_full {S S' : Int} {room : List Int} {L t L' t' : Int} (hL : ∀ r ∈ room, r ≤ L) (h : T L room + t = S) (h' : T L' room + t' = S') (hS : S ≤ S') (ht : 0 ≤ t) (ht' : t' < op L' room) : False := by
  have h2 : T (L' + 1) room ≤ T L room := by
    clear h h' hS ht ht'
    induction room with
    | nil => exact Int.le_refl _
    | cons r rs ih =>
      have := ih (fun x hx => hL x (by simp [hx]))
      have hr := hL r (by simp)
      simp only [T]
      unfold mn
      (repeat' split) <;> omega
  rw [T_step] at h2
  omega
theorem isup_unique {S : Int} {room a b : List Int} (ha : IsUp S room a) (hb : IsUp S room b) : a = b := by
  obtain ⟨L, t, hL, ht, h1, h2, rfl⟩ := ha
  obtain ⟨L', t', hL', ht', h1', h2', rfl⟩ := hb
  rcases h2 with h2 | h2
  · rcases h2' with h2' | h2'
    · rcases isup_level h1 h1' (Int.le_refl _) ht h2' with h | ⟨rfl, _⟩
      · rcases isup_level h1' h1 (Int.le_refl _) ht' h2 with g | ⟨g, _⟩
        · omega
        · omega
      · have : t = t' := by omega
        rw [this]
    · exact (isup_full h2' h1' h1 (Int.le_refl _) ht' h2).elim
  · rcases h2' with h2' | h2'
    · exact (isup_full h2 h1 h1' (Int.le_refl _) ht h2').elim
    · rw [lv_all t h2, lv_all t' h2']
/-- All of a row. -/
def tot : List Int → Int
  | [] => 0
  | x :: xs => x + tot xs
theorem lv_tot (L : Int) (rs : List Int) : ∀ t : Int, 0 ≤ t → (t ≤ op L rs → tot (lv L t rs) = T L rs + t) ∧ (op L rs ≤ t → tot (lv L t rs) = T L rs + op L rs) := by
  induction rs with
  | nil => intro t ht; simp [lv, tot, T, op]; omega
  | cons r rs ih =>
    intro t ht
    have hop := op_nonneg L rs
    simp only [lv, T, op]
    by_cases hlt : L < r
    · have e1 : mn r L = L := by unfold mn; split <;> omega
      simp only [hlt, if_true, e1]
      by_cases hz : 0 < t
      · simp only [hz, if_true, tot]
        have := ih (t - 1) (by omega)
        constructor <;> intro h
        · have := this.1 (by omega); omega
        · have := this.2 (by omega); omega
      · have : t = 0 := by omega
        subst this
        simp only [Int.lt_irrefl, if_false, tot]
        have := (ih 0 (by omega)).1 hop.1
        constructor <;> intro h <;> omega
    · have e1 : mn r L = r := by unfold mn; split <;> omega
      simp only [hlt, if_false, e1, tot]
      have := ih t ht
      constructor <;> intro h
      · have := this.1 (by omega); omega
      · have := this.2 (by omega); omega
theorem lv_in (L : Int) (hL : 0 ≤ L) (rs : List Int) : ∀ (t : Int) (i : Nat) (h : i < (lv L t rs).length) (h' : i < rs.length), (0 ≤ rs[i] → 0 ≤ (lv L t rs)[i]) ∧ (lv L t rs)[i] ≤ rs[i] := by
  induction rs with
  | nil => intro t i h h'; simp at h'
  | cons r rs ih =>
    intro t i h h'
    simp only [lv] at h ⊢
    by_cases hlt : L < r
    · simp only [hlt, if_true] at h ⊢
      by_cases hz : 0 < t
      · simp only [hz, if_true] at h ⊢
        cases i with
        | zero => simp; omega
        | succ i => simpa using ih (t - 1) i (by simpa using h) (by simpa using h')
      · simp only [hz, if_false] at h ⊢
        cases i with
        | zero => simp; omega
        | succ i => simpa using ih t i (by simpa using h) (by simpa using h')
    · simp only [hlt, if_false] at h ⊢
      cases i with
      | zero => simp
      | succ i => simpa using ih t i (by simpa using h) (by simpa using h')
end Go.Proofs.Ytecccaniopkphaa.Spread
