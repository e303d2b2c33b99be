/- What one of a row gets up to a level; of two that have room left; more space. No condition beyond what each lemma states. -/
import Derived.Test.YtecccaniopkphaaUp
namespace Go.Proofs.Ytecccaniopkphaa.Spread
open Go.RowKit Go.Proofs.Ytecccaniopkphaa.PA Go.Proofs.YtecccaniopkphaaW.PrintWords Go.Proofs.YtecccaniopkphaaW.PrintMore Go.Proofs.Ytecccaniopkphaa.Evs
set_option linter.unusedVariables false
set_option linter.unusedSimpArgs false
theorem op_append (L : Int) (a b : List Int) : op L (a ++ b) = op L a + op L b := by
  induction a with
  | nil => simp [op]
  | cons r rs ih => simp only [List.cons_append, op, ih]; omega
theorem op_take {L : Int} {rs : List Int} {k i : Nat} (h : k ≤ i) : op L (rs.take k) ≤ op L (rs.take i) := by
  have e : rs.take i = rs.take k ++ (rs.drop k).take (i - k) := by
    have := List.take_add (l := rs) (i := k) (j := i - k)
    rwa [Nat.add_sub_cancel' h] at this
  rw [e, op_append]
  have := op_nonneg L ((rs.drop k).take (i - k))
  omega
theorem lv_get (L : Int) (rs : List Int) : ∀ (t : Int) (i : Nat) (h : i < (lv L t rs).length) (h' : i < rs.length), 0 ≤ t → (lv L t rs)[i] = if L < rs[i] then (if op L (rs.take i) < t then L + 1 else L) else rs[i] := by
  induction rs with
  | nil => intro t i h h'; simp at h'
  | cons r rs ih =>
    intro t i h h' ht
    simp only [lv] at h ⊢
    by_cases hlt : L < r
    · simp only [hlt, if_true] at h ⊢
      by_cases hz : 0 < t
      · simp only [hz, if_true] at h ⊢
        cases i with
        | zero => simp [op, hlt, hz]
        | succ i =>
          have := ih (t - 1) i (by simpa using h) (by simpa using h') (by omega)
          simp only [List.getElem_cons_succ, List.take_succ_cons, op, hlt, if_true]
          rw [this]
          have : (op L (List.take i rs) < t - 1) ↔ (1 + op L (List.take i rs) < t) := by omega
          simp only [this]
      · have : t = 0 := by omega
        subst this
        simp only [Int.lt_irrefl, if_false] at h ⊢
        cases i with
        | zero => simp [op, hlt]
        | succ i =>
          have h3 := ih 0 i (by simpa using h) (by simpa using h') (by omega)
          have h4 := op_nonneg L (List.take i rs)
          simp only [List.getElem_cons_succ, List.take_succ_cons, op, hlt, if_true]
          rw [h3]
          have e1 : ¬ (op L (List.take i rs) < 0) := by omega
          have e2 : ¬ (1 + op L (List.take i rs) < 0) := by omega
          simp only [e1, e2]
    · simp only [hlt, if_false] at h ⊢
      cases i with
      | zero => simp [hlt]
      | succ i =>
        have := ih t i (by simpa using h) (by simpa using h') ht
        simp only [List.getElem_cons_succ, List.take_succ_cons, op, hlt, if_false, Int.zero_add]
        exact this
/-- Of two that have room left. -/
theorem isup_alike {S : Int} {room out : List Int} (h : IsUp S room out) (k i : Nat) (hki : k < i) (hi : i < room.length) (hi' : i < out.length) (h1 : out[i] < room[i]) (h2 : out[k] < room[k]) : out[k] ≤ out[i] + 1 ∧ out[i] ≤ out[k] := by
  obtain ⟨L, t, hL, ht, e1, e2, rfl⟩ := h
  have a := lv_get L room t i hi' hi ht
  have b := lv_get L room t k (by omega) (by omega) ht
  have c := op_take (L := L) (rs := room) (Nat.le_of_lt hki)
  rw [a] at h1 ⊢
  rw [b] at h2 ⊢
  split at h1
  · split at h2
    · rename_i g1 g2
      simp only [g1, g2, if_true]
      (repeat' split) <;> omega
    · omega
  · omega
theorem isup_length {S : Int} {room out : List Int} (h : IsUp S room out) : out.length = room.length := by
  obtain ⟨L, t, hL, ht, e1, e2, rfl⟩ := h
  exact lv_length L room t
theorem isup_more {S S' : Int} {room out out' : List Int} (h : IsUp S room out) (h' : IsUp S' room out') (hS : S ≤ S') (i : Nat) (hi : i < room.length) (h1 : i < out.length) (h2 : i < out'.length) : out[i] ≤ out'[i] := by
  obtain ⟨L, t, hL, ht, e1, e2, rfl⟩ := h
  obtain ⟨L', t', hL', ht', e1', e2', rfl⟩ := h'
  have a := lv_get L room t i h1 hi ht
  have b := lv_get L' room t' i h2 hi ht'
  have a' := (lv_in L hL room t i h1 hi).2
  rcases e2' with e2' | e2'
  · rcases e2 with e2 | e2
    · rcases isup_level e1 e1' hS ht e2' with g | ⟨g, g'⟩
      · rw [a, b]
        (repeat' split) <;> omega
      · subst g
        rw [a, b]
        (repeat' split) <;> omega
    · exact (isup_full e2 e1 e1' hS ht e2').elim
  · have := e2' room[i] (List.getElem_mem hi)
    rw [b, if_neg (by omega)]
    exact a'
theorem isup_in {S : Int} {room out : List Int} (h : IsUp S room out) (hr : ∀ r ∈ room, 0 ≤ r) (i : Nat) (hi : i < room.length) (h1 : i < out.length) : 0 ≤ out[i] ∧ out[i] ≤ room[i] := by
  obtain ⟨L, t, hL, ht, e1, e2, rfl⟩ := h
  have := lv_in L hL room t i h1 hi
  exact ⟨this.1 (hr _ (List.getElem_mem hi)), this.2⟩
/-- What all have got: the space, or all rooms. -/
theorem isup_tot {S : Int} {room out : List Int} (h : IsUp S room out) : tot out ≤ S ∧ (tot out = S ∨ out = room) := by
  obtain ⟨L, t, hL, ht, e1, e2, rfl⟩ := h
  have a := lv_tot L room t ht
  have b := op_nonneg L room
  by_cases hc : t ≤ op L room
  · have := a.1 hc
    omega
  · have h3 := a.2 (by omega)
    rcases e2 with e2 | e2
    · omega
    · refine ⟨by omega, Or.inr (lv_all t e2)⟩
end Go.Proofs.Ytecccaniopkphaa.Spread
