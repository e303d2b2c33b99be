/- The code's Up, whole: of right arguments it is told by levels, of others nobody gets anything. No condition beyond what each lemma states. -/
import Derived.Test.YtecccaniopkphaaUp
namespace Go.Proofs.Ytecccaniopkphaa.Spread
open Go.RowKit Go.Proofs.Ytecccaniopkphaa.PA Go.Proofs.YtecccaniopkphaaW.PrintWords Go.Proofs.YtecccaniopkphaaW.PrintMore Go.Proofs.Ytecccaniopkphaa.Evs
set_option linter.unusedVariables false
set_option linter.unusedSimpArgs false
def RgP (S : Int) (n : Nat) : Prop := 0 ≤ S ∧ S < 1125899906842624 ∧ n ≤ 65536
instance (S : Int) (n : Nat) : Decidable (RgP S n) := by unfold RgP; infer_instance
def rmB (l : List Int) : Bool := l.all fun r => decide (0 ≤ r ∧ r ≤ 1125899906842624)
theorem rmB_iff (l : List Int) : rmB l = true ↔ ∀ r ∈ l, 0 ≤ r ∧ r ≤ 1125899906842624 := by simp [rmB]
theorem right_eq (S : Int) (n : Nat) : spread_right.f S (n : Int) = some (decide (RgP S n)) := by
  unfold spread_right.f
  by_cases h1 : S ≥ 0
  · by_cases h2 : S < 1125899906842624
    · rw [if_pos h1, if_pos h2]
      exact congrArg some (decide_eq_decide.mpr ⟨fun h => ⟨h1, h2, by omega⟩, fun h => by have := h.2.2; omega⟩)
    · rw [if_pos h1, if_neg h2]
      exact congrArg some (decide_eq_false (fun h : RgP S n => h2 h.2.1)).symm
  · rw [if_neg h1]
    exact congrArg some (decide_eq_false (fun h : RgP S n => h1 h.1)).symm
theorem rooms_loop (l : List Int) (hm : l.length ≤ 9223372036854775806) (d : Nat) : ∀ i : Nat, i + d = l.length → Ev (fun k => spread_rooms.l0 k l (l.length : Int) (i : Int)) (rmB (l.drop i)) := by
  induction d with
  | zero =>
    intro i hi
    refine Ev.step (f := fun _ => some _) (fun k => ?_) (Ev.now _)
    simp only [spread_rooms.l0]
    rw [if_neg (by omega), List.drop_of_length_le (by omega)]
    rfl
  | succ d ih =>
    intro i hi
    have ha : l.drop i = l[i] :: l.drop (i + 1) := List.drop_eq_getElem_cons (by omega)
    have ec : ((i : Int) + 1) = ((i + 1 : Nat) : Int) := by simp
    have hb : rmB (l.drop i) = (decide (0 ≤ l[i] ∧ l[i] ≤ 1125899906842624) && rmB (l.drop (i + 1))) := by rw [ha]; rfl
    rw [hb]
    by_cases h1 : l[i] < 0
    · have : decide (0 ≤ l[i] ∧ l[i] ≤ 1125899906842624) = false := by simp; omega
      rw [this, Bool.false_and]
      refine Ev.step (f := fun _ => some false) (fun k => ?_) (Ev.now _)
      simp only [spread_rooms.l0]
      rw [if_pos (by omega), if_pos (by omega), if_pos (by omega), rd_at l i (by omega), if_pos h1]
    · by_cases h2 : l[i] > 1125899906842624
      · have : decide (0 ≤ l[i] ∧ l[i] ≤ 1125899906842624) = false := by simp; omega
        rw [this, Bool.false_and]
        refine Ev.step (f := fun _ => some false) (fun k => ?_) (Ev.now _)
        simp only [spread_rooms.l0]
        rw [if_pos (by omega), if_pos (by omega), if_pos (by omega), rd_at l i (by omega), if_neg h1, if_pos h2]
      · have : decide (0 ≤ l[i] ∧ l[i] ≤ 1125899906842624) = true := by simp; omega
        rw [this, Bool.true_and]
        refine Ev.step (fun k => ?_) (ih (i + 1) (by omega))
        simp only [spread_rooms.l0]
        rw [if_pos (by omega), if_pos (by omega), if_pos (by omega), rd_at l i (by omega), if_neg h1, if_neg h2, wrap_in ((i : Int) + 1) (by omega) (by omega), ec]
theorem rooms_ev (l : List Int) (hm : l.length ≤ 9223372036854775806) : Ev (fun k => spread_rooms.f k l) (rmB l) := by
  have := rooms_loop l hm l.length 0 (by omega)
  simpa [spread_rooms.f] using this
/-- What Up tells: a row as its lemma says. -/
theorem Up_ev (S : Int) (room : List Int) (hm : room.length ≤ 35184372088832) : ∃ out, Ev (fun k => spread_Up.f k S room) out ∧ (RgP S room.length ∧ rmB room = true → IsUp S room out) ∧ (¬ (RgP S room.length ∧ rmB room = true) → out = List.replicate room.length 0) := by
  have hf : ∀ k, spread_Up.f k S room = if RgP S room.length then ((spread_rooms.f k room).bind fun t => spread_Up.j0 k (!t) S room (List.replicate room.length 0)) else spread_Up.j0 k true S room (List.replicate room.length 0) := by
    intro k
    unfold spread_Up.f
    rw [if_pos (by omega), if_pos (by omega), right_eq]
    simp only [Int.toNat_natCast, Option.bind_some, decide_eq_true_eq]
  have hbad : Ev (fun k => spread_Up.j0 k true S room (List.replicate room.length 0)) (List.replicate room.length 0) := Ev.step (f := fun _ => some _) (fun k => by simp only [spread_Up.j0, if_true]) (Ev.now _)
  by_cases h1 : RgP S room.length
  · by_cases h2 : rmB room = true
    · have hz : List.replicate room.length (0 : Int) = room.map fun r => mn r 0 := by
        refine List.ext_getElem (by simp) (fun i a b => ?_)
        have hi : i < room.length := by simpa using b
        have := (rmB_iff room).mp h2 room[i] (List.getElem_mem hi)
        simp only [List.getElem_replicate, List.getElem_map]
        unfold mn
        split <;> omega
      have hT : T 0 room = 0 := by
        have h3 := (rmB_iff room).mp h2
        clear hm hf hbad h1 h2 hz
        induction room with
        | nil => rfl
        | cons r rs ih =>
          have := h3 r (by simp)
          simp only [T, ih (fun x hx => h3 x (by simp [hx]))]
          unfold mn
          split <;> omega
      obtain ⟨out, hev, hup⟩ := up_loop room h1.2.2 ((rmB_iff room).mp h2) S.toNat S 0 h1.1 (by have := h1.1; omega) h1.2.1 (by omega)
      rw [hT, Int.zero_add] at hup
      refine ⟨out, Ev.congr hf ?_, fun _ => hup, fun h => absurd ⟨h1, h2⟩ h⟩
      simp only [h1, if_true]
      refine Ev.bind (rooms_ev room (by omega)) ?_
      rw [h2]
      refine Ev.step (fun k => ?_) hev
      simp only [spread_Up.j0, Bool.not_true, Bool.false_eq_true, if_false, hz]
    · refine ⟨_, Ev.congr hf ?_, fun h => absurd h.2 h2, fun _ => rfl⟩
      simp only [h1, if_true]
      refine Ev.bind (rooms_ev room (by omega)) ?_
      have : rmB room = false := by simpa using h2
      rw [this]
      exact hbad
  · refine ⟨_, Ev.congr hf ?_, fun h => absurd h.1 h1, fun _ => rfl⟩
    simp only [h1, if_false]
    exact hbad
end Go.Proofs.Ytecccaniopkphaa.Spread
