/- The plain law of SpreadAll: what the printed functions compute answers as the statement says. -/
import Derived.Test.YtecccaniopkphaaPAx6
import Derived.Test.YtecccaniopkphaaSpLives
namespace Go.Proofs.Ytecccaniopkphaa.Pure
open Go.RowKit Go.Proofs.Ytecccaniopkphaa.PA Go.Proofs.YtecccaniopkphaaW.PrintWords Go.Proofs.YtecccaniopkphaaW.PrintMore Go.Proofs.Ytecccaniopkphaa.Evs Go.Proofs.Ytecccaniopkphaa.Spread
open Go.Proofs.Ytecccaniopkphaa.Spl (splitS spl spl_tot)
set_option linter.unusedVariables false
set_option linter.unusedSimpArgs false
theorem tot_same (a : List Int) : Go.Proofs.Ytecccaniopkphaa.Spl.tot a = tot a := by
  induction a with
  | nil => rfl
  | cons x a ih => simp only [Go.Proofs.Ytecccaniopkphaa.Spl.tot, tot, ih]
theorem split_tot {n : Int} {p : Nat} (hn : 0 ≤ n) (hp : 1 ≤ p) (hp1 : p ≤ 65536) : (splitS n p).length = p ∧ tot (splitS n p) = n := by
  have e : splitS n p = (List.range p).map (spl n p) := by
    unfold splitS
    rw [if_neg (by omega)]
    simp
  rw [e]
  refine ⟨by simp, ?_⟩
  rw [← tot_same, spl_tot]
  have h1 := Int.mul_ediv_add_emod n p
  have h2 := Int.emod_nonneg n (b := (p : Int)) (by omega)
  have h3 := Int.emod_lt_of_pos n (b := (p : Int)) (by omega)
  rw [if_neg (by omega), if_pos h2]
  exact h1
/-- Is there one who may get more? -/
def anyB (bs : List Bool) : Bool := bs.any id
theorem idx_pos (bs : List Bool) : anyB bs = true ↔ 0 < (idx bs).length := by
  induction bs with
  | nil => simp [anyB, idx]
  | cons b bs ih => cases b <;> simp_all [anyB, idx]
theorem anyB_cons (b : Bool) (bs : List Bool) : anyB (b :: bs) = (b || anyB bs) := by simp [anyB]
theorem all_loop (S : Int) (room l : List Int) (bs : List Bool) (hl : l.length = room.length) (hb : bs.length = room.length) (hmx : room.length ≤ 300) (hroom : ∀ r ∈ room, 0 ≤ r ∧ r ≤ 1125899906842624)
    (h0 : ∀ x ∈ l, 0 ≤ x) (hT : tot l ≤ 1125899906842624) (H : ∀ i (hi : i < room.length), bs[i] = false → l[i] ≤ room[i])
    (R1 : (anyB bs = true ∨ S ≤ mn 1125899906842624 (tot room)) → tot l = S) (R2 : ¬ (anyB bs = true ∨ S ≤ mn 1125899906842624 (tot room)) → tot l = mn 1125899906842624 (tot room)) (d : Nat) :
    ∀ (i : Nat) (a r : Int) (m : Bool), i + d = l.length → 0 ≤ a → a + tot (l.drop i) = tot l → 0 ≤ r → r ≤ 1125899906842624 → mn 1125899906842624 (r + tot (room.drop i)) = mn 1125899906842624 (tot room) → (m || anyB (bs.drop i)) = anyB bs →
      Ev (fun k => parterrelaw23_SpreadAll.l0 k S room bs a r m l (l.length : Int) (i : Int)) true := by
  induction d with
  | zero =>
    intro i a r m hi ha1 hat hr0 hr1 hrt hm
    rw [List.drop_of_length_le (by omega)] at hat hrt hm
    simp only [tot, Int.add_zero] at hat hrt
    have er : mn 1125899906842624 r = r := by unfold mn; split <;> omega
    rw [er] at hrt
    rw [← hrt] at R1 R2
    simp only [anyB, List.any_nil, Bool.or_false] at hm
    have hm' : m = anyB bs := hm
    subst hm'
    have hend : ∀ x : Bool, (x = true ↔ (anyB bs = true ∨ S ≤ r)) → Ev (fun k => parterrelaw23_SpreadAll.j2 k S a r x) true := by
      intro x hx
      refine Ev.step (f := fun k => (parterrelaw23_lives.f k).bind fun t => some t) (fun k => ?_) (Ev.bind lives_ev (Ev.now _))
      simp only [parterrelaw23_SpreadAll.j2]
      cases x with
      | true =>
        have := R1 (hx.mp rfl)
        rw [if_pos rfl, if_pos (by omega)]
      | false =>
        have := R2 (fun h => by have := hx.mpr h; cases this)
        rw [if_neg (by decide), if_pos (by omega)]
    cases hany : anyB bs with
    | true =>
      refine Ev.step (fun k => ?_) (hend true (by simp [hany]))
      simp only [parterrelaw23_SpreadAll.l0]
      rw [if_neg (by omega)]
      simp
    | false =>
      refine Ev.step (fun k => ?_) (hend (decide (r ≥ S)) (by simp [hany]))
      simp only [parterrelaw23_SpreadAll.l0]
      rw [if_neg (by omega)]
      simp
  | succ d ih =>
    intro i a r m hi ha1 hat hr0 hr1 hrt hm
    have ec : ((i : Int) + 1) = ((i + 1 : Nat) : Int) := by simp
    have hta := tot_at h0 i (by omega)
    have htd := tot_drop (l := l) i (by omega)
    have htr := tot_drop (l := room) i (by omega)
    have hbd := hroom _ (List.getElem_mem (show i < room.length by omega))
    have hx := h0 _ (List.getElem_mem (show i < l.length by omega))
    have hrest : 0 ≤ tot (room.drop (i + 1)) := tot_nonneg (fun y hy => (hroom y (List.mem_of_mem_drop hy)).1)
    have hbi : bs.drop i = bs[i]'(by omega) :: bs.drop (i + 1) := List.drop_eq_getElem_cons (by omega)
    rw [hbi, anyB_cons] at hm
    obtain ⟨r', er⟩ : ∃ r', mn 1125899906842624 (wrap64 (r + room[i]'(by omega))) = r' := ⟨_, rfl⟩
    have hr' : 0 ≤ r' ∧ r' ≤ 1125899906842624 ∧ mn 1125899906842624 (r' + tot (room.drop (i + 1))) = mn 1125899906842624 (tot room) := by
      rw [← hrt, htr, ← er, wrap_in (r + _) (by omega) (by omega)]
      unfold mn
      (repeat' split) <;> omega
    have key : ∀ m' : Bool, (m' || anyB (bs.drop (i + 1))) = anyB bs → Ev (fun k => parterrelaw23_SpreadAll.l0 k S room bs (a + l[i]) r' m' l (l.length : Int) ((i + 1 : Nat) : Int)) true :=
      fun m' hm' => ih (i + 1) (a + l[i]) r' m' (by omega) (by omega) (by omega) hr'.1 hr'.2.1 hr'.2.2 hm'
    have hgo : ∀ (k : Nat), parterrelaw23_SpreadAll.l0 (k + 1) S room bs a r m l (l.length : Int) (i : Int) = parterrelaw23_SpreadAll.l0 k S room bs (a + l[i]) r' (m || bs[i]'(by omega)) l (l.length : Int) ((i + 1 : Nat) : Int) := by
      intro k
      simp only [parterrelaw23_SpreadAll.l0]
      rw [if_pos (by omega), if_pos (by omega), if_pos (by omega), rd_at l i (by omega), rd_at room i (by omega), if_neg (by omega), if_pos (by omega), wrap_in (a + l[i]) (by omega) (by omega), er, wrap_in ((i : Int) + 1) (by omega) (by omega), ec, rdb_at bs i (by omega)]
      by_cases hgt : l[i] > room[i]'(by omega)
      · have : bs[i]'(by omega) = true := by
          cases hb' : bs[i]'(by omega) with
          | true => rfl
          | false => have := H i (by omega) hb'; omega
        rw [if_pos hgt, if_pos (by omega), this, if_pos rfl]
        cases m <;> rfl
      · rw [if_neg hgt]
        cases m with
        | true => rfl
        | false => rw [if_neg (by decide), if_pos (by omega)]; rfl
    exact Ev.step hgo (key _ (by rw [Bool.or_assoc]; exact hm))
theorem SpreadAll : parterrelaw23_SpreadAll.Pure := by
  intro S room bs hS hl1 hl2 hl3 hl4 hl5 hl6
  refine Ev.rounds ?_
  have hbad : Ev (fun k => parterrelaw23_SpreadAll.j0 k S room bs true) true := Ev.step (f := fun k => (parterrelaw23_lives.f k).bind fun t => some t) (fun k => by simp only [parterrelaw23_SpreadAll.j0, if_true]) (Ev.bind lives_ev (Ev.now _))
  unfold parterrelaw23_SpreadAll.f
  by_cases hlen : (room.length : Int) > 300
  · simp only [hlen, if_true]
    exact hbad
  simp only [hlen, if_false]
  by_cases hb : ¬ bs.length = room.length
  · have : ¬ (bs.length : Int) = (room.length : Int) := by omega
    simp only [this, if_false]
    exact hbad
  have hb := Decidable.not_not.mp hb
  have hb' : (bs.length : Int) = (room.length : Int) := by omega
  simp only [hb', if_true]
  refine Ev.bind (rright_ev S room (by omega)) ?_
  cases hR : (decide (RgP S room.length) && rmB room) with
  | false => exact hbad
  | true =>
    obtain ⟨hR, hr⟩ := right_both hR
    obtain ⟨out, hev, hup, _⟩ := Up_ev S room (by omega)
    have hup := hup ⟨hR, hr⟩
    have hroom := (rmB_iff room).mp hr
    have lo := isup_length hup
    have ho := isup_bd hup hr
    have hto := isup_tot hup
    have hS0 := hR.1
    have hS1 := hR.2.1
    have htr : tot out ≤ tot room := by
      have : ∀ (a b : List Int), a.length = b.length → (∀ i (h : i < a.length) (h' : i < b.length), a[i] ≤ b[i]) → tot a ≤ tot b := by
        intro a
        induction a with
        | nil => intro b hb _; have : b = [] := List.length_eq_zero_iff.mp hb.symm; subst this; simp [tot]
        | cons x a ih =>
          intro b hb h
          cases b with
          | nil => simp at hb
          | cons y b =>
            have h1 := h 0 (by simp) (by simp)
            have h2 := ih b (by simpa using hb) (fun i h3 h4 => by have h6 := h (i + 1) (by simp; omega) (by simp; omega); simp only [List.getElem_cons_succ] at h6; exact h6)
            simp only [List.getElem_cons_zero] at h1
            simp only [tot]
            omega
      exact this out room lo (fun i h h' => (isup_in hup (fun r hr => (hroom r hr).1) i h' h).2)
    have hix := idx_le bs
    have hcases : (anyB bs = true ∧ tot (addp out bs (prt S out bs)) = S) ∨ (anyB bs = false ∧ addp out bs (prt S out bs) = out) := by
      cases hany : anyB bs with
      | true =>
        left
        have hpos := (idx_pos bs).mp hany
        have := split_tot (n := S - tot out) (p := (idx bs).length) (by omega) (by omega) (by omega)
        refine ⟨rfl, ?_⟩
        rw [tot_addp out bs (prt S out bs) (by omega) this.1]
        unfold prt
        omega
      | false =>
        right
        have hz : (idx bs).length = 0 := by
          have := (idx_pos bs).mpr
          rw [hany] at this
          by_cases h : 0 < (idx bs).length
          · cases this h
          · omega
        have : prt S out bs = [] := by
          unfold prt splitS
          rw [if_pos (by omega)]
        rw [this, addp_nil]
        exact ⟨rfl, rfl⟩
    refine Ev.step (f := fun k => (spread_Fill.f k S room bs).bind fun t181 => (if (t181.length : Int) = (room.length : Int) then (parterrelaw23_SpreadAll.l0 k S room bs 0 0 false t181 (t181.length : Int) 0) else (some false))) (fun k => by simp only [parterrelaw23_SpreadAll.j0, Bool.not_true, Bool.false_eq_true, if_false]) ?_
    refine Ev.bind (Fill_ev S room out bs hR hr hb hup) ?_
    have hla : (addp out bs (prt S out bs)).length = room.length := by rw [addp_length]; exact lo
    have hla' : ((addp out bs (prt S out bs)).length : Int) = (room.length : Int) := by omega
    have hy0 : ∀ y ∈ prt S out bs, 0 ≤ y := fun y hy => (splitS_in y hy).1
    have hin := fun i (h1 : i < room.length) => addp_in out bs (prt S out bs) i (by omega) (by omega) (by omega) hy0
    have ht : tot (addp out bs (prt S out bs)) ≤ S := by
      rcases hcases with ⟨_, h⟩ | ⟨_, h⟩
      · omega
      · rw [h]; exact hto.1
    have htrn : 0 ≤ tot room := tot_nonneg (fun y hy => (hroom y hy).1)
    simp only [if_pos hla']
    have hmain := all_loop S room (addp out bs (prt S out bs)) bs hla hb (by omega) hroom
      (fun x hx => by
        obtain ⟨i, hi, rfl⟩ := List.mem_iff_getElem.mp hx
        have h1 := (hin i (by omega)).1
        have h2 := ho out[i] (List.getElem_mem (by omega))
        omega)
      (by omega)
      (fun i hi h => by
        rw [(hin i hi).2 h]
        exact (isup_in hup (fun r hr => (hroom r hr).1) i hi (by omega)).2)
      (fun h => by
        rcases hcases with ⟨h1, h2⟩ | ⟨h1, h2⟩
        · exact h2
        · rw [h2]
          rw [h1] at h
          have h3 : S ≤ mn 1125899906842624 (tot room) := by simpa using h
          have h4 := mn_le 1125899906842624 (tot room)
          rcases hto.2 with h5 | h5
          · exact h5
          · rw [h5] at hto ⊢
            omega)
      (fun h => by
        rcases hcases with ⟨h1, h2⟩ | ⟨h1, h2⟩
        · exact absurd (Or.inl h1) h
        · rw [h2]
          have h3 : ¬ S ≤ mn 1125899906842624 (tot room) := fun h6 => h (Or.inr h6)
          have h4 : mn 1125899906842624 (tot room) = tot room := by unfold mn at h3 ⊢; split at h3 <;> split <;> omega
          rw [h4] at h3 ⊢
          rcases hto.2 with h5 | h5
          · omega
          · rw [h5])
      room.length 0 0 0 false (by omega) (by omega) (by simp) (by omega) (by omega) (by simp) (by simp)
    simpa using hmain
end Go.Proofs.Ytecccaniopkphaa.Pure
