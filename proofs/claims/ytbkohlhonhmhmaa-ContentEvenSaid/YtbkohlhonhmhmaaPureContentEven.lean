/- The plain law of ContentEven: what the printed functions compute answers as the statement says. -/
import Derived.Test.YtbkohlhonhmhmaaPAx21
import Derived.Test.YtbkohlhonhmhmaaStartsF
import Derived.Test.YtbkohlhonhmhmaaLivesC
namespace Go.Proofs.Ytbkohlhonhmhmaa.Pure
open Go.RowKit Go.Proofs.Ytbkohlhonhmhmaa.PA Go.Proofs.YtbkohlhonhmhmaaW.PrintWords Go.Proofs.YtbkohlhonhmhmaaW.PrintMore Go.Proofs.Ytbkohlhonhmhmaa.Evs Go.Proofs.Ytbkohlhonhmhmaa.Trk Go.Proofs.Ytbkohlhonhmhmaa.LivesC
set_option linter.unusedVariables false
set_option linter.unusedSimpArgs false
theorem add_even {x y b : Int} (hb : 0 < b) : x / b + y / b ≤ (x + y) / b ∧ (x + y) / b ≤ x / b + y / b + 1 := by
  have hx := Int.mul_ediv_add_emod x b
  have hy := Int.mul_ediv_add_emod y b
  have hx0 := Int.emod_nonneg x (show b ≠ 0 by omega)
  have hy0 := Int.emod_nonneg y (show b ≠ 0 by omega)
  have hx1 := Int.emod_lt_of_pos x hb
  have hy1 := Int.emod_lt_of_pos y hb
  constructor
  · refine Int.le_ediv_of_mul_le hb ?_
    rw [Int.add_mul, Int.mul_comm (x / b), Int.mul_comm (y / b)]
    omega
  · have : (x + y) / b < x / b + y / b + 2 := by
      refine Int.ediv_lt_of_lt_mul hb ?_
      rw [Int.add_mul, Int.add_mul, Int.mul_comm (x / b), Int.mul_comm (y / b)]
      omega
    omega
/-- What is added between two tracks is even. -/
theorem even_q {al fr n : Int} (hal : 2 ≤ al) (hal9 : al ≤ 9) (hf : fr ≤ 68719476736) : ∃ q : Int, 0 ≤ q ∧ q ≤ 137438953472 ∧ (∀ k : Int, 1 ≤ k → k ≤ n - 1 → q ≤ addS al fr n k - addS al fr n (k - 1) ∧ addS al fr n k - addS al fr n (k - 1) ≤ q + 1) := by
  by_cases h4 : al = 4
  · exact ⟨0, by omega, by omega, fun k _ _ => by unfold addS; rw [if_pos h4, if_pos h4]; omega⟩
  by_cases h5 : al = 5
  · exact ⟨0, by omega, by omega, fun k _ _ => by unfold addS; rw [if_neg h4, if_neg h4, if_pos h5, if_pos h5]; omega⟩
  by_cases hf0 : fr ≤ 0
  · exact ⟨0, by omega, by omega, fun k _ _ => by unfold addS; rw [if_neg h4, if_neg h4, if_neg h5, if_neg h5, if_pos hf0, if_pos hf0]; omega⟩
  by_cases hn1 : n ≤ 1
  · exact ⟨0, by omega, by omega, fun k h1 h2 => by omega⟩
  have key : ∀ c b p : Int, 0 < b → 0 ≤ c → c ≤ 2 → (∀ k : Int, (ratP al k n).1 = c * k + p ∧ (ratP al k n).2 = b) → ∃ q : Int, 0 ≤ q ∧ q ≤ 137438953472 ∧ (∀ k : Int, 1 ≤ k → k ≤ n - 1 → q ≤ addS al fr n k - addS al fr n (k - 1) ∧ addS al fr n k - addS al fr n (k - 1) ≤ q + 1) := by
    intro c b p hb hc hc2 hr
    have hfc : 0 ≤ fr * c := Int.mul_nonneg (by omega) hc
    have hfc2 : fr * c ≤ fr * 2 := Int.mul_le_mul_of_nonneg_left hc2 (by omega)
    have hq0 : 0 ≤ fr * c / b := Int.ediv_nonneg hfc (by omega)
    have hq1 : fr * c / b ≤ fr * c := Int.ediv_le_self _ hfc
    refine ⟨fr * c / b, hq0, by omega, fun k h1 h2 => ?_⟩
    have e : ∀ z : Int, addS al fr n z = fr * (c * z + p) / b := by
      intro z
      unfold addS
      rw [if_neg h4, if_neg h5, if_neg hf0, if_neg (by omega), (hr z).1, (hr z).2]
    rw [e, e]
    have e2 : fr * (c * k + p) = fr * (c * (k - 1) + p) + fr * c := by
      rw [← Int.mul_add]
      congr 1
      rw [Int.mul_sub]
      omega
    rw [e2]
    have := add_even (x := fr * (c * (k - 1) + p)) (y := fr * c) hb
    omega
  by_cases h7 : al = 7
  · exact key 1 (n - 1) 0 (by omega) (by omega) (by omega) (fun k => by unfold ratP; rw [if_pos h7, if_pos (by omega)]; exact ⟨by show k = 1 * k + 0; omega, rfl⟩)
  by_cases h8 : al = 8
  · exact key 2 (2 * n) 1 (by omega) (by omega) (by omega) (fun k => by unfold ratP; rw [if_neg h7, if_pos h8]; exact ⟨rfl, rfl⟩)
  by_cases h9 : al = 9
  · exact key 1 (n + 1) 1 (by omega) (by omega) (by omega) (fun k => by unfold ratP; rw [if_neg h7, if_neg h8, if_pos h9]; exact ⟨by show k + 1 = 1 * k + 1; omega, rfl⟩)
  · exact key 0 1 0 (by omega) (by omega) (by omega) (fun k => by unfold ratP; rw [if_neg h7, if_neg h8, if_neg h9]; exact ⟨by show (0 : Int) = 0 * k + 0; omega, rfl⟩)
theorem add_same {al fr n : Int} (h : al < 7) (k k' : Int) : addS al fr n k = addS al fr n k' := by
  have e : ratP al k n = ratP al k' n := by unfold ratP; rw [if_neg (by omega), if_neg (by omega), if_neg (by omega), if_neg (by omega), if_neg (by omega), if_neg (by omega)]
  unfold addS
  rw [e]
theorem add_zero' {al fr n : Int} (h : 7 ≤ al) (hf : fr ≤ 0) (k : Int) : addS al fr n k = 0 := by
  unfold addS
  rw [if_neg (by omega), if_neg (by omega), if_pos hf]
theorem mn_in (a b : Int) : (mn a b = a ∧ a ≤ b) ∨ (mn a b = b ∧ b ≤ a) := by unfold mn; split <;> omega
theorem mx_in (a b : Int) : (mx a b = a ∧ b ≤ a) ∨ (mx a b = b ∧ a ≤ b) := by unfold mx; split <;> omega
theorem even_loop (lo : Int) (l : List S57) (g : List Bool) (a s : List Int) (size al v q : Int) (B : Begun lo l g a s size al v) (hq0 : 0 ≤ q) (hq1 : q ≤ 137438953472)
    (hq : ∀ k : Int, 1 ≤ k → k ≤ kc g s.length + 1 - 1 → q ≤ addS al (size - v) (kc g s.length + 1) k - addS al (size - v) (kc g s.length + 1) (k - 1) ∧ addS al (size - v) (kc g s.length + 1) k - addS al (size - v) (kc g s.length + 1) (k - 1) ≤ q + 1) (d : Nat) :
    ∀ (i : Nat) (low high was : Int) (met : Bool), i + d = s.length → met = decide (0 ≤ kc g i) → (0 ≤ kc g i → was = addS al (size - v) (kc g s.length + 1) (kc g i)) → (kc g i ≤ 0 → low = 1152921504606846976 ∧ high = 0) → (1 ≤ kc g i → (q ≤ low ∧ low ≤ q + 1) ∧ (q ≤ high ∧ high ≤ q + 1)) →
      Ev (fun k => parterrelaw28_ContentEven.l0 k s size al (begS g a s size al v) v low high was met (pre a s i) (s.length : Int) (i : Int) lo l g a) true := by
  have hlv : Ev (fun k => (parterrelaw28_lives.f k).bind fun t => some t) true := Ev.bind lives_ev (Ev.now _)
  have hbl := begS_length g a s size al v
  have hla := B.la
  have hlg := B.lg
  have hsm := B.small
  have hz0 := B.size0
  have hz1 := B.size1
  have vb := B.pre0 s.length (Nat.le_refl _)
  have hv := B.tot
  induction d with
  | zero =>
    intro i low high was met hi hm hw h0 h1
    refine Ev.step (fun k => ?_) hlv
    simp only [parterrelaw28_ContentEven.l0]
    rw [if_neg (by omega)]
    by_cases hk : kc g i ≤ 0
    · obtain ⟨rfl, rfl⟩ := h0 hk
      rw [if_pos (by omega)]
    · have := h1 (by omega)
      by_cases hlh : low > high
      · rw [if_pos hlh]
      · rw [if_neg hlh, wrap_in (high - low) (by omega) (by omega), if_pos (by omega)]
  | succ d ih =>
    intro i low high was met hi hm hw h0 h1
    have q1 : (i : Int) < (s.length : Int) := by clear hm hw h0 h1 hq ih; omega
    have q2 : 0 ≤ (i : Int) := Int.natCast_nonneg i
    have q3 : (i : Int) < (a.length : Int) := by clear hm hw h0 h1 hq ih; omega
    have q4 : (i : Int) < ((begS g a s size al v).length : Int) := by rw [hbl]; exact q1
    have q6 : (i : Int) < (g.length : Int) := by clear hm hw h0 h1 hq ih; omega
    have ec : ((i : Int) + 1) = ((i + 1 : Nat) : Int) := by simp
    have f := out_facts B i (by omega)
    have p := B.pre0 i (by omega)
    have b2 := B.s0 i (by omega)
    have b3 := B.a0 i (by omega)
    have eo := begS_at g a s size al v i (by omega)
    have eD : outS a s g al (size - v) (kc g s.length + 1) i = pre a s i + rd a (i : Int) + addS al (size - v) (kc g s.length + 1) (mx0 (kc g (i + 1))) := rfl
    have e1 : wrap64 (pre a s i + rd a (i : Int)) = pre a s i + rd a (i : Int) := wrap_in _ (by omega) (by omega)
    have e2 : wrap64 (pre a s i + rd a (i : Int) + rd s (i : Int)) = pre a s (i + 1) := by
      rw [wrap_in _ (by omega) (by omega)]
      show _ = pre a s i + rd s (i : Int) + rd a (i : Int)
      omega
    have e3 : wrap64 ((i : Int) + 1) = ((i + 1 : Nat) : Int) := by rw [wrap_in _ (by omega) (by omega), ec]
    have k0 := kc_in g i
    have k2 := kc_mono g (show i + 1 ≤ s.length by omega)
    have k3 := kc_in g s.length
    cases hgi : rdOf false g (i : Int) with
    | true =>
      have e : kc g (i + 1) = kc g i := by simp only [kc, hgi, if_true]
      refine Ev.step (fun k => ?_) (ih (i + 1) low high was met (by omega) (by rw [e]; exact hm) (by rw [e]; exact hw) (by rw [e]; exact h0) (by rw [e]; exact h1))
      simp only [parterrelaw28_ContentEven.l0]
      rw [if_pos q1, if_pos q2, if_pos q3, if_pos q4, if_pos q1, if_pos q6, if_pos hgi, e1, e2, e3]
    | false =>
      have e : kc g (i + 1) = kc g i + 1 := by simp only [kc, hgi, Bool.false_eq_true, if_false]
      have em : mx0 (kc g (i + 1)) = kc g i + 1 := by rw [e]; have := mx0_in (kc g i + 1); omega
      rw [em] at eD f
      obtain ⟨E, hE⟩ : ∃ E, addS al (size - v) (kc g s.length + 1) (kc g i + 1) = E := ⟨_, rfl⟩
      rw [hE] at eD f
      have eE : wrap64 (rd (begS g a s size al v) (i : Int) - (pre a s i + rd a (i : Int))) = E := by rw [eo, eD, wrap_in _ (by omega) (by omega)]; omega
      have hz : 7 ≤ al → size ≤ v → E = 0 := fun h7 hsv => by rw [← hE]; exact add_zero' h7 (by omega) _
      have hnotgone : ¬ rdOf false g (i : Int) = true := by rw [hgi]; decide
      by_cases hk : 0 ≤ kc g i
      · have hmt : met = true := by rw [hm]; exact decide_eq_true hk
        have hwas := hw hk
        have hD := hq (kc g i + 1) (by omega) (by omega)
        rw [hE, show kc g i + 1 - 1 = kc g i by omega, ← hwas] at hD
        have hwb : -68719476736 ≤ was ∧ was ≤ 68719476736 := by
          have hA := add_in (al := al) (fr := size - v) (n := kc g s.length + 1) (k := kc g i) ⟨by omega, by omega⟩ hk (fun h => by omega)
          rw [← hwas] at hA
          exact ⟨hA.1, hA.2.1⟩
        have eW : wrap64 (E - was) = E - was := wrap_in _ (by omega) (by omega)
        have hsame : al < 7 → E = was := fun h => by rw [← hE, hwas]; exact add_same h _ _
        have m1 := mn_in low (E - was)
        have m2 := mx_in high (E - was)
        have hnx := ih (i + 1) (mn low (E - was)) (mx high (E - was)) E true (by omega) (by rw [e]; exact (decide_eq_true (by omega)).symm) (fun _ => by rw [e]; exact hE.symm) (fun h => by omega) (fun _ => by
          by_cases hk0 : kc g i ≤ 0
          · have := h0 hk0
            omega
          · have := h1 (by omega)
            omega)
        refine Ev.step (fun k => ?_) hnx
        simp only [parterrelaw28_ContentEven.l0]
        rw [if_pos q1, if_pos q2, if_pos q3, if_pos q4, if_pos q1, if_pos q6, if_neg hnotgone, if_pos hmt, e1, e2, e3, eE, eW]
        by_cases h7 : al < 7
        · rw [if_pos h7, if_pos (hsame h7)]
          by_cases hsv : size ≤ v
          · rw [if_pos hsv, if_neg (by omega)]
          · rw [if_neg hsv]
        · rw [if_neg h7]
          by_cases hsv : size ≤ v
          · rw [if_pos hsv, if_pos (by omega), if_pos (hz (by omega) hsv)]
          · rw [if_neg hsv]
      · have hmt : ¬ met = true := by rw [hm, decide_eq_false hk]; decide
        have hlh := h0 (by omega)
        have hnx := ih (i + 1) low high E true (by omega) (by rw [e]; exact (decide_eq_true (by omega)).symm) (fun _ => by rw [e]; exact hE.symm) (fun h => hlh) (fun h => by omega)
        refine Ev.step (fun k => ?_) hnx
        simp only [parterrelaw28_ContentEven.l0]
        rw [if_pos q1, if_pos q2, if_pos q3, if_pos q4, if_pos q1, if_pos q6, if_neg hnotgone, if_neg hmt, e1, e2, e3, eE]
        by_cases h7 : al < 7
        · rw [if_pos h7]
          by_cases hsv : size ≤ v
          · rw [if_pos hsv, if_neg (by omega)]
          · rw [if_neg hsv]
        · rw [if_neg h7]
          by_cases hsv : size ≤ v
          · rw [if_pos hsv, if_pos (by omega), if_pos (hz (by omega) hsv)]
          · rw [if_neg hsv]
theorem ContentEven : parterrelaw28_ContentEven.Pure := by
  intro lo l g a s size al _ _ _ _ _ _ _ _ _ _ _ _
  refine Ev.rounds ?_
  have hlv : Ev (fun k => (parterrelaw28_lives.f k).bind fun t => some t) true := Ev.bind lives_ev (Ev.now _)
  have hj : ∀ b : Bool, Ev (fun k => parterrelaw28_ContentEven.j0 k s size al b lo l g a) true := by
    intro b
    cases b with
    | true => exact Ev.step (fun k => by simp only [parterrelaw28_ContentEven.j0, if_true]) hlv
    | false =>
      have hs1 := (sum_both lo l g a s).1
      rcases starts_ev lo l g a s size al with ⟨E, hE, hev⟩ | ⟨v, B, hev⟩
      · have hend : ∀ v : Int, Ev (fun k => parterrelaw28_ContentEven.j1 k s size al ([] : List Int) E v true lo l g a) true := fun v =>
          Ev.step (fun k => by simp only [parterrelaw28_ContentEven.j1, if_true]; rw [if_neg hE]; rfl) hlv
        refine Ev.step (fun k => by simp only [parterrelaw28_ContentEven.j0, Bool.false_eq_true, if_false]; rfl) (Ev.bind hev (Ev.bind hs1 ?_))
        simp only [if_neg hE]
        exact hend _
      · rw [B.sum] at hs1
        refine Ev.step (fun k => by simp only [parterrelaw28_ContentEven.j0, Bool.false_eq_true, if_false]; rfl) (Ev.bind hev (Ev.bind hs1 ?_))
        have hbl := begS_length g a s size al v
        have c1 : ((begS g a s size al v).length : Int) = (s.length : Int) := by omega
        have c2 : (a.length : Int) = (s.length : Int) := by have := B.la; omega
        have c3 : ((g.length : Int) != (s.length : Int)) = false := by have := B.lg; simp; omega
        simp only [if_true, c1, c2, c3]
        have hv := B.tot
        have vb := B.pre0 s.length (Nat.le_refl _)
        obtain ⟨q, hq0, hq1, hq⟩ := even_q (al := al) (fr := size - v) (n := kc g s.length + 1) B.al0 B.al1 (by have := B.size1; omega)
        refine Ev.step (fun k => ?_) (even_loop lo l g a s size al v q B hq0 hq1 hq s.length 0 1152921504606846976 0 0 false (by omega) (by simp [kc]) (fun h => absurd h (by simp [kc])) (fun _ => ⟨rfl, rfl⟩) (fun h => absurd h (by simp [kc])))
        simp only [parterrelaw28_ContentEven.j1, Bool.false_eq_true, if_false, c1]
        rfl
  unfold parterrelaw28_ContentEven.f
  by_cases h1 : (l.length : Int) > 300
  · simp only [if_pos h1]; exact hj _
  · simp only [if_neg h1]; exact hj _
end Go.Proofs.Ytbkohlhonhmhmaa.Pure
