/- What flexible tracks get of what is left: sums, and who gets how much. Plain laws. No condition beyond what each states. -/
import Derived.Test.YtpaabecgngbjcaaT
import Derived.Test.YtpaabecgngbjcaaKflo
set_option linter.unusedVariables false
set_option linter.unusedSimpArgs false
set_option maxRecDepth 10000
namespace Go.Proofs.Ytpaabecgngbjcaa.T
open Go Go.Proofs.Ytpaabecgngbjcaa.Sx Go.Proofs.Ytpaabecgngbjcaa.M

/-- What those have that are stiff or not flexible. -/
def stB : List Sz → List Bool → Int
  | x :: s, b :: st => (if x.mx ≠ 5 ∨ b = true then x.base else 0) + stB s st
  | _, _ => 0
theorem stB_nn : ∀ (s : List Sz) (st : List Bool), s.all okF = true → 0 ≤ stB s st
  | [], st, _ => by cases st <;> exact Int.le_refl _
  | x :: s, [], _ => Int.le_refl _
  | x :: s, b :: st, h => by
    simp only [List.all_cons, Bool.and_eq_true] at h
    have hx := okF_in h.1
    have := stB_nn s st h.2
    rw [stB]
    split <;> omega
theorem leftS_eq : ∀ (s : List Sz) (st : List Bool) (n : Int), s.all okF = true → 0 ≤ n → leftS s st n = max 0 (n - stB s st)
  | [], st, n, _, h0 => by cases st <;> (simp only [leftS, stB]; omega)
  | x :: s, [], n, _, h0 => by simp only [leftS, stB]; omega
  | x :: s, b :: st, n, h, h0 => by
    simp only [List.all_cons, Bool.and_eq_true] at h
    have hx := okF_in h.1
    have hn := stB_nn s st h.2
    rw [leftS, stB]
    split
    · rw [leftS_eq s st _ h.2 (by omega)]; omega
    · rw [leftS_eq s st _ h.2 h0]; omega
theorem sumI_nn : ∀ (a : List Int), a.all lenB = true → 0 ≤ sumI a
  | [], _ => Int.le_refl _
  | x :: a, h => by
    simp only [List.all_cons, Bool.and_eq_true, lenB, decide_eq_true_eq] at h
    have := sumI_nn a (by simpa [lenB] using h.2)
    rw [sumI]
    omega
theorem lessS_eq : ∀ (a : List Int) (n : Int), a.all lenB = true → 0 ≤ n → lessS n a = max 0 (n - sumI a)
  | [], n, _, h0 => by simp only [lessS, sumI]; omega
  | x :: a, n, h, h0 => by
    simp only [List.all_cons, Bool.and_eq_true, lenB, decide_eq_true_eq] at h
    have hn := sumI_nn a (by simpa [lenB] using h.2)
    rw [lessS, sumI, lessS_eq a _ (by simpa [lenB] using h.2) (by omega)]
    omega
def sumB : List Sz → Int
  | [] => 0
  | x :: s => x.base + sumB s
theorem sumB_st : ∀ (s : List Sz) (st : List Bool), st.length = s.length → sumB s = stB s st + sumI ((s.zip st).filterMap fun p => if p.1.mx ≠ 5 ∨ p.2 = true then none else some p.1.base)
  | [], [], _ => rfl
  | [], _ :: _, h => by simp at h
  | _ :: _, [], h => by simp at h
  | x :: s, b :: st, h => by
    have := sumB_st s st (by simpa using h)
    simp only [sumB, stB, List.zip_cons_cons, List.filterMap_cons]
    by_cases hc : x.mx ≠ 5 ∨ b = true
    · simp only [if_pos hc]; omega
    · simp only [if_neg hc, sumI]; omega
/-- Who is not stiff, with what each gets: at least as much as it was. -/
def coverF (q : Int → Int) : List Sz → List Bool → List Int → Prop
  | x :: s, b :: st, vs => if x.mx ≠ 5 ∨ b = true then coverF q s st vs else match vs with
    | v :: vs => (q x.fr ≤ v ∧ v ≤ q x.fr + 1 ∧ x.base ≤ v) ∧ coverF q s st vs
    | [] => False
  | _, _, vs => vs = []
theorem coverF_sum (q : Int → Int) : ∀ (s : List Sz) (st : List Bool) (vs : List Int), st.length = s.length → s.all okF = true → coverF q s st vs → sumB (growV s (spreadF s st vs)) = stB s st + sumI vs
  | [], [], vs, _, _, h => by subst h; rfl
  | [], _ :: _, _, h, _, _ => by simp at h
  | _ :: _, [], _, h, _, _ => by simp at h
  | x :: s, b :: st, vs, hl, hs, h => by
    simp only [List.all_cons, Bool.and_eq_true] at hs
    have hx := okF_in hs.1
    by_cases hc : x.mx ≠ 5 ∨ b = true
    · simp only [coverF, if_pos hc] at h
      have := coverF_sum q s st vs (by simpa using hl) hs.2 h
      simp only [spreadF, if_pos hc, growV, sumB, stB, raiseS]
      omega
    · simp only [coverF, if_neg hc] at h
      cases vs with
      | nil => exact h.elim
      | cons v vs =>
        have := coverF_sum q s st vs (by simpa using hl) hs.2 h.2
        simp only [spreadF, if_neg hc, growV, sumB, stB, raiseS, List.headD_cons, List.tail_cons, sumI]
        omega
/-- How each one is then. -/
theorem coverF_at (q : Int → Int) : ∀ (s : List Sz) (st : List Bool) (vs : List Int), st.length = s.length → s.all okF = true → coverF q s st vs →
    (growV s (spreadF s st vs)).length = s.length ∧ ∀ (i : Nat) (h : i < s.length) (h' : i < (growV s (spreadF s st vs)).length), s[i].base ≤ (growV s (spreadF s st vs))[i].base ∧ (growV s (spreadF s st vs))[i].mx = s[i].mx ∧ (growV s (spreadF s st vs))[i].fr = s[i].fr ∧
      ((growV s (spreadF s st vs))[i].base = s[i].base ∨ (s[i].mx = 5 ∧ q s[i].fr ≤ (growV s (spreadF s st vs))[i].base ∧ (growV s (spreadF s st vs))[i].base ≤ q s[i].fr + 1))
  | [], [], vs, _, _, h => by subst h; exact ⟨rfl, fun i h => by simp at h⟩
  | [], _ :: _, _, h, _, _ => by simp at h
  | _ :: _, [], _, h, _, _ => by simp at h
  | x :: s, b :: st, vs, hl, hs, h => by
    simp only [List.all_cons, Bool.and_eq_true] at hs
    have hx := okF_in hs.1
    by_cases hc : x.mx ≠ 5 ∨ b = true
    · simp only [coverF, if_pos hc] at h
      obtain ⟨h1, h2⟩ := coverF_at q s st vs (by simpa using hl) hs.2 h
      have e : growV (x :: s) (spreadF (x :: s) (b :: st) vs) = raiseS x 0 :: growV s (spreadF s st vs) := by simp only [spreadF, if_pos hc, growV]
      rw [e]
      refine ⟨by simp [h1], fun i hi hi' => ?_⟩
      cases i with
      | zero =>
        simp only [List.getElem_cons_zero, raiseS]
        exact ⟨by omega, trivial, trivial, .inl (by omega)⟩
      | succ i => exact h2 i (by simpa using hi) (by simpa using hi')
    · simp only [coverF, if_neg hc] at h
      cases vs with
      | nil => exact h.elim
      | cons v vs =>
        obtain ⟨h1, h2⟩ := coverF_at q s st vs (by simpa using hl) hs.2 h.2
        have e : growV (x :: s) (spreadF (x :: s) (b :: st) (v :: vs)) = raiseS x v :: growV s (spreadF s st vs) := by simp only [spreadF, if_neg hc, growV, List.headD_cons, List.tail_cons]
        rw [e]
        refine ⟨by simp [h1], fun i hi hi' => ?_⟩
        cases i with
        | zero =>
          simp only [List.getElem_cons_zero, raiseS]
          have hm : x.mx = 5 := Classical.byContradiction fun hh => hc (.inl hh)
          exact ⟨by omega, trivial, trivial, .inr ⟨hm, by omega, by omega⟩⟩
        | succ i => exact h2 i (by simpa using hi) (by simpa using hi')
/-- Where nothing turns any more, nobody has more than its part. -/
theorem fix_base (L N : Int) : ∀ (s : List Sz) (st : List Bool), st.length = s.length → stepF L N s st = st → ∀ (i : Nat) (h : i < s.length) (h' : i < st.length), ¬ (s[i].mx ≠ 5 ∨ st[i] = true) → s[i].base ≤ partF L N s[i].fr
  | [], _, _, _, i, h, _, _ => by simp at h
  | _ :: _, [], h, _, _, _, _, _ => by simp at h
  | x :: s, b :: st, hl, hf, i, h, h', hc => by
    simp only [stepF, List.cons.injEq] at hf
    cases i with
    | zero =>
      simp only [List.getElem_cons_zero] at hc ⊢
      have hm : x.mx = 5 := Classical.byContradiction fun hh => hc (.inl hh)
      have hb : b = false := by cases b with | false => rfl | true => exact absurd (.inr rfl) hc
      rw [hb, hm] at hf
      simp only [Bool.false_or, decide_true, Bool.true_and, decide_eq_false_iff_not] at hf
      omega
    | succ i => exact fix_base L N s st (by simpa using hl) hf.2 i (by simpa using h) (by simpa using h') (by simpa using hc)
theorem finS_fix (s : List Sz) (space : Int) : stepS s space (finS s space) = finS s space :=
  iterS_done s space (s.length + 1) (List.replicate s.length false) (by simp; omega)
theorem partF_eq {L N fr : Int} (hL : 0 ≤ L ∧ L ≤ 68719476736) (hN : 0 ≤ N) (hf : 0 ≤ fr ∧ fr ≤ 1073741824) : partF L N fr = L * fr / max N 1000 := by
  have h1 : L * fr ≤ 68719476736 * 1073741824 := mul_lt' hL.1 hL.2 hf.1 hf.2
  have h0 : 0 ≤ L * fr := Int.mul_nonneg hL.1 hf.1
  have h2 : L * fr / max N 1000 ≤ L * fr / 1000 := by
    rw [Int.le_ediv_iff_mul_le (by omega)]
    have h3 := Int.ediv_mul_le (L * fr) (b := max N 1000) (by omega)
    have h4 : L * fr / max N 1000 * 1000 ≤ L * fr / max N 1000 * max N 1000 := Int.mul_le_mul_of_nonneg_left (by omega) (Int.ediv_nonneg h0 (by omega))
    omega
  unfold partF
  rw [md_pos hL.1 hf.1 (by omega) (by omega)]
/-- The parts of those that are not stiff cover them. -/
theorem cover_parts (L N : Int) (hL : 0 ≤ L ∧ L ≤ 68719476736) (hN : 1000 ≤ N) : ∀ (s : List Sz) (st : List Bool) (sum : Int), st.length = s.length → s.all okF = true → 0 ≤ sum → sum + sumI (frF s st) ≤ N →
    (∀ (i : Nat) (h : i < s.length) (h' : i < st.length), ¬ (s[i].mx ≠ 5 ∨ st[i] = true) → s[i].base ≤ partF L N s[i].fr) →
    coverF (partF L N) s st (partsS L N (L * sum / N) sum (frF s st)) ∧ sumI (partsS L N (L * sum / N) sum (frF s st)) = L * (sum + sumI (frF s st)) / N - L * sum / N
  | [], [], sum, _, _, _, _, _ => by
    simp only [frF, partsS, coverF, sumI, true_and, Int.add_zero]
    omega
  | [], _ :: _, _, h, _, _, _, _ => by simp at h
  | _ :: _, [], _, h, _, _, _, _ => by simp at h
  | x :: s, b :: st, sum, hl, hs, h0, hN2, hb => by
    simp only [List.all_cons, Bool.and_eq_true] at hs
    have hx := okF_in hs.1
    have hb' : ∀ (i : Nat) (h : i < s.length) (h' : i < st.length), ¬ (s[i].mx ≠ 5 ∨ st[i] = true) → s[i].base ≤ partF L N s[i].fr := fun i h h' hc => hb (i + 1) (by simpa using h) (by simpa using h') hc
    by_cases hc : x.mx ≠ 5 ∨ b = true
    · simp only [frF, if_pos hc] at hN2 ⊢
      simp only [coverF, if_pos hc]
      exact cover_parts L N hL hN s st sum (by simpa using hl) hs.2 h0 hN2 hb'
    · simp only [frF, if_neg hc, sumI] at hN2 ⊢
      have hbx := hb 0 (by simp) (by simp) hc
      simp only [List.getElem_cons_zero] at hbx
      have hnn := (sumI_in _ (frF_wg s st hs.2).1).1
      have hm := md_part (n := L) (s := sum + x.fr) (all := N) hL (by omega) (by omega)
      have hmd : (md L (sum + x.fr) N).1 = L * (sum + x.fr) / N := by
        have : L * (sum + x.fr) / N ≤ L := by
          have : L * (sum + x.fr) ≤ L * N := Int.mul_le_mul_of_nonneg_left (by omega) hL.1
          exact Int.ediv_le_of_le_mul (by omega) this
        rw [md_pos hL.1 (by omega) (by omega) (by omega)]
      obtain ⟨i1, i2⟩ := cover_parts L N hL hN s st (sum + x.fr) (by simpa using hl) hs.2 (by omega) (by omega) hb'
      simp only [partsS, hmd, coverF, if_neg hc, sumI]
      refine ⟨⟨?_, i1⟩, ?_⟩
      · have e : partF L N x.fr = L * x.fr / N := by rw [partF_eq hL (by omega) hx.2.2.2, show max N 1000 = N by omega]
        rw [e] at hbx ⊢
        have hN0 : 0 < N := by omega
        have a1 := Int.mul_ediv_add_emod (L * sum) N
        have a2 := Int.emod_nonneg (L * sum) (show N ≠ 0 by omega)
        have a3 := Int.emod_lt_of_pos (L * sum) hN0
        have b1 := Int.mul_ediv_add_emod (L * x.fr) N
        have b2 := Int.emod_nonneg (L * x.fr) (show N ≠ 0 by omega)
        have b3 := Int.emod_lt_of_pos (L * x.fr) hN0
        have hsplit : L * (sum + x.fr) / N = L * sum / N + L * x.fr / N + (L * sum % N + L * x.fr % N) / N := by
          have : L * (sum + x.fr) = (L * sum % N + L * x.fr % N) + N * (L * sum / N + L * x.fr / N) := by
            rw [Int.mul_add, Int.mul_add]
            omega
          rw [this, Int.add_mul_ediv_left _ _ (by omega)]
          omega
        have c0 : 0 ≤ (L * sum % N + L * x.fr % N) / N := Int.ediv_nonneg (by omega) (by omega)
        have c1 : (L * sum % N + L * x.fr % N) / N < 2 := by
          rw [Int.ediv_lt_iff_lt_mul hN0]
          omega
        omega
      · rw [i2, show sum + (x.fr + sumI (frF s st)) = sum + x.fr + sumI (frF s st) by omega]
        omega
theorem cover_plain (L N : Int) : ∀ (s : List Sz) (st : List Bool), st.length = s.length →
    (∀ (i : Nat) (h : i < s.length) (h' : i < st.length), ¬ (s[i].mx ≠ 5 ∨ st[i] = true) → s[i].base ≤ partF L N s[i].fr) →
    coverF (partF L N) s st ((frF s st).map (partF L N))
  | [], [], _, _ => rfl
  | [], _ :: _, h, _ => by simp at h
  | _ :: _, [], h, _ => by simp at h
  | x :: s, b :: st, hl, hb => by
    have hb' : ∀ (i : Nat) (h : i < s.length) (h' : i < st.length), ¬ (s[i].mx ≠ 5 ∨ st[i] = true) → s[i].base ≤ partF L N s[i].fr := fun i h h' hc => hb (i + 1) (by simpa using h) (by simpa using h') hc
    have hi := cover_plain L N s st (by simpa using hl) hb'
    by_cases hc : x.mx ≠ 5 ∨ b = true
    · simpa only [frF, coverF, if_pos hc] using hi
    · have hbx := hb 0 (by simp) (by simp) hc
      simp only [List.getElem_cons_zero] at hbx
      simp only [frF, coverF, if_neg hc, List.map_cons]
      exact ⟨⟨Int.le_refl _, by omega, hbx⟩, hi⟩
/-- Parts rounded down are no more in all than the whole, if there are no more parts than it has. -/
theorem sum_plain (L N : Int) (hL : 0 ≤ L ∧ L ≤ 68719476736) (hN : 0 ≤ N) : ∀ ws : List Int, ws.all wgB = true → 0 ≤ sumI (ws.map (partF L N)) ∧ max N 1000 * sumI (ws.map (partF L N)) ≤ L * sumI ws
  | [], _ => by simp [sumI]
  | w :: r, h => by
    simp only [List.all_cons, Bool.and_eq_true] at h
    have hw := h.1
    simp only [wgB, Bool.and_eq_true, decide_eq_true_eq] at hw
    have hi := sum_plain L N hL hN r h.2
    have e := partF_eq hL hN hw
    have h0 : 0 ≤ L * w / max N 1000 := Int.ediv_nonneg (Int.mul_nonneg hL.1 hw.1) (by omega)
    have h1 := Int.mul_ediv_add_emod (L * w) (max N 1000)
    have h2 := Int.emod_nonneg (L * w) (show max N 1000 ≠ 0 by omega)
    simp only [List.map_cons, sumI, e, Int.mul_add]
    omega
end Go.Proofs.Ytpaabecgngbjcaa.T
