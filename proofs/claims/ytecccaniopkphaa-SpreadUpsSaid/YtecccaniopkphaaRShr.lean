/- The document's own Split and Share compute what the code's do. No condition beyond what each lemma states. -/
import Derived.Test.YtecccaniopkphaaPAx14
import Derived.Test.YtecccaniopkphaaPAx8
import Derived.Test.YtecccaniopkphaaShr
import Derived.Test.YtecccaniopkphaaSpl
import Derived.Test.YtecccaniopkphaaRMd
namespace Go.Proofs.Ytecccaniopkphaa.Fix
open Go.RowKit Go.Proofs.Ytecccaniopkphaa.PA Go.Proofs.YtecccaniopkphaaW.PrintWords Go.Proofs.Ytecccaniopkphaa.Evs Go.Proofs.Ytecccaniopkphaa.Div
open Go.Proofs.Ytecccaniopkphaa.Spl (splitS spl)
set_option linter.unusedVariables false
set_option linter.unusedSimpArgs false
theorem srd_at (l : List Int) (i : Nat) (h : i < l.length) : rd l (i : Int) = l[i] := by simp [rd, List.getD_eq_getElem?_getD, List.getElem?_eq_getElem h]
theorem rsplit_loop (n p : Int) (hn : 0 ≤ n) (hn1 : n ≤ 9223372036854775806) (hp : 1 ≤ p) (hp1 : p ≤ 65536) (d : Nat) :
    ∀ i : Nat, i + d = p.toNat → Ev (fun k => parterreref01_Split.l0 k n p ((List.range i).map (spl n p)) (i : Int)) ((List.range p.toNat).map (spl n p)) := by
  have hq0 : 0 ≤ n / p := Int.ediv_nonneg hn (by omega)
  have hq1 : n / p ≤ n := Int.ediv_le_self p hn
  induction d with
  | zero =>
    intro i hi
    refine Ev.step (f := fun _ => some ((List.range p.toNat).map (spl n p))) (fun k => ?_) (Ev.now _)
    simp only [parterreref01_Split.l0]
    rw [if_neg (by omega), show i = p.toNat by omega]
  | succ d ih =>
    intro i hi
    have ec : ((i : Int) + 1) = ((i + 1 : Nat) : Int) := by simp
    refine Ev.step (fun k => ?_) (ih (i + 1) (by omega))
    have hl : ((List.range i).map (spl n p)).length < 17592186044416 := by simp; omega
    simp only [parterreref01_Split.l0]
    rw [if_pos (by omega), if_neg (by omega), Int.tdiv_eq_ediv_of_nonneg hn, Int.tmod_eq_emod_of_nonneg hn, wrap_in (n / p) (by omega) (by omega), wrap_in (n / p + 1) (by omega) (by omega), wrap_in ((i : Int) + 1) (by omega) (by omega), ec, List.range_succ, List.map_append]
    by_cases h : (i : Int) < n % p
    · rw [if_pos h, if_pos hl]; simp [spl, h]
    · rw [if_neg h, if_pos hl]; simp [spl, h]
theorem rsplit_ev (n p : Int) (hn1 : n ≤ 9223372036854775806) : Ev (fun k => parterreref01_Split.f k n p) (splitS n p) := by
  unfold parterreref01_Split.f splitS
  have hbad : ∀ n p : Int, Ev (fun k => parterreref01_Split.j0 k n p true) [] := fun n p => Ev.step (f := fun _ => some []) (fun k => by simp [parterreref01_Split.j0]) (Ev.now _)
  by_cases h1 : n < 0
  · simp only [h1, if_true, true_or]; exact hbad n p
  by_cases h2 : p < 1
  · simp only [h1, h2, if_true, if_false, true_or, or_true]; exact hbad n p
  by_cases h3 : p > 65536
  · simp only [h1, h2, h3, if_true, if_false, decide_true, show 65536 < p from h3, or_true]; exact hbad n p
  simp only [h1, h2, h3, if_false, decide_false, show ¬ 65536 < p from h3, or_self]
  refine Ev.step (f := fun k => parterreref01_Split.l0 k n p ((List.range 0).map (spl n p)) ((0 : Nat) : Int)) (fun k => ?_) (rsplit_loop n p (by omega) hn1 (by omega) (by omega) p.toNat 0 (by omega))
  simp only [parterreref01_Split.j0, Bool.false_eq_true, if_false]
  rfl
theorem rshare_l1 (n all : Int) (hn : 0 ≤ n) (hn1 : n ≤ 68719476736) (ha : 0 < all) (ha1 : all ≤ 70368744177664) (ws : List Int) (hlen : ws.length ≤ 65536) (d : Nat) :
    ∀ (i : Nat) (s : Int) (acc : List Int), i + d = ws.length → acc.length = i → fixed_Share.ok (ws.drop i) = true → 0 ≤ s → s + fixed_Share.sum (ws.drop i) ≤ all →
      Ev (fun k => parterreref01_Share.l1 k n ws all acc s (n * s / all) (i : Int)) (acc ++ shr' n all s (ws.drop i)) := by
  induction d with
  | zero =>
    intro i s acc hi hacc hok hs hsum
    refine Ev.step (f := fun _ => some _) (fun k => ?_) (Ev.now _)
    simp only [parterreref01_Share.l1]
    rw [if_neg (by omega), List.drop_of_length_le (by omega)]
    simp [shr']
  | succ d ih =>
    intro i s acc hi hacc hok hs hsum
    have ec : ((i : Int) + 1) = ((i + 1 : Nat) : Int) := by simp
    have hw : ws.drop i = ws[i] :: ws.drop (i + 1) := List.drop_eq_getElem_cons (by omega)
    rw [hw] at hok hsum ⊢
    obtain ⟨h1, h2, h3⟩ := ok_cons hok
    have hsi := sum_in h3
    simp only [fixed_Share.sum] at hsum
    have hq0 := due_nonneg (n := n) (s := s + ws[i]) hn (by omega) ha
    have hq1 := due_le (n := n) (s := s + ws[i]) hn (by omega) ha
    have hz0 := due_nonneg (n := n) (s := s) hn hs ha
    have hz1 := due_le (n := n) (s := s) hn (by omega) ha
    have hm := rmuldiv_ev (lit_wf n (by omega) (by omega)) (lit_wf (s + ws[i]) (by omega) (by omega)) (lit_wf all (by omega) (by omega))
    rw [md_pos hn (by omega) ha (by omega)] at hm
    have hnx := ih (i + 1) (s + ws[i]) (acc ++ [n * (s + ws[i]) / all - n * s / all]) (by omega) (by simp; omega) h3 (by omega) (by omega)
    refine Ev.step (f := fun k => (parterreref01_MulDiv.f k n (s + ws[i]) all).bind fun bt310 => (if acc.length < 17592186044416 then (parterreref01_Share.l1 k n ws all (acc ++ [wrap64 (bt310.1 - n * s / all)]) (s + ws[i]) bt310.1 ((i + 1 : Nat) : Int)) else (none))) (fun k => ?_) ?_
    · simp only [parterreref01_Share.l1]
      rw [if_pos (by omega), if_pos (by omega), srd_at ws i (by omega), wrap_in (s + ws[i]) (by omega) (by omega), wrap_in ((i : Int) + 1) (by omega) (by omega), ec]
    · refine Ev.bind hm ?_
      have hl : acc.length < 17592186044416 := by omega
      simp only [hl, if_true]
      rw [wrap_in _ (by omega) (by omega)]
      simpa [shr'] using hnx
theorem rshare_l0 (n : Int) (hn : 0 ≤ n) (hn1 : n ≤ 68719476736) (ws : List Int) (hlen : ws.length ≤ 65536) (d : Nat) :
    ∀ (i : Nat) (s : Int), i + d = ws.length → 0 ≤ s → s ≤ 1073741824 * i → (fixed_Share.ok (ws.drop i) = fixed_Share.ok ws) → (fixed_Share.ok ws = true → s + fixed_Share.sum (ws.drop i) = fixed_Share.sum ws) →
      Ev (fun k => parterreref01_Share.l0 k n ws s (i : Int)) (if fixed_Share.ok ws = false ∨ fixed_Share.sum ws = 0 then [] else shr' n (fixed_Share.sum ws) 0 ws) := by
  induction d with
  | zero =>
    intro i s hi hs hs1 hok hsum
    rw [List.drop_of_length_le (by omega)] at hok hsum
    have hok' : fixed_Share.ok ws = true := by rw [← hok]; rfl
    have hsum := hsum hok'
    simp only [fixed_Share.sum, Int.add_zero] at hsum
    subst hsum
    have hb := sum_in hok'
    by_cases hz : fixed_Share.sum ws = 0
    · refine Ev.step (f := fun _ => some _) (fun k => ?_) (Ev.now _)
      simp only [parterreref01_Share.l0]
      rw [if_neg (by omega), if_pos hz, if_pos (Or.inr hz)]
    · have hne : ¬ (fixed_Share.ok ws = false ∨ fixed_Share.sum ws = 0) := by
        rintro (h | h)
        · rw [hok'] at h; cases h
        · exact hz h
      rw [if_neg hne]
      have := rshare_l1 n (fixed_Share.sum ws) hn hn1 (by omega) (by omega) ws hlen ws.length 0 0 [] (by omega) rfl (by simpa using hok') (by omega) (by simp)
      refine Ev.step (f := fun k => parterreref01_Share.l1 k n ws (fixed_Share.sum ws) [] 0 0 0) (fun k => ?_) (by simpa using this)
      simp only [parterreref01_Share.l0]
      rw [if_neg (by omega), if_neg hz]
  | succ d ih =>
    intro i s hi hs hs1 hok hsum
    have ec : ((i : Int) + 1) = ((i + 1 : Nat) : Int) := by simp
    have hw : ws.drop i = ws[i] :: ws.drop (i + 1) := List.drop_eq_getElem_cons (by omega)
    have hoks : fixed_Share.ok (ws.drop i) = (decide (0 ≤ ws[i] ∧ ws[i] ≤ 1073741824) && fixed_Share.ok (ws.drop (i + 1))) := by rw [hw]; rfl
    rw [hoks] at hok
    by_cases hin : 0 ≤ ws[i] ∧ ws[i] ≤ 1073741824
    · rw [decide_eq_true hin, Bool.true_and] at hok
      refine Ev.step (fun k => ?_) (ih (i + 1) (s + ws[i]) (by omega) (by omega) (by omega) hok (fun h => by have := hsum h; rw [hw] at this; simp only [fixed_Share.sum] at this; omega))
      simp only [parterreref01_Share.l0]
      rw [if_pos (by omega), if_pos (by omega), srd_at ws i (by omega), if_neg (by omega), if_neg (by omega), wrap_in (s + ws[i]) (by omega) (by omega), wrap_in ((i : Int) + 1) (by omega) (by omega), ec]
    · rw [decide_eq_false hin, Bool.false_and] at hok
      refine Ev.step (f := fun _ => some []) (fun k => ?_) ?_
      · simp only [parterreref01_Share.l0]
        rw [if_pos (by omega), if_pos (by omega), srd_at ws i (by omega)]
        by_cases h1 : ws[i] < 0
        · rw [if_pos h1]
        · rw [if_neg h1, if_pos (by omega)]
      · rw [if_pos (Or.inl hok.symm)]
        exact Ev.now _
theorem rshare_ev (n : Int) (ws : List Int) (hm : ws.length ≤ 9223372036854775806) : Ev (fun k => parterreref01_Share.f k n ws) (shareS n ws) := by
  have hbad : Ev (fun k => parterreref01_Share.j0 k n ws true) [] := Ev.step (f := fun _ => some []) (fun k => by simp only [parterreref01_Share.j0, if_true]) (Ev.now _)
  unfold parterreref01_Share.f shareS
  by_cases h1 : n < 0
  · simp only [h1, if_true, true_or]; exact hbad
  by_cases h2 : n > 68719476736
  · simp only [h1, h2, if_true, if_false, true_or, or_true, show 68719476736 < n from h2]; exact hbad
  by_cases h4 : (ws.length : Int) > 65536
  · have h5 : ¬ (ws.length : Int) = 0 := by omega
    have h6 : 65536 < ws.length := by omega
    simp only [h1, h2, h4, h5, h6, if_false, decide_true, true_or, or_true, if_true]; exact hbad
  by_cases h3 : (ws.length : Int) = 0
  · have h6 : ws = [] := List.length_eq_zero_iff.mp (by omega)
    subst h6
    have : n < 0 ∨ 68719476736 < n ∨ 65536 < ([] : List Int).length ∨ fixed_Share.ok [] = false ∨ fixed_Share.sum [] = 0 := by right; right; right; right; rfl
    rw [if_pos this]
    simp only [h1, h2, if_false, List.length_nil, Int.natCast_zero, if_true]
    exact hbad
  have h6 : ¬ 65536 < ws.length := by omega
  have h7 : ¬ 68719476736 < n := by omega
  have := rshare_l0 n (by omega) (by omega) ws (by omega) ws.length 0 0 (by omega) (by omega) (by omega) (by simp) (by simp)
  simp only [h1, h2, h3, h4, h6, h7, if_false, decide_false, false_or]
  refine Ev.step (f := fun k => parterreref01_Share.l0 k n ws 0 ((0 : Nat) : Int)) (fun k => ?_) this
  simp only [parterreref01_Share.j0, Bool.false_eq_true, if_false]
  rfl
end Go.Proofs.Ytecccaniopkphaa.Fix
