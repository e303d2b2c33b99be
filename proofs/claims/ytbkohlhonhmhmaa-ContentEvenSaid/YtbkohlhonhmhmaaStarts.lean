/- Where tracks begin (content.Starts), in plain words. No condition beyond what each lemma states. -/
import Derived.Test.YtbkohlhonhmhmaaPAx9
import Derived.Test.YtbkohlhonhmhmaaSum
import Derived.Test.YtbkohlhonhmhmaaMd
namespace Go.Proofs.Ytbkohlhonhmhmaa.Trk
open Go.RowKit Go.Proofs.Ytbkohlhonhmhmaa.PA Go.Proofs.YtbkohlhonhmhmaaW.PrintWords Go.Proofs.YtbkohlhonhmhmaaW.PrintMore Go.Proofs.Ytbkohlhonhmhmaa.Evs
open Go.Proofs.Ytbkohlhonhmhmaa.Fix (muldiv_ev md md_pos lit_wf)
set_option linter.unusedVariables false
set_option linter.unusedSimpArgs false
theorem div2_eq (n : Int) (h0 : -4611686018427387904 ≤ n) (h1 : n ≤ 4611686018427387904) : fixed_Div.f n 2 = some (n / 2) := by
  unfold fixed_Div.f
  rw [if_neg (by decide), if_neg (by decide)]
  by_cases hn : 0 ≤ n
  · rw [Int.tdiv_eq_ediv_of_nonneg hn, Int.tmod_eq_emod_of_nonneg hn, wrap_in (n / 2) (by omega) (by omega)]
    simp [show ¬ n < 0 by omega]
  · have e1 : Int.tdiv n 2 = -((-n) / 2) := by
      have := Int.neg_tdiv n 2
      rw [Int.tdiv_eq_ediv_of_nonneg (by omega)] at this
      rw [this]
      simp
    have e2 : Int.tmod n 2 = -((-n) % 2) := by
      have := Int.neg_tmod n 2
      rw [Int.tmod_eq_emod_of_nonneg (by omega)] at this
      rw [this]
      simp
    rw [e1, e2, wrap_in (-((-n) / 2)) (by omega) (by omega), wrap_in (-((-n) / 2) - 1) (by omega) (by omega)]
    by_cases hm : -((-n) % 2) = 0
    · rw [if_pos hm]; congr 1; omega
    · rw [if_neg hm, if_pos (by simp; omega)]; congr 1; omega
/-- What is ahead of a track: gaps and sizes. -/
def pre (a s : List Int) : Nat → Int
  | 0 => 0
  | i + 1 => pre a s i + rd s (i : Int) + rd a (i : Int)
/-- Which track that is there stands last ahead of a place: from -1 on. -/
def kc (g : List Bool) : Nat → Int
  | 0 => -1
  | i + 1 => if rdOf false g (i : Int) = true then kc g i else kc g i + 1
theorem kc_in (g : List Bool) : ∀ i : Nat, -1 ≤ kc g i ∧ kc g i ≤ (i : Int) - 1
  | 0 => by simp [kc]
  | i + 1 => by
    have := kc_in g i
    simp only [kc]
    split <;> omega
theorem kc_mono (g : List Bool) {i j : Nat} (h : i ≤ j) : kc g i ≤ kc g j := by
  induction j with
  | zero => have : i = 0 := by omega
            subst this; exact Int.le_refl _
  | succ j ih =>
    by_cases e : i = j + 1
    · subst e; exact Int.le_refl _
    · have := ih (by omega)
      simp only [kc]
      split <;> omega
def ratP (al k n : Int) : Int × Int := if al = 7 then (if n > 1 then (k, n - 1) else (0, 1)) else if al = 8 then (2 * k + 1, 2 * n) else if al = 9 then (k + 1, n + 1) else (0, 1)
theorem ratio_eq (al k n : Int) (hk : 0 ≤ k) (hk1 : k ≤ 100000) (hn : 0 ≤ n) (hn1 : n ≤ 100000) : content_ratio.f al k n = some (ratP al k n) := by
  unfold content_ratio.f ratP
  rw [wrap_in (n - 1) (by omega) (by omega), wrap_in (2 * k) (by omega) (by omega), wrap_in (2 * k + 1) (by omega) (by omega), wrap_in (2 * n) (by omega) (by omega), wrap_in (k + 1) (by omega) (by omega), wrap_in (n + 1) (by omega) (by omega)]
  (repeat' split) <;> rfl
theorem rat_in (al k n : Int) (hk : 0 ≤ k) (hk1 : k ≤ n - 1) : 0 ≤ (ratP al k n).1 ∧ (ratP al k n).1 ≤ (ratP al k n).2 ∧ 0 < (ratP al k n).2 ∧ (ratP al k n).2 ≤ 2 * n + 1 := by
  unfold ratP
  (repeat' split) <;> (refine ⟨?_, ?_, ?_, ?_⟩ <;> simp only <;> omega)
theorem rat_mono (al n : Int) {k k' : Int} (h : k ≤ k') : (ratP al k n).1 ≤ (ratP al k' n).1 ∧ (ratP al k n).2 = (ratP al k' n).2 := by
  unfold ratP
  (repeat' split) <;> (refine ⟨?_, ?_⟩ <;> first | rfl | (simp only; omega))
/-- What is added at a track. -/
def addS (al fr n k : Int) : Int := if al = 4 then fr else if al = 5 then fr / 2 else if fr ≤ 0 then 0 else if n = 0 then 0 else fr * (ratP al k n).1 / (ratP al k n).2
theorem part_in {f p q : Int} (hf : 0 ≤ f) (hp : 0 ≤ p) (hpq : p ≤ q) (hq : 0 < q) : 0 ≤ f * p / q ∧ f * p / q ≤ f := by
  refine ⟨Int.ediv_nonneg (Int.mul_nonneg hf hp) (by omega), ?_⟩
  have h1 : f * p ≤ f * q := Int.mul_le_mul_of_nonneg_left hpq hf
  have h2 := Int.ediv_le_ediv hq h1
  rwa [Int.mul_ediv_cancel _ (by omega)] at h2
theorem add_in {al fr n k : Int} (hf : -68719476736 ≤ fr ∧ fr ≤ 68719476736) (hk : 0 ≤ k) (hk1 : n ≠ 0 → k ≤ n - 1) : -68719476736 ≤ addS al fr n k ∧ addS al fr n k ≤ 68719476736 ∧ (0 ≤ fr → 0 ≤ addS al fr n k ∧ addS al fr n k ≤ fr) := by
  unfold addS
  by_cases h4 : al = 4
  · rw [if_pos h4]; omega
  rw [if_neg h4]
  by_cases h5 : al = 5
  · rw [if_pos h5]; omega
  rw [if_neg h5]
  by_cases hf0 : fr ≤ 0
  · rw [if_pos hf0]; omega
  rw [if_neg hf0]
  by_cases hn : n = 0
  · rw [if_pos hn]; omega
  rw [if_neg hn]
  have hr := rat_in al k n hk (hk1 hn)
  have := part_in (f := fr) (by omega) hr.1 hr.2.1 hr.2.2.1
  omega
theorem add_mono {al fr n k k' : Int} (hk : k ≤ k') (h0 : 0 ≤ k) (h1 : n ≠ 0 → k' ≤ n - 1) : addS al fr n k ≤ addS al fr n k' := by
  unfold addS
  by_cases h4 : al = 4
  · rw [if_pos h4, if_pos h4]; exact Int.le_refl _
  rw [if_neg h4, if_neg h4]
  by_cases h5 : al = 5
  · rw [if_pos h5, if_pos h5]; exact Int.le_refl _
  rw [if_neg h5, if_neg h5]
  by_cases hf0 : fr ≤ 0
  · rw [if_pos hf0, if_pos hf0]; exact Int.le_refl _
  rw [if_neg hf0, if_neg hf0]
  by_cases hn : n = 0
  · rw [if_pos hn, if_pos hn]; exact Int.le_refl _
  rw [if_neg hn, if_neg hn]
  have hm := rat_mono al n hk
  have hr := rat_in al k' n (by omega) (h1 hn)
  rw [hm.2]
  exact Int.ediv_le_ediv hr.2.2.1 (Int.mul_le_mul_of_nonneg_left hm.1 (by omega))
def mx0 (k : Int) : Int := mx k 0
theorem mx0_in (k : Int) : 0 ≤ mx0 k ∧ (k ≤ mx0 k) ∧ (mx0 k = k ∨ mx0 k = 0) := by unfold mx0 mx; split <;> omega
/-- Where a track begins. -/
def outS (a s : List Int) (g : List Bool) (al fr n : Int) (i : Nat) : Int := pre a s i + rd a (i : Int) + addS al fr n (mx0 (kc g (i + 1)))
theorem starts_l1 (lo : Int) (l : List S57) (g : List Bool) (a s : List Int) (al fr : Int) (hg : g.length = s.length) (ha : a.length = s.length) (hm : s.length ≤ 40000)
    (hp : ∀ i : Nat, i ≤ s.length → 0 ≤ pre a s i ∧ pre a s i ≤ 68719476736) (hs : ∀ j : Nat, j < s.length → 0 ≤ rd s (j : Int) ∧ rd s (j : Int) ≤ 68719476736) (hah : ∀ j : Nat, j < s.length → 0 ≤ rd a (j : Int) ∧ rd a (j : Int) ≤ 68719476736)
    (hf : -68719476736 ≤ fr ∧ fr ≤ 68719476736) (d : Nat) :
    ∀ i : Nat, i + d = s.length → Ev (fun k => content_Starts.l1 k s ((List.range i).map (outS a s g al fr (kc g s.length + 1)) ++ List.replicate d 0) (pre a s i) (kc g i) (s.length : Int) (i : Int) lo l g a al (kc g s.length + 1) fr) ((List.range s.length).map (outS a s g al fr (kc g s.length + 1)), 0) := by
  obtain ⟨n, hn⟩ : ∃ n, kc g s.length + 1 = n := ⟨_, rfl⟩
  rw [hn]
  induction d with
  | zero =>
    intro i hi
    refine Ev.step (f := fun _ => some ((List.range s.length).map (outS a s g al fr n), 0)) (fun k => ?_) (Ev.now _)
    simp only [content_Starts.l1]
    rw [if_neg (by omega), show i = s.length by omega]
    simp
  | succ d ih =>
    intro i hi
    have ec : ((i : Int) + 1) = ((i + 1 : Nat) : Int) := by simp
    have b1 := hp i (by omega)
    have b1' := hp (i + 1) (by omega)
    have b2 := hs i (by omega)
    have b3 := hah i (by omega)
    have k1 := kc_in g (i + 1)
    have k2 := kc_mono g (show i + 1 ≤ s.length by omega)
    have k3 := kc_in g s.length
    have k4 := kc_in g i
    have m1 := mx0_in (kc g (i + 1))
    have hpre : pre a s (i + 1) = pre a s i + rd s (i : Int) + rd a (i : Int) := rfl
    have hA := add_in (al := al) (fr := fr) (n := n) (k := mx0 (kc g (i + 1))) hf m1.1 (fun h => by omega)
    obtain ⟨y, hy⟩ : ∃ y, (List.range i).map (outS a s g al fr n) ++ List.replicate (d + 1) 0 = y := ⟨_, rfl⟩
    have hyl : y.length = s.length := by rw [← hy]; simp; omega
    have hset : y.set i (outS a s g al fr n i) = (List.range (i + 1)).map (outS a s g al fr n) ++ List.replicate d 0 := by
      rw [← hy, List.set_append_right _ _ (by simp)]
      simp [List.replicate_succ, List.range_succ]
    rw [hy]
    have hn1 := ih (i + 1) (by omega)
    rw [← hset] at hn1
    -- what follows once the part is known
    have fin : ∀ k' : Int, k' = kc g (i + 1) → ∀ V : Int, V = addS al fr n (mx0 (kc g (i + 1))) → Ev (fun k => if (i : Int) < (y.length : Int) then (if (i : Int) < (s.length : Int) then content_Starts.l1 k s (y.set ((i : Int) : Int).toNat (wrap64 ((wrap64 (pre a s i + (rd a (i : Int)))) + V))) (wrap64 ((wrap64 (pre a s i + (rd a (i : Int)))) + (rd s (i : Int)))) k' (s.length : Int) (wrap64 ((i : Int) + 1)) lo l g a al n fr else none) else none) ((List.range s.length).map (outS a s g al fr n), 0) := by
      intro k' hk' V hV
      subst hk' hV
      have e1 : wrap64 (pre a s i + rd a (i : Int)) = pre a s i + rd a (i : Int) := wrap_in _ (by omega) (by omega)
      have e2 : wrap64 (pre a s i + rd a (i : Int) + addS al fr n (mx0 (kc g (i + 1)))) = outS a s g al fr n i := wrap_in _ (by omega) (by omega)
      have e3 : wrap64 (pre a s i + rd a (i : Int) + rd s (i : Int)) = pre a s (i + 1) := by rw [wrap_in _ (by omega) (by omega), hpre]; omega
      have c1 : ((i : Int) < (y.length : Int)) = True := eq_true (by omega)
      have c2 : ((i : Int) < (s.length : Int)) = True := eq_true (by omega)
      simp only [c1, c2, if_true, e1, e2, e3, wrap_in ((i : Int) + 1) (by omega) (by omega), Int.toNat_natCast]
      simp only [ec]
      exact hn1
    have fin2 : ∀ k' : Int, k' = kc g (i + 1) → Ev (fun k => if al = 4 then (if (i : Int) < (y.length : Int) then (if (i : Int) < (s.length : Int) then content_Starts.l1 k s (y.set ((i : Int) : Int).toNat (wrap64 ((wrap64 (pre a s i + (rd a (i : Int)))) + fr))) (wrap64 ((wrap64 (pre a s i + (rd a (i : Int)))) + (rd s (i : Int)))) k' (s.length : Int) (wrap64 ((i : Int) + 1)) lo l g a al n fr else none) else none) else (if al = 5 then ((fixed_Div.f fr 2).bind fun t => if (i : Int) < (y.length : Int) then (if (i : Int) < (s.length : Int) then content_Starts.l1 k s (y.set ((i : Int) : Int).toNat (wrap64 ((wrap64 (pre a s i + (rd a (i : Int)))) + t))) (wrap64 ((wrap64 (pre a s i + (rd a (i : Int)))) + (rd s (i : Int)))) k' (s.length : Int) (wrap64 ((i : Int) + 1)) lo l g a al n fr else none) else none) else (if fr ≤ 0 then (if (i : Int) < (y.length : Int) then (if (i : Int) < (s.length : Int) then content_Starts.l1 k s (y.set ((i : Int) : Int).toNat (wrap64 ((wrap64 (pre a s i + (rd a (i : Int)))) + 0))) (wrap64 ((wrap64 (pre a s i + (rd a (i : Int)))) + (rd s (i : Int)))) k' (s.length : Int) (wrap64 ((i : Int) + 1)) lo l g a al n fr else none) else none) else (if n = 0 then (if (i : Int) < (y.length : Int) then (if (i : Int) < (s.length : Int) then content_Starts.l1 k s (y.set ((i : Int) : Int).toNat (wrap64 ((wrap64 (pre a s i + (rd a (i : Int)))) + 0))) (wrap64 ((wrap64 (pre a s i + (rd a (i : Int)))) + (rd s (i : Int)))) k' (s.length : Int) (wrap64 ((i : Int) + 1)) lo l g a al n fr else none) else none) else ((content_ratio.f al (mx k' 0) n).bind fun bt => ((fixed_MulDiv.f k fr bt.1 bt.2).bind fun b => if (i : Int) < (y.length : Int) then (if (i : Int) < (s.length : Int) then content_Starts.l1 k s (y.set ((i : Int) : Int).toNat (wrap64 ((wrap64 (pre a s i + (rd a (i : Int)))) + b.1))) (wrap64 ((wrap64 (pre a s i + (rd a (i : Int)))) + (rd s (i : Int)))) k' (s.length : Int) (wrap64 ((i : Int) + 1)) lo l g a al n fr else none) else none)))))) ((List.range s.length).map (outS a s g al fr n), 0) := by
      intro k' hk'
      by_cases h4 : al = 4
      · simp only [if_pos h4]; exact fin k' hk' fr (by unfold addS; rw [if_pos h4])
      simp only [if_neg h4]
      by_cases h5 : al = 5
      · simp only [if_pos h5, div2_eq fr (by omega) (by omega), Option.bind_some]; exact fin k' hk' (fr / 2) (by unfold addS; rw [if_neg h4, if_pos h5])
      simp only [if_neg h5]
      by_cases hf0 : fr ≤ 0
      · simp only [if_pos hf0]; exact fin k' hk' 0 (by unfold addS; rw [if_neg h4, if_neg h5, if_pos hf0])
      simp only [if_neg hf0]
      by_cases hn0 : n = 0
      · simp only [if_pos hn0]; exact fin k' hk' 0 (by unfold addS; rw [if_neg h4, if_neg h5, if_neg hf0, if_pos hn0])
      simp only [if_neg hn0]
      have em : mx k' 0 = mx0 (kc g (i + 1)) := by rw [hk']; rfl
      have hk9 : mx0 (kc g (i + 1)) ≤ n - 1 := by omega
      have hr := rat_in al (mx0 (kc g (i + 1))) n m1.1 hk9
      simp only [em, ratio_eq al (mx0 (kc g (i + 1))) n m1.1 (by omega) (by omega) (by omega), Option.bind_some]
      refine Ev.bind (muldiv_ev (lit_wf fr (by omega) (by omega)) (lit_wf _ (by omega) (by omega)) (lit_wf _ (by omega) (by omega))) ?_
      have hpi := part_in (f := fr) (by omega) hr.1 hr.2.1 hr.2.2.1
      have emd := md_pos (a := fr) (by omega) hr.1 hr.2.2.1 (by omega)
      exact fin k' hk' _ (by rw [emd]; unfold addS; rw [if_neg h4, if_neg h5, if_neg hf0, if_neg hn0])
    cases hgi : rdOf false g (i : Int) with
    | true =>
      refine Ev.step (fun k => ?_) (fin2 (kc g i) (by simp only [kc, hgi, if_true]))
      simp only [content_Starts.l1]
      rw [if_pos (by omega), if_pos (by omega), if_pos (by omega), if_pos hgi, if_pos (by omega)]
    | false =>
      refine Ev.step (fun k => ?_) (fin2 (wrap64 (kc g i + 1)) (by rw [wrap_in _ (by omega) (by omega)]; simp only [kc, hgi, Bool.false_eq_true, if_false]))
      simp only [content_Starts.l1]
      rw [if_pos (by omega), if_pos (by omega), if_pos (by omega), if_neg (by rw [hgi]; decide), if_pos (by omega)]
end Go.Proofs.Ytbkohlhonhmhmaa.Trk
