/- What the printed Split, and the test whether two rows are alike, compute, in plain words. No condition beyond those that each lemma states. -/
import Derived.Test.YtecccaniopkphaaPAx4
import Derived.Test.YtecccaniopkphaaPAx5
import Derived.Test.YtecccaniopkphaaEv
namespace Go.Proofs.Ytecccaniopkphaa.Spl
open Go.RowKit Go.Proofs.Ytecccaniopkphaa.PA Go.Proofs.YtecccaniopkphaaW.PrintWords Go.Proofs.Ytecccaniopkphaa.Evs
set_option linter.unusedVariables false
set_option linter.unusedSimpArgs false
/-! ### Alike parts -/
/-- The part at a place. -/
def spl (n p : Int) (i : Nat) : Int := n / p + (if (i : Int) < n % p then 1 else 0)
/-- What is parted alike. -/
def splitS (n p : Int) : List Int := if n < 0 ∨ p < 1 ∨ 65536 < p then [] else (List.range p.toNat).map (spl n p)
theorem split_loop (n p : Int) (hn : 0 ≤ n) (hn1 : n ≤ 9223372036854775806) (hp : 1 ≤ p) (hp1 : p ≤ 65536) (d : Nat) :
    ∀ i : Nat, i + d = p.toNat → Ev (fun k => fixed_Split.l0 k n p ((List.range i).map (spl n p) ++ List.replicate d 0) p i) ((List.range p.toNat).map (spl n p)) := by
  have hq0 : 0 ≤ n / p := Int.ediv_nonneg hn (by omega)
  have hq1 : n / p ≤ n := Int.ediv_le_self p hn
  induction d with
  | zero =>
    intro i hi
    refine Ev.step (f := fun _ => some ((List.range p.toNat).map (spl n p))) (fun k => ?_) (Ev.now _)
    simp only [fixed_Split.l0]
    rw [if_neg (by omega)]
    simp [show i = p.toNat by omega]
  | succ d ih =>
    intro i hi
    refine Ev.step (f := fun k => fixed_Split.l0 k n p ((List.range (i + 1)).map (spl n p) ++ List.replicate d 0) p ((i + 1 : Nat) : Int)) (fun k => ?_) (ih (i + 1) (by omega))
    simp only [fixed_Split.l0]
    have hlen : ((((List.range i).map (spl n p) ++ List.replicate (d + 1) 0).length : Nat) : Int) = p := by simp; omega
    rw [if_pos (by omega), if_neg (by omega), if_pos (by omega), if_pos (by rw [hlen]; omega)]
    simp only [Option.bind_some, Int.toNat_natCast]
    rw [Int.tdiv_eq_ediv_of_nonneg hn, Int.tmod_eq_emod_of_nonneg hn, wrap_in (n / p) (by omega) (by omega), wrap_in ((i : Int) + 1) (by omega) (by omega)]
    have hset : ∀ v : Int, ((List.range i).map (spl n p) ++ List.replicate (d + 1) 0).set i v = (List.range i).map (spl n p) ++ v :: List.replicate d 0 := by
      intro v
      rw [List.set_append_right _ _ (by simp)]
      simp [List.replicate_succ]
    have hset2 : ∀ u v : Int, ((List.range i).map (spl n p) ++ u :: List.replicate d 0).set i v = (List.range i).map (spl n p) ++ v :: List.replicate d 0 := by
      intro u v
      rw [List.set_append_right _ _ (by simp)]
      simp
    have hfin : ∀ v : Int, v = spl n p i → (List.range i).map (spl n p) ++ v :: List.replicate d 0 = (List.range (i + 1)).map (spl n p) ++ List.replicate d 0 := by
      intro v hv
      subst hv
      simp [List.range_succ]
    have hrd : ∀ v : Int, rd ((List.range i).map (spl n p) ++ v :: List.replicate d 0) (i : Int) = v := by
      intro v
      simp [rd]
    rw [hset]
    have ec : ((i : Int) + 1) = ((i + 1 : Nat) : Int) := by simp
    by_cases hlt : (i : Int) < n % p
    · rw [if_pos hlt, hset2, hrd, wrap_in (n / p + 1) (by omega) (by omega), hfin _ (by simp [spl, hlt]), ec]
    · rw [if_neg hlt, hfin _ (by simp [spl, hlt]), ec]
theorem split_ev (n p : Int) (hn1 : n ≤ 9223372036854775806) : Ev (fun k => fixed_Split.f k n p) (splitS n p) := by
  unfold fixed_Split.f splitS
  have hbad : ∀ n p : Int, Ev (fun k => fixed_Split.j0 k n p true) [] := fun n p => Ev.step (f := fun _ => some []) (fun k => by simp [fixed_Split.j0]) (Ev.now _)
  by_cases h1 : n < 0
  · simp only [h1, if_true, true_or]; exact hbad n p
  by_cases h2 : p < 1
  · simp only [h1, h2, if_true, if_false, true_or, or_true]; exact hbad n p
  by_cases h3 : p > 65536
  · simp only [h1, h2, h3, if_true, if_false, decide_true, show 65536 < p from h3, or_true]; exact hbad n p
  simp only [h1, h2, h3, if_false, decide_false, show ¬ 65536 < p from h3, or_self]
  refine Ev.step (f := fun k => fixed_Split.l0 k n p (List.replicate p.toNat 0) ((List.replicate p.toNat (0 : Int)).length : Int) 0) (fun k => ?_) ?_
  · simp only [fixed_Split.j0]
    rw [if_neg (by decide), if_pos (by omega), if_pos (by omega)]
    rfl
  · have := split_loop n p (by omega) hn1 (by omega) (by omega) p.toNat 0 (by omega)
    simpa [show (p.toNat : Int) = p by omega, show max p 0 = p by omega] using this

/-! ### Are two rows alike? -/
theorem ints_loop (a b : List Int) (hl : a.length = b.length) (hm : a.length ≤ 9223372036854775806) (d : Nat) :
    ∀ i : Nat, i + d = a.length → Ev (fun k => parterreref01_Ints.l0 k a b i) (decide (a.drop i = b.drop i)) := by
  induction d with
  | zero =>
    intro i hi
    refine Ev.step (f := fun _ => some (decide (a.drop i = b.drop i))) (fun k => ?_) (Ev.now _)
    simp only [parterreref01_Ints.l0]
    rw [if_neg (by omega), List.drop_of_length_le (by omega), List.drop_of_length_le (by omega)]
    simp
  | succ d ih =>
    intro i hi
    have ha : a.drop i = a[i] :: a.drop (i + 1) := (List.drop_eq_getElem_cons (by omega))
    have hb : b.drop i = b[i] :: b.drop (i + 1) := (List.drop_eq_getElem_cons (by omega))
    have ra : rd a (i : Int) = a[i] := by simp [rd, List.getD_eq_getElem?_getD, List.getElem?_eq_getElem (show i < a.length by omega)]
    have rb : rd b (i : Int) = b[i] := by simp [rd, List.getD_eq_getElem?_getD, List.getElem?_eq_getElem (show i < b.length by omega)]
    have ec : ((i : Int) + 1) = ((i + 1 : Nat) : Int) := by simp
    by_cases he : a[i] = b[i]
    · refine Ev.step (f := fun k => parterreref01_Ints.l0 k a b ((i + 1 : Nat) : Int)) (fun k => ?_) ?_
      · simp only [parterreref01_Ints.l0]
        rw [if_pos (by omega), if_pos (by omega), if_pos (by omega), ra, rb, if_pos he, wrap_in _ (by omega) (by omega), ec]
      · have e : (a.drop i = b.drop i) = (a.drop (i + 1) = b.drop (i + 1)) := by rw [ha, hb, he]; exact propext ⟨fun h => (List.cons.inj h).2, fun h => by rw [h]⟩
        have := ih (i + 1) (by omega)
        simp only [e]
        exact this
    · refine Ev.step (f := fun _ => some (decide (a.drop i = b.drop i))) (fun k => ?_) (Ev.now _)
      simp only [parterreref01_Ints.l0]
      rw [if_pos (by omega), if_pos (by omega), if_pos (by omega), ra, rb, if_neg he]
      congr 1
      symm
      rw [decide_eq_false_iff_not, ha, hb]
      exact fun h => he (List.cons.inj h).1
theorem ints_ev (a b : List Int) (hm : a.length ≤ 9223372036854775806) : Ev (fun k => parterreref01_Ints.f k a b) (decide (a = b)) := by
  unfold parterreref01_Ints.f
  by_cases hl : a.length = b.length
  · simp only [hl, if_true]
    simpa using ints_loop a b hl hm a.length 0 (by omega)
  · have hl' : ¬ (a.length : Int) = (b.length : Int) := by omega
    have : ¬ a = b := fun h => hl (by rw [h])
    simp only [hl', if_false, this, decide_false]
    exact Ev.now _

/-- All of a row. -/
def tot : List Int → Int
  | [] => 0
  | x :: xs => x + tot xs
theorem tot_append (a b : List Int) : tot (a ++ b) = tot a + tot b := by
  induction a with
  | nil => simp [tot]
  | cons x a ih => simp only [List.cons_append, tot, ih]; omega
theorem spl_tot (n p : Int) (m : Nat) : tot ((List.range m).map (spl n p)) = (m : Int) * (n / p) + (if (m : Int) ≤ n % p then (m : Int) else if 0 ≤ n % p then n % p else 0) := by
  induction m with
  | zero => simp [tot]; omega
  | succ m ih =>
    rw [List.range_succ, List.map_append, tot_append, ih]
    simp only [List.map_cons, List.map_nil, tot, spl]
    have e : ((m + 1 : Nat) : Int) * (n / p) = (m : Int) * (n / p) + n / p := by rw [Int.natCast_succ, Int.add_mul]; omega
    rw [e]
    repeat' split
    all_goals omega
end Go.Proofs.Ytecccaniopkphaa.Spl
