/- The plain law of FixedWhole: what the printed functions compute answers as the statement says. -/
import Derived.Test.YtcmnfhenbeigdaaPAx5
import Derived.Test.YtcmnfhenbeigdaaFix
namespace Go.Proofs.Ytcmnfhenbeigdaa.Pure
open Go.RowKit Go.Proofs.Ytcmnfhenbeigdaa.PA Go.Proofs.YtcmnfhenbeigdaaW.PrintWords Go.Proofs.Ytcmnfhenbeigdaa.Evs Go.Proofs.Ytcmnfhenbeigdaa.Fix
set_option linter.unusedVariables false
set_option linter.unusedSimpArgs false
theorem wrd_at (l : List Int) (i : Nat) (h : i < l.length) : rd l (i : Int) = l[i] := by simp [rd, List.getD_eq_getElem?_getD, List.getElem?_eq_getElem h]
/-- All of a row. -/
def tot : List Int → Int
  | [] => 0
  | x :: xs => x + tot xs
theorem tot_nonneg : ∀ {l : List Int}, (∀ x ∈ l, 0 ≤ x) → 0 ≤ tot l
  | [], _ => by simp [tot]
  | x :: xs, h => by
    have h1 := h x (by simp)
    have h2 := tot_nonneg (l := xs) (fun y hy => h y (by simp [hy]))
    simp only [tot]
    omega
theorem tot_append (a b : List Int) : tot (a ++ b) = tot a + tot b := by
  induction a with
  | nil => simp [tot]
  | cons x a ih => simp only [List.cons_append, tot, ih]; omega
theorem whole_loop1 (l : List Int) (n : Int) (hn : 0 ≤ n) (hn1 : n ≤ 68719476736) (ys : List Int) (hys : ys.length = l.length) (hm : ys.length ≤ 9223372036854775806) (h0 : ∀ x ∈ ys, 0 ≤ x) (d : Nat) :
    ∀ (i : Nat) (s : Int), i + d = ys.length → 0 ≤ s → s + tot (ys.drop i) = n → Ev (fun k => parterrelaw01_FixedWhole.l1 k l n s ys ys (ys.length : Int) i) true := by
  induction d with
  | zero =>
    intro i s hi hs ht
    refine Ev.step (f := fun k => (parterrelaw01_lives.f k).bind fun t => some t) (fun k => ?_) (Ev.bind lives_ev (Ev.now _))
    rw [List.drop_of_length_le (by omega)] at ht
    simp only [tot] at ht
    simp only [parterrelaw01_FixedWhole.l1]
    rw [if_neg (by omega), if_pos (by omega), if_pos (by omega)]
  | succ d ih =>
    intro i s hi hs ht
    have ha : ys.drop i = ys[i] :: ys.drop (i + 1) := List.drop_eq_getElem_cons (by omega)
    have ec : ((i : Int) + 1) = ((i + 1 : Nat) : Int) := by simp
    have hx := h0 ys[i] (List.getElem_mem _)
    have ht0 := tot_nonneg (l := ys.drop (i + 1)) (fun x hx => h0 x (List.mem_of_mem_drop hx))
    rw [ha] at ht
    simp only [tot] at ht
    refine Ev.step (f := fun k => parterrelaw01_FixedWhole.l1 k l n (s + ys[i]) ys ys (ys.length : Int) ((i + 1 : Nat) : Int)) (fun k => ?_) (ih (i + 1) (s + ys[i]) (by omega) (by omega) (by omega))
    simp only [parterrelaw01_FixedWhole.l1]
    rw [if_pos (by omega), if_pos (by omega), if_pos (by omega), wrd_at ys i (by omega), if_neg (by omega), wrap_in (s + ys[i]) (by omega) (by omega), wrap_in _ (by omega) (by omega), ec]
theorem whole_loop0 (l : List Int) (n : Int) (hn : 0 ≤ n) (hn1 : n ≤ 68719476736) (ys : List Int) (hm : ys.length ≤ 9223372036854775806) (h0 : ∀ x ∈ ys, 0 ≤ x)
    (hd : ∀ (i : Nat) (h : i + 1 < ys.length), ys[i + 1] ≤ ys[i]) (hf : ∀ (i : Nat) (h : i < ys.length), ys[0] - 1 ≤ ys[i]) (hbig : ∀ x ∈ ys, x ≤ 68719476736)
    (hc : Ev (fun k => (fixed_Share.f k n l).bind fun t150 => (if (t150.length : Int) = 0 then ((parterrelaw01_lives.f k).bind fun t153 => (some t153)) else (parterrelaw01_FixedWhole.l1 k l n 0 t150 t150 (t150.length : Int) 0))) true) (d : Nat) :
    ∀ (i : Nat) (s : Int), i + d = ys.length → 0 ≤ s → s + tot (ys.drop i) = n → Ev (fun k => parterrelaw01_FixedWhole.l0 k l n ys s ys (ys.length : Int) i) true := by
  induction d with
  | zero =>
    intro i s hi hs ht
    refine Ev.step (fun k => ?_) hc
    rw [List.drop_of_length_le (by omega)] at ht
    simp only [tot] at ht
    simp only [parterrelaw01_FixedWhole.l0]
    rw [if_neg (by omega), if_pos (by omega)]
  | succ d ih =>
    intro i s hi hs ht
    have ha : ys.drop i = ys[i] :: ys.drop (i + 1) := List.drop_eq_getElem_cons (by omega)
    have ec : ((i : Int) + 1) = ((i + 1 : Nat) : Int) := by simp
    have hx := h0 ys[i] (List.getElem_mem _)
    have ht0 := tot_nonneg (l := ys.drop (i + 1)) (fun x hx => h0 x (List.mem_of_mem_drop hx))
    rw [ha] at ht
    simp only [tot] at ht
    refine Ev.step (f := fun k => parterrelaw01_FixedWhole.l0 k l n ys (s + ys[i]) ys (ys.length : Int) ((i + 1 : Nat) : Int)) (fun k => ?_) (ih (i + 1) (s + ys[i]) (by omega) (by omega) (by omega))
    simp only [parterrelaw01_FixedWhole.l0]
    rw [if_pos (by omega), if_pos (by omega), if_pos (by omega), wrd_at ys i (by omega), if_neg (by omega), wrap_in (s + ys[i]) (by omega) (by omega), wrap_in ((i : Int) + 1) (by omega) (by omega), ec]
    by_cases hi0 : (i : Int) > 0
    · obtain ⟨j, rfl⟩ : ∃ j, i = j + 1 := ⟨i - 1, by omega⟩
      have e1 : wrap64 (((j + 1 : Nat) : Int) - 1) = (j : Int) := by rw [wrap_in _ (by omega) (by omega)]; omega
      have h1 := hd j (by omega)
      have h2 := hf (j + 1) (by omega)
      have h3 := hbig ys[0] (List.getElem_mem _)
      have h4 := h0 ys[0] (List.getElem_mem _)
      have e2 : rd ys 0 = ys[0] := wrd_at ys 0 (by omega)
      rw [if_pos hi0, e1, if_pos (by omega), if_pos (by omega), wrd_at ys j (by omega), if_neg (by omega), if_pos (by omega), e2, wrap_in (ys[0] - 1) (by omega) (by omega), if_neg (by omega)]
    · rw [if_neg hi0]
theorem spl_tot (n p : Int) (m : Nat) : tot ((List.range m).map (spl n p)) = (m : Int) * (n / p) + (if (m : Int) ≤ n % p then (m : Int) else if 0 ≤ n % p then n % p else 0) := by
  induction m with
  | zero => simp [tot]; omega
  | succ m ih =>
    rw [List.range_succ, List.map_append, tot_append, ih]
    simp only [List.map_cons, List.map_nil, tot, spl]
    have e : ((m + 1 : Nat) : Int) * (n / p) = (m : Int) * (n / p) + n / p := by rw [Int.natCast_succ, Int.add_mul]; omega
    rw [e]
    repeat' split
    all_goals omega
theorem shr_tot (n all : Int) (ws : List Int) : ∀ s, tot (shr' n all s ws) = n * (s + fixed_Share.sum ws) / all - n * s / all := by
  induction ws with
  | nil => intro s; simp [shr', tot, fixed_Share.sum]
  | cons w ws ih =>
    intro s
    simp only [shr', tot, fixed_Share.sum, ih]
    have e : s + w + fixed_Share.sum ws = s + (w + fixed_Share.sum ws) := by omega
    rw [e]
    omega
theorem shr_nonneg (n all : Int) (hn : 0 ≤ n) (ha : 0 < all) (ws : List Int) : ∀ s, fixed_Share.ok ws = true → ∀ x ∈ shr' n all s ws, 0 ≤ x := by
  induction ws with
  | nil => intro s _ x hx; simp [shr'] at hx
  | cons w ws ih =>
    intro s hok x hx
    obtain ⟨h1, h2, h3⟩ := ok_cons hok
    simp only [shr', List.mem_cons] at hx
    rcases hx with rfl | hx
    · have := due_mono (n := n) (s := s) (t := s + w) hn (by omega) ha
      omega
    · exact ih _ h3 x hx
theorem FixedWhole : parterrelaw01_FixedWhole.Pure := by
  intro a b l ha hb hl1 hl2 hl
  refine Ev.rounds ?_
  unfold parterrelaw01_FixedWhole.f
  by_cases hlen : (l.length : Int) > 1000
  · simp only [hlen, if_true]
    exact Ev.bind lives_ev (Ev.now _)
  simp only [hlen, if_false]
  obtain ⟨u, hu, u0⟩ : ∃ u, IntKind.u64.wrap a = u ∧ 0 ≤ u := ⟨_, rfl, by rw [IntKind.wrap_u64]; omega⟩
  obtain ⟨v, hv, v0⟩ : ∃ v, IntKind.u64.wrap b = v ∧ 0 ≤ v := ⟨_, rfl, by rw [IntKind.wrap_u64]; omega⟩
  rw [hu, hv, Int.tmod_eq_emod_of_nonneg u0, Int.tmod_eq_emod_of_nonneg v0, wrap_in (u % 68719476737) (by omega) (by omega), wrap_in (v % 1000) (by omega) (by omega), wrap_in (1 + v % 1000) (by omega) (by omega)]
  obtain ⟨n, hn, n0, n1⟩ : ∃ n, u % 68719476737 = n ∧ 0 ≤ n ∧ n ≤ 68719476736 := ⟨_, rfl, by omega, by omega⟩
  obtain ⟨p, hp, p0, p1⟩ : ∃ p, 1 + v % 1000 = p ∧ 1 ≤ p ∧ p ≤ 1000 := ⟨_, rfl, by omega, by omega⟩
  rw [hn, hp]
  refine Ev.bind (split_ev n p (by omega)) ?_
  have hs : splitS n p = (List.range p.toNat).map (spl n p) := by unfold splitS; rw [if_neg (by omega)]
  rw [hs]
  have hq0 : 0 ≤ n / p := Int.ediv_nonneg n0 (by omega)
  have hq1 : n / p ≤ n := Int.ediv_le_self p n0
  have hr0 := Int.emod_nonneg n (b := p) (by omega)
  have hr1 := Int.emod_lt_of_pos n (b := p) (by omega)
  have hqr := Int.mul_ediv_add_emod n p
  have hlen2 : (((List.range p.toNat).map (spl n p)).length : Int) = p := by simp; omega
  have hel : ∀ (i : Nat), 0 ≤ spl n p i ∧ spl n p i ≤ n / p + 1 ∧ n / p ≤ spl n p i := by intro i; unfold spl; split <;> omega
  have hb1 : n / p + 1 ≤ 68719476736 ∨ n / p = 68719476736 := by omega
  have hpt := spl_tot n p p.toNat
  have hpp : ((p.toNat : Nat) : Int) = p := by omega
  rw [hpp] at hpt
  simp only [hlen2, if_true]
  have hbig : ∀ (i : Nat), spl n p i ≤ 68719476736 := by
    intro i
    by_cases h1 : n / p = n
    · unfold spl
      have : n % p = 0 ∨ n = 0 := by
        by_cases h2 : p = 1
        · left; rw [h2]; omega
        · right
          have h3 : 2 * (n / p) ≤ p * (n / p) := Int.mul_le_mul_of_nonneg_right (by omega) hq0
          omega
      rcases this with h | h
      · rw [h]; split <;> omega
      · split <;> omega
    · have := hel i; omega
  have hw := whole_loop0 l n n0 n1 ((List.range p.toNat).map (spl n p)) (by simp; omega)
    (by intro x hx; obtain ⟨i, _, rfl⟩ := List.mem_map.mp hx; exact (hel i).1)
    (by intro i h; simp only [List.getElem_map, List.getElem_range, spl]; repeat' split
        all_goals omega)
    (by intro i h; simp only [List.getElem_map, List.getElem_range]; have := hel i; have := hel 0; omega)
    (by intro x hx; obtain ⟨i, _, rfl⟩ := List.mem_map.mp hx; exact hbig i) ?_ p.toNat 0 0 (by simp) (by omega) (by rw [List.drop_zero, hpt]; split <;> omega)
  · rw [hlen2] at hw
    exact hw
  refine Ev.bind (share_ev n l) ?_
  by_cases hz : n < 0 ∨ 68719476736 < n ∨ 65536 < l.length ∨ fixed_Share.ok l = false ∨ fixed_Share.sum l = 0
  · have : shareS n l = [] := by unfold shareS; rw [if_pos hz]
    simp only [this, List.length_nil, Int.ofNat_zero, if_true]
    exact Ev.bind lives_ev (Ev.now _)
  · have : shareS n l = shr' n (fixed_Share.sum l) 0 l := by unfold shareS; rw [if_neg hz]
    have hok : fixed_Share.ok l = true := by cases e : fixed_Share.ok l <;> simp_all
    have hsi := sum_in hok
    have hne : ¬ ((shr' n (fixed_Share.sum l) 0 l).length : Int) = 0 := by
      rw [shr_length]
      intro h
      have : l = [] := List.length_eq_zero_iff.mp (by omega)
      subst this
      simp [fixed_Share.sum] at hz
    simp only [this, hne, if_false]
    refine whole_loop1 l n n0 n1 _ (shr_length _ _ _ _) (by rw [shr_length]; omega) (shr_nonneg n _ n0 (by omega) l 0 hok) (shr' n (fixed_Share.sum l) 0 l).length 0 0 (by omega) (by omega) ?_
    rw [List.drop_zero, shr_tot]
    simp only [Int.zero_add, Int.mul_zero, Int.zero_ediv]
    rw [Int.mul_ediv_cancel _ (by omega)]
    omega
end Go.Proofs.Ytcmnfhenbeigdaa.Pure
