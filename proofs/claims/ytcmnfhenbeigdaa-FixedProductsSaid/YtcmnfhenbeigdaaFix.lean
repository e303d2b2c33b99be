/- What the printed functions of the package fixed and of its reference compute, in plain words: quotients, products by way of 128 bits, parts by weights. No condition beyond those that each lemma states. -/
import Derived.Test.YtcmnfhenbeigdaaPAx4
import Derived.Test.YtcmnfhenbeigdaaDiv
import Derived.Test.YtcmnfhenbeigdaaEv
namespace Go.Proofs.Ytcmnfhenbeigdaa.Fix
open Go.RowKit Go.Proofs.Ytcmnfhenbeigdaa.PA Go.Proofs.YtcmnfhenbeigdaaW.PrintWords Go.Proofs.Ytcmnfhenbeigdaa.Evs Go.Proofs.Ytcmnfhenbeigdaa.Div
set_option linter.unusedVariables false
set_option linter.unusedSimpArgs false

/-- How great a number is. -/
def ab (x : Int) : Int := if x < 0 then -x else x
/-- A quotient by its size, what is left and its sign. -/
def mdN (neg : Bool) (Q R : Int) : Int × Int :=
  if neg = true then (if 0 < R then (if 9223372036854775808 ≤ Q then (0, 10) else (-(Q + 1), 0)) else (if Q ≤ 9223372036854775808 then (-Q, 0) else (0, 10)))
  else (if 9223372036854775808 ≤ Q then (0, 10) else (Q, 0))
def ng (a b c : Int) : Bool := ((decide (a < 0)) != (decide (b < 0))) != (decide (c < 0))
def md (a b c : Int) : Int × Int := if c = 0 then (0, 2) else mdN (ng a b c) (ab a * ab b / ab c) (ab a * ab b % ab c)

theorem ab_in {a : Int} (h : (Lit.int .i64 a).wf = true) : 0 ≤ ab a ∧ ab a ≤ 9223372036854775808 := by
  have := wf_in h
  unfold ab
  split <;> omega
theorem fsize_eq {a : Int} (h : (Lit.int .i64 a).wf = true) : fixed_size.f a = some (ab a) := by
  have := wf_in h
  unfold fixed_size.f ab
  by_cases h0 : a < 0
  · simp only [h0, if_true]
    congr 1
    rw [IntKind.wrap_u64, IntKind.wrap_u64]
    omega
  · simp only [h0, if_false]
    congr 1
    exact u64_in _ (by omega) (by omega)
theorem neg_wrap (Q : Int) (h0 : 0 ≤ Q) (h1 : Q ≤ 9223372036854775808) : wrap64 (IntKind.u64.wrap (-Q)) = -Q := by
  rw [IntKind.wrap_u64]
  unfold wrap64
  omega
theorem neg_wrap1 (Q : Int) (h0 : 0 ≤ Q) (h1 : Q < 9223372036854775808) : wrap64 (IntKind.u64.wrap (-(IntKind.u64.wrap (Q + 1)))) = -(Q + 1) := by
  rw [u64_in (Q + 1) (by omega) (by omega)]
  exact neg_wrap (Q + 1) (by omega) (by omega)
theorem pr_in {a b : Int} (ha : 0 ≤ a) (ha1 : a ≤ 9223372036854775808) (hb : 0 ≤ b) (hb1 : b ≤ 9223372036854775808) : 0 ≤ a * b ∧ a * b ≤ 85070591730234615865843651857942052864 :=
  ⟨Int.mul_nonneg ha hb, Int.mul_le_mul ha1 hb1 hb (by decide)⟩
theorem mdN_great (neg : Bool) (Q R : Int) (h : 18446744073709551616 ≤ Q) : mdN neg Q R = (0, 10) := by
  unfold mdN
  cases neg <;> simp <;> (repeat' split) <;> first | rfl | omega

theorem muldiv_ev {a b c : Int} (ha : (Lit.int .i64 a).wf = true) (hb : (Lit.int .i64 b).wf = true) (hc : (Lit.int .i64 c).wf = true) : Ev (fun k => fixed_MulDiv.f k a b c) (md a b c) := by
  unfold fixed_MulDiv.f md
  by_cases hc0 : c = 0
  · simp only [hc0, if_true]; exact Ev.now _
  obtain ⟨a0, a1⟩ := ab_in ha
  obtain ⟨b0, b1⟩ := ab_in hb
  obtain ⟨c0, c1⟩ := ab_in hc
  have c2 : 0 < ab c := by unfold ab at *; split <;> omega
  obtain ⟨p0, p1⟩ := pr_in a0 a1 b0 b1
  have hmul : bits_Mul64.f (ab a) (ab b) = some (ab a * ab b / 18446744073709551616, ab a * ab b % 18446744073709551616) := by
    unfold bits_Mul64.f
    rw [if_pos ⟨a0, by omega, b0, by omega⟩]
  simp only [hc0, if_false, fsize_eq ha, fsize_eq hb, fsize_eq hc, hmul, Option.bind_some]
  generalize hP : ab a * ab b = P at *
  generalize hC : ab c = C at *
  by_cases hg : P / 18446744073709551616 ≥ C
  · simp only [hg, if_true]
    rw [mdN_great _ _ _ ?_]
    · exact Ev.now _
    · rw [Int.le_ediv_iff_mul_le c2]
      omega
  simp only [hg, if_false]
  have hd := div64_ev (P / 18446744073709551616) (P % 18446744073709551616) C (by omega) (by omega) (by omega) (by omega) (by omega)
  have e : P / 18446744073709551616 * 18446744073709551616 + P % 18446744073709551616 = P := by omega
  rw [e] at hd
  refine Ev.bind hd ?_
  have hQ0 : 0 ≤ P / C := Int.ediv_nonneg p0 c0
  have hR0 : 0 ≤ P % C := Int.emod_nonneg P (by omega)
  generalize P / C = Q at *
  generalize P % C = R at *
  have hn : ng a b c = (((decide (a < 0)) != (decide (b < 0))) != (decide (c < 0))) := rfl
  have w0 : Q < 9223372036854775808 → wrap64 Q = Q := fun h => wrap_in Q (by omega) (by omega)
  have w1 : Q < 9223372036854775808 → wrap64 (IntKind.u64.wrap (-(IntKind.u64.wrap (Q + 1)))) = -(Q + 1) := fun h => neg_wrap1 Q hQ0 h
  have w2 : Q ≤ 9223372036854775808 → wrap64 (IntKind.u64.wrap (-Q)) = -Q := fun h => neg_wrap Q hQ0 h
  have hpos : ng a b c = false → Ev (fun _ => if Q ≥ 9223372036854775808 then some ((0, 10) : Int × Int) else some (wrap64 Q, 0)) (mdN (ng a b c) Q R) := by
    intro h
    rw [h]
    unfold mdN
    by_cases h1 : 9223372036854775808 ≤ Q
    · simp [h1]; exact Ev.now _
    · simp [h1, w0 (by omega)]; exact Ev.now _
  have hneg : ng a b c = true → Ev (fun _ => if R > 0 then (if Q ≥ 9223372036854775808 then some ((0, 10) : Int × Int) else some (wrap64 (IntKind.u64.wrap (-(IntKind.u64.wrap (Q + 1)))), 0)) else (if Q ≤ 9223372036854775808 then some (wrap64 (IntKind.u64.wrap (-Q)), 0) else (if Q ≥ 9223372036854775808 then some (0, 10) else some (wrap64 Q, 0)))) (mdN (ng a b c) Q R) := by
    intro h
    rw [h]
    unfold mdN
    by_cases h1 : R > 0
    · by_cases h2 : Q ≥ 9223372036854775808
      · simp [h1, h2]; exact Ev.now _
      · simp [h1, h2, w1 (by omega)]; exact Ev.now _
    · by_cases h2 : Q ≤ 9223372036854775808
      · simp [h1, h2, w2 h2]; exact Ev.now _
      · simp [h1, h2, show Q ≥ 9223372036854775808 by omega]; exact Ev.now _
  by_cases s : ((decide (a < 0)) != (decide (b < 0))) = true
  · rw [if_pos s]
    by_cases s2 : c < 0
    · simp only [s2, if_true]; exact hpos (by rw [hn, s]; simp [s2])
    · simp only [s2, if_false]; exact hneg (by rw [hn, s]; simp [s2])
  · rw [if_neg s]
    have s' : ((decide (a < 0)) != (decide (b < 0))) = false := by simpa using s
    by_cases s2 : c < 0
    · simp only [s2, if_true]; exact hneg (by rw [hn, s']; simp [s2])
    · simp only [s2, if_false]; exact hpos (by rw [hn, s']; simp [s2])

/-- Of numbers that are not below 0 the quotient is the whole quotient. -/
theorem md_pos {a b c : Int} (ha : 0 ≤ a) (hb : 0 ≤ b) (hc : 0 < c) (hq : a * b / c < 9223372036854775808) : md a b c = (a * b / c, 0) := by
  unfold md mdN ng ab
  simp [show ¬ c = 0 by omega, show ¬ a < 0 by omega, show ¬ b < 0 by omega, show ¬ c < 0 by omega]
  omega

/-! ### Parts by weights -/
/-- The parts, one behind the other: what is due up to the next less what was due. -/
def shr' (n all : Int) : Int → List Int → List Int
  | _, [] => []
  | s, w :: ws => (n * (s + w) / all - n * s / all) :: shr' n all (s + w) ws
theorem shr_length (n all : Int) (ws : List Int) : ∀ s, (shr' n all s ws).length = ws.length := by
  induction ws with
  | nil => intro s; rfl
  | cons w ws ih => intro s; simp [shr', ih]
theorem lit_wf (n : Int) (h0 : -9223372036854775808 ≤ n) (h1 : n ≤ 9223372036854775807) : (Lit.int .i64 n).wf = true := by
  simp [Lit.wf, IntKind.min, IntKind.max, IntKind.bits, IntKind.signed]
  omega
theorem due_le {n s all : Int} (hn : 0 ≤ n) (hs : s ≤ all) (ha : 0 < all) : n * s / all ≤ n := by
  have : n * s / all < n + 1 := by
    rw [Int.ediv_lt_iff_lt_mul ha]
    have := Int.mul_le_mul_of_nonneg_left hs hn
    rw [Int.add_mul]
    omega
  omega
theorem due_nonneg {n s all : Int} (hn : 0 ≤ n) (hs : 0 ≤ s) (ha : 0 < all) : 0 ≤ n * s / all := Int.ediv_nonneg (Int.mul_nonneg hn hs) (by omega)
theorem due_mono {n s t all : Int} (hn : 0 ≤ n) (hs : s ≤ t) (ha : 0 < all) : n * s / all ≤ n * t / all := Int.ediv_le_ediv ha (Int.mul_le_mul_of_nonneg_left hs hn)
theorem ok_cons {w : Int} {ws : List Int} (h : fixed_Share.ok (w :: ws) = true) : 0 ≤ w ∧ w ≤ 1073741824 ∧ fixed_Share.ok ws = true := by
  simp only [fixed_Share.ok, List.all_cons, Bool.and_eq_true, decide_eq_true_eq] at h
  exact ⟨h.1.1, h.1.2, h.2⟩
theorem sum_in : ∀ {ws : List Int}, fixed_Share.ok ws = true → 0 ≤ fixed_Share.sum ws ∧ fixed_Share.sum ws ≤ 1073741824 * ws.length
  | [], _ => by simp [fixed_Share.sum]
  | w :: ws, h => by
    obtain ⟨h1, h2, h3⟩ := ok_cons h
    have := sum_in h3
    simp only [fixed_Share.sum, List.length_cons]
    omega
theorem parts_ev (n all : Int) (hn : 0 ≤ n) (hn1 : n ≤ 68719476736) (ha : 0 < all) (ha1 : all ≤ 70368744177664) (ws : List Int) :
    ∀ s : Int, fixed_Share.ok ws = true → 0 ≤ s → s + fixed_Share.sum ws ≤ all → Ev (fun k => fixed_Share.parts k n all s (n * s / all) ws) (shr' n all s ws) := by
  induction ws with
  | nil => intro s _ _ _; simp only [fixed_Share.parts, shr']; exact Ev.now _
  | cons w ws ih =>
    intro s hok hs hsum
    obtain ⟨h1, h2, h3⟩ := ok_cons hok
    have hsi := sum_in h3
    simp only [fixed_Share.sum] at hsum
    simp only [fixed_Share.parts, shr']
    have hq0 := due_nonneg (n := n) (s := s + w) hn (by omega) ha
    have hq1 := due_le (n := n) (s := s + w) hn (by omega) ha
    have hz0 := due_nonneg (n := n) (s := s) hn hs ha
    have hz1 := due_le (n := n) (s := s) hn (by omega) ha
    have hm := muldiv_ev (lit_wf n (by omega) (by omega)) (lit_wf (s + w) (by omega) (by omega)) (lit_wf all (by omega) (by omega))
    rw [md_pos hn (by omega) ha (by omega)] at hm
    refine Ev.bind hm ?_
    refine Ev.bind (ih (s + w) h3 (by omega) (by omega)) ?_
    rw [wrap_in _ (by omega) (by omega)]
    exact Ev.now _
/-- What is parted by weights. -/
def shareS (n : Int) (ws : List Int) : List Int := if n < 0 ∨ 68719476736 < n ∨ 65536 < ws.length ∨ fixed_Share.ok ws = false ∨ fixed_Share.sum ws = 0 then [] else shr' n (fixed_Share.sum ws) 0 ws
theorem share_ev (n : Int) (ws : List Int) : Ev (fun k => fixed_Share.f k n ws) (shareS n ws) := by
  unfold fixed_Share.f shareS
  by_cases h : n < 0 ∨ 68719476736 < n ∨ 65536 < ws.length ∨ fixed_Share.ok ws = false ∨ fixed_Share.sum ws = 0
  · simp only [h, if_true]; exact Ev.now _
  · simp only [h, if_false]
    have hok : fixed_Share.ok ws = true := by cases e : fixed_Share.ok ws <;> simp_all
    have hs := sum_in hok
    have := parts_ev n (fixed_Share.sum ws) (by omega) (by omega) (by omega) (by omega) ws 0 hok (by omega) (by omega)
    simpa using this

/-! ### Alike parts -/
/-- The part at a place. -/
def spl (n p : Int) (i : Nat) : Int := n / p + (if (i : Int) < n % p then 1 else 0)
/-- What is parted alike. -/
def splitS (n p : Int) : List Int := if n < 0 ∨ p < 1 ∨ 65536 < p then [] else (List.range p.toNat).map (spl n p)
theorem split_loop (n p : Int) (hn : 0 ≤ n) (hn1 : n ≤ 9223372036854775806) (hp : 1 ≤ p) (hp1 : p ≤ 65536) (d : Nat) :
    ∀ i : Nat, i + d = p.toNat → Ev (fun k => fixed_Split.l0 k n p ((List.range i).map (spl n p) ++ List.replicate d 0) p i) ((List.range p.toNat).map (spl n p)) := by
  have hq0 : 0 ≤ n / p := Int.ediv_nonneg hn (by omega)
  have hq1 : n / p ≤ n := Int.ediv_le_self p hn
  induction d with
  | zero =>
    intro i hi
    refine Ev.step (f := fun _ => some ((List.range p.toNat).map (spl n p))) (fun k => ?_) (Ev.now _)
    simp only [fixed_Split.l0]
    rw [if_neg (by omega)]
    simp [show i = p.toNat by omega]
  | succ d ih =>
    intro i hi
    refine Ev.step (f := fun k => fixed_Split.l0 k n p ((List.range (i + 1)).map (spl n p) ++ List.replicate d 0) p ((i + 1 : Nat) : Int)) (fun k => ?_) (ih (i + 1) (by omega))
    simp only [fixed_Split.l0]
    have hlen : ((((List.range i).map (spl n p) ++ List.replicate (d + 1) 0).length : Nat) : Int) = p := by simp; omega
    rw [if_pos (by omega), if_neg (by omega), if_pos (by omega), if_pos (by rw [hlen]; omega)]
    simp only [Option.bind_some, Int.toNat_natCast]
    rw [Int.tdiv_eq_ediv_of_nonneg hn, Int.tmod_eq_emod_of_nonneg hn, wrap_in (n / p) (by omega) (by omega), wrap_in ((i : Int) + 1) (by omega) (by omega)]
    have hset : ∀ v : Int, ((List.range i).map (spl n p) ++ List.replicate (d + 1) 0).set i v = (List.range i).map (spl n p) ++ v :: List.replicate d 0 := by
      intro v
      rw [List.set_append_right _ _ (by simp)]
      simp [List.replicate_succ]
    have hset2 : ∀ u v : Int, ((List.range i).map (spl n p) ++ u :: List.replicate d 0).set i v = (List.range i).map (spl n p) ++ v :: List.replicate d 0 := by
      intro u v
      rw [List.set_append_right _ _ (by simp)]
      simp
    have hfin : ∀ v : Int, v = spl n p i → (List.range i).map (spl n p) ++ v :: List.replicate d 0 = (List.range (i + 1)).map (spl n p) ++ List.replicate d 0 := by
      intro v hv
      subst hv
      simp [List.range_succ]
    have hrd : ∀ v : Int, rd ((List.range i).map (spl n p) ++ v :: List.replicate d 0) (i : Int) = v := by
      intro v
      simp [rd]
    rw [hset]
    have ec : ((i : Int) + 1) = ((i + 1 : Nat) : Int) := by simp
    by_cases hlt : (i : Int) < n % p
    · rw [if_pos hlt, hset2, hrd, wrap_in (n / p + 1) (by omega) (by omega), hfin _ (by simp [spl, hlt]), ec]
    · rw [if_neg hlt, hfin _ (by simp [spl, hlt]), ec]
theorem split_ev (n p : Int) (hn1 : n ≤ 9223372036854775806) : Ev (fun k => fixed_Split.f k n p) (splitS n p) := by
  unfold fixed_Split.f splitS
  have hbad : ∀ n p : Int, Ev (fun k => fixed_Split.j0 k n p true) [] := fun n p => Ev.step (f := fun _ => some []) (fun k => by simp [fixed_Split.j0]) (Ev.now _)
  by_cases h1 : n < 0
  · simp only [h1, if_true, true_or]; exact hbad n p
  by_cases h2 : p < 1
  · simp only [h1, h2, if_true, if_false, true_or, or_true]; exact hbad n p
  by_cases h3 : p > 65536
  · simp only [h1, h2, h3, if_true, if_false, decide_true, show 65536 < p from h3, or_true]; exact hbad n p
  simp only [h1, h2, h3, if_false, decide_false, show ¬ 65536 < p from h3, or_self]
  refine Ev.step (f := fun k => fixed_Split.l0 k n p (List.replicate p.toNat 0) ((List.replicate p.toNat (0 : Int)).length : Int) 0) (fun k => ?_) ?_
  · simp only [fixed_Split.j0]
    rw [if_neg (by decide), if_pos (by omega), if_pos (by omega)]
    rfl
  · have := split_loop n p (by omega) hn1 (by omega) (by omega) p.toNat 0 (by omega)
    simpa [show (p.toNat : Int) = p by omega, show max p 0 = p by omega] using this

/-! ### Are two rows alike? -/
theorem ints_loop (a b : List Int) (hl : a.length = b.length) (hm : a.length ≤ 9223372036854775806) (d : Nat) :
    ∀ i : Nat, i + d = a.length → Ev (fun k => parterreref01_Ints.l0 k a b i) (decide (a.drop i = b.drop i)) := by
  induction d with
  | zero =>
    intro i hi
    refine Ev.step (f := fun _ => some (decide (a.drop i = b.drop i))) (fun k => ?_) (Ev.now _)
    simp only [parterreref01_Ints.l0]
    rw [if_neg (by omega), List.drop_of_length_le (by omega), List.drop_of_length_le (by omega)]
    simp
  | succ d ih =>
    intro i hi
    have ha : a.drop i = a[i] :: a.drop (i + 1) := (List.drop_eq_getElem_cons (by omega))
    have hb : b.drop i = b[i] :: b.drop (i + 1) := (List.drop_eq_getElem_cons (by omega))
    have ra : rd a (i : Int) = a[i] := by simp [rd, List.getD_eq_getElem?_getD, List.getElem?_eq_getElem (show i < a.length by omega)]
    have rb : rd b (i : Int) = b[i] := by simp [rd, List.getD_eq_getElem?_getD, List.getElem?_eq_getElem (show i < b.length by omega)]
    have ec : ((i : Int) + 1) = ((i + 1 : Nat) : Int) := by simp
    by_cases he : a[i] = b[i]
    · refine Ev.step (f := fun k => parterreref01_Ints.l0 k a b ((i + 1 : Nat) : Int)) (fun k => ?_) ?_
      · simp only [parterreref01_Ints.l0]
        rw [if_pos (by omega), if_pos (by omega), if_pos (by omega), ra, rb, if_pos he, wrap_in _ (by omega) (by omega), ec]
      · have e : (a.drop i = b.drop i) = (a.drop (i + 1) = b.drop (i + 1)) := by rw [ha, hb, he]; exact propext ⟨fun h => (List.cons.inj h).2, fun h => by rw [h]⟩
        have := ih (i + 1) (by omega)
        simp only [e]
        exact this
    · refine Ev.step (f := fun _ => some (decide (a.drop i = b.drop i))) (fun k => ?_) (Ev.now _)
      simp only [parterreref01_Ints.l0]
      rw [if_pos (by omega), if_pos (by omega), if_pos (by omega), ra, rb, if_neg he]
      congr 1
      symm
      rw [decide_eq_false_iff_not, ha, hb]
      exact fun h => he (List.cons.inj h).1
theorem ints_ev (a b : List Int) (hm : a.length ≤ 9223372036854775806) : Ev (fun k => parterreref01_Ints.f k a b) (decide (a = b)) := by
  unfold parterreref01_Ints.f
  by_cases hl : a.length = b.length
  · simp only [hl, if_true]
    simpa using ints_loop a b hl hm a.length 0 (by omega)
  · have hl' : ¬ (a.length : Int) = (b.length : Int) := by omega
    have : ¬ a = b := fun h => hl (by rw [h])
    simp only [hl', if_false, this, decide_false]
    exact Ev.now _

/-! ### The chapter's example -/
theorem lives_ev : Ev (fun k => parterrelaw01_lives.f k) true := by
  unfold parterrelaw01_lives.f
  have h1 : fixed_Div.f (-7) 2 = some (-4) := by decide +kernel
  have h2 : fixed_Mod.f (-7) 2 = some 1 := by decide +kernel
  simp only [h1, h2, Option.bind_some, if_true]
  refine Ev.bind (split_ev 10 3 (by decide)) ?_
  refine Ev.bind (ints_ev _ _ (by decide)) ?_
  have h3 : decide (splitS 10 3 = [4, 3, 3]) = true := by decide +kernel
  simp only [h3, if_true]
  refine Ev.bind (share_ev 10 [1, 1, 1]) ?_
  refine Ev.bind (ints_ev _ _ (by decide +kernel)) ?_
  have : decide (shareS 10 [1, 1, 1] = [3, 3, 4]) = true := by decide +kernel
  rw [this]
  exact Ev.now _
end Go.Proofs.Ytcmnfhenbeigdaa.Fix
