/- What the printed MulDiv of the package fixed computes, in plain words. No condition beyond those that each lemma states. -/
import Derived.Test.YtbkohlhonhmhmaaPAx8
import Derived.Test.YtbkohlhonhmhmaaDiv
import Derived.Test.YtbkohlhonhmhmaaEv
namespace Go.Proofs.Ytbkohlhonhmhmaa.Fix
open Go.RowKit Go.Proofs.Ytbkohlhonhmhmaa.PA Go.Proofs.YtbkohlhonhmhmaaW.PrintWords Go.Proofs.Ytbkohlhonhmhmaa.Evs Go.Proofs.Ytbkohlhonhmhmaa.Div
set_option linter.unusedVariables false
set_option linter.unusedSimpArgs false

/-- How great a number is. -/
def ab (x : Int) : Int := if x < 0 then -x else x
/-- A quotient by its size, what is left and its sign. -/
def mdN (neg : Bool) (Q R : Int) : Int × Int :=
  if neg = true then (if 0 < R then (if 9223372036854775808 ≤ Q then (0, 10) else (-(Q + 1), 0)) else (if Q ≤ 9223372036854775808 then (-Q, 0) else (0, 10)))
  else (if 9223372036854775808 ≤ Q then (0, 10) else (Q, 0))
def ng (a b c : Int) : Bool := ((decide (a < 0)) != (decide (b < 0))) != (decide (c < 0))
def md (a b c : Int) : Int × Int := if c = 0 then (0, 2) else mdN (ng a b c) (ab a * ab b / ab c) (ab a * ab b % ab c)

theorem ab_in {a : Int} (h : (Lit.int .i64 a).wf = true) : 0 ≤ ab a ∧ ab a ≤ 9223372036854775808 := by
  have := wf_in h
  unfold ab
  split <;> omega
theorem fsize_eq {a : Int} (h : (Lit.int .i64 a).wf = true) : fixed_size.f a = some (ab a) := by
  have := wf_in h
  unfold fixed_size.f ab
  by_cases h0 : a < 0
  · simp only [h0, if_true]
    congr 1
    rw [IntKind.wrap_u64, IntKind.wrap_u64]
    omega
  · simp only [h0, if_false]
    congr 1
    exact u64_in _ (by omega) (by omega)
theorem neg_wrap (Q : Int) (h0 : 0 ≤ Q) (h1 : Q ≤ 9223372036854775808) : wrap64 (IntKind.u64.wrap (-Q)) = -Q := by
  rw [IntKind.wrap_u64]
  unfold wrap64
  omega
theorem neg_wrap1 (Q : Int) (h0 : 0 ≤ Q) (h1 : Q < 9223372036854775808) : wrap64 (IntKind.u64.wrap (-(IntKind.u64.wrap (Q + 1)))) = -(Q + 1) := by
  rw [u64_in (Q + 1) (by omega) (by omega)]
  exact neg_wrap (Q + 1) (by omega) (by omega)
theorem pr_in {a b : Int} (ha : 0 ≤ a) (ha1 : a ≤ 9223372036854775808) (hb : 0 ≤ b) (hb1 : b ≤ 9223372036854775808) : 0 ≤ a * b ∧ a * b ≤ 85070591730234615865843651857942052864 :=
  ⟨Int.mul_nonneg ha hb, Int.mul_le_mul ha1 hb1 hb (by decide)⟩
theorem mdN_great (neg : Bool) (Q R : Int) (h : 18446744073709551616 ≤ Q) : mdN neg Q R = (0, 10) := by
  unfold mdN
  cases neg <;> simp <;> (repeat' split) <;> first | rfl | omega

theorem muldiv_ev {a b c : Int} (ha : (Lit.int .i64 a).wf = true) (hb : (Lit.int .i64 b).wf = true) (hc : (Lit.int .i64 c).wf = true) : Ev (fun k => fixed_MulDiv.f k a b c) (md a b c) := by
  unfold fixed_MulDiv.f md
  by_cases hc0 : c = 0
  · simp only [hc0, if_true]; exact Ev.now _
  obtain ⟨a0, a1⟩ := ab_in ha
  obtain ⟨b0, b1⟩ := ab_in hb
  obtain ⟨c0, c1⟩ := ab_in hc
  have c2 : 0 < ab c := by unfold ab at *; split <;> omega
  obtain ⟨p0, p1⟩ := pr_in a0 a1 b0 b1
  have hmul : bits_Mul64.f (ab a) (ab b) = some (ab a * ab b / 18446744073709551616, ab a * ab b % 18446744073709551616) := by
    unfold bits_Mul64.f
    rw [if_pos ⟨a0, by omega, b0, by omega⟩]
  simp only [hc0, if_false, fsize_eq ha, fsize_eq hb, fsize_eq hc, hmul, Option.bind_some]
  generalize hP : ab a * ab b = P at *
  generalize hC : ab c = C at *
  by_cases hg : P / 18446744073709551616 ≥ C
  · simp only [hg, if_true]
    rw [mdN_great _ _ _ ?_]
    · exact Ev.now _
    · rw [Int.le_ediv_iff_mul_le c2]
      omega
  simp only [hg, if_false]
  have hd := div64_ev (P / 18446744073709551616) (P % 18446744073709551616) C (by omega) (by omega) (by omega) (by omega) (by omega)
  have e : P / 18446744073709551616 * 18446744073709551616 + P % 18446744073709551616 = P := by omega
  rw [e] at hd
  refine Ev.bind hd ?_
  have hQ0 : 0 ≤ P / C := Int.ediv_nonneg p0 c0
  have hR0 : 0 ≤ P % C := Int.emod_nonneg P (by omega)
  generalize P / C = Q at *
  generalize P % C = R at *
  have hn : ng a b c = (((decide (a < 0)) != (decide (b < 0))) != (decide (c < 0))) := rfl
  have w0 : Q < 9223372036854775808 → wrap64 Q = Q := fun h => wrap_in Q (by omega) (by omega)
  have w1 : Q < 9223372036854775808 → wrap64 (IntKind.u64.wrap (-(IntKind.u64.wrap (Q + 1)))) = -(Q + 1) := fun h => neg_wrap1 Q hQ0 h
  have w2 : Q ≤ 9223372036854775808 → wrap64 (IntKind.u64.wrap (-Q)) = -Q := fun h => neg_wrap Q hQ0 h
  have hpos : ng a b c = false → Ev (fun _ => if Q ≥ 9223372036854775808 then some ((0, 10) : Int × Int) else some (wrap64 Q, 0)) (mdN (ng a b c) Q R) := by
    intro h
    rw [h]
    unfold mdN
    by_cases h1 : 9223372036854775808 ≤ Q
    · simp [h1]; exact Ev.now _
    · simp [h1, w0 (by omega)]; exact Ev.now _
  have hneg : ng a b c = true → Ev (fun _ => if R > 0 then (if Q ≥ 9223372036854775808 then some ((0, 10) : Int × Int) else some (wrap64 (IntKind.u64.wrap (-(IntKind.u64.wrap (Q + 1)))), 0)) else (if Q ≤ 9223372036854775808 then some (wrap64 (IntKind.u64.wrap (-Q)), 0) else (if Q ≥ 9223372036854775808 then some (0, 10) else some (wrap64 Q, 0)))) (mdN (ng a b c) Q R) := by
    intro h
    rw [h]
    unfold mdN
    by_cases h1 : R > 0
    · by_cases h2 : Q ≥ 9223372036854775808
      · simp [h1, h2]; exact Ev.now _
      · simp [h1, h2, w1 (by omega)]; exact Ev.now _
    · by_cases h2 : Q ≤ 9223372036854775808
      · simp [h1, h2, w2 h2]; exact Ev.now _
      · simp [h1, h2, show Q ≥ 9223372036854775808 by omega]; exact Ev.now _
  by_cases s : ((decide (a < 0)) != (decide (b < 0))) = true
  · rw [if_pos s]
    by_cases s2 : c < 0
    · simp only [s2, if_true]; exact hpos (by rw [hn, s]; simp [s2])
    · simp only [s2, if_false]; exact hneg (by rw [hn, s]; simp [s2])
  · rw [if_neg s]
    have s' : ((decide (a < 0)) != (decide (b < 0))) = false := by simpa using s
    by_cases s2 : c < 0
    · simp only [s2, if_true]; exact hneg (by rw [hn, s']; simp [s2])
    · simp only [s2, if_false]; exact hpos (by rw [hn, s']; simp [s2])

/-- Of numbers that are not below 0 the quotient is the whole quotient. -/
theorem md_pos {a b c : Int} (ha : 0 ≤ a) (hb : 0 ≤ b) (hc : 0 < c) (hq : a * b / c < 9223372036854775808) : md a b c = (a * b / c, 0) := by
  unfold md mdN ng ab
  simp [show ¬ c = 0 by omega, show ¬ a < 0 by omega, show ¬ b < 0 by omega, show ¬ c < 0 by omega]
  omega

theorem lit_wf (n : Int) (h0 : -9223372036854775808 ≤ n) (h1 : n ≤ 9223372036854775807) : (Lit.int .i64 n).wf = true := by
  simp [Lit.wf, IntKind.min, IntKind.max, IntKind.bits, IntKind.signed]
  omega
end Go.Proofs.Ytbkohlhonhmhmaa.Fix
