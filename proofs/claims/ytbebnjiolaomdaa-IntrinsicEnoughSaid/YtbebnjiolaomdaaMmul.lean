/- Whole numbers of 64 and 128 bits: quotients digit by digit and bit by bit, products by halves; a quotient by its size, what is left and its sign. Plain lemmas. No condition beyond what each states. -/
import Derived.Test.YtbebnjiolaomdaaSx6
import Derived.Laws.BitsLemmas
import Derived.Laws.Bits64
set_option linter.unusedVariables false
set_option linter.unusedSimpArgs false
namespace Go.Proofs.Ytbebnjiolaomdaa.M
open Go Go.Proofs.Ytbebnjiolaomdaa.Sx
theorem u64_in (n : Int) (h0 : 0 ≤ n) (h1 : n < 18446744073709551616) : IntKind.u64.wrap n = n := by rw [IntKind.wrap_u64]; exact Int.emod_eq_of_lt h0 h1
theorem u64_same (n m : Int) (h : n % 18446744073709551616 = m % 18446744073709551616) (h0 : 0 ≤ m) (h1 : m < 18446744073709551616) : IntKind.u64.wrap n = m := by rw [IntKind.wrap_u64, h]; exact Int.emod_eq_of_lt h0 h1
theorem digit_eq (u d yn1 yn0 q r : Int) (hu : u = q * yn1 + r) : u * 4294967296 + d - q * (yn1 * 4294967296 + yn0) = r * 4294967296 + d - q * yn0 := by
 subst hu
 grind
theorem digit_small {u d yn1 yn0 q r Y : Int} (hY : Y = yn1 * 4294967296 + yn0) (hu : u = q * yn1 + r) (hY0 : 0 < Y) (h : q * yn0 ≤ r * 4294967296 + d) : q ≤ (u * 4294967296 + d) / Y := by
 rw [Int.le_ediv_iff_mul_le hY0]
 have := digit_eq u d yn1 yn0 q r hu
 rw [← hY] at this
 omega
theorem digit_great {u d yn1 yn0 q r Y : Int} (hY : Y = yn1 * 4294967296 + yn0) (hu : u = q * yn1 + r) (hY0 : 0 < Y) (h : r * 4294967296 + d < q * yn0) : (u * 4294967296 + d) / Y < q := by
 rw [Int.ediv_lt_iff_lt_mul hY0]
 have := digit_eq u d yn1 yn0 q r hu
 rw [← hY] at this
 omega
theorem digit_lt {u d Y : Int} (hY0 : 0 < Y) (hu : u < Y) (hd : d < 4294967296) : (u * 4294967296 + d) / Y < 4294967296 := by
 rw [Int.ediv_lt_iff_lt_mul hY0]
 have : (u + 1) * 4294967296 ≤ Y * 4294967296 := Int.mul_le_mul_of_nonneg_right (by omega) (by omega)
 rw [Int.mul_comm 4294967296 Y]
 omega
theorem mul_lt' {a b A B : Int} (h0 : 0 ≤ a) (h1 : a ≤ A) (h2 : 0 ≤ b) (h3 : b ≤ B) : a * b ≤ A * B := Int.mul_le_mul h1 h3 h2 (by omega)
theorem two_digits (Y U A b q1 u2 q0 : Int) (hY0 : 0 < Y) (e1 : q1 = (U * 4294967296 + A) / Y) (e2 : u2 = U * 4294967296 + A - q1 * Y) (e3 : q0 = (u2 * 4294967296 + b) / Y) :
    q1 * 4294967296 + q0 = (U * 18446744073709551616 + (A * 4294967296 + b)) / Y ∧ u2 * 4294967296 + b - q0 * Y = (U * 18446744073709551616 + (A * 4294967296 + b)) % Y := by
 have h1 := Int.emod_nonneg (u2 * 4294967296 + b) (b := Y) (by omega)
 have h2 := Int.emod_lt_of_pos (u2 * 4294967296 + b) hY0
 have h3 := Int.mul_ediv_add_emod (u2 * 4294967296 + b) Y
 rw [← e3] at h3
 have e : U * 18446744073709551616 + (A * 4294967296 + b) = (u2 * 4294967296 + b) % Y + Y * (q1 * 4294967296 + q0) := by
  rw [Int.mul_comm Y, Int.add_mul]
  have : q1 * 4294967296 * Y = (U * 4294967296 + A - u2) * 4294967296 := by rw [e2]; grind
  rw [Int.mul_comm Y q0] at h3
  omega
 constructor
 · rw [e, Int.add_mul_ediv_left _ _ (by omega), Int.ediv_eq_zero_of_lt h1 h2]
   omega
 · rw [e, Int.add_mul_emod_self_left, Int.emod_eq_of_lt h1 h2]
   rw [Int.mul_comm Y q0] at h3
   omega
theorem digit_start (U A Y yn1 yn0 : Int) (hY : Y = yn1 * 4294967296 + yn0) (h1 : 2147483648 ≤ yn1) (h2 : yn1 < 4294967296) (h3 : 0 ≤ yn0) (h4 : yn0 < 4294967296) (hu0 : 0 ≤ U) (hu : U < Y) (hA0 : 0 ≤ A) (hA : A < 4294967296) :
    0 ≤ U / yn1 ∧ U / yn1 ≤ 4294967297 ∧ 0 ≤ U - U / yn1 * yn1 ∧ U - U / yn1 * yn1 < yn1 ∧ (U * 4294967296 + A) / Y ≤ U / yn1 := by
 have hp : 0 < yn1 := by omega
 have hm := Int.mul_ediv_add_emod U yn1
 have hm0 := Int.emod_nonneg U (b := yn1) (by omega)
 have hm1 := Int.emod_lt_of_pos U hp
 rw [Int.mul_comm] at hm
 refine ⟨Int.ediv_nonneg hu0 (by omega), ?_, by omega, by omega, ?_⟩
 · have : U / yn1 < 4294967298 := by
    rw [Int.ediv_lt_iff_lt_mul hp]
    omega
   omega
 · have : (U * 4294967296 + A) / Y < U / yn1 + 1 := by
    rw [Int.ediv_lt_iff_lt_mul (by omega)]
    have e : (U / yn1 + 1) * Y = (U / yn1 * yn1 + yn1) * 4294967296 + (U / yn1 + 1) * yn0 := by rw [hY]; grind
    have h5 : 0 ≤ (U / yn1 + 1) * yn0 := Int.mul_nonneg (by have := Int.ediv_nonneg hu0 (by omega : 0 ≤ yn1); omega) h3
    rw [e]
    omega
   omega
def ab (x : Int) : Int := if x < 0 then -x else x
def mdN (neg : Bool) (Q R : Int) : Int × Int :=
 if neg = true then (if 0 < R then (if 9223372036854775808 ≤ Q then (0, 10) else (-(Q + 1), 0)) else (if Q ≤ 9223372036854775808 then (-Q, 0) else (0, 10)))
 else (if 9223372036854775808 ≤ Q then (0, 10) else (Q, 0))
def ng (a b c : Int) : Bool := ((decide (a < 0)) != (decide (b < 0))) != (decide (c < 0))
def md (a b c : Int) : Int × Int := if c = 0 then (0, 2) else mdN (ng a b c) (ab a * ab b / ab c) (ab a * ab b % ab c)
theorem ab_in {a : Int} (h : -9223372036854775808 ≤ a ∧ a ≤ 9223372036854775807) : 0 ≤ ab a ∧ ab a ≤ 9223372036854775808 := by
 unfold ab
 split <;> omega
theorem pr_in {a b : Int} (ha : 0 ≤ a) (ha1 : a ≤ 9223372036854775808) (hb : 0 ≤ b) (hb1 : b ≤ 9223372036854775808) : 0 ≤ a * b ∧ a * b ≤ 85070591730234615865843651857942052864 :=
 ⟨Int.mul_nonneg ha hb, Int.mul_le_mul ha1 hb1 hb (by decide)⟩
theorem mdN_great (neg : Bool) (Q R : Int) (h : 18446744073709551616 ≤ Q) : mdN neg Q R = (0, 10) := by
 unfold mdN
 cases neg <;> simp <;> (repeat' split) <;> first | rfl | omega
theorem md_pos {a b c : Int} (ha : 0 ≤ a) (hb : 0 ≤ b) (hc : 0 < c) (hq : a * b / c < 9223372036854775808) : md a b c = (a * b / c, 0) := by
 unfold md mdN ng ab
 simp [show ¬ c = 0 by omega, show ¬ a < 0 by omega, show ¬ b < 0 by omega, show ¬ c < 0 by omega]
 omega
theorem mul_halves (a b : Int) (ha : 0 ≤ a) (ha1 : a < 18446744073709551616) (hb : 0 ≤ b) (hb1 : b < 18446744073709551616) :
    let p00 := a % 4294967296 * (b % 4294967296); let p10 := a / 4294967296 * (b % 4294967296); let p01 := a % 4294967296 * (b / 4294967296); let p11 := a / 4294967296 * (b / 4294967296)
    0 ≤ p00 ∧ p00 ≤ 18446744065119617025 ∧ 0 ≤ p10 ∧ p10 ≤ 18446744065119617025 ∧ 0 ≤ p01 ∧ p01 ≤ 18446744065119617025 ∧ 0 ≤ p11 ∧ p11 ≤ 18446744065119617025 ∧ a * b = p11 * 18446744073709551616 + (p10 + p01) * 4294967296 + p00 := by
 intro p00 p10 p01 p11
 have h : ∀ x y : Int, 0 ≤ x → x ≤ 4294967295 → 0 ≤ y → y ≤ 4294967295 → 0 ≤ x * y ∧ x * y ≤ 18446744065119617025 := fun x y h1 h2 h3 h4 => ⟨Int.mul_nonneg h1 h3, Int.mul_le_mul h2 h4 h3 (by decide)⟩
 have h00 := h (a % 4294967296) (b % 4294967296) (by omega) (by omega) (by omega) (by omega)
 have h10 := h (a / 4294967296) (b % 4294967296) (by omega) (by omega) (by omega) (by omega)
 have h01 := h (a % 4294967296) (b / 4294967296) (by omega) (by omega) (by omega) (by omega)
 have h11 := h (a / 4294967296) (b / 4294967296) (by omega) (by omega) (by omega) (by omega)
 refine ⟨h00.1, h00.2, h10.1, h10.2, h01.1, h01.2, h11.1, h11.2, ?_⟩
 have e1 : a = a / 4294967296 * 4294967296 + a % 4294967296 := by omega
 have e2 : b = b / 4294967296 * 4294967296 + b % 4294967296 := by omega
 show a * b = a / 4294967296 * (b / 4294967296) * 18446744073709551616 + (a / 4294967296 * (b % 4294967296) + a % 4294967296 * (b / 4294967296)) * 4294967296 + a % 4294967296 * (b % 4294967296)
 generalize a / 4294967296 = x at *
 generalize a % 4294967296 = y at *
 generalize b / 4294967296 = z at *
 generalize b % 4294967296 = w at *
 subst e1 e2
 grind
end Go.Proofs.Ytbebnjiolaomdaa.M
