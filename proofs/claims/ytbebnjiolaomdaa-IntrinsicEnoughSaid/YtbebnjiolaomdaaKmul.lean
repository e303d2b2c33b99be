/- What the trees of the library's product and quotient of 64 bits, and of fixed's MulDiv, come to. No condition beyond what each states. -/
import Derived.Test.YtbebnjiolaomdaaT
import Derived.Test.YtbebnjiolaomdaaKw
import Derived.Test.YtbebnjiolaomdaaMmul
set_option linter.unusedVariables false
set_option linter.unusedSimpArgs false
set_option maxRecDepth 20000
namespace Go.Proofs.Ytbebnjiolaomdaa.T
open Go Go.Proofs.Ytbebnjiolaomdaa.Sx Go.Proofs.Ytbebnjiolaomdaa.M
abbrev U6 (x : Int) : PV := .int .u64 x
theorem shr_at (x : Int) (s : Nat) (h : s ≤ 64) : arith .shr .u64 x (s : Int) = x / 2 ^ s := by
 show x.fdiv (2 ^ (min (s : Int).toNat 64)) = _
 rw [Int.toNat_natCast, Nat.min_eq_left h, Int.fdiv_eq_ediv_of_nonneg _ (Int.le_of_lt (Int.pow_pos (by decide)))]
theorem shr32 (x : Int) : arith .shr .u64 x 32 = x / 4294967296 := shr_at x 32 (by decide)
theorem shr16 (x : Int) : arith .shr .u64 x 16 = x / 65536 := shr_at x 16 (by decide)
theorem shr8 (x : Int) : arith .shr .u64 x 8 = x / 256 := shr_at x 8 (by decide)
theorem shl_at (x : Int) (s : Nat) (h : s ≤ 64) : arith .shl .u64 x (s : Int) = IntKind.u64.wrap (x * 2 ^ s) := by
 show IntKind.u64.wrap (x * 2 ^ (min (s : Int).toNat 64)) = _
 rw [Int.toNat_natCast, Nat.min_eq_left h]
theorem and32 (x : Int) (h0 : 0 ≤ x) (h1 : x < 18446744073709551616) : arith .and .u64 x 4294967295 = x % 4294967296 :=
 bits_mask .u64 64 (by decide) (fun n a b => u64_in n a b) 32 (by decide) x h0 h1
theorem or_join (s : Nat) (x y : Int) (hx0 : 0 ≤ x) (hx : x % 2 ^ s = 0) (hx1 : x < 18446744073709551616) (hy0 : 0 ≤ y) (hy : y < 2 ^ s) (hy1 : y < 18446744073709551616) : arith .or .u64 x y = x + y :=
 bits_join .u64 64 (by decide) (fun n a b => u64_in n a b) s x y hx0 hx hx1 hy0 hy hy1
theorem fsize_sp (a : Int) (h : -9223372036854775808 ≤ a ∧ a ≤ 9223372036854775807) : Says tr c_fixed_size [I a] [U6 (ab a)] := by
 refine Says.of (t := fixed_size) rfl ?_
 rw [u_fixed_size]
 simp (disch := first | omega | (simp only [ln0]; omega)) only [rs, reduceIte, Nat.reduceAdd, IntKind.wrap_u64]
 refine br_split ?_ ?_ <;> intro _
 · rename_i h0
   have : (0 - a % 18446744073709551616) % 18446744073709551616 = ab a := by unfold ab; rw [if_pos h0]; omega
   rw [this]
 · rename_i h0
   have : a % 18446744073709551616 = ab a := by unfold ab; rw [if_neg h0]; omega
   rw [this]
theorem mul64_sp (a b : Int) (ha : 0 ≤ a) (ha1 : a < 18446744073709551616) (hb : 0 ≤ b) (hb1 : b < 18446744073709551616) : Says tr c_math_bits_Mul64 [U6 a, U6 b] [U6 (a * b / 18446744073709551616), U6 (a * b % 18446744073709551616)] := by
 refine Says.of (t := math_bits_Mul64) rfl ?_
 rw [u_math_bits_Mul64]
 simp (disch := first | omega | (simp only [ln0]; omega)) only [rs, reduceIte, Nat.reduceAdd, shr32, and32, IntKind.wrap_u64]
 obtain ⟨h1, h2, h3, h4, h5, h6, h7, h8, h9⟩ := mul_halves a b ha ha1 hb hb1
 generalize a % 4294967296 * (b % 4294967296) = p00 at *
 generalize a / 4294967296 * (b % 4294967296) = p10 at *
 generalize a % 4294967296 * (b / 4294967296) = p01 at *
 generalize a / 4294967296 * (b / 4294967296) = p11 at *
 generalize a * b = P at *
 congr 2
 omega
theorem len8 : ∀ y : Fin 256, y.val ≠ 0 → ∃ t : Nat, ((⟨#[0, 1, 2, 2, 3, 3, 3, 3, 4, 4, 4, 4, 4, 4, 4, 4, 5, 5, 5, 5, 5, 5, 5, 5, 5, 5, 5, 5, 5, 5, 5, 5, 6, 6, 6, 6, 6, 6, 6, 6, 6, 6, 6, 6, 6, 6, 6, 6, 6, 6, 6, 6, 6, 6, 6, 6, 6, 6, 6, 6, 6, 6, 6, 6, 7, 7, 7, 7, 7, 7, 7, 7, 7, 7, 7, 7, 7, 7, 7, 7, 7, 7, 7, 7, 7, 7, 7, 7, 7, 7, 7, 7, 7, 7, 7, 7, 7, 7, 7, 7, 7, 7, 7, 7, 7, 7, 7, 7, 7, 7, 7, 7, 7, 7, 7, 7, 7, 7, 7, 7, 7, 7, 7, 7, 7, 7, 7, 7, 8, 8, 8, 8, 8, 8, 8, 8, 8, 8, 8, 8, 8, 8, 8, 8, 8, 8, 8, 8, 8, 8, 8, 8, 8, 8, 8, 8, 8, 8, 8, 8, 8, 8, 8, 8, 8, 8, 8, 8, 8, 8, 8, 8, 8, 8, 8, 8, 8, 8, 8, 8, 8, 8, 8, 8, 8, 8, 8, 8, 8, 8, 8, 8, 8, 8, 8, 8, 8, 8, 8, 8, 8, 8, 8, 8, 8, 8, 8, 8, 8, 8, 8, 8, 8, 8, 8, 8, 8, 8, 8, 8, 8, 8, 8, 8, 8, 8, 8, 8, 8, 8, 8, 8, 8, 8, 8, 8, 8, 8, 8, 8, 8, 8, 8, 8, 8, 8, 8, 8, 8, 8, 8, 8, 8, 8, 8, 8]⟩ : ByteArray)[y.val]?).map (fun b => (b.toNat : Int)) = some (t : Int) ∧ 1 ≤ t ∧ t ≤ 8 ∧ 2 ^ (t - 1) ≤ y.val ∧ y.val < 2 ^ t := by
 intro y h
 refine ⟨Nat.log2 y.val + 1, ?_⟩
 revert y
 decide +kernel
theorem on_byte (p q : PV) : BO.byte.on p q = .int .u8 (((p.s[q.i.toNat]?).map (fun b => (b.toNat : Int))).getD 0) := Eq.trans rfl rfl
theorem s_str (s : ByteArray) : (PV.str s).s = s := Eq.trans rfl rfl
theorem u8_in (n : Int) (h0 : 0 ≤ n) (h1 : n < 256) : IntKind.u8.wrap n = n := by
 unfold IntKind.wrap
 simp [IntKind.signed, IntKind.bits]
 omega
theorem len_j2 (a b c d e : PV) (n : Nat) (hn : n ≤ 64) (y : Int) (h0 : 0 < y) (h1 : y < 256) : ∃ t : Nat, Run tr math_bits_Len64_j2 [a, b, c, d, e, I n, U6 y] [] [I ((n + t : Nat) : Int)] ∧ 1 ≤ t ∧ t ≤ 8 ∧ (2 : Int) ^ (t - 1) ≤ y ∧ y < 2 ^ t := by
 obtain ⟨m, rfl⟩ := Int.eq_ofNat_of_zero_le (show 0 ≤ y by omega)
 obtain ⟨t, h2, h3, h4, h5, h6⟩ := len8 ⟨m, by omega⟩ (by simp; omega)
 refine ⟨t, ?_, h3, h4, by exact_mod_cast h5, by exact_mod_cast h6⟩
 rw [u_math_bits_Len64_j2]
 have e1 : IntKind.u8.wrap (m : Int) = m := u8_in _ (by omega) (by omega)
 have h7 : (0 : Int) ≤ m := by omega
 simp (disch := first | omega | (simp only [ln0]; omega)) only [rs, reduceIte, Nat.reduceAdd, e1, h1, on_byte, s_str, Int.toNat_natCast]
 rw [h2]
 simp (disch := first | omega | (simp only [ln0]; omega)) only [rs, reduceIte, Nat.reduceAdd, Option.getD_some, Int.natCast_add]
theorem len_fin {x y : Int} {n t : Nat} (hx : 0 ≤ x) (hy : y = x / 2 ^ n) (ht : 1 ≤ t) (h1 : (2 : Int) ^ (t - 1) ≤ y) (h2 : y < 2 ^ t) : (2 : Int) ^ (n + t - 1) ≤ x ∧ x < 2 ^ (n + t) := by
 have hp : (0 : Int) < 2 ^ n := Int.pow_pos (by decide)
 have e : n + t - 1 = t - 1 + n := by omega
 subst hy
 constructor
 · rw [e, Int.pow_add]
   exact (Int.le_ediv_iff_mul_le hp).1 h1
 · rw [Int.add_comm n t |> fun _ => Nat.add_comm n t, Int.pow_add]
   exact (Int.ediv_lt_iff_lt_mul hp).1 h2
theorem len64_sp (x : Int) (h0 : 0 < x) (h1 : x < 18446744073709551616) : ∃ L : Nat, Says tr c_math_bits_Len64 [U6 x] [I L] ∧ 1 ≤ L ∧ L ≤ 64 ∧ (2 : Int) ^ (L - 1) ≤ x ∧ x < 2 ^ L := by
 obtain ⟨n1, y1, a1, a2, a3, a4⟩ : ∃ (n : Nat) (y : Int), n ≤ 32 ∧ y = x / 2 ^ n ∧ (0 < y ∧ y < 4294967296) ∧ ∀ r, Run tr math_bits_Len64_j0 [U6 x, I n, U6 y] [] r → Run tr math_bits_Len64 [U6 x] [] r := by
  by_cases h : x ≥ 4294967296
  · refine ⟨32, x / 4294967296, by omega, rfl, by omega, fun r hr => ?_⟩
    rw [u_math_bits_Len64]
    simp (disch := first | omega | (simp only [ln0]; omega)) only [rs, reduceIte, Nat.reduceAdd, h, shr32]
    exact hr
  · refine ⟨0, x, by omega, by simp, by omega, fun r hr => ?_⟩
    rw [u_math_bits_Len64]
    simp (disch := first | omega | (simp only [ln0]; omega)) only [rs, reduceIte, Nat.reduceAdd, h]
    exact hr
 obtain ⟨n2, y2, b1, b2, b3, b4⟩ : ∃ (n : Nat) (y : Int), n ≤ 48 ∧ y = x / 2 ^ n ∧ (0 < y ∧ y < 65536) ∧ ∀ r, Run tr math_bits_Len64_j1 [U6 x, I n1, U6 y1, I n, U6 y] [] r → Run tr math_bits_Len64_j0 [U6 x, I n1, U6 y1] [] r := by
  by_cases h : y1 ≥ 65536
  · refine ⟨n1 + 16, y1 / 65536, by omega, ?_, by omega, fun r hr => ?_⟩
    · rw [a2, Int.ediv_ediv_of_nonneg (Int.le_of_lt (Int.pow_pos (by decide))), Int.pow_add]
      rfl
    · rw [u_math_bits_Len64_j0]
      simp (disch := first | omega | (simp only [ln0]; omega)) only [rs, reduceIte, Nat.reduceAdd, h, shr16]
      exact hr
  · refine ⟨n1, y1, by omega, a2, by omega, fun r hr => ?_⟩
    rw [u_math_bits_Len64_j0]
    simp (disch := first | omega | (simp only [ln0]; omega)) only [rs, reduceIte, Nat.reduceAdd, h]
    exact hr
 obtain ⟨n3, y3, c1, c2, c3, c4⟩ : ∃ (n : Nat) (y : Int), n ≤ 56 ∧ y = x / 2 ^ n ∧ (0 < y ∧ y < 256) ∧ ∀ r, Run tr math_bits_Len64_j2 [U6 x, I n1, U6 y1, I n2, U6 y2, I n, U6 y] [] r → Run tr math_bits_Len64_j1 [U6 x, I n1, U6 y1, I n2, U6 y2] [] r := by
  by_cases h : y2 ≥ 256
  · refine ⟨n2 + 8, y2 / 256, by omega, ?_, by omega, fun r hr => ?_⟩
    · rw [b2, Int.ediv_ediv_of_nonneg (Int.le_of_lt (Int.pow_pos (by decide))), Int.pow_add]
      rfl
    · rw [u_math_bits_Len64_j1]
      simp (disch := first | omega | (simp only [ln0]; omega)) only [rs, reduceIte, Nat.reduceAdd, h, shr8]
      exact hr
  · refine ⟨n2, y2, by omega, b2, by omega, fun r hr => ?_⟩
    rw [u_math_bits_Len64_j1]
    simp (disch := first | omega | (simp only [ln0]; omega)) only [rs, reduceIte, Nat.reduceAdd, h]
    exact hr
 obtain ⟨t, d1, d2, d3, d4, d5⟩ := len_j2 (U6 x) (I n1) (U6 y1) (I n2) (U6 y2) n3 (by omega) y3 c3.1 c3.2
 obtain ⟨e1, e2⟩ := len_fin (by omega) c2 d2 d4 d5
 exact ⟨n3 + t, Says.of (t := math_bits_Len64) rfl (a4 _ (b4 _ (c4 _ d1))), by omega, by omega, e1, e2⟩
theorem lead_sp (x : Int) (h0 : 0 < x) (h1 : x < 18446744073709551616) : ∃ L : Nat, Says tr c_math_bits_LeadingZeros64 [U6 x] [I (64 - L)] ∧ 1 ≤ L ∧ L ≤ 64 ∧ (2 : Int) ^ (L - 1) ≤ x ∧ x < 2 ^ L := by
 obtain ⟨L, h2, h3, h4, h5, h6⟩ := len64_sp x h0 h1
 refine ⟨L, ?_, h3, h4, h5, h6⟩
 refine Says.of (t := math_bits_LeadingZeros64) rfl ?_
 rw [u_math_bits_LeadingZeros64]
 simp (disch := first | omega | (simp only [ln0]; omega)) only [rs, reduceIte, Nat.reduceAdd, xcall_of h2]
section
variable (hi lo y s Y V : Int) (hs : IntKind.u64.wrap s = s) (hY : arith .shl .u64 y s = Y) (hV : arith .shl .u64 lo s = V) (hY1 : 9223372036854775808 ≤ Y) (hY2 : Y < 18446744073709551616) (hV0 : 0 ≤ V) (hV1 : V < 18446744073709551616)
include hs hY hV hY1 hY2 hV0 hV1
theorem div_l3 (U : Int) (hu0 : 0 ≤ U) (hu : U < Y) (R : List PV) (hc : Run tr math_bits_Div64_j0 [U6 hi, U6 lo, U6 y, I s, U6 ((U * 4294967296 + V / 4294967296) / Y)] [] R) (n : Nat) :
    ∀ q r : Int, U = q * (Y / 4294967296) + r → 0 ≤ r → r < 4294967296 → (U * 4294967296 + V / 4294967296) / Y ≤ q → q ≤ 4294967297 → q - (U * 4294967296 + V / 4294967296) / Y ≤ n →
     Run tr math_bits_Div64_l3 [U6 hi, U6 lo, U6 y, I s, U6 r, U6 q] [.join math_bits_Div64_j0 [U6 hi, U6 lo, U6 y, I s], .loop math_bits_Div64_l3 [U6 hi, U6 lo, U6 y, I s]] R := by
 obtain ⟨yn1, hyn1⟩ : ∃ z, Y / 4294967296 = z := ⟨_, rfl⟩
 obtain ⟨yn0, hyn0⟩ : ∃ z, Y % 4294967296 = z := ⟨_, rfl⟩
 obtain ⟨d, hd⟩ : ∃ z, V / 4294967296 = z := ⟨_, rfl⟩
 have hYe : Y = yn1 * 4294967296 + yn0 := by omega
 have h1 : 2147483648 ≤ yn1 := by omega
 have h2 : yn1 < 4294967296 := by omega
 have h3 : 0 ≤ yn0 := by omega
 have h4 : yn0 < 4294967296 := by omega
 have hd0 : 0 ≤ d := by omega
 have hd1 : d < 4294967296 := by omega
 have hY0 : 0 < Y := by omega
 rw [hyn1, hd]
 rw [hd] at hc
 have hq0 : 0 ≤ (U * 4294967296 + d) / Y := Int.ediv_nonneg (by omega) (by omega)
 have hqB := digit_lt hY0 hu hd1
 induction n with
 | zero =>
  intro q r e hr0 hr hq hqm hn
  have hqe : q = (U * 4294967296 + d) / Y := by omega
  have htest : q * yn0 ≤ r * 4294967296 + d := by
   by_cases h : q * yn0 ≤ r * 4294967296 + d
   · exact h
   · have := digit_great hYe e hY0 (by omega : r * 4294967296 + d < q * yn0); omega
  have hm0 : 0 ≤ q * yn0 := Int.mul_nonneg (by omega) h3
  have hm1 := mul_lt' (a := q) (b := yn0) (A := 4294967296) (B := 4294967296) (by omega) (by omega) h3 (by omega)
  have hcond : ¬ (4294967296 ≤ q ∨ 4294967296 * r + d < q * yn0) := by omega
  rw [← hqe] at hc
  rw [u_math_bits_Div64_l3]
  simp (disch := first | omega | (simp only [ln0]; omega)) only [rs, reduceIte, Nat.reduceAdd, hs, hY, hV, shr32, and32, hyn0, hyn1, hd, u64_in, bx, reduceCtorEq, forall_const, ne_eq, hcond]
  exact hc
 | succ n ih =>
  intro q r e hr0 hr hq hqm hn
  have hm0 : 0 ≤ q * yn0 := Int.mul_nonneg (by omega) h3
  by_cases hgt : q ≤ (U * 4294967296 + d) / Y
  · exact ih q r e hr0 hr hq hqm (by omega)
  · have htest : ¬ (q < 4294967296 ∧ q * yn0 ≤ r * 4294967296 + d) := fun ⟨_, h⟩ => hgt (digit_small hYe e hY0 h)
    have e' : U = (q - 1) * yn1 + (r + yn1) := by rw [e]; grind
    rw [u_math_bits_Div64_l3]
    simp (disch := first | omega | (simp only [ln0]; omega)) only [rs, reduceIte, Nat.reduceAdd, hs, hY, hV, shr32, and32, hyn0, hyn1, hd, bx, reduceCtorEq, forall_const, ne_eq]
    rw [br_pos]
    · simp (disch := first | omega | (simp only [ln0]; omega)) only [rs, reduceIte, Nat.reduceAdd, u64_in]
      refine br_split ?_ ?_ <;> intro _
      · rename_i hb
        have hsm : (q - 1) * yn0 ≤ (r + yn1) * 4294967296 + d := by
         have := mul_lt' (a := q - 1) (b := yn0) (A := 4294967296) (B := 4294967295) (by omega) (by omega) h3 (by omega)
         omega
        have := digit_small hYe e' hY0 hsm
        have hqe : q - 1 = (U * 4294967296 + d) / Y := by omega
        rw [hqe]
        exact hc
      · rename_i hb
        exact ih (q - 1) (r + yn1) e' (by omega) (by omega) (by omega) (by omega) (by omega)
    · by_cases hqB' : 4294967296 ≤ q
      · exact Or.inl hqB'
      · right
        have hm1 := mul_lt' (a := q) (b := yn0) (A := 4294967295) (B := 4294967295) (by omega) (by omega) h3 (by omega)
        rw [u64_in (4294967296 * r) (by omega) (by omega), u64_in (4294967296 * r + d) (by omega) (by omega), u64_in (q * yn0) hm0 (by omega)]
        omega
theorem div_l2 (q1 U : Int) (hu0 : 0 ≤ U) (hu : U < Y) (R : List PV) (hc : Run tr math_bits_Div64_j1 [U6 hi, U6 lo, U6 y, I s, U6 q1, U6 ((U * 4294967296 + V % 4294967296) / Y)] [] R) (n : Nat) :
    ∀ q r : Int, U = q * (Y / 4294967296) + r → 0 ≤ r → r < 4294967296 → (U * 4294967296 + V % 4294967296) / Y ≤ q → q ≤ 4294967297 → q - (U * 4294967296 + V % 4294967296) / Y ≤ n →
     Run tr math_bits_Div64_l2 [U6 hi, U6 lo, U6 y, I s, U6 q1, U6 r, U6 q] [.join math_bits_Div64_j1 [U6 hi, U6 lo, U6 y, I s, U6 q1], .loop math_bits_Div64_l2 [U6 hi, U6 lo, U6 y, I s, U6 q1]] R := by
 obtain ⟨yn1, hyn1⟩ : ∃ z, Y / 4294967296 = z := ⟨_, rfl⟩
 obtain ⟨yn0, hyn0⟩ : ∃ z, Y % 4294967296 = z := ⟨_, rfl⟩
 obtain ⟨d, hd⟩ : ∃ z, V % 4294967296 = z := ⟨_, rfl⟩
 have hYe : Y = yn1 * 4294967296 + yn0 := by omega
 have h1 : 2147483648 ≤ yn1 := by omega
 have h2 : yn1 < 4294967296 := by omega
 have h3 : 0 ≤ yn0 := by omega
 have h4 : yn0 < 4294967296 := by omega
 have hd0 : 0 ≤ d := by omega
 have hd1 : d < 4294967296 := by omega
 have hY0 : 0 < Y := by omega
 rw [hyn1, hd]
 rw [hd] at hc
 have hq0 : 0 ≤ (U * 4294967296 + d) / Y := Int.ediv_nonneg (by omega) (by omega)
 have hqB := digit_lt hY0 hu hd1
 induction n with
 | zero =>
  intro q r e hr0 hr hq hqm hn
  have hqe : q = (U * 4294967296 + d) / Y := by omega
  have htest : q * yn0 ≤ r * 4294967296 + d := by
   by_cases h : q * yn0 ≤ r * 4294967296 + d
   · exact h
   · have := digit_great hYe e hY0 (by omega : r * 4294967296 + d < q * yn0); omega
  have hm0 : 0 ≤ q * yn0 := Int.mul_nonneg (by omega) h3
  have hm1 := mul_lt' (a := q) (b := yn0) (A := 4294967296) (B := 4294967296) (by omega) (by omega) h3 (by omega)
  have hcond : ¬ (4294967296 ≤ q ∨ 4294967296 * r + d < q * yn0) := by omega
  rw [← hqe] at hc
  rw [u_math_bits_Div64_l2]
  simp (disch := first | omega | (simp only [ln0]; omega)) only [rs, reduceIte, Nat.reduceAdd, hs, hY, hV, shr32, and32, hyn0, hyn1, hd, u64_in, bx, reduceCtorEq, forall_const, ne_eq, hcond]
  exact hc
 | succ n ih =>
  intro q r e hr0 hr hq hqm hn
  have hm0 : 0 ≤ q * yn0 := Int.mul_nonneg (by omega) h3
  by_cases hgt : q ≤ (U * 4294967296 + d) / Y
  · exact ih q r e hr0 hr hq hqm (by omega)
  · have htest : ¬ (q < 4294967296 ∧ q * yn0 ≤ r * 4294967296 + d) := fun ⟨_, h⟩ => hgt (digit_small hYe e hY0 h)
    have e' : U = (q - 1) * yn1 + (r + yn1) := by rw [e]; grind
    rw [u_math_bits_Div64_l2]
    simp (disch := first | omega | (simp only [ln0]; omega)) only [rs, reduceIte, Nat.reduceAdd, hs, hY, hV, shr32, and32, hyn0, hyn1, hd, bx, reduceCtorEq, forall_const, ne_eq]
    rw [br_pos]
    · simp (disch := first | omega | (simp only [ln0]; omega)) only [rs, reduceIte, Nat.reduceAdd, u64_in]
      refine br_split ?_ ?_ <;> intro _
      · rename_i hb
        have hsm : (q - 1) * yn0 ≤ (r + yn1) * 4294967296 + d := by
         have := mul_lt' (a := q - 1) (b := yn0) (A := 4294967296) (B := 4294967295) (by omega) (by omega) h3 (by omega)
         omega
        have := digit_small hYe e' hY0 hsm
        have hqe : q - 1 = (U * 4294967296 + d) / Y := by omega
        rw [hqe]
        exact hc
      · rename_i hb
        exact ih (q - 1) (r + yn1) e' (by omega) (by omega) (by omega) (by omega) (by omega)
    · by_cases hqB' : 4294967296 ≤ q
      · exact Or.inl hqB'
      · right
        have hm1 := mul_lt' (a := q) (b := yn0) (A := 4294967295) (B := 4294967295) (by omega) (by omega) h3 (by omega)
        rw [u64_in (4294967296 * r) (by omega) (by omega), u64_in (4294967296 * r + d) (by omega) (by omega), u64_in (q * yn0) hm0 (by omega)]
        omega
end
theorem div64_sp (hi lo y : Int) (h0 : 0 ≤ hi) (h1 : hi < y) (h2 : y < 18446744073709551616) (h3 : 0 ≤ lo) (h4 : lo < 18446744073709551616) :
    Says tr c_math_bits_Div64 [U6 hi, U6 lo, U6 y] [U6 ((hi * 18446744073709551616 + lo) / y), U6 ((hi * 18446744073709551616 + lo) % y)] := by
 refine Says.of (t := math_bits_Div64) rfl ?_
 rw [u_math_bits_Div64]
 by_cases hz : hi = 0
 · subst hz
   have e : (0 : Int) * 18446744073709551616 + lo = lo := by omega
   have hy0 : ¬ y = 0 := by omega
   have hy1 : ¬ y ≤ 0 := by omega
   rw [e]
   have e1 := Int.tdiv_eq_ediv_of_nonneg (b := y) h3
   have e2 := Int.tmod_eq_emod_of_nonneg (b := y) h3
   have e3 := u64_in (lo / y) (Int.ediv_nonneg h3 (by omega)) (Int.lt_of_le_of_lt (Int.ediv_le_self y h3) h4)
   simp (disch := first | omega | (simp only [ln0]; omega)) only [rs, reduceIte, Nat.reduceAdd, bx, reduceCtorEq, forall_const, ne_eq, hy0, hy1, e1, e2, e3]
 obtain ⟨L, hlz, g3, g4, g1, g2⟩ := lead_sp y (by omega) h2
 obtain ⟨s, hs⟩ : ∃ s : Nat, s + L = 64 := ⟨64 - L, by omega⟩
 have hsL : (64 : Int) - L = s := by omega
 rw [hsL] at hlz
 have hPQ : (2 : Int) ^ s * 2 ^ L = 18446744073709551616 := by rw [← Int.pow_add, hs]; rfl
 have hP0 : (0 : Int) < 2 ^ s := Int.pow_pos (by decide)
 have hQ0 : (0 : Int) < 2 ^ L := Int.pow_pos (by decide)
 have hg1 : (2 : Int) ^ L ≤ 2 * y := by
  obtain ⟨m, rfl⟩ : ∃ m, L = m + 1 := ⟨L - 1, by omega⟩
  simp only [Nat.add_sub_cancel] at g1
  rw [Int.pow_succ]
  omega
 have hshl : ∀ n : Int, arith .shl .u64 n (s : Int) = IntKind.u64.wrap (n * 2 ^ s) := fun n => shl_at n s (by omega)
 have hshrL : arith .shr .u64 lo (64 - (s : Int)) = lo / 2 ^ L := by
  have e : (64 : Int) - s = L := by omega
  rw [e]
  exact shr_at lo L g4
 have hshrS : ∀ n : Int, arith .shr .u64 n (s : Int) = n / 2 ^ s := fun n => shr_at n s (by omega)
 have hor0 := or_join s
 obtain ⟨P, hP⟩ : ∃ P : Int, (2 : Int) ^ s = P := ⟨_, rfl⟩
 obtain ⟨Q, hQ⟩ : ∃ Q : Int, (2 : Int) ^ L = Q := ⟨_, rfl⟩
 simp only [hP, hQ] at hPQ hP0 hQ0 hg1 g2 hshl hshrL hshrS hor0
 have hY1 : 9223372036854775808 ≤ y * P := by
  have : P * Q ≤ P * (2 * y) := Int.mul_le_mul_of_nonneg_left hg1 (by omega)
  have e : P * (2 * y) = 2 * (y * P) := by grind
  omega
 have hY2 : y * P < 18446744073709551616 := by
  have : y * P < Q * P := Int.mul_lt_mul_of_pos_right g2 hP0
  rw [Int.mul_comm Q P] at this
  omega
 have hdl := Int.mul_ediv_add_emod lo Q
 have hdl0 := Int.emod_nonneg lo (b := Q) (by omega)
 have hdl1 := Int.emod_lt_of_pos lo hQ0
 have hlq0 : 0 ≤ lo / Q := Int.ediv_nonneg h3 (by omega)
 have hlq1 : lo / Q < P := by rw [Int.ediv_lt_iff_lt_mul hQ0]; omega
 have hhP : hi * P + P ≤ y * P := by
  have : (hi + 1) * P ≤ y * P := Int.mul_le_mul_of_nonneg_right (by omega) (by omega)
  rw [Int.add_mul] at this
  omega
 have hhP0 : 0 ≤ hi * P := Int.mul_nonneg h0 (by omega)
 have hV0 : 0 ≤ lo % Q * P := Int.mul_nonneg hdl0 (by omega)
 have hV1 : lo % Q * P < 18446744073709551616 := by
  have : lo % Q * P < Q * P := Int.mul_lt_mul_of_pos_right hdl1 hP0
  rw [Int.mul_comm Q P] at this
  omega
 have hlo : IntKind.u64.wrap (lo * P) = lo % Q * P := by
  refine u64_same _ _ ?_ hV0 hV1
  have e : lo * P = lo % Q * P + 18446744073709551616 * (lo / Q) := by
   have e1 : lo * P = (Q * (lo / Q) + lo % Q) * P := by rw [hdl]
   rw [e1, ← hPQ]
   grind
  rw [e, Int.add_mul_emod_self_left]
 have hor : arith .or .u64 (hi * P) (lo / Q) = hi * P + lo / Q :=
  hor0 _ _ hhP0 (Int.mul_emod_left _ _) (by omega) hlq0 hlq1 (by omega)
 obtain ⟨X, hX⟩ : ∃ X : Int, hi * P + lo / Q = X := ⟨_, rfl⟩
 obtain ⟨V, hV⟩ : ∃ V : Int, lo % Q * P = V := ⟨_, rfl⟩
 obtain ⟨Y, hYe⟩ : ∃ Y : Int, y * P = Y := ⟨_, rfl⟩
 rw [hX] at hor
 rw [hV] at hlo hV0 hV1
 rw [hYe] at hY1 hY2 hhP
 have hXV : X * 18446744073709551616 + V = (hi * 18446744073709551616 + lo) * P := by
  have e1 : lo * P = (Q * (lo / Q) + lo % Q) * P := by rw [hdl]
  rw [← hX, ← hV, Int.add_mul (hi * 18446744073709551616), e1, ← hPQ]
  grind
 have hX0 : 0 ≤ X := by omega
 have hXY : X < Y := by omega
 have hws : IntKind.u64.wrap (s : Int) = s := u64_in _ (by omega) (by omega)
 have hws2 : IntKind.u64.wrap (64 - (s : Int)) = 64 - s := u64_in _ (by omega) (by omega)
 have hsY : arith .shl .u64 y (s : Int) = Y := by rw [hshl, hYe]; exact u64_in Y (by omega) hY2
 have hsV : arith .shl .u64 lo (s : Int) = V := by rw [hshl, hlo]
 have hsH : arith .shl .u64 hi (s : Int) = hi * P := by rw [hshl]; exact u64_in _ hhP0 (by omega)
 have hy0 : ¬ y = 0 := by omega
 have hy1 : ¬ y ≤ hi := by omega
 have hs0 : (0 : Int) ≤ 64 - (s : Int) := by omega
 have hYn : ¬ Y / 4294967296 = 0 := by omega
 have hYd : Y = Y / 4294967296 * 4294967296 + Y % 4294967296 := by omega
 have hVd : V = V / 4294967296 * 4294967296 + V % 4294967296 := by omega
 obtain ⟨t1, t2, t3, t4, t5⟩ := digit_start X (V / 4294967296) Y (Y / 4294967296) (Y % 4294967296) hYd (by omega) (by omega) (by omega) (by omega) hX0 hXY (by omega) (by omega)
 have tm0 : 0 ≤ X / (Y / 4294967296) * (Y / 4294967296) := Int.mul_nonneg t1 (by omega)
 have td := Int.tdiv_eq_ediv_of_nonneg (b := Y / 4294967296) hX0
 simp (disch := first | omega | (simp only [ln0]; omega)) only [rs, reduceIte, Nat.reduceAdd, bx, reduceCtorEq, forall_const, ne_eq, hy0, hy1, hz, xcall_of hlz, hws, hws2, hs0, hsY, hsV, hsH, hshrL, hor, shr32, hYn, td, u64_in]
 refine div_l3 hi lo y s Y V hws hsY hsV hY1 hY2 hV0 hV1 X hX0 hXY _ ?_ (X / (Y / 4294967296) - (X * 4294967296 + V / 4294967296) / Y).toNat _ _ (by omega) t3 (by omega) t5 t2 (by omega)
 have hT0 : 0 ≤ (X * 4294967296 + V / 4294967296) / Y := Int.ediv_nonneg (by omega) (by omega)
 have hT1 := digit_lt (u := X) (d := V / 4294967296) (Y := Y) (by omega) hXY (by omega)
 have hTm := Int.mul_ediv_add_emod (X * 4294967296 + V / 4294967296) Y
 have hTm0 := Int.emod_nonneg (X * 4294967296 + V / 4294967296) (b := Y) (by omega)
 have hTm1 := Int.emod_lt_of_pos (X * 4294967296 + V / 4294967296) (by omega : 0 < Y)
 obtain ⟨q1, hq1⟩ : ∃ q1 : Int, (X * 4294967296 + V / 4294967296) / Y = q1 := ⟨_, rfl⟩
 rw [hq1] at hT0 hT1 hTm ⊢
 rw [Int.mul_comm Y q1] at hTm
 obtain ⟨u2, hu2⟩ : ∃ u2 : Int, X * 4294967296 + V / 4294967296 - q1 * Y = u2 := ⟨_, rfl⟩
 have hw2 : IntKind.u64.wrap (IntKind.u64.wrap (IntKind.u64.wrap (X * 4294967296) + V / 4294967296) - IntKind.u64.wrap (q1 * Y)) = u2 := by
  refine u64_same _ _ ?_ (by omega) (by omega)
  rw [IntKind.wrap_u64, IntKind.wrap_u64, IntKind.wrap_u64, ← hu2]
  omega
 have hqq0 : 0 ≤ q1 * Y := Int.mul_nonneg hT0 (by omega)
 obtain ⟨v1, v2, v3, v4, v5⟩ := digit_start u2 (V % 4294967296) Y (Y / 4294967296) (Y % 4294967296) hYd (by omega) (by omega) (by omega) (by omega) (by omega) (by omega) (by omega) (by omega)
 have vm0 : 0 ≤ u2 / (Y / 4294967296) * (Y / 4294967296) := Int.mul_nonneg v1 (by omega)
 have vd := Int.tdiv_eq_ediv_of_nonneg (b := Y / 4294967296) (show 0 ≤ u2 by omega)
 have vw1 := u64_in (u2 / (Y / 4294967296)) v1 (by omega)
 have vw2 := u64_in (u2 / (Y / 4294967296) * (Y / 4294967296)) vm0 (by omega)
 have vw3 := u64_in (u2 - u2 / (Y / 4294967296) * (Y / 4294967296)) v3 (by omega)
 rw [u_math_bits_Div64_j0]
 simp (disch := first | omega | (simp only [ln0]; omega)) only [rs, reduceIte, Nat.reduceAdd, hws, hws2, hsY, hsV, hsH, hshrL, hor, shr32, hw2, vd, vw1, vw2, vw3]
 refine div_l2 hi lo y s Y V hws hsY hsV hY1 hY2 hV0 hV1 q1 u2 (by omega) (by omega) _ ?_ (u2 / (Y / 4294967296) - (u2 * 4294967296 + V % 4294967296) / Y).toNat (u2 / (Y / 4294967296)) (u2 - u2 / (Y / 4294967296) * (Y / 4294967296)) (by omega) v3 (by omega) v5 v2 (by omega)
 obtain ⟨w1, w2⟩ := two_digits Y X (V / 4294967296) (V % 4294967296) q1 u2 ((u2 * 4294967296 + V % 4294967296) / Y) (by omega) hq1.symm hu2.symm rfl
 rw [← hVd, hXV, ← hYe] at w1 w2
 rw [Int.mul_ediv_mul_of_pos_left _ _ hP0] at w1
 have hm : (hi * 18446744073709551616 + lo) * P % (y * P) = (hi * 18446744073709551616 + lo) % y * P := by
  rw [Int.mul_comm _ P, Int.mul_comm y P, Int.mul_emod_mul_of_pos _ _ hP0, Int.mul_comm]
 rw [hm, hYe] at w2
 rw [hYe] at w1
 have hN0 : 0 ≤ (hi * 18446744073709551616 + lo) / y := Int.ediv_nonneg (by omega) (by omega)
 have hN1 : (hi * 18446744073709551616 + lo) / y < 18446744073709551616 := by
  rw [Int.ediv_lt_iff_lt_mul (by omega)]
  have : (hi + 1) * 18446744073709551616 ≤ y * 18446744073709551616 := Int.mul_le_mul_of_nonneg_right (by omega) (by omega)
  rw [Int.mul_comm 18446744073709551616 y]
  omega
 have hR0 := Int.emod_nonneg (hi * 18446744073709551616 + lo) (b := y) (by omega)
 have hR1 := Int.emod_lt_of_pos (hi * 18446744073709551616 + lo) (by omega : 0 < y)
 have hq0n : 0 ≤ (u2 * 4294967296 + V % 4294967296) / Y := Int.ediv_nonneg (by omega) (by omega)
 have hb0 : 0 ≤ (hi * 18446744073709551616 + lo) % y * P := Int.mul_nonneg hR0 (by omega)
 have hb1 : (hi * 18446744073709551616 + lo) % y * P < y * P := Int.mul_lt_mul_of_pos_right hR1 hP0
 rw [hYe] at hb1
 have hw3 : IntKind.u64.wrap (IntKind.u64.wrap (IntKind.u64.wrap (u2 * 4294967296) + V % 4294967296) - IntKind.u64.wrap ((u2 * 4294967296 + V % 4294967296) / Y * Y)) = (hi * 18446744073709551616 + lo) % y * P := by
  refine u64_same _ _ ?_ hb0 (by omega)
  rw [IntKind.wrap_u64, IntKind.wrap_u64, IntKind.wrap_u64, ← w2]
  omega
 have hw4 : IntKind.u64.wrap (q1 * 4294967296) = q1 * 4294967296 := u64_in _ (by omega) (by omega)
 have hw5 : IntKind.u64.wrap (q1 * 4294967296 + (u2 * 4294967296 + V % 4294967296) / Y) = (hi * 18446744073709551616 + lo) / y := by rw [w1]; exact u64_in _ hN0 hN1
 rw [u_math_bits_Div64_j1]
 simp (disch := first | omega | (simp only [ln0]; omega)) only [rs, reduceIte, Nat.reduceAdd, hws, hws2, hsY, hsV, hsH, hshrL, hor, shr32, and32, hw2, hw3, hw4, hw5, hshrS]
 rw [Int.mul_ediv_cancel _ (by omega)]
theorem neg_wrap (Q : Int) (h0 : 0 ≤ Q) (h1 : Q ≤ 9223372036854775808) : IntKind.i64.wrap (IntKind.u64.wrap (0 - Q)) = -Q := by
 rw [IntKind.wrap_u64]
 unfold IntKind.wrap
 simp [IntKind.signed, IntKind.bits]
 omega
theorem muldiv_sp (a b c : Int) (ha : -9223372036854775808 ≤ a ∧ a ≤ 9223372036854775807) (hb : -9223372036854775808 ≤ b ∧ b ≤ 9223372036854775807) (hc : -9223372036854775808 ≤ c ∧ c ≤ 9223372036854775807) :
    Says tr c_fixed_MulDiv [I a, I b, I c] [I (md a b c).1, I (md a b c).2] := by
 refine Says.of (t := fixed_MulDiv) rfl ?_
 rw [u_fixed_MulDiv]
 unfold md
 by_cases hc0 : c = 0
 · simp (disch := first | omega | (simp only [ln0]; omega)) only [rs, reduceIte, Nat.reduceAdd, bx, reduceCtorEq, forall_const, ne_eq, hc0]
 obtain ⟨a0, a1⟩ := ab_in ha
 obtain ⟨b0, b1⟩ := ab_in hb
 obtain ⟨c0, c1⟩ := ab_in hc
 have c2 : 0 < ab c := by unfold ab at *; split <;> omega
 obtain ⟨p0, p1⟩ := pr_in a0 a1 b0 b1
 simp (disch := first | omega | (simp only [ln0]; omega)) only [rs, reduceIte, Nat.reduceAdd, bx, reduceCtorEq, forall_const, ne_eq, hc0, xcall_of (fsize_sp a ha), xcall_of (fsize_sp b hb), xcall_of (fsize_sp c hc), xcall_of (mul64_sp (ab a) (ab b) a0 (by omega) b0 (by omega))]
 have hn : ng a b c = (((decide (a < 0)) != (decide (b < 0))) != (decide (c < 0))) := rfl
 generalize hP : ab a * ab b = P at *
 generalize hC : ab c = C at *
 refine br_split ?_ ?_ <;> intro _
 · rename_i hg
   rw [mdN_great _ _ _ ?_]
   rw [Int.le_ediv_iff_mul_le c2]
   omega
 rename_i hg
 have hd := div64_sp (P / 18446744073709551616) (P % 18446744073709551616) C (by omega) (by omega) (by omega) (by omega) (by omega)
 have e : P / 18446744073709551616 * 18446744073709551616 + P % 18446744073709551616 = P := by omega
 rw [e] at hd
 have hQ0 : 0 ≤ P / C := Int.ediv_nonneg p0 c0
 have hR0 : 0 ≤ P % C := Int.emod_nonneg P (by omega)
 generalize P / C = Q at *
 generalize P % C = R at *
 have hb1 : ∀ x y : Bool, (!(x == y)) = (x != y) := fun x y => rfl
 simp (disch := first | omega | (simp only [ln0]; omega)) only [rs, reduceIte, Nat.reduceAdd, xcall_of hd, hb1]
 rw [← hn]
 cases hng : ng a b c with
 | true =>
  simp only [mdN, if_true]
  by_cases h1 : 0 < R
  · by_cases h2 : 9223372036854775808 ≤ Q
    · simp (disch := first | omega | (simp only [ln0]; omega)) only [rs, reduceIte, Nat.reduceAdd, bx, reduceCtorEq, forall_const, ne_eq, h1, h2]
    · have e1 : IntKind.u64.wrap (Q + 1) = Q + 1 := u64_in _ (by omega) (by omega)
      have e2 := neg_wrap (Q + 1) (by omega) (by omega)
      simp (disch := first | omega | (simp only [ln0]; omega)) only [rs, reduceIte, Nat.reduceAdd, bx, reduceCtorEq, forall_const, ne_eq, h1, h2, e1, e2]
  · by_cases h2 : Q ≤ 9223372036854775808
    · have e2 := neg_wrap Q (by omega) (by omega)
      simp (disch := first | omega | (simp only [ln0]; omega)) only [rs, reduceIte, Nat.reduceAdd, bx, reduceCtorEq, forall_const, ne_eq, h1, h2, e2]
    · have h3 : 9223372036854775808 ≤ Q := by omega
      simp (disch := first | omega | (simp only [ln0]; omega)) only [rs, reduceIte, Nat.reduceAdd, bx, reduceCtorEq, forall_const, ne_eq, h1, h2, h3]
 | false =>
  simp only [mdN, Bool.false_eq_true, if_false]
  by_cases h2 : 9223372036854775808 ≤ Q
  · simp (disch := first | omega | (simp only [ln0]; omega)) only [rs, reduceIte, Nat.reduceAdd, bx, reduceCtorEq, forall_const, ne_eq, h2]
  · simp (disch := first | omega | (simp only [ln0]; omega)) only [rs, reduceIte, Nat.reduceAdd, bx, reduceCtorEq, forall_const, ne_eq, h2]
end Go.Proofs.Ytbebnjiolaomdaa.T
