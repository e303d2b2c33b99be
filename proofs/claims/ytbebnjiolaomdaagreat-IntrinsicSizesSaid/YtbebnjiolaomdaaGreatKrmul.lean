/- What the trees of the document's product and quotient, bit by bit, and of its MulDiv come to. No condition beyond what each states. -/
import Derived.Test.YtbebnjiolaomdaaGreatT
import Derived.Test.YtbebnjiolaomdaaGreatKmul
set_option linter.unusedVariables false
set_option linter.unusedSimpArgs false
namespace Go.Proofs.YtbebnjiolaomdaaGreat.T
open Go Go.Proofs.YtbebnjiolaomdaaGreat.Sx Go.Proofs.YtbebnjiolaomdaaGreat.M
theorem rsize_sp (a : Int) (h : -9223372036854775808 ≤ a ∧ a ≤ 9223372036854775807) : Says tr c_ref01_size [I a] [U6 (ab a)] := by
 refine Says.of (t := ref01_size) rfl ?_
 rw [u_ref01_size]
 simp (disch := first | omega | (simp only [ln0]; omega)) only [rs, reduceIte, Nat.reduceAdd, IntKind.wrap_u64]
 refine br_split ?_ ?_ <;> intro _
 · rename_i h0
   have : (0 - a % 18446744073709551616) % 18446744073709551616 = ab a := by unfold ab; rw [if_pos h0]; omega
   rw [this]
 · rename_i h0
   have : a % 18446744073709551616 = ab a := by unfold ab; rw [if_neg h0]; omega
   rw [this]
theorem twice_sp (V b : Int) (h0 : 0 ≤ V) (h1 : V < 170141183460469231731687303715884105728) (hb : 0 ≤ b) (hb1 : b ≤ 1) :
    Says tr c_ref01_Wide_twice [U6 (V / 18446744073709551616), U6 (V % 18446744073709551616), U6 b] [U6 ((2 * V + b) / 18446744073709551616), U6 ((2 * V + b) % 18446744073709551616)] := by
 refine Says.of (t := ref01_Wide_twice) rfl ?_
 rw [u_ref01_Wide_twice]
 have e1 := Int.tdiv_eq_ediv_of_nonneg (a := V % 18446744073709551616) (b := 9223372036854775808) (by omega)
 simp (disch := first | omega | (simp only [ln0]; omega)) only [rs, reduceIte, Nat.reduceAdd, IntKind.wrap_u64, e1]
 simp only [List.cons.injEq, PV.int.injEq, true_and, and_true]
 constructor <;> omega
theorem plus_sp (V x : Int) (h0 : 0 ≤ V) (h1 : V < 340282366920938463444927863358058659840) (hx : 0 ≤ x) (hx1 : x < 18446744073709551616) :
    Says tr c_ref01_Wide_plus [U6 (V / 18446744073709551616), U6 (V % 18446744073709551616), U6 x] [U6 ((V + x) / 18446744073709551616), U6 ((V + x) % 18446744073709551616)] := by
 refine Says.of (t := ref01_Wide_plus) rfl ?_
 rw [u_ref01_Wide_plus]
 simp (disch := first | omega | (simp only [ln0]; omega)) only [rs, reduceIte, Nat.reduceAdd, IntKind.wrap_u64]
 refine br_split ?_ ?_ <;> intro _
 · simp only [List.cons.injEq, PV.int.injEq, true_and, and_true]
   constructor <;> omega
 · simp only [List.cons.injEq, PV.int.injEq, true_and, and_true]
   constructor <;> omega
theorem product_loop (x y : Int) (hx : 0 ≤ x) (hx1 : x ≤ 9223372036854775808) (hy : 0 ≤ y) (hy1 : y ≤ 9223372036854775808) (n : Nat) :
    n ≤ 64 → Run tr ref01_product_l0 [U6 x, U6 y, I (64 - n), U6 (2 ^ n / 2), U6 ((x * (y / 2 ^ n)) / 18446744073709551616), U6 ((x * (y / 2 ^ n)) % 18446744073709551616)] [.loop ref01_product_l0 [U6 x, U6 y]] [U6 (x * y / 18446744073709551616), U6 (x * y % 18446744073709551616)] := by
 induction n with
 | zero =>
  intro _
  rw [u_ref01_product_l0]
  have e : ¬ ((64 : Int) - ((0 : Nat) : Int) < 64) := by omega
  simp (disch := first | omega | (simp only [ln0]; omega)) only [rs, reduceIte, Nat.reduceAdd, e, Int.pow_zero, Int.ediv_one]
 | succ n ih =>
  intro hn
  obtain ⟨p0, p1⟩ := pow_in n (by omega)
  have e6 : (2 : Int) ^ (n + 1) / 2 = 2 ^ n := by rw [Int.pow_succ]; omega
  rw [e6, half_div]
  have hz0 : 0 ≤ y / 2 ^ n := Int.ediv_nonneg hy (by omega)
  have hz1 : y / 2 ^ n ≤ y := Int.ediv_le_self _ hy
  have ih' := ih (by omega)
  have e1 : y.tdiv (2 ^ n) = y / 2 ^ n := Int.tdiv_eq_ediv_of_nonneg hy
  have e2 : ((2 : Int) ^ n).tdiv 2 = 2 ^ n / 2 := Int.tdiv_eq_ediv_of_nonneg (by omega)
  generalize (2 : Int) ^ n = p at *
  generalize hZ : y / p = z at *
  have hp0 := Int.mul_nonneg hx (show 0 ≤ z / 2 by omega)
  have hp1 : x * (z / 2) ≤ 9223372036854775808 * 9223372036854775808 := Int.mul_le_mul hx1 (by omega) (by omega) (by decide)
  have e3 : (64 - ((n + 1 : Nat) : Int) + 1) = 64 - (n : Int) := by omega
  have e4 : (64 - ((n + 1 : Nat) : Int) < 64) := by omega
  have e5 : ¬ p = 0 := by omega
  have e7 := Int.tmod_eq_emod_of_nonneg (b := 2) hz0
  have etw := twice_sp (x * (z / 2)) 0 hp0 (by omega) (by omega) (by omega)
  have hcase : z = 2 * (z / 2) ∨ z = 2 * (z / 2) + 1 := by omega
  rw [u_ref01_product_l0]
  by_cases hm : z % 2 = 1
  · have e8 : 2 * (x * (z / 2)) + 0 + x = x * z := by
     have : z = 2 * (z / 2) + 1 := by omega
     have h2 : x * z = x * (2 * (z / 2) + 1) := by rw [← this]
     rw [h2]; grind
    have epl := plus_sp (2 * (x * (z / 2)) + 0) x (by omega) (by omega) hx (by omega)
    rw [e8] at epl
    simp (disch := first | omega | (simp only [ln0]; omega)) only [rs, reduceIte, Nat.reduceAdd, e4, xcall_of etw, bx, reduceCtorEq, forall_const, ne_eq, e5, e1, u64_in, e7, hm, xcall_of epl, u_ref01_product_j1, e3, e2]
    exact ih'
  · have e8 : 2 * (x * (z / 2)) + 0 = x * z := by
     have : z = 2 * (z / 2) := by omega
     have h2 : x * z = x * (2 * (z / 2)) := by rw [← this]
     rw [h2]; grind
    rw [e8] at etw
    simp (disch := first | omega | (simp only [ln0]; omega)) only [rs, reduceIte, Nat.reduceAdd, e4, xcall_of etw, bx, reduceCtorEq, forall_const, ne_eq, e5, e1, u64_in, e7, hm, u_ref01_product_j1, e3, e2]
    exact ih'
theorem product_sp (x y : Int) (hx : 0 ≤ x) (hx1 : x ≤ 9223372036854775808) (hy : 0 ≤ y) (hy1 : y ≤ 9223372036854775808) :
    Says tr c_ref01_product [U6 x, U6 y] [U6 (x * y / 18446744073709551616), U6 (x * y % 18446744073709551616)] := by
 have h := product_loop x y hx hx1 hy hy1 64 (by decide)
 have e : y / (2 : Int) ^ 64 = 0 := Int.ediv_eq_zero_of_lt hy (by omega)
 rw [e] at h
 refine Says.of (t := ref01_product) rfl ?_
 rw [u_ref01_product]
 simp (disch := first | omega | (simp only [ln0]; omega)) only [rs, reduceIte, Nat.reduceAdd]
 simpa using h
theorem quotient_loop (V y : Int) (hV : 0 ≤ V) (hV1 : V ≤ 85070591730234615865843651857942052864) (hy : 0 < y) (hy1 : y ≤ 9223372036854775808) (n : Nat) :
    n ≤ 128 → Run tr ref01_quotient_l0 [U6 (V / 18446744073709551616), U6 (V % 18446744073709551616), U6 y, I ((n : Int) - 1), U6 (V / 2 ^ n / y / 18446744073709551616), U6 (V / 2 ^ n / y % 18446744073709551616), U6 0, U6 (V / 2 ^ n % y)] [.loop ref01_quotient_l0 [U6 (V / 18446744073709551616), U6 (V % 18446744073709551616), U6 y]] [U6 (V / y / 18446744073709551616), U6 (V / y % 18446744073709551616), U6 (V % y)] := by
 induction n with
 | zero =>
  intro _
  rw [u_ref01_quotient_l0]
  have e : ¬ (((0 : Nat) : Int) - 1 ≥ 0) := by omega
  simp (disch := first | omega | (simp only [ln0]; omega)) only [rs, reduceIte, Nat.reduceAdd, e, Int.pow_zero, Int.ediv_one]
 | succ n ih =>
  intro hn
  have hbit := word_bit V hV n (by omega)
  have ih' := ih (by omega)
  rw [half_div]
  have hW0 : 0 ≤ V / 2 ^ n := Int.ediv_nonneg hV (Int.le_of_lt (Int.pow_pos (by decide)))
  have hW1 : V / 2 ^ n ≤ V := Int.ediv_le_self _ hV
  generalize hW : V / 2 ^ n = W at *
  have hin : ∀ (a8 a9 : PV) (j8 : Int) (m : Nat) (t : Int) (w : Int), m ≤ 63 → 0 ≤ t → t + m ≤ 63 → 0 ≤ w → w < 18446744073709551616 → (w / 2 ^ m) % 2 = W % 2 → a8 = I (t + m) →
      Run tr ref01_quotient_l2 [U6 (V / 18446744073709551616), U6 (V % 18446744073709551616), U6 y, I n, U6 (W / 2 / y / 18446744073709551616), U6 (W / 2 / y % 18446744073709551616), U6 0, U6 (W / 2 % y), a8, a9, I t, U6 w] [.loop ref01_quotient_l0 [U6 (V / 18446744073709551616), U6 (V % 18446744073709551616), U6 y], .loop ref01_quotient_l2 [U6 (V / 18446744073709551616), U6 (V % 18446744073709551616), U6 y, I n, U6 (W / 2 / y / 18446744073709551616), U6 (W / 2 / y % 18446744073709551616), U6 0, U6 (W / 2 % y), a8, a9]] [U6 (V / y / 18446744073709551616), U6 (V / y % 18446744073709551616), U6 (V % y)] := by
   intro a8 a9 j8 m
   induction m with
   | zero =>
    intro t w _ ht _ hw0 hw1 hwb ha
    subst ha
    have hwb' : w % 2 = W % 2 := by simpa using hwb
    have hr0 := Int.emod_nonneg (W / 2) (b := y) (by omega)
    have hr1 := Int.emod_lt_of_pos (W / 2) hy
    have hq0 : 0 ≤ W / 2 / y := Int.ediv_nonneg (by omega) (by omega)
    have hq1 : W / 2 / y ≤ W / 2 := Int.ediv_le_self _ (by omega)
    have hWe : W = 2 * (W / 2) + W % 2 := by omega
    obtain ⟨g1, g2⟩ := quot_step (W / 2) y (W % 2) hy (by omega) (by omega)
    rw [← hWe] at g1 g2
    have etw := twice_sp (W / 2 % y) (W % 2) hr0 (by omega) (by omega) (by omega)
    have e0 : W / 2 % y / 18446744073709551616 = 0 := by omega
    have e1 : W / 2 % y % 18446744073709551616 = W / 2 % y := by omega
    rw [e0, e1] at etw
    have e2 : (2 * (W / 2 % y) + W % 2) / 18446744073709551616 = 0 := by omega
    have e3 : (2 * (W / 2 % y) + W % 2) % 18446744073709551616 = 2 * (W / 2 % y) + W % 2 := by omega
    rw [e2, e3] at etw
    have e4 := Int.tmod_eq_emod_of_nonneg (b := 2) hw0
    rw [hwb'] at e4
    have e5 : ¬ (t < t + ((0 : Nat) : Int)) := by omega
    rw [u_ref01_quotient_l2]
    by_cases hge : y ≤ 2 * (W / 2 % y) + W % 2
    · obtain ⟨a1, a2⟩ := g1 hge
      have et2 := twice_sp (W / 2 / y) 1 hq0 (by omega) (by omega) (by omega)
      rw [← a1] at et2
      have e6 : IntKind.u64.wrap (2 * (W / 2 % y) + W % 2 - y) = W % y := by rw [a2]; exact u64_in _ (by omega) (by omega)
      simp (disch := first | omega | (simp only [ln0]; omega)) only [rs, reduceIte, Nat.reduceAdd, e5, e4, xcall_of etw, bx, reduceCtorEq, forall_const, ne_eq, Int.lt_irrefl, hge, e6, u_ref01_quotient_j3, xcall_of et2]
      exact ih'
    · obtain ⟨a1, a2⟩ := g2 (by omega)
      have et2 := twice_sp (W / 2 / y) 0 hq0 (by omega) (by omega) (by omega)
      rw [Int.add_zero, ← a1] at et2
      rw [← a2] at etw hge
      simp (disch := first | omega | (simp only [ln0]; omega)) only [rs, reduceIte, Nat.reduceAdd, e5, e4, xcall_of etw, bx, reduceCtorEq, forall_const, ne_eq, Int.lt_irrefl, hge, u_ref01_quotient_j3, xcall_of et2]
      exact ih'
   | succ m ihm =>
    intro t w hm ht htm hw0 hw1 hwb ha
    have e2 : w / 2 ^ (m + 1) = w / 2 / 2 ^ m := by
     rw [Int.ediv_ediv_of_nonneg (by decide)]
     congr 1
     rw [Int.pow_succ, Int.mul_comm]
    rw [e2] at hwb
    have e3 : t + ((m + 1 : Nat) : Int) = t + 1 + (m : Int) := by omega
    have := ihm (t + 1) (w / 2) (by omega) (by omega) (by omega) (by omega) (by omega) hwb (by rw [ha, e3])
    subst ha
    have e4 : t < t + ((m + 1 : Nat) : Int) := by omega
    have e5 := Int.tdiv_eq_ediv_of_nonneg (b := 2) hw0
    rw [u_ref01_quotient_l2]
    simp (disch := first | omega | (simp only [ln0]; omega)) only [rs, reduceIte, Nat.reduceAdd, e4, e5, u64_in]
    exact this
  have e : ((n + 1 : Nat) : Int) - 1 = n := by omega
  rw [e]
  rw [u_ref01_quotient_l0]
  by_cases h : n < 64
  · rw [if_pos h] at hbit
    have hi := hin (I n) (U6 (V % 18446744073709551616)) 0 n 0 (V % 18446744073709551616) (by omega) (by omega) (by omega) (by omega) (by omega) hbit (by rw [Int.zero_add])
    have h' : (n : Int) < 64 := by omega
    simp (disch := first | omega | (simp only [ln0]; omega)) only [rs, reduceIte, Nat.reduceAdd, bx, reduceCtorEq, forall_const, ne_eq, h', u_ref01_quotient_j1]
    exact hi
  · rw [if_neg h] at hbit
    have e5 : (n : Int) - 64 = ((n - 64 : Nat) : Int) := by omega
    have hi := hin (I ((n : Int) - 64)) (U6 (V / 18446744073709551616)) 0 (n - 64) 0 (V / 18446744073709551616) (by omega) (by omega) (by omega) (by omega) (by omega) hbit (by rw [Int.zero_add, e5])
    have h' : ¬ (n : Int) < 64 := by omega
    simp (disch := first | omega | (simp only [ln0]; omega)) only [rs, reduceIte, Nat.reduceAdd, bx, reduceCtorEq, forall_const, ne_eq, h', u_ref01_quotient_j1]
    exact hi
theorem quotient_sp (V y : Int) (hV : 0 ≤ V) (hV1 : V ≤ 85070591730234615865843651857942052864) (hy : 0 < y) (hy1 : y ≤ 9223372036854775808) :
    Says tr c_ref01_quotient [U6 (V / 18446744073709551616), U6 (V % 18446744073709551616), U6 y] [U6 (V / y / 18446744073709551616), U6 (V / y % 18446744073709551616), U6 (V % y)] := by
 have h := quotient_loop V y hV hV1 hy hy1 128 (by decide)
 have e : V / (2 : Int) ^ 128 = 0 := Int.ediv_eq_zero_of_lt hV (by omega)
 rw [e] at h
 refine Says.of (t := ref01_quotient) rfl ?_
 rw [u_ref01_quotient]
 simp (disch := first | omega | (simp only [ln0]; omega)) only [rs, reduceIte, Nat.reduceAdd]
 simpa using h
theorem rmuldiv_sp (a b c : Int) (ha : -9223372036854775808 ≤ a ∧ a ≤ 9223372036854775807) (hb : -9223372036854775808 ≤ b ∧ b ≤ 9223372036854775807) (hc : -9223372036854775808 ≤ c ∧ c ≤ 9223372036854775807) :
    Says tr c_ref01_MulDiv [I a, I b, I c] [I (md a b c).1, I (md a b c).2] := by
 refine Says.of (t := ref01_MulDiv) rfl ?_
 rw [u_ref01_MulDiv]
 unfold md
 by_cases hc0 : c = 0
 · simp (disch := first | omega | (simp only [ln0]; omega)) only [rs, reduceIte, Nat.reduceAdd, bx, reduceCtorEq, forall_const, ne_eq, hc0]
 obtain ⟨a0, a1⟩ := ab_in ha
 obtain ⟨b0, b1⟩ := ab_in hb
 obtain ⟨c0, c1⟩ := ab_in hc
 have c2 : 0 < ab c := by unfold ab at *; split <;> omega
 obtain ⟨p0, p1⟩ := pr_in a0 a1 b0 b1
 have hn : ng a b c = (((decide (a < 0)) != (decide (b < 0))) != (decide (c < 0))) := rfl
 have hq := quotient_sp (ab a * ab b) (ab c) p0 p1 c2 c1
 have hb1 : ∀ x y : Bool, (!(x == y)) = (x != y) := fun x y => rfl
 simp (disch := first | omega | (simp only [ln0]; omega)) only [rs, reduceIte, Nat.reduceAdd, beq_iff_eq, hc0, xcall_of (rsize_sp a ha), xcall_of (rsize_sp b hb), xcall_of (rsize_sp c hc), xcall_of (product_sp (ab a) (ab b) a0 (by omega) b0 (by omega)), xcall_of hq, hb1, ← hn]
 generalize hP : ab a * ab b = P at *
 generalize hC : ab c = C at *
 have hQ0 : 0 ≤ P / C := Int.ediv_nonneg p0 c0
 have hQ1 : P / C ≤ P := Int.ediv_le_self _ p0
 have hR0 : 0 ≤ P % C := Int.emod_nonneg P (by omega)
 generalize P / C = Q at *
 generalize P % C = R at *
 have hpl := plus_sp Q 1 hQ0 (by omega) (by omega) (by omega)
 cases hng : ng a b c with
 | true =>
  simp only [mdN, if_true]
  by_cases h1 : 0 < R
  · simp (disch := first | omega | (simp only [ln0]; omega)) only [rs, reduceIte, Nat.reduceAdd, bx, reduceCtorEq, forall_const, ne_eq, h1, xcall_of hpl, u_ref01_MulDiv_j0, hng, hb1, ← hn]
    by_cases h2 : 9223372036854775808 ≤ Q
    · rw [if_pos h2, br_pos (by omega)]
    · have e2 := neg_wrap (Q + 1) (by omega) (by omega)
      have e3 : (Q + 1) % 18446744073709551616 = Q + 1 := by omega
      rw [if_neg h2, br_neg (by omega), e3, e2]
  · simp (disch := first | omega | (simp only [ln0]; omega)) only [rs, reduceIte, Nat.reduceAdd, bx, reduceCtorEq, forall_const, ne_eq, h1, u_ref01_MulDiv_j0, hng, hb1, ← hn]
    by_cases h2 : Q ≤ 9223372036854775808
    · have e2 := neg_wrap Q (by omega) (by omega)
      have e3 : Q % 18446744073709551616 = Q := by omega
      rw [if_pos h2, br_neg (by omega)]
      by_cases hz : Q = 0
      · subst hz
        rw [br_neg (by omega)]
        rfl
      · rw [br_pos (by omega), e3, e2]
    · rw [if_neg h2, br_pos (by omega)]
 | false =>
  simp only [mdN, Bool.false_eq_true, if_false]
  simp (disch := first | omega | (simp only [ln0]; omega)) only [rs, reduceIte, Nat.reduceAdd, bx, reduceCtorEq, forall_const, ne_eq, u_ref01_MulDiv_j0, hng, hb1, ← hn]
  by_cases h2 : 9223372036854775808 ≤ Q
  · rw [if_pos h2, br_pos (by omega)]
  · have e3 : Q % 18446744073709551616 = Q := by omega
    rw [if_neg h2, br_neg (by omega), e3, wrap_in (by omega) (by omega)]
end Go.Proofs.YtbebnjiolaomdaaGreat.T
