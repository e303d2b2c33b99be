/- The quotient of 128 bits by 64, digit by digit: it is the whole quotient, and what is left. No condition beyond what each lemma states. -/
import Derived.Test.YtbkohlhonhmhmaaPAx8
import Derived.Test.YtbkohlhonhmhmaaEv
import Derived.Laws.Bits64
import Derived.Laws.BitsLemmas
namespace Go.Proofs.Ytbkohlhonhmhmaa.Div
open Go.RowKit Go.Proofs.Ytbkohlhonhmhmaa.PA Go.Proofs.Ytbkohlhonhmhmaa.Evs Go.Proofs.YtbkohlhonhmhmaaW.PrintWords Go.Proofs.YtbkohlhonhmhmaaW.PrintLast Go.Proofs.YtbkohlhonhmhmaaW.PrintMore
set_option linter.unusedVariables false
theorem u64_in (n : Int) (h0 : 0 ≤ n) (h1 : n < 18446744073709551616) : IntKind.u64.wrap n = n := by rw [IntKind.wrap_u64]; exact Int.emod_eq_of_lt h0 h1
theorem u64_same (n m : Int) (h : n % 18446744073709551616 = m % 18446744073709551616) (h0 : 0 ≤ m) (h1 : m < 18446744073709551616) : IntKind.u64.wrap n = m := by rw [IntKind.wrap_u64, h]; exact Int.emod_eq_of_lt h0 h1
/-- One digit: the remainder of a guess. -/
theorem digit_eq (u d yn1 yn0 q r : Int) (hu : u = q * yn1 + r) : u * 4294967296 + d - q * (yn1 * 4294967296 + yn0) = r * 4294967296 + d - q * yn0 := by
  subst hu
  grind
theorem digit_small {u d yn1 yn0 q r Y : Int} (hY : Y = yn1 * 4294967296 + yn0) (hu : u = q * yn1 + r) (hY0 : 0 < Y) (h : q * yn0 ≤ r * 4294967296 + d) : q ≤ (u * 4294967296 + d) / Y := by
  rw [Int.le_ediv_iff_mul_le hY0]
  have := digit_eq u d yn1 yn0 q r hu
  rw [← hY] at this
  omega
theorem digit_great {u d yn1 yn0 q r Y : Int} (hY : Y = yn1 * 4294967296 + yn0) (hu : u = q * yn1 + r) (hY0 : 0 < Y) (h : r * 4294967296 + d < q * yn0) : (u * 4294967296 + d) / Y < q := by
  rw [Int.ediv_lt_iff_lt_mul hY0]
  have := digit_eq u d yn1 yn0 q r hu
  rw [← hY] at this
  omega
theorem digit_lt {u d Y : Int} (hY0 : 0 < Y) (hu : u < Y) (hd : d < 4294967296) : (u * 4294967296 + d) / Y < 4294967296 := by
  rw [Int.ediv_lt_iff_lt_mul hY0]
  have : (u + 1) * 4294967296 ≤ Y * 4294967296 := Int.mul_le_mul_of_nonneg_right (by omega) (by omega)
  rw [Int.mul_comm 4294967296 Y]
  omega
theorem mul_lt' {a b A B : Int} (h0 : 0 ≤ a) (h1 : a ≤ A) (h2 : 0 ≤ b) (h3 : b ≤ B) : a * b ≤ A * B := Int.mul_le_mul h1 h3 h2 (by omega)

theorem div_loop0 (Y s yn1 yn0 u d un0 : Int) (R : Int × Int) (hY : Y = yn1 * 4294967296 + yn0) (h1 : 2147483648 ≤ yn1) (h2 : yn1 < 4294967296) (h3 : 0 ≤ yn0) (h4 : yn0 < 4294967296) (hu0 : 0 ≤ u) (hu : u < Y) (hd0 : 0 ≤ d) (hd : d < 4294967296)
    (hc : Ev (fun k => bits_Div64.j2 k Y s yn1 yn0 u d un0 ((u * 4294967296 + d) / Y)) R) (n : Nat) :
    ∀ q r : Int, u = q * yn1 + r → 0 ≤ r → r < 4294967296 → (u * 4294967296 + d) / Y ≤ q → q ≤ 4294967297 → q - (u * 4294967296 + d) / Y ≤ n → Ev (fun k => bits_Div64.l0 k Y s yn1 yn0 u d un0 q r) R := by
  have hY0 : 0 < Y := by omega
  have hq0 : 0 ≤ (u * 4294967296 + d) / Y := Int.ediv_nonneg (by omega) (by omega)
  have hqB := digit_lt hY0 hu hd
  induction n with
  | zero =>
    intro q r e hr0 hr hq hqm hn
    have hqe : q = (u * 4294967296 + d) / Y := by omega
    have htest : q * yn0 ≤ r * 4294967296 + d := by
      by_cases h : q * yn0 ≤ r * 4294967296 + d
      · exact h
      · have := digit_great hY e hY0 (by omega : r * 4294967296 + d < q * yn0); omega
    have hm0 : 0 ≤ q * yn0 := Int.mul_nonneg (by omega) h3
    have hm1 := mul_lt' (a := q) (b := yn0) (A := 4294967296) (B := 4294967296) (by omega) (by omega) h3 (by omega)
    refine Ev.step (f := fun k => bits_Div64.j1 k Y s yn1 yn0 u d un0 q r false) (fun k => ?_) (Ev.step (f := fun k => bits_Div64.j2 k Y s yn1 yn0 u d un0 q) (fun k => ?_) (by rw [hqe]; exact hc))
    · simp only [bits_Div64.l0]
      rw [if_neg (by omega), u64_in (4294967296 * r) (by omega) (by omega), u64_in (4294967296 * r + d) (by omega) (by omega), u64_in (q * yn0) hm0 (by omega)]
      congr 1
      rw [decide_eq_false_iff_not]
      omega
    · simp [bits_Div64.j1]
  | succ n ih =>
    intro q r e hr0 hr hq hqm hn
    have hm0 : 0 ≤ q * yn0 := Int.mul_nonneg (by omega) h3
    by_cases hgt : q ≤ (u * 4294967296 + d) / Y
    · exact ih q r e hr0 hr hq hqm (by omega)
    · have htest : ¬ (q < 4294967296 ∧ q * yn0 ≤ r * 4294967296 + d) := fun ⟨_, h⟩ => hgt (digit_small hY e hY0 h)
      have hstep : Ev (fun k => bits_Div64.j1 k Y s yn1 yn0 u d un0 q r true) R := by
        have e' : u = (q - 1) * yn1 + (r + yn1) := by rw [e]; grind
        refine Ev.step (f := fun k => if r + yn1 ≥ 4294967296 then bits_Div64.j2 k Y s yn1 yn0 u d un0 (q - 1) else bits_Div64.l0 k Y s yn1 yn0 u d un0 (q - 1) (r + yn1)) (fun k => ?_) ?_
        · simp only [bits_Div64.j1, if_true]
          rw [u64_in (r + yn1) (by omega) (by omega), u64_in (q - 1) (by omega) (by omega)]
        · by_cases hb : r + yn1 ≥ 4294967296
          · simp only [hb, if_true]
            have hsm : (q - 1) * yn0 ≤ (r + yn1) * 4294967296 + d := by
              have := mul_lt' (a := q - 1) (b := yn0) (A := 4294967296) (B := 4294967295) (by omega) (by omega) h3 (by omega)
              omega
            have := digit_small hY e' hY0 hsm
            have hqe : q - 1 = (u * 4294967296 + d) / Y := by omega
            rw [hqe]
            exact hc
          · simp only [hb, if_false]
            exact ih (q - 1) (r + yn1) e' (by omega) (by omega) (by omega) (by omega) (by omega)
      refine Ev.step (f := fun k => bits_Div64.j1 k Y s yn1 yn0 u d un0 q r true) (fun k => ?_) hstep
      simp only [bits_Div64.l0]
      by_cases hqB' : q ≥ 4294967296
      · rw [if_pos hqB']
      · rw [if_neg hqB']
        have hm1 := mul_lt' (a := q) (b := yn0) (A := 4294967295) (B := 4294967295) (by omega) (by omega) h3 (by omega)
        rw [u64_in (4294967296 * r) (by omega) (by omega), u64_in (4294967296 * r + d) (by omega) (by omega), u64_in (q * yn0) hm0 (by omega)]
        congr 1
        rw [decide_eq_true_iff]
        omega

/-- What the second digit's end comes to. -/
def divFin (Y s d q1 u q : Int) : Int × Int := (IntKind.u64.wrap ((IntKind.u64.wrap (q1 * 4294967296)) + q), shr .u64 (IntKind.u64.wrap ((IntKind.u64.wrap ((IntKind.u64.wrap (u * 4294967296)) + d)) - (IntKind.u64.wrap (q * Y)))) s)
theorem div_loop1 (Y s yn1 yn0 d q1 u : Int) (hs : 0 ≤ s) (hY : Y = yn1 * 4294967296 + yn0) (h1 : 2147483648 ≤ yn1) (h2 : yn1 < 4294967296) (h3 : 0 ≤ yn0) (h4 : yn0 < 4294967296) (hu0 : 0 ≤ u) (hu : u < Y) (hd0 : 0 ≤ d) (hd : d < 4294967296) (n : Nat) :
    ∀ q r : Int, u = q * yn1 + r → 0 ≤ r → r < 4294967296 → (u * 4294967296 + d) / Y ≤ q → q ≤ 4294967297 → q - (u * 4294967296 + d) / Y ≤ n → Ev (fun k => bits_Div64.l1 k Y s yn1 yn0 d q1 r u q) (divFin Y s d q1 u ((u * 4294967296 + d) / Y)) := by
  have hY0 : 0 < Y := by omega
  have hq0 : 0 ≤ (u * 4294967296 + d) / Y := Int.ediv_nonneg (by omega) (by omega)
  have hqB := digit_lt hY0 hu hd
  induction n with
  | zero =>
    intro q r e hr0 hr hq hqm hn
    have hqe : q = (u * 4294967296 + d) / Y := by omega
    have htest : q * yn0 ≤ r * 4294967296 + d := by
      by_cases h : q * yn0 ≤ r * 4294967296 + d
      · exact h
      · have := digit_great hY e hY0 (by omega : r * 4294967296 + d < q * yn0); omega
    have hm0 : 0 ≤ q * yn0 := Int.mul_nonneg (by omega) h3
    refine Ev.step (f := fun k => bits_Div64.j4 k Y s yn1 yn0 d q1 r u q false) (fun k => ?_) (Ev.step (f := fun k => some (divFin Y s d q1 u q)) (fun k => ?_) (by rw [hqe]; exact Ev.now _))
    · simp only [bits_Div64.l1]
      rw [if_neg (by omega), u64_in (4294967296 * r) (by omega) (by omega), u64_in (4294967296 * r + d) (by omega) (by omega), u64_in (q * yn0) hm0 (by omega)]
      congr 1
      rw [decide_eq_false_iff_not]
      omega
    · simp [bits_Div64.j4, hs, divFin]
  | succ n ih =>
    intro q r e hr0 hr hq hqm hn
    have hm0 : 0 ≤ q * yn0 := Int.mul_nonneg (by omega) h3
    by_cases hgt : q ≤ (u * 4294967296 + d) / Y
    · exact ih q r e hr0 hr hq hqm (by omega)
    · have htest : ¬ (q < 4294967296 ∧ q * yn0 ≤ r * 4294967296 + d) := fun ⟨_, h⟩ => hgt (digit_small hY e hY0 h)
      have hstep : Ev (fun k => bits_Div64.j4 k Y s yn1 yn0 d q1 r u q true) (divFin Y s d q1 u ((u * 4294967296 + d) / Y)) := by
        have e' : u = (q - 1) * yn1 + (r + yn1) := by rw [e]; grind
        refine Ev.step (f := fun k => if r + yn1 ≥ 4294967296 then some (divFin Y s d q1 u (q - 1)) else bits_Div64.l1 k Y s yn1 yn0 d q1 (r + yn1) u (q - 1)) (fun k => ?_) ?_
        · simp only [bits_Div64.j4, if_true]
          rw [u64_in (r + yn1) (by omega) (by omega), u64_in (q - 1) (by omega) (by omega), if_pos hs]
          rfl
        · by_cases hb : r + yn1 ≥ 4294967296
          · simp only [hb, if_true]
            have hsm : (q - 1) * yn0 ≤ (r + yn1) * 4294967296 + d := by
              have := mul_lt' (a := q - 1) (b := yn0) (A := 4294967296) (B := 4294967295) (by omega) (by omega) h3 (by omega)
              omega
            have := digit_small hY e' hY0 hsm
            have hqe : q - 1 = (u * 4294967296 + d) / Y := by omega
            rw [hqe]
            exact Ev.now _
          · simp only [hb, if_false]
            exact ih (q - 1) (r + yn1) e' (by omega) (by omega) (by omega) (by omega) (by omega)
      refine Ev.step (f := fun k => bits_Div64.j4 k Y s yn1 yn0 d q1 r u q true) (fun k => ?_) hstep
      simp only [bits_Div64.l1]
      by_cases hqB' : q ≥ 4294967296
      · rw [if_pos hqB']
      · rw [if_neg hqB']
        have hm1 := mul_lt' (a := q) (b := yn0) (A := 4294967295) (B := 4294967295) (by omega) (by omega) h3 (by omega)
        rw [u64_in (4294967296 * r) (by omega) (by omega), u64_in (4294967296 * r + d) (by omega) (by omega), u64_in (q * yn0) hm0 (by omega)]
        congr 1
        rw [decide_eq_true_iff]
        omega

theorem bitLen_pow : ∀ (n x : Nat), x ≤ n → x ≠ 0 → x < 2 ^ 64 → 2 ^ (Lib.bitLen x - 1) ≤ x ∧ x < 2 ^ Lib.bitLen x ∧ 1 ≤ Lib.bitLen x ∧ Lib.bitLen x ≤ 64 := by
  intro n
  induction n with
  | zero => intro x h h0; omega
  | succ n ih =>
    intro x h h0 hx
    have hb := Lib.bitLen_half x h0 hx
    by_cases h1 : x / 2 = 0
    · have : x = 1 := by omega
      subst this
      have e : Lib.bitLen 1 = 1 := by decide +kernel
      rw [e]
      decide
    · obtain ⟨a, b, c, d⟩ := ih (x / 2) (by omega) h1 (by omega)
      have hle := Lib.bitLen_le x 64 (by omega) hx
      obtain ⟨m, hm⟩ : ∃ m, Lib.bitLen (x / 2) = m + 1 := ⟨Lib.bitLen (x / 2) - 1, by omega⟩
      rw [hm] at a b hb
      rw [hb]
      have e1 : 1 + (m + 1) - 1 = m + 1 := by omega
      have e2 : 2 ^ (1 + (m + 1)) = 2 * 2 ^ (m + 1) := by rw [Nat.pow_add]
      have e3 : (2 : Nat) ^ (m + 1) = 2 * 2 ^ m := by rw [Nat.pow_succ, Nat.mul_comm]
      rw [e1, e2]
      simp only [Nat.add_sub_cancel] at a
      rw [e3] at b ⊢
      omega

/-- Two digits, one behind the other. -/
theorem two_digits (Y U A b q1 u2 q0 : Int) (hY0 : 0 < Y) (e1 : q1 = (U * 4294967296 + A) / Y) (e2 : u2 = U * 4294967296 + A - q1 * Y) (e3 : q0 = (u2 * 4294967296 + b) / Y) :
    q1 * 4294967296 + q0 = (U * 18446744073709551616 + (A * 4294967296 + b)) / Y ∧ u2 * 4294967296 + b - q0 * Y = (U * 18446744073709551616 + (A * 4294967296 + b)) % Y := by
  have h1 := Int.emod_nonneg (u2 * 4294967296 + b) (b := Y) (by omega)
  have h2 := Int.emod_lt_of_pos (u2 * 4294967296 + b) hY0
  have h3 := Int.mul_ediv_add_emod (u2 * 4294967296 + b) Y
  rw [← e3] at h3
  have e : U * 18446744073709551616 + (A * 4294967296 + b) = (u2 * 4294967296 + b) % Y + Y * (q1 * 4294967296 + q0) := by
    rw [Int.mul_comm Y, Int.add_mul]
    have : q1 * 4294967296 * Y = (U * 4294967296 + A - u2) * 4294967296 := by rw [e2]; grind
    rw [Int.mul_comm Y q0] at h3
    omega
  constructor
  · rw [e, Int.add_mul_ediv_left _ _ (by omega), Int.ediv_eq_zero_of_lt h1 h2]
    omega
  · rw [e, Int.add_mul_emod_self_left, Int.emod_eq_of_lt h1 h2]
    rw [Int.mul_comm Y q0] at h3
    omega

theorem digit_start (U A Y yn1 yn0 : Int) (hY : Y = yn1 * 4294967296 + yn0) (h1 : 2147483648 ≤ yn1) (h2 : yn1 < 4294967296) (h3 : 0 ≤ yn0) (h4 : yn0 < 4294967296) (hu0 : 0 ≤ U) (hu : U < Y) (hA0 : 0 ≤ A) (hA : A < 4294967296) :
    0 ≤ U / yn1 ∧ U / yn1 ≤ 4294967297 ∧ 0 ≤ U - U / yn1 * yn1 ∧ U - U / yn1 * yn1 < yn1 ∧ (U * 4294967296 + A) / Y ≤ U / yn1 := by
  have hp : 0 < yn1 := by omega
  have hm := Int.mul_ediv_add_emod U yn1
  have hm0 := Int.emod_nonneg U (b := yn1) (by omega)
  have hm1 := Int.emod_lt_of_pos U hp
  rw [Int.mul_comm] at hm
  refine ⟨Int.ediv_nonneg hu0 (by omega), ?_, by omega, by omega, ?_⟩
  · have : U / yn1 < 4294967298 := by
      rw [Int.ediv_lt_iff_lt_mul hp]
      omega
    omega
  · have : (U * 4294967296 + A) / Y < U / yn1 + 1 := by
      rw [Int.ediv_lt_iff_lt_mul (by omega)]
      have e : (U / yn1 + 1) * Y = (U / yn1 * yn1 + yn1) * 4294967296 + (U / yn1 + 1) * yn0 := by rw [hY]; grind
      have h5 : 0 ≤ (U / yn1 + 1) * yn0 := Int.mul_nonneg (by have := Int.ediv_nonneg hu0 (by omega : 0 ≤ yn1); omega) h3
      rw [e]
      omega
    omega
theorem div64_ev (hi lo y : Int) (h0 : 0 ≤ hi) (h1 : hi < y) (h2 : y < 18446744073709551616) (h3 : 0 ≤ lo) (h4 : lo < 18446744073709551616) :
    Ev (fun k => bits_Div64.f k hi lo y) ((hi * 18446744073709551616 + lo) / y, (hi * 18446744073709551616 + lo) % y) := by
  unfold bits_Div64.f
  by_cases hz : hi = 0
  · subst hz
    simp only [show ¬ y = 0 by omega, show ¬ y ≤ 0 by omega, if_false, if_true]
    have e : (0 : Int) * 18446744073709551616 + lo = lo := by omega
    rw [e, Int.tdiv_eq_ediv_of_nonneg h3, Int.tmod_eq_emod_of_nonneg h3, u64_in (lo / y) (Int.ediv_nonneg h3 (by omega)) (Int.lt_of_le_of_lt (Int.ediv_le_self y h3) h4)]
    exact Ev.now _
  obtain ⟨yN, rfl⟩ := Int.eq_ofNat_of_zero_le (show 0 ≤ y by omega)
  obtain ⟨g1, g2, g3, g4⟩ := bitLen_pow yN yN (Nat.le_refl _) (by omega) (by omega)
  obtain ⟨L, hL⟩ : ∃ L, Lib.bitLen yN = L := ⟨_, rfl⟩
  rw [hL] at g1 g2 g3 g4
  obtain ⟨s, hs⟩ : ∃ s : Nat, s + L = 64 := ⟨64 - L, by omega⟩
  have hlz : bits_LeadingZeros64.f (yN : Int) = some (s : Int) := by
    unfold bits_LeadingZeros64.f
    rw [if_pos (by omega)]
    simp only [Int.toNat_natCast, hL]
    congr 1
    omega
  -- the powers
  have hPQ : (2 : Int) ^ s * 2 ^ L = 18446744073709551616 := by rw [← Int.pow_add, hs]; rfl
  have hP0 : (0 : Int) < 2 ^ s := Int.pow_pos (by decide)
  have hQ0 : (0 : Int) < 2 ^ L := Int.pow_pos (by decide)
  obtain ⟨P, hP⟩ : ∃ P : Int, (2 : Int) ^ s = P := ⟨_, rfl⟩
  obtain ⟨Q, hQ⟩ : ∃ Q : Int, (2 : Int) ^ L = Q := ⟨_, rfl⟩
  have hg1 : Q ≤ 2 * yN := by
    rw [← hQ]
    obtain ⟨m, rfl⟩ : ∃ m, L = m + 1 := ⟨L - 1, by omega⟩
    simp only [Nat.add_sub_cancel] at g1
    have : ((2 ^ m : Nat) : Int) ≤ yN := by exact_mod_cast g1
    rw [Int.pow_succ]
    have e : ((2 ^ m : Nat) : Int) = (2 : Int) ^ m := by simp
    omega
  have hg2 : (yN : Int) < Q := by rw [← hQ]; exact_mod_cast g2
  rw [hP, hQ] at hPQ
  rw [hP] at hP0
  rw [hQ] at hQ0
  -- what is shifted
  have hY1 : 9223372036854775808 ≤ yN * P := by
    have : P * Q ≤ P * (2 * yN) := Int.mul_le_mul_of_nonneg_left hg1 (by omega)
    have e : P * (2 * yN) = 2 * (yN * P) := by grind
    omega
  have hY2 : yN * P < 18446744073709551616 := by
    have : yN * P < Q * P := Int.mul_lt_mul_of_pos_right hg2 hP0
    rw [Int.mul_comm Q P] at this
    omega
  have hmin : min (s : Int).toNat IntKind.u64.bits = s := by
    have : IntKind.u64.bits = 64 := rfl
    rw [this]
    omega
  have hmin2 : min (64 - (s : Int)).toNat IntKind.u64.bits = L := by
    have : IntKind.u64.bits = 64 := rfl
    rw [this]
    omega
  have hshl : ∀ n : Int, shl .u64 n (s : Int) = IntKind.u64.wrap (n * P) := fun n => by unfold shl; rw [hmin, hP]
  have hshrL : shr .u64 lo (64 - (s : Int)) = lo / Q := by unfold shr; rw [hmin2, hQ]
  have hshrS : ∀ n : Int, shr .u64 n (s : Int) = n / P := fun n => by unfold shr; rw [hmin, hP]
  have hdl := Int.mul_ediv_add_emod lo Q
  have hdl0 := Int.emod_nonneg lo (b := Q) (by omega)
  have hdl1 := Int.emod_lt_of_pos lo hQ0
  have hlq0 : 0 ≤ lo / Q := Int.ediv_nonneg h3 (by omega)
  have hlq1 : lo / Q < P := by rw [Int.ediv_lt_iff_lt_mul hQ0]; omega
  have hhP : hi * P + P ≤ yN * P := by
    have : (hi + 1) * P ≤ yN * P := Int.mul_le_mul_of_nonneg_right (by omega) (by omega)
    rw [Int.add_mul] at this
    omega
  have hhP0 : 0 ≤ hi * P := Int.mul_nonneg h0 (by omega)
  have hV0 : 0 ≤ lo % Q * P := Int.mul_nonneg hdl0 (by omega)
  have hV1 : lo % Q * P < 18446744073709551616 := by
    have : lo % Q * P < Q * P := Int.mul_lt_mul_of_pos_right hdl1 hP0
    rw [Int.mul_comm Q P] at this
    omega
  have hlo : IntKind.u64.wrap (lo * P) = lo % Q * P := by
    refine u64_same _ _ ?_ hV0 hV1
    have e : lo * P = lo % Q * P + 18446744073709551616 * (lo / Q) := by
      have e1 : lo * P = (Q * (lo / Q) + lo % Q) * P := by rw [hdl]
      rw [e1, ← hPQ]
      grind
    rw [e, Int.add_mul_emod_self_left]
  have hbits : ∀ n : Int, 0 ≤ n → n < 2 ^ 64 → IntKind.u64.wrap n = n := fun n a b => u64_in n a b
  have hor : bits .or .u64 (hi * P) (lo / Q) = hi * P + lo / Q := by
    refine bits_join .u64 64 (by decide) hbits s _ _ hhP0 ?_ (by omega) hlq0 ?_ (by omega)
    · rw [hP]; exact Int.mul_emod_left _ _
    · rw [hP]; exact hlq1
  have hand : ∀ n : Int, 0 ≤ n → n < 18446744073709551616 → bits .and .u64 n 4294967295 = n % 4294967296 := fun n a b => bits_mask .u64 64 (by decide) hbits 32 (by decide) n a b
  obtain ⟨U, hU⟩ : ∃ U : Int, hi * P + lo / Q = U := ⟨_, rfl⟩
  obtain ⟨V, hV⟩ : ∃ V : Int, lo % Q * P = V := ⟨_, rfl⟩
  obtain ⟨Y, hYe⟩ : ∃ Y : Int, (yN : Int) * P = Y := ⟨_, rfl⟩
  rw [hU] at hor
  rw [hV] at hlo hV0 hV1
  rw [hYe] at hY1 hY2 hhP
  have hUV : U * 18446744073709551616 + V = (hi * 18446744073709551616 + lo) * P := by
    have e1 : lo * P = (Q * (lo / Q) + lo % Q) * P := by rw [hdl]
    rw [← hU, ← hV, Int.add_mul (hi * 18446744073709551616), e1, ← hPQ]
    grind
  have hU0 : 0 ≤ U := by omega
  have hUY : U < Y := by omega
  have hws : IntKind.u64.wrap (s : Int) = s := u64_in _ (by omega) (by omega)
  have hws2 : IntKind.u64.wrap (64 - (s : Int)) = 64 - s := u64_in _ (by omega) (by omega)
  simp only [show ¬ (yN : Int) = 0 by omega, show ¬ (yN : Int) ≤ hi by omega, hz, if_false, hlz, Option.bind_some, hws, hws2, show (0 : Int) ≤ (s : Int) by omega, show (0 : Int) ≤ 64 - (s : Int) by omega, if_true, hshl, hshrL]
  rw [hYe, u64_in Y (by omega) hY2, u64_in (hi * P) hhP0 (by omega), hor, hlo, hand Y (by omega) hY2, hand V hV0 hV1]
  simp only [show ¬ Y / 4294967296 = 0 by omega, if_false]
  have hYd : Y = Y / 4294967296 * 4294967296 + Y % 4294967296 := by omega
  have hVd : V = V / 4294967296 * 4294967296 + V % 4294967296 := by omega
  obtain ⟨t1, t2, t3, t4, t5⟩ := digit_start U (V / 4294967296) Y (Y / 4294967296) (Y % 4294967296) hYd (by omega) (by omega) (by omega) (by omega) hU0 hUY (by omega) (by omega)
  have tm0 : 0 ≤ U / (Y / 4294967296) * (Y / 4294967296) := Int.mul_nonneg t1 (by omega)
  rw [Int.tdiv_eq_ediv_of_nonneg hU0, u64_in (U / (Y / 4294967296)) t1 (by omega), u64_in (U / (Y / 4294967296) * (Y / 4294967296)) tm0 (by omega), u64_in (U - U / (Y / 4294967296) * (Y / 4294967296)) t3 (by omega)]
  refine div_loop0 Y s (Y / 4294967296) (Y % 4294967296) U (V / 4294967296) (V % 4294967296) _ hYd (by omega) (by omega) (by omega) (by omega) hU0 hUY (by omega) (by omega) ?_ (U / (Y / 4294967296) - (U * 4294967296 + V / 4294967296) / Y).toNat _ _ (by omega) t3 (by omega) t5 t2 (by omega)
  -- the second digit
  have hT0 : 0 ≤ (U * 4294967296 + V / 4294967296) / Y := Int.ediv_nonneg (by omega) (by omega)
  have hT1 := digit_lt (u := U) (d := V / 4294967296) (Y := Y) (by omega) hUY (by omega)
  have hTm := Int.mul_ediv_add_emod (U * 4294967296 + V / 4294967296) Y
  have hTm0 := Int.emod_nonneg (U * 4294967296 + V / 4294967296) (b := Y) (by omega)
  have hTm1 := Int.emod_lt_of_pos (U * 4294967296 + V / 4294967296) (by omega : 0 < Y)
  obtain ⟨q1, hq1⟩ : ∃ q1 : Int, (U * 4294967296 + V / 4294967296) / Y = q1 := ⟨_, rfl⟩
  rw [hq1] at hT0 hT1 hTm ⊢
  rw [Int.mul_comm Y q1] at hTm
  obtain ⟨u2, hu2⟩ : ∃ u2 : Int, U * 4294967296 + V / 4294967296 - q1 * Y = u2 := ⟨_, rfl⟩
  have hw2 : IntKind.u64.wrap (IntKind.u64.wrap (IntKind.u64.wrap (U * 4294967296) + V / 4294967296) - IntKind.u64.wrap (q1 * Y)) = u2 := by
    refine u64_same _ _ ?_ (by omega) (by omega)
    rw [IntKind.wrap_u64, IntKind.wrap_u64, IntKind.wrap_u64, ← hu2]
    omega
  have hqq0 : 0 ≤ q1 * Y := Int.mul_nonneg hT0 (by omega)
  obtain ⟨v1, v2, v3, v4, v5⟩ := digit_start u2 (V % 4294967296) Y (Y / 4294967296) (Y % 4294967296) hYd (by omega) (by omega) (by omega) (by omega) (by omega) (by omega) (by omega) (by omega)
  have vm0 : 0 ≤ u2 / (Y / 4294967296) * (Y / 4294967296) := Int.mul_nonneg v1 (by omega)
  refine Ev.step (f := fun k => bits_Div64.l1 k Y s (Y / 4294967296) (Y % 4294967296) (V % 4294967296) q1 (u2 - u2 / (Y / 4294967296) * (Y / 4294967296)) u2 (u2 / (Y / 4294967296))) (fun k => ?_) ?_
  · simp only [bits_Div64.j2]
    rw [if_neg (by omega), hw2, Int.tdiv_eq_ediv_of_nonneg (by omega), u64_in (u2 / (Y / 4294967296)) v1 (by omega), u64_in (u2 / (Y / 4294967296) * (Y / 4294967296)) vm0 (by omega), u64_in (u2 - u2 / (Y / 4294967296) * (Y / 4294967296)) v3 (by omega)]
  have hlast := div_loop1 Y s (Y / 4294967296) (Y % 4294967296) (V % 4294967296) q1 u2 (by omega) hYd (by omega) (by omega) (by omega) (by omega) (by omega) (by omega) (by omega) (by omega) (u2 / (Y / 4294967296) - (u2 * 4294967296 + V % 4294967296) / Y).toNat (u2 / (Y / 4294967296)) (u2 - u2 / (Y / 4294967296) * (Y / 4294967296)) (by omega) v3 (by omega) v5 v2 (by omega)
  obtain ⟨w1, w2⟩ := two_digits Y U (V / 4294967296) (V % 4294967296) q1 u2 ((u2 * 4294967296 + V % 4294967296) / Y) (by omega) hq1.symm hu2.symm rfl
  rw [← hVd, hUV, ← hYe] at w1 w2
  rw [Int.mul_ediv_mul_of_pos_left _ _ hP0] at w1
  have hm : (hi * 18446744073709551616 + lo) * P % ((yN : Int) * P) = (hi * 18446744073709551616 + lo) % (yN : Int) * P := by
    rw [Int.mul_comm _ P, Int.mul_comm (yN : Int) P, Int.mul_emod_mul_of_pos _ _ hP0, Int.mul_comm]
  rw [hm, hYe] at w2
  rw [hYe] at w1
  have hN0 : 0 ≤ (hi * 18446744073709551616 + lo) / (yN : Int) := Int.ediv_nonneg (by omega) (by omega)
  have hN1 : (hi * 18446744073709551616 + lo) / (yN : Int) < 18446744073709551616 := by
    rw [Int.ediv_lt_iff_lt_mul (by omega)]
    have : (hi + 1) * 18446744073709551616 ≤ yN * 18446744073709551616 := Int.mul_le_mul_of_nonneg_right (by omega) (by omega)
    rw [Int.mul_comm 18446744073709551616 (yN : Int)]
    omega
  have hR0 := Int.emod_nonneg (hi * 18446744073709551616 + lo) (b := (yN : Int)) (by omega)
  have hR1 := Int.emod_lt_of_pos (hi * 18446744073709551616 + lo) (by omega : 0 < (yN : Int))
  have hfin : divFin Y s (V % 4294967296) q1 u2 ((u2 * 4294967296 + V % 4294967296) / Y) = ((hi * 18446744073709551616 + lo) / (yN : Int), (hi * 18446744073709551616 + lo) % (yN : Int)) := by
    unfold divFin
    have hq0n : 0 ≤ (u2 * 4294967296 + V % 4294967296) / Y := Int.ediv_nonneg (by omega) (by omega)
    rw [u64_in (q1 * 4294967296) (by omega) (by omega), w1, u64_in _ hN0 hN1]
    refine Prod.ext rfl ?_
    have hw3 : IntKind.u64.wrap (IntKind.u64.wrap (IntKind.u64.wrap (u2 * 4294967296) + V % 4294967296) - IntKind.u64.wrap ((u2 * 4294967296 + V % 4294967296) / Y * Y)) = (hi * 18446744073709551616 + lo) % (yN : Int) * P := by
      have hb0 : 0 ≤ (hi * 18446744073709551616 + lo) % (yN : Int) * P := Int.mul_nonneg hR0 (by omega)
      have hb1 : (hi * 18446744073709551616 + lo) % (yN : Int) * P < (yN : Int) * P := Int.mul_lt_mul_of_pos_right hR1 hP0
      rw [hYe] at hb1
      refine u64_same _ _ ?_ hb0 (by omega)
      rw [IntKind.wrap_u64, IntKind.wrap_u64, IntKind.wrap_u64, ← w2]
      omega
    show shr .u64 _ _ = _
    rw [hw3, hshrS, Int.mul_ediv_cancel _ (by omega)]
  rw [hfin] at hlast
  exact hlast
end Go.Proofs.Ytbkohlhonhmhmaa.Div
