/- The trees of the laws and of what they call, written down; the laws' pure statements. No condition. -/
import Derived.Test.YtpaabecgngbjcaaSx4
set_option maxRecDepth 100000
set_option linter.unusedVariables false
namespace Go.Proofs.Ytpaabecgngbjcaa.T
open Go Go.Proofs.Ytpaabecgngbjcaa.Sx Go.Proofs.Ytpaabecgngbjcaa.Sx.T Go.Proofs.Ytpaabecgngbjcaa.Sx.Ex
abbrev v (i : Nat) : Ex := .var i
abbrev n (x : Int) : Ex := .int .i64 x
abbrev add (a b : Ex) : Ex := .bin (.ar .add .i64) a b
abbrev sub (a b : Ex) : Ex := .bin (.ar .sub .i64) a b
abbrev cmp (o : BinOp) (a b : Ex) : Ex := .bin (.cmp o) a b
abbrev at_ (j : Nat) (a b : Ex) : Ex := .bin (.cell j (.int .i64)) a b
/- parterre/parterrelaw26.fr -/
abbrev c_law26_fr : Nat := 17
@[reducible] def law26_fr_b : T := .ret [(n 2), (n 5), (v 0), (.bool false), (n 0), (v 1), (n 1125899906842624)]
def law26_fr : T := law26_fr_b
/- parterre/flex.less -/
abbrev c_flex_less : Nat := 23
@[reducible] def flex_less_l0_b : T := .ite (cmp .lss (v 2) (.un .len (v 1)))
 (.ite (cmp .leq (n 0) (v 2))
  (.jump 0 [(add (v 2) (n 1)), (.bin (.max .i64) (n 0) (sub (v 3) (at_ 0 (v 1) (v 2))))])
  (.fail ""))
 (.ret [(v 3)])
def flex_less_l0 : T := flex_less_l0_b
@[reducible] def flex_less_b : T := .loop [(n 0), (v 0)] flex_less_l0
def flex_less : T := flex_less_b
/- parterre/fixed.size -/
abbrev c_fixed_size : Nat := 54
@[reducible] def fixed_size_b : T := .ite (cmp .lss (v 0) (n 0))
 (.ret [(.un (.neg .u64) (.un (.conv .u64) (v 0)))])
 (.ret [(.un (.conv .u64) (v 0))])
def fixed_size : T := fixed_size_b
/- math/bits.Mul64 -/
abbrev c_math_bits_Mul64 : Nat := 53
@[reducible] def math_bits_Mul64_b : T := .ret [(.bin (.ar .add .u64) (.bin (.ar .add .u64) (.bin (.ar .mul .u64) (.bin (.ar .shr .u64) (v 0) (.int .u64 32)) (.bin (.ar .shr .u64) (v 1) (.int .u64 32))) (.bin (.ar .shr .u64) (.bin (.ar .add .u64) (.bin (.ar .mul .u64) (.bin (.ar .shr .u64) (v 0) (.int .u64 32)) (.bin (.ar .and .u64) (v 1) (.int .u64 4294967295))) (.bin (.ar .shr .u64) (.bin (.ar .mul .u64) (.bin (.ar .and .u64) (v 0) (.int .u64 4294967295)) (.bin (.ar .and .u64) (v 1) (.int .u64 4294967295))) (.int .u64 32))) (.int .u64 32))) (.bin (.ar .shr .u64) (.bin (.ar .add .u64) (.bin (.ar .and .u64) (.bin (.ar .add .u64) (.bin (.ar .mul .u64) (.bin (.ar .shr .u64) (v 0) (.int .u64 32)) (.bin (.ar .and .u64) (v 1) (.int .u64 4294967295))) (.bin (.ar .shr .u64) (.bin (.ar .mul .u64) (.bin (.ar .and .u64) (v 0) (.int .u64 4294967295)) (.bin (.ar .and .u64) (v 1) (.int .u64 4294967295))) (.int .u64 32))) (.int .u64 4294967295)) (.bin (.ar .mul .u64) (.bin (.ar .and .u64) (v 0) (.int .u64 4294967295)) (.bin (.ar .shr .u64) (v 1) (.int .u64 32)))) (.int .u64 32))), (.bin (.ar .mul .u64) (v 0) (v 1))]
def math_bits_Mul64 : T := math_bits_Mul64_b
/- math/bits.Len64 -/
abbrev c_math_bits_Len64 : Nat := 62
@[reducible] def math_bits_Len64_j2_b : T := .ite (cmp .leq (n 0) (.un (.conv .u8) (v 6)))
 (.ite (cmp .lss (.un (.conv .u8) (v 6)) (n 256))
  (.ret [(add (v 5) (.un (.conv .i64) (.bin .byte (.str ⟨#[0, 1, 2, 2, 3, 3, 3, 3, 4, 4, 4, 4, 4, 4, 4, 4, 5, 5, 5, 5, 5, 5, 5, 5, 5, 5, 5, 5, 5, 5, 5, 5, 6, 6, 6, 6, 6, 6, 6, 6, 6, 6, 6, 6, 6, 6, 6, 6, 6, 6, 6, 6, 6, 6, 6, 6, 6, 6, 6, 6, 6, 6, 6, 6, 7, 7, 7, 7, 7, 7, 7, 7, 7, 7, 7, 7, 7, 7, 7, 7, 7, 7, 7, 7, 7, 7, 7, 7, 7, 7, 7, 7, 7, 7, 7, 7, 7, 7, 7, 7, 7, 7, 7, 7, 7, 7, 7, 7, 7, 7, 7, 7, 7, 7, 7, 7, 7, 7, 7, 7, 7, 7, 7, 7, 7, 7, 7, 7, 8, 8, 8, 8, 8, 8, 8, 8, 8, 8, 8, 8, 8, 8, 8, 8, 8, 8, 8, 8, 8, 8, 8, 8, 8, 8, 8, 8, 8, 8, 8, 8, 8, 8, 8, 8, 8, 8, 8, 8, 8, 8, 8, 8, 8, 8, 8, 8, 8, 8, 8, 8, 8, 8, 8, 8, 8, 8, 8, 8, 8, 8, 8, 8, 8, 8, 8, 8, 8, 8, 8, 8, 8, 8, 8, 8, 8, 8, 8, 8, 8, 8, 8, 8, 8, 8, 8, 8, 8, 8, 8, 8, 8, 8, 8, 8, 8, 8, 8, 8, 8, 8, 8, 8, 8, 8, 8, 8, 8, 8, 8, 8, 8, 8, 8, 8, 8, 8, 8, 8, 8, 8, 8, 8, 8, 8, 8, 8]⟩) (.un (.conv .u8) (v 6)))))])
  (.fail ""))
 (.fail "")
def math_bits_Len64_j2 : T := math_bits_Len64_j2_b
@[reducible] def math_bits_Len64_j1_b : T := .letj math_bits_Len64_j2 <|
 .ite (cmp .geq (v 4) (.int .u64 256))
 (.jump 0 [(add (v 3) (n 8)), (.bin (.ar .shr .u64) (v 4) (.int .u64 8))])
 (.jump 0 [(v 3), (v 4)])
def math_bits_Len64_j1 : T := math_bits_Len64_j1_b
@[reducible] def math_bits_Len64_j0_b : T := .letj math_bits_Len64_j1 <|
 .ite (cmp .geq (v 2) (.int .u64 65536))
 (.jump 0 [(add (v 1) (n 16)), (.bin (.ar .shr .u64) (v 2) (.int .u64 16))])
 (.jump 0 [(v 1), (v 2)])
def math_bits_Len64_j0 : T := math_bits_Len64_j0_b
@[reducible] def math_bits_Len64_b : T := .letj math_bits_Len64_j0 <|
 .ite (cmp .geq (v 0) (.int .u64 4294967296))
 (.jump 0 [(n 32), (.bin (.ar .shr .u64) (v 0) (.int .u64 32))])
 (.jump 0 [(n 0), (v 0)])
def math_bits_Len64 : T := math_bits_Len64_b
/- math/bits.LeadingZeros64 -/
abbrev c_math_bits_LeadingZeros64 : Nat := 61
@[reducible] def math_bits_LeadingZeros64_b : T := .call c_math_bits_Len64 [(v 0)] 1 <|
 .ret [(sub (n 64) (v 1))]
def math_bits_LeadingZeros64 : T := math_bits_LeadingZeros64_b
/- math/bits.Div64 -/
abbrev c_math_bits_Div64 : Nat := 55
@[reducible] def math_bits_Div64_j1_b : T := .ret [(.bin (.ar .add .u64) (.bin (.ar .mul .u64) (v 4) (.int .u64 4294967296)) (v 5)), (.bin (.ar .shr .u64) (.bin (.ar .sub .u64) (.bin (.ar .add .u64) (.bin (.ar .mul .u64) (.bin (.ar .sub .u64) (.bin (.ar .add .u64) (.bin (.ar .mul .u64) (.bin (.ar .or .u64) (.bin (.ar .shl .u64) (v 0) (.un (.conv .u64) (v 3))) (.bin (.ar .shr .u64) (v 1) (.bin (.ar .sub .u64) (.int .u64 64) (.un (.conv .u64) (v 3))))) (.int .u64 4294967296)) (.bin (.ar .shr .u64) (.bin (.ar .shl .u64) (v 1) (.un (.conv .u64) (v 3))) (.int .u64 32))) (.bin (.ar .mul .u64) (v 4) (.bin (.ar .shl .u64) (v 2) (.un (.conv .u64) (v 3))))) (.int .u64 4294967296)) (.bin (.ar .and .u64) (.bin (.ar .shl .u64) (v 1) (.un (.conv .u64) (v 3))) (.int .u64 4294967295))) (.bin (.ar .mul .u64) (v 5) (.bin (.ar .shl .u64) (v 2) (.un (.conv .u64) (v 3))))) (.un (.conv .u64) (v 3)))]
def math_bits_Div64_j1 : T := math_bits_Div64_j1_b
@[reducible] def math_bits_Div64_l2_b : T := .ite (.bin .or (cmp .geq (v 6) (.int .u64 4294967296)) (cmp .gtr (.bin (.ar .mul .u64) (v 6) (.bin (.ar .and .u64) (.bin (.ar .shl .u64) (v 2) (.un (.conv .u64) (v 3))) (.int .u64 4294967295))) (.bin (.ar .add .u64) (.bin (.ar .mul .u64) (.int .u64 4294967296) (v 5)) (.bin (.ar .and .u64) (.bin (.ar .shl .u64) (v 1) (.un (.conv .u64) (v 3))) (.int .u64 4294967295)))))
 (.ite (cmp .geq (.bin (.ar .add .u64) (v 5) (.bin (.ar .shr .u64) (.bin (.ar .shl .u64) (v 2) (.un (.conv .u64) (v 3))) (.int .u64 32))) (.int .u64 4294967296))
  (.jump 0 [(.bin (.ar .sub .u64) (v 6) (.int .u64 1))])
  (.jump 1 [(.bin (.ar .add .u64) (v 5) (.bin (.ar .shr .u64) (.bin (.ar .shl .u64) (v 2) (.un (.conv .u64) (v 3))) (.int .u64 32))), (.bin (.ar .sub .u64) (v 6) (.int .u64 1))]))
 (.jump 0 [(v 6)])
def math_bits_Div64_l2 : T := math_bits_Div64_l2_b
@[reducible] def math_bits_Div64_j0_b : T := .letj math_bits_Div64_j1 <|
 .loop [(.bin (.ar .sub .u64) (.bin (.ar .sub .u64) (.bin (.ar .add .u64) (.bin (.ar .mul .u64) (.bin (.ar .or .u64) (.bin (.ar .shl .u64) (v 0) (.un (.conv .u64) (v 3))) (.bin (.ar .shr .u64) (v 1) (.bin (.ar .sub .u64) (.int .u64 64) (.un (.conv .u64) (v 3))))) (.int .u64 4294967296)) (.bin (.ar .shr .u64) (.bin (.ar .shl .u64) (v 1) (.un (.conv .u64) (v 3))) (.int .u64 32))) (.bin (.ar .mul .u64) (v 4) (.bin (.ar .shl .u64) (v 2) (.un (.conv .u64) (v 3))))) (.bin (.ar .mul .u64) (.bin (.ar .quo .u64) (.bin (.ar .sub .u64) (.bin (.ar .add .u64) (.bin (.ar .mul .u64) (.bin (.ar .or .u64) (.bin (.ar .shl .u64) (v 0) (.un (.conv .u64) (v 3))) (.bin (.ar .shr .u64) (v 1) (.bin (.ar .sub .u64) (.int .u64 64) (.un (.conv .u64) (v 3))))) (.int .u64 4294967296)) (.bin (.ar .shr .u64) (.bin (.ar .shl .u64) (v 1) (.un (.conv .u64) (v 3))) (.int .u64 32))) (.bin (.ar .mul .u64) (v 4) (.bin (.ar .shl .u64) (v 2) (.un (.conv .u64) (v 3))))) (.bin (.ar .shr .u64) (.bin (.ar .shl .u64) (v 2) (.un (.conv .u64) (v 3))) (.int .u64 32))) (.bin (.ar .shr .u64) (.bin (.ar .shl .u64) (v 2) (.un (.conv .u64) (v 3))) (.int .u64 32)))), (.bin (.ar .quo .u64) (.bin (.ar .sub .u64) (.bin (.ar .add .u64) (.bin (.ar .mul .u64) (.bin (.ar .or .u64) (.bin (.ar .shl .u64) (v 0) (.un (.conv .u64) (v 3))) (.bin (.ar .shr .u64) (v 1) (.bin (.ar .sub .u64) (.int .u64 64) (.un (.conv .u64) (v 3))))) (.int .u64 4294967296)) (.bin (.ar .shr .u64) (.bin (.ar .shl .u64) (v 1) (.un (.conv .u64) (v 3))) (.int .u64 32))) (.bin (.ar .mul .u64) (v 4) (.bin (.ar .shl .u64) (v 2) (.un (.conv .u64) (v 3))))) (.bin (.ar .shr .u64) (.bin (.ar .shl .u64) (v 2) (.un (.conv .u64) (v 3))) (.int .u64 32)))] math_bits_Div64_l2
def math_bits_Div64_j0 : T := math_bits_Div64_j0_b
@[reducible] def math_bits_Div64_l3_b : T := .ite (.bin .or (cmp .geq (v 5) (.int .u64 4294967296)) (cmp .gtr (.bin (.ar .mul .u64) (v 5) (.bin (.ar .and .u64) (.bin (.ar .shl .u64) (v 2) (.un (.conv .u64) (v 3))) (.int .u64 4294967295))) (.bin (.ar .add .u64) (.bin (.ar .mul .u64) (.int .u64 4294967296) (v 4)) (.bin (.ar .shr .u64) (.bin (.ar .shl .u64) (v 1) (.un (.conv .u64) (v 3))) (.int .u64 32)))))
 (.ite (cmp .geq (.bin (.ar .add .u64) (v 4) (.bin (.ar .shr .u64) (.bin (.ar .shl .u64) (v 2) (.un (.conv .u64) (v 3))) (.int .u64 32))) (.int .u64 4294967296))
  (.jump 0 [(.bin (.ar .sub .u64) (v 5) (.int .u64 1))])
  (.jump 1 [(.bin (.ar .add .u64) (v 4) (.bin (.ar .shr .u64) (.bin (.ar .shl .u64) (v 2) (.un (.conv .u64) (v 3))) (.int .u64 32))), (.bin (.ar .sub .u64) (v 5) (.int .u64 1))]))
 (.jump 0 [(v 5)])
def math_bits_Div64_l3 : T := math_bits_Div64_l3_b
@[reducible] def math_bits_Div64_b : T := .ite (cmp .eql (v 2) (.int .u64 0))
 (.fail "")
 (.ite (cmp .leq (v 2) (v 0))
  (.fail "")
  (.ite (cmp .eql (v 0) (.int .u64 0))
   (.ite (cmp .neq (v 2) (.int .u64 0))
    (.ret [(.bin (.ar .quo .u64) (v 1) (v 2)), (.bin (.ar .rem .u64) (v 1) (v 2))])
    (.fail ""))
   (.call c_math_bits_LeadingZeros64 [(v 2)] 1 <|
    .ite (cmp .leq (.int .u64 0) (.un (.conv .u64) (v 3)))
    (.ite (cmp .leq (.int .u64 0) (.bin (.ar .sub .u64) (.int .u64 64) (.un (.conv .u64) (v 3))))
     (.ite (cmp .neq (.bin (.ar .shr .u64) (.bin (.ar .shl .u64) (v 2) (.un (.conv .u64) (v 3))) (.int .u64 32)) (.int .u64 0))
      (.letj math_bits_Div64_j0 <|
       .loop [(.bin (.ar .sub .u64) (.bin (.ar .or .u64) (.bin (.ar .shl .u64) (v 0) (.un (.conv .u64) (v 3))) (.bin (.ar .shr .u64) (v 1) (.bin (.ar .sub .u64) (.int .u64 64) (.un (.conv .u64) (v 3))))) (.bin (.ar .mul .u64) (.bin (.ar .quo .u64) (.bin (.ar .or .u64) (.bin (.ar .shl .u64) (v 0) (.un (.conv .u64) (v 3))) (.bin (.ar .shr .u64) (v 1) (.bin (.ar .sub .u64) (.int .u64 64) (.un (.conv .u64) (v 3))))) (.bin (.ar .shr .u64) (.bin (.ar .shl .u64) (v 2) (.un (.conv .u64) (v 3))) (.int .u64 32))) (.bin (.ar .shr .u64) (.bin (.ar .shl .u64) (v 2) (.un (.conv .u64) (v 3))) (.int .u64 32)))), (.bin (.ar .quo .u64) (.bin (.ar .or .u64) (.bin (.ar .shl .u64) (v 0) (.un (.conv .u64) (v 3))) (.bin (.ar .shr .u64) (v 1) (.bin (.ar .sub .u64) (.int .u64 64) (.un (.conv .u64) (v 3))))) (.bin (.ar .shr .u64) (.bin (.ar .shl .u64) (v 2) (.un (.conv .u64) (v 3))) (.int .u64 32)))] math_bits_Div64_l3)
      (.fail ""))
     (.fail ""))
    (.fail ""))))
def math_bits_Div64 : T := math_bits_Div64_b
/- parterre/fixed.MulDiv -/
abbrev c_fixed_MulDiv : Nat := 37
@[reducible] def fixed_MulDiv_b : T := .ite (cmp .eql (v 2) (n 0))
 (.ret [(n 0), (n 2)])
 (.call c_fixed_size [(v 0)] 1 <|
  .call c_fixed_size [(v 1)] 1 <|
  .call c_math_bits_Mul64 [(v 3), (v 4)] 2 <|
  .call c_fixed_size [(v 2)] 1 <|
  .ite (cmp .geq (v 5) (v 7))
  (.ret [(n 0), (n 10)])
  (.call c_math_bits_Div64 [(v 5), (v 6), (v 7)] 2 <|
   .ite (.bin .and (.un .not (.bin .beq (.un .not (.bin .beq (cmp .lss (v 0) (n 0)) (cmp .lss (v 1) (n 0)))) (cmp .lss (v 2) (n 0)))) (cmp .gtr (v 9) (.int .u64 0)))
   (.ite (cmp .geq (v 8) (.int .u64 9223372036854775808))
    (.ret [(n 0), (n 10)])
    (.ret [(.un (.conv .i64) (.un (.neg .u64) (.bin (.ar .add .u64) (v 8) (.int .u64 1)))), (n 0)]))
   (.ite (.bin .and (.un .not (.bin .beq (.un .not (.bin .beq (cmp .lss (v 0) (n 0)) (cmp .lss (v 1) (n 0)))) (cmp .lss (v 2) (n 0)))) (cmp .leq (v 8) (.int .u64 9223372036854775808)))
    (.ret [(.un (.conv .i64) (.un (.neg .u64) (v 8))), (n 0)])
    (.ite (cmp .geq (v 8) (.int .u64 9223372036854775808))
     (.ret [(n 0), (n 10)])
     (.ret [(.un (.conv .i64) (v 8)), (n 0)])))))
def fixed_MulDiv : T := fixed_MulDiv_b
/- (parterre/flex.share).part -/
abbrev c_flex_share_part : Nat := 24
@[reducible] def flex_share_part_b : T := .call c_fixed_MulDiv [(v 0), (v 3), (.bin (.max .i64) (v 1) (n 1000))] 2 <|
 .ret [(v 4)]
def flex_share_part : T := flex_share_part_b
/- parterre/flex.shared -/
abbrev c_flex_shared : Nat := 22
@[reducible] def flex_shared_j2_b : T := .jump 1 [(add (v 6) (n 1)), (v 10), (v 11), (v 12)]
def flex_shared_j2 : T := flex_shared_j2_b
@[reducible] def flex_shared_j4_b : T := .jump 2 [(add (v 10) (n 1)), (v 13), (v 14)]
def flex_shared_j4 : T := flex_shared_j4_b
@[reducible] def flex_shared_l3_b : T := .ite (cmp .lss (v 10) (.un .len (v 9)))
 (.letj flex_shared_j4 <|
  .ite (cmp .leq (n 0) (v 10))
  (.ite (cmp .leq (n 0) (at_ 0 (v 9) (v 10)))
   (.ite (cmp .lss (at_ 0 (v 9) (v 10)) (.un .len (v 0)))
    (.call c_flex_share_part [(v 7), (v 8), (v 9), (at_ 2 (v 0) (at_ 0 (v 9) (v 10)))] 1 <|
     .ite (cmp .gtr (at_ 5 (v 0) (at_ 0 (v 9) (v 10))) (v 13))
     (.ite (cmp .lss (at_ 0 (v 9) (v 10)) (.un .len (v 12)))
      (.jump 3 [(sub (v 11) (n 1)), (.tri .set (v 12) (at_ 0 (v 9) (v 10)) (.bin .cons (.bool true) .nilc))])
      (.fail ""))
     (.jump 3 [(v 11), (v 12)]))
    (.fail ""))
   (.fail ""))
  (.fail ""))
 (.ite (cmp .eql (v 11) (.un .len (v 9)))
  (.ret [(v 7), (v 8), (v 9)])
  (.jump 0 [(v 7), (v 8), (v 9), (v 12)]))
def flex_shared_l3 : T := flex_shared_l3_b
@[reducible] def flex_shared_l1_b : T := .ite (cmp .lss (v 6) (.un .len (v 0)))
 (.letj flex_shared_j2 <|
  .ite (cmp .leq (n 0) (v 6))
  (.ite (.bin .or (cmp .neq (at_ 1 (v 0) (v 6)) (n 5)) (cmp .lss (v 6) (.un .len (v 5))))
   (.ite (.bin .or (cmp .neq (at_ 1 (v 0) (v 6)) (n 5)) (.bin (.cell 0 (.bool)) (v 5) (v 6)))
    (.jump 2 [(.bin (.max .i64) (n 0) (sub (v 7) (at_ 5 (v 0) (v 6)))), (v 8), (v 9)])
    (.ite (cmp .leq (.bin .plus (.un .len (v 9)) (.un .len (.bin .snoc .nil (.bin .cons (v 6) .nilc)))) (n 4294967296))
     (.jump 2 [(v 7), (add (v 8) (at_ 2 (v 0) (v 6))), (.bin .snoc (v 9) (.bin .cons (v 6) .nilc))])
     (.fail "")))
   (.fail ""))
  (.fail ""))
 (.loop [(n 0), (.un .len (v 9)), (v 5)] flex_shared_l3)
def flex_shared_l1 : T := flex_shared_l1_b
@[reducible] def flex_shared_l0_b : T := .loop [(n 0), (v 1), (n 0), .nil] flex_shared_l1
def flex_shared_l0 : T := flex_shared_l0_b
@[reducible] def flex_shared_b : T := .ite (cmp .leq (.un .len (v 0)) (n 140737488355328))
 (.loop [(n 0), (n 0), .nil, (.bin .make (.bin .cons (.bool false) .nilc) (.un .len (v 0)))] flex_shared_l0)
 (.fail "")
def flex_shared : T := flex_shared_b
/- parterre/base.Raise -/
abbrev c_base_Raise : Nat := 47
@[reducible] def base_Raise_j0_b : T := .ret [(v 0), (v 1), (v 2), (v 3), (v 4), (v 5), (v 7)]
def base_Raise_j0 : T := base_Raise_j0_b
@[reducible] def base_Raise_b : T := .letj base_Raise_j0 <|
 .ite (cmp .lss (v 6) (v 5))
 (.jump 0 [(v 5)])
 (.jump 0 [(v 6)])
def base_Raise : T := base_Raise_b
/- parterre/fixed.Share -/
abbrev c_fixed_Share : Nat := 25
@[reducible] def fixed_Share_l1_b : T := .ite (cmp .lss (v 4) (.un .len (v 1)))
 (.ite (cmp .leq (n 0) (v 4))
  (.call c_fixed_MulDiv [(v 0), (add (v 6) (at_ 0 (v 1) (v 4))), (v 3)] 2 <|
   .ite (cmp .leq (.bin .plus (.un .len (v 7)) (.un .len (.bin .snoc .nil (.bin .cons (sub (v 8) (v 5)) .nilc)))) (n 4294967296))
   (.jump 1 [(add (v 4) (n 1)), (v 8), (add (v 6) (at_ 0 (v 1) (v 4))), (.bin .snoc (v 7) (.bin .cons (sub (v 8) (v 5)) .nilc))])
   (.fail ""))
  (.fail ""))
 (.ret [(v 7)])
def fixed_Share_l1 : T := fixed_Share_l1_b
@[reducible] def fixed_Share_l0_b : T := .ite (cmp .lss (v 2) (.un .len (v 1)))
 (.ite (cmp .leq (n 0) (v 2))
  (.ite (.bin .or (cmp .lss (at_ 0 (v 1) (v 2)) (n 0)) (cmp .gtr (at_ 0 (v 1) (v 2)) (n 1073741824)))
   (.ret [.nil])
   (.jump 0 [(add (v 2) (n 1)), (add (v 3) (at_ 0 (v 1) (v 2)))]))
  (.fail ""))
 (.ite (cmp .eql (v 3) (n 0))
  (.ret [.nil])
  (.loop [(n 0), (n 0), (n 0), .nil] fixed_Share_l1))
def fixed_Share_l0 : T := fixed_Share_l0_b
@[reducible] def fixed_Share_b : T := .ite (.bin .or (.bin .or (cmp .lss (v 0) (n 0)) (cmp .gtr (v 0) (n 68719476736))) (cmp .gtr (.un .len (v 1)) (n 65536)))
 (.ret [.nil])
 (.loop [(n 0), (n 0)] fixed_Share_l0)
def fixed_Share : T := fixed_Share_b
/- parterre/fixed.Is -/
abbrev c_fixed_Is : Nat := 40
@[reducible] def fixed_Is_b : T := .ret [(.bin .and (cmp .geq (v 0) (n (-68719476736))) (cmp .leq (v 0) (n 68719476736)))]
def fixed_Is : T := fixed_Is_b
/- parterre/base.Good$1 -/
abbrev c_base_Good_1 : Nat := 56
@[reducible] def base_Good_1_b : T := .ret [(.bin .and (cmp .geq (v 0) (v 1)) (cmp .leq (v 0) (v 2)))]
def base_Good_1 : T := base_Good_1_b
/- parterre/base.Good -/
abbrev c_base_Good : Nat := 39
@[reducible] def base_Good_j0_b : T := .ite (v 7)
 (.ret [(.bool false)])
 (.call c_base_Good_1 [(v 2), (n 0), (n 1073741824)] 1 <|
  .ite (.bin .or (.un .not (v 8)) (.bin .and (cmp .neq (v 1) (n 5)) (cmp .gtr (v 2) (n 0))))
  (.ret [(.bool false)])
  (.call c_base_Good_1 [(v 4), (n 0), (n 68719476736)] 1 <|
   .ite (.bin .or (.un .not (v 9)) (.bin .and (.un .not (v 3)) (cmp .gtr (v 4) (n 0))))
   (.ret [(.bool false)])
   (.ite (.bin .and (v 3) (.un .not (.bin .and (cmp .eql (v 0) (n 2)) (.bin .and (cmp .eql (v 1) (n 4)) (.bin .and (cmp .eql (v 2) (n 0)) (.bin .and (.bin .beq (v 3) (.bool true)) (.bin .and (cmp .eql (v 4) (v 4)) (.bin .and (cmp .eql (v 5) (v 5)) (cmp .eql (v 6) (v 6))))))))))
    (.ret [(.bool false)])
    (.call c_base_Good_1 [(v 5), (n 0), (n 1125899906842623)] 1 <|
     .ite (v 10)
     (.call c_base_Good_1 [(v 6), (v 5), (n 1125899906842624)] 1 <|
      .ret [(v 11)])
     (.ret [(.bool false)])))))
def base_Good_j0 : T := base_Good_j0_b
@[reducible] def base_Good_b : T := .letj base_Good_j0 <|
 .call c_base_Good_1 [(v 0), (n 1), (n 4)] 1 <|
 .ite (v 7)
 (.call c_base_Good_1 [(v 1), (n 1), (n 5)] 1 <|
  .jump 0 [(.un .not (v 8))])
 (.jump 0 [(.bool true)])
def base_Good : T := base_Good_b
/- parterre/flex.right$1 -/
abbrev c_flex_right_1 : Nat := 38
@[reducible] def flex_right_1_b : T := .call c_base_Good [(v 0), (v 1), (v 2), (v 3), (v 4), (v 5), (v 6)] 1 <|
 .ite (v 7)
 (.call c_fixed_Is [(v 5)] 1 <|
  .ret [(.un .not (v 8))])
 (.ret [(.bool true)])
def flex_right_1 : T := flex_right_1_b
/- parterre/flex.right -/
abbrev c_flex_right : Nat := 20
@[reducible] def flex_right_j0_b : T := .ret [(.un .not (cmp .geq (v 3) (n 0)))]
def flex_right_j0 : T := flex_right_j0_b
@[reducible] def flex_right_l1_b : T := .ite (cmp .lss (v 3) (.un .len (v 0)))
 (.ite (cmp .leq (n 0) (v 3))
  (.call c_flex_right_1 [(at_ 0 (v 0) (v 3)), (at_ 1 (v 0) (v 3)), (at_ 2 (v 0) (v 3)), (.bin (.cell 3 (.bool)) (v 0) (v 3)), (at_ 4 (v 0) (v 3)), (at_ 5 (v 0) (v 3)), (at_ 6 (v 0) (v 3))] 1 <|
   .ite (v 4)
   (.jump 0 [(v 3)])
   (.jump 1 [(add (v 3) (n 1))]))
  (.fail ""))
 (.jump 0 [(n (-1))])
def flex_right_l1 : T := flex_right_l1_b
@[reducible] def flex_right_b : T := .ite (cmp .geq (v 1) (n 0))
 (.call c_fixed_Is [(v 1)] 1 <|
  .ite (v 2)
  (.letj flex_right_j0 <|
   .loop [(n 0)] flex_right_l1)
  (.ret [(.bool false)]))
 (.ret [(.bool false)])
def flex_right : T := flex_right_b
/- parterre/intrinsic.within -/
abbrev c_intrinsic_within : Nat := 44
@[reducible] def intrinsic_within_b : T := .ite (cmp .geq (v 0) (n 0))
 (.call c_fixed_Is [(v 0)] 1 <|
  .ret [(v 1)])
 (.ret [(.bool false)])
def intrinsic_within : T := intrinsic_within_b
/- parterre/intrinsic.Good$2 -/
abbrev c_intrinsic_Good_2 : Nat := 43
@[reducible] def intrinsic_Good_2_b : T := .call c_intrinsic_within [(v 0)] 1 <|
 .ret [(.un .not (v 1))]
def intrinsic_Good_2 : T := intrinsic_Good_2_b
/- parterre/intrinsic.Good$1 -/
abbrev c_intrinsic_Good_1 : Nat := 42
@[reducible] def intrinsic_Good_1_b : T := .call c_base_Good [(v 0), (v 1), (v 2), (v 3), (v 4), (v 5), (v 6)] 1 <|
 .ret [(.un .not (v 7))]
def intrinsic_Good_1 : T := intrinsic_Good_1_b
/- parterre/intrinsic.Good -/
abbrev c_intrinsic_Good : Nat := 21
@[reducible] def intrinsic_Good_j2_b : T := .ite (v 6)
 (.ret [(.bool false)])
 (.jump 0 [(add (v 5) (n 1))])
def intrinsic_Good_j2 : T := intrinsic_Good_j2_b
@[reducible] def intrinsic_Good_l1_b : T := .ite (cmp .lss (v 5) (.un .len (v 2)))
 (.ite (cmp .leq (n 0) (v 5))
  (.letj intrinsic_Good_j2 <|
   .ite (.bin .or (.bin .or (cmp .lss (at_ 0 (v 2) (v 5)) (n 0)) (cmp .geq (at_ 0 (v 2) (v 5)) (at_ 1 (v 2) (v 5)))) (cmp .gtr (at_ 1 (v 2) (v 5)) (.un .len (v 0))))
   (.jump 1 [(.bool true)])
   (.call c_intrinsic_within [(at_ 2 (v 2) (v 5))] 1 <|
    .ite (v 6)
    (.call c_intrinsic_within [(at_ 3 (v 2) (v 5))] 1 <|
     .ite (v 7)
     (.call c_intrinsic_within [(at_ 4 (v 2) (v 5))] 1 <|
      .jump 1 [(.un .not (v 8))])
     (.jump 1 [(.bool true)]))
    (.jump 1 [(.bool true)])))
  (.fail ""))
 (.ret [(.bool true)])
def intrinsic_Good_l1 : T := intrinsic_Good_l1_b
@[reducible] def intrinsic_Good_j0_b : T := .ite (v 4)
 (.ret [(.bool false)])
 (.loop [(n 0)] intrinsic_Good_l1)
def intrinsic_Good_j0 : T := intrinsic_Good_j0_b
@[reducible] def intrinsic_Good_j4_b : T := .jump 0 [(cmp .geq (v 5) (n 0))]
def intrinsic_Good_j4 : T := intrinsic_Good_j4_b
@[reducible] def intrinsic_Good_l5_b : T := .ite (cmp .lss (v 5) (.un .len (v 1)))
 (.ite (cmp .leq (n 0) (v 5))
  (.call c_intrinsic_Good_2 [(at_ 0 (v 1) (v 5))] 1 <|
   .ite (v 6)
   (.jump 1 [(v 5)])
   (.jump 2 [(add (v 5) (n 1))]))
  (.fail ""))
 (.jump 1 [(n (-1))])
def intrinsic_Good_l5 : T := intrinsic_Good_l5_b
@[reducible] def intrinsic_Good_j3_b : T := .ite (cmp .geq (v 4) (n 0))
 (.jump 0 [(.bool true)])
 (.letj intrinsic_Good_j4 <|
  .loop [(n 0)] intrinsic_Good_l5)
def intrinsic_Good_j3 : T := intrinsic_Good_j3_b
@[reducible] def intrinsic_Good_l6_b : T := .ite (cmp .lss (v 4) (.un .len (v 0)))
 (.ite (cmp .leq (n 0) (v 4))
  (.call c_intrinsic_Good_1 [(at_ 0 (v 0) (v 4)), (at_ 1 (v 0) (v 4)), (at_ 2 (v 0) (v 4)), (.bin (.cell 3 (.bool)) (v 0) (v 4)), (at_ 4 (v 0) (v 4)), (at_ 5 (v 0) (v 4)), (at_ 6 (v 0) (v 4))] 1 <|
   .ite (v 5)
   (.jump 1 [(v 4)])
   (.jump 2 [(add (v 4) (n 1))]))
  (.fail ""))
 (.jump 1 [(n (-1))])
def intrinsic_Good_l6 : T := intrinsic_Good_l6_b
@[reducible] def intrinsic_Good_b : T := .letj intrinsic_Good_j0 <|
 .ite (.bin .or (.bin .or (.bin .or (cmp .neq (.un .len (v 1)) (.un .len (v 0))) (cmp .gtr (.un .len (v 2)) (n 4096))) (cmp .lss (v 3) (n 0))) (cmp .gtr (v 3) (n 2)))
 (.jump 0 [(.bool true)])
 (.letj intrinsic_Good_j3 <|
  .loop [(n 0)] intrinsic_Good_l6)
def intrinsic_Good : T := intrinsic_Good_b
/- parterre/flex.Fill -/
abbrev c_flex_Fill : Nat := 8
@[reducible] def flex_Fill_j4_b : T := .jump 1 [(add (v 12) (n 1)), (v 14)]
def flex_Fill_j4 : T := flex_Fill_j4_b
@[reducible] def flex_Fill_l3_b : T := .ite (cmp .lss (v 12) (.un .len (.bin .copy (.bin .make (.bin .cons (n 0) (.bin .cons (n 0) (.bin .cons (n 0) (.bin .cons (.bool false) (.bin .cons (n 0) (.bin .cons (n 0) (.bin .cons (n 0) .nilc))))))) (.un .len (v 0))) (v 0))))
 (.letj flex_Fill_j4 <|
  .ite (cmp .leq (n 0) (v 12))
  (.ite (cmp .lss (v 12) (.un .len (v 13)))
   (.ite (cmp .leq (n (-9223372036854775808)) (v 12))
    (.ite (cmp .leq (v 12) (n 9223372036854775807))
     (.ite (cmp .lss (v 12) (.un .len (.tri (.put 5) (v 13) (v 12) (.bin (.max .i64) (at_ 5 (v 13) (v 12)) (.bin .mget (v 11) (v 12))))))
      (.call c_base_Raise [(at_ 0 (.tri (.put 5) (v 13) (v 12) (.bin (.max .i64) (at_ 5 (v 13) (v 12)) (.bin .mget (v 11) (v 12)))) (v 12)), (at_ 1 (.tri (.put 5) (v 13) (v 12) (.bin (.max .i64) (at_ 5 (v 13) (v 12)) (.bin .mget (v 11) (v 12)))) (v 12)), (at_ 2 (.tri (.put 5) (v 13) (v 12) (.bin (.max .i64) (at_ 5 (v 13) (v 12)) (.bin .mget (v 11) (v 12)))) (v 12)), (.bin (.cell 3 (.bool)) (.tri (.put 5) (v 13) (v 12) (.bin (.max .i64) (at_ 5 (v 13) (v 12)) (.bin .mget (v 11) (v 12)))) (v 12)), (at_ 4 (.tri (.put 5) (v 13) (v 12) (.bin (.max .i64) (at_ 5 (v 13) (v 12)) (.bin .mget (v 11) (v 12)))) (v 12)), (at_ 5 (.tri (.put 5) (v 13) (v 12) (.bin (.max .i64) (at_ 5 (v 13) (v 12)) (.bin .mget (v 11) (v 12)))) (v 12)), (at_ 6 (.tri (.put 5) (v 13) (v 12) (.bin (.max .i64) (at_ 5 (v 13) (v 12)) (.bin .mget (v 11) (v 12)))) (v 12))] 7 <|
       .ite (.bin .and (cmp .eql (v 14) (at_ 0 (.tri (.put 5) (v 13) (v 12) (.bin (.max .i64) (at_ 5 (v 13) (v 12)) (.bin .mget (v 11) (v 12)))) (v 12))) (.bin .and (cmp .eql (v 15) (at_ 1 (.tri (.put 5) (v 13) (v 12) (.bin (.max .i64) (at_ 5 (v 13) (v 12)) (.bin .mget (v 11) (v 12)))) (v 12))) (.bin .and (cmp .eql (v 16) (at_ 2 (.tri (.put 5) (v 13) (v 12) (.bin (.max .i64) (at_ 5 (v 13) (v 12)) (.bin .mget (v 11) (v 12)))) (v 12))) (.bin .and (.bin .beq (v 17) (.bin (.cell 3 (.bool)) (.tri (.put 5) (v 13) (v 12) (.bin (.max .i64) (at_ 5 (v 13) (v 12)) (.bin .mget (v 11) (v 12)))) (v 12))) (.bin .and (cmp .eql (v 18) (at_ 4 (.tri (.put 5) (v 13) (v 12) (.bin (.max .i64) (at_ 5 (v 13) (v 12)) (.bin .mget (v 11) (v 12)))) (v 12))) (.bin .and (cmp .eql (v 19) (at_ 5 (.tri (.put 5) (v 13) (v 12) (.bin (.max .i64) (at_ 5 (v 13) (v 12)) (.bin .mget (v 11) (v 12)))) (v 12))) (cmp .eql (v 20) (at_ 6 (.tri (.put 5) (v 13) (v 12) (.bin (.max .i64) (at_ 5 (v 13) (v 12)) (.bin .mget (v 11) (v 12)))) (v 12)))))))))
       (.jump 2 [(.tri (.put 5) (v 13) (v 12) (.bin (.max .i64) (at_ 5 (v 13) (v 12)) (.bin .mget (v 11) (v 12))))])
       (.jump 2 [(.tri .set (.tri (.put 5) (v 13) (v 12) (.bin (.max .i64) (at_ 5 (v 13) (v 12)) (.bin .mget (v 11) (v 12)))) (v 12) (.bin .cons (v 14) (.bin .cons (v 15) (.bin .cons (v 16) (.bin .cons (v 17) (.bin .cons (v 18) (.bin .cons (v 19) (.bin .cons (v 20) .nilc))))))))]))
      (.fail ""))
     (.fail ""))
    (.fail ""))
   (.fail ""))
  (.fail ""))
 (.ret [(v 13)])
def flex_Fill_l3 : T := flex_Fill_l3_b
@[reducible] def flex_Fill_j2_b : T := .ite (cmp .leq (.un .len (v 0)) (n 2513169434916))
 (.loop [(n 0), (.bin .copy (.bin .make (.bin .cons (n 0) (.bin .cons (n 0) (.bin .cons (n 0) (.bin .cons (.bool false) (.bin .cons (n 0) (.bin .cons (n 0) (.bin .cons (n 0) .nilc))))))) (.un .len (v 0))) (v 0))] flex_Fill_l3)
 (.fail "")
def flex_Fill_j2 : T := flex_Fill_j2_b
@[reducible] def flex_Fill_l5_b : T := .ite (cmp .lss (v 12) (.un .len (v 11)))
 (.ite (cmp .leq (n 0) (v 12))
  (.ite (cmp .lss (v 12) (.un .len (v 7)))
   (.ite (cmp .leq (n (-9223372036854775808)) (at_ 0 (v 7) (v 12)))
    (.ite (cmp .leq (at_ 0 (v 7) (v 12)) (n 9223372036854775807))
     (.ite (cmp .leq (n (-9223372036854775808)) (at_ 0 (v 11) (v 12)))
      (.ite (cmp .leq (at_ 0 (v 11) (v 12)) (n 9223372036854775807))
       (.ite (cmp .leq (.un .len (v 13)) (n 4294967296))
        (.jump 2 [(add (v 12) (n 1)), (.bin .mput (v 13) (.bin .cons (at_ 0 (v 7) (v 12)) (.bin .cons (at_ 0 (v 11) (v 12)) .nilc)))])
        (.fail ""))
       (.fail ""))
      (.fail ""))
     (.fail ""))
    (.fail ""))
   (.fail ""))
  (.fail ""))
 (.jump 1 [(v 13)])
def flex_Fill_l5 : T := flex_Fill_l5_b
@[reducible] def flex_Fill_l1_b : T := .ite (cmp .lss (v 8) (.un .len (v 7)))
 (.ite (cmp .leq (n 0) (v 8))
  (.ite (cmp .leq (n 0) (at_ 0 (v 7) (v 8)))
   (.ite (cmp .lss (at_ 0 (v 7) (v 8)) (.un .len (v 0)))
    (.ite (cmp .lss (v 8) (.un .len (v 9)))
     (.call c_flex_share_part [(v 5), (v 6), (v 7), (at_ 2 (v 0) (at_ 0 (v 7) (v 8)))] 1 <|
      .ite (cmp .leq (n (-9223372036854775808)) (at_ 0 (v 7) (v 8)))
      (.ite (cmp .leq (at_ 0 (v 7) (v 8)) (n 9223372036854775807))
       (.ite (cmp .leq (n (-9223372036854775808)) (v 11))
        (.ite (cmp .leq (v 11) (n 9223372036854775807))
         (.ite (cmp .leq (.un .len (v 10)) (n 4294967296))
          (.jump 0 [(add (v 8) (n 1)), (.tri .set (v 9) (v 8) (.bin .cons (at_ 2 (v 0) (at_ 0 (v 7) (v 8))) .nilc)), (.bin .mput (v 10) (.bin .cons (at_ 0 (v 7) (v 8)) (.bin .cons (v 11) .nilc)))])
          (.fail ""))
         (.fail ""))
        (.fail ""))
       (.fail ""))
      (.fail ""))
     (.fail ""))
    (.fail ""))
   (.fail ""))
  (.fail ""))
 (.letj flex_Fill_j2 <|
  .ite (cmp .geq (v 6) (n 1000))
  (.call c_fixed_Share [(v 5), (v 9)] 1 <|
   .loop [(n 0), (v 10)] flex_Fill_l5)
  (.jump 1 [(v 10)]))
def flex_Fill_l1 : T := flex_Fill_l1_b
@[reducible] def flex_Fill_j0_b : T := .ite (v 3)
 (.ret [(v 0)])
 (.call c_flex_less [(v 2), (v 1)] 1 <|
  .call c_flex_shared [(v 0), (v 4)] 3 <|
  .ite (cmp .leq (.un .len (v 7)) (n 17592186044416))
  (.loop [(n 0), (.bin .make (.bin .cons (n 0) .nilc) (.un .len (v 7))), .nil] flex_Fill_l1)
  (.fail ""))
def flex_Fill_j0 : T := flex_Fill_j0_b
@[reducible] def flex_Fill_b : T := .letj flex_Fill_j0 <|
 .call c_flex_right [(v 0), (v 2)] 1 <|
 .ite (v 3)
 (.call c_intrinsic_Good [(v 0), (v 1), .nil, (n 0)] 1 <|
  .jump 0 [(.un .not (v 4))])
 (.jump 0 [(.bool true)])
def flex_Fill : T := flex_Fill_b
/- parterre/parterrelaw26.bases -/
abbrev c_law26_bases : Nat := 19
@[reducible] def law26_bases_l0_b : T := .ite (cmp .lss (v 1) (.un .len (v 0)))
 (.ite (cmp .leq (n 0) (v 1))
  (.ite (cmp .leq (.bin .plus (.un .len (v 2)) (.un .len (.bin .snoc .nil (.bin .cons (at_ 5 (v 0) (v 1)) .nilc)))) (n 4294967296))
   (.jump 0 [(add (v 1) (n 1)), (.bin .snoc (v 2) (.bin .cons (at_ 5 (v 0) (v 1)) .nilc))])
   (.fail ""))
  (.fail ""))
 (.ret [(v 2)])
def law26_bases_l0 : T := law26_bases_l0_b
@[reducible] def law26_bases_b : T := .loop [(n 0), .nil] law26_bases_l0
def law26_bases : T := law26_bases_b
/- parterre/parterreref01.Ints -/
abbrev c_ref01_Ints : Nat := 18
@[reducible] def ref01_Ints_l0_b : T := .ite (cmp .lss (v 2) (.un .len (v 0)))
 (.ite (cmp .leq (n 0) (v 2))
  (.ite (cmp .lss (v 2) (.un .len (v 1)))
   (.ite (cmp .neq (at_ 0 (v 0) (v 2)) (at_ 0 (v 1) (v 2)))
    (.ret [(.bool false)])
    (.jump 0 [(add (v 2) (n 1))]))
   (.fail ""))
  (.fail ""))
 (.ret [(.bool true)])
def ref01_Ints_l0 : T := ref01_Ints_l0_b
@[reducible] def ref01_Ints_b : T := .ite (cmp .neq (.un .len (v 0)) (.un .len (v 1)))
 (.ret [(.bool false)])
 (.loop [(n 0)] ref01_Ints_l0)
def ref01_Ints : T := ref01_Ints_b
/- parterre/parterrelaw26.lives -/
abbrev c_law26_lives : Nat := 7
@[reducible] def law26_lives_b : T := .call c_law26_fr [(n 1000), (n 0)] 7 <|
 .call c_law26_fr [(n 3000), (n 0)] 7 <|
 .call c_flex_Fill [(.bin .snoc (.bin .snoc (.bin .snoc .nil (.bin .cons (n 1) (.bin .cons (n 1) (.bin .cons (n 0) (.bin .cons (.bool false) (.bin .cons (n 0) (.bin .cons (n 10) (.bin .cons (n 10) .nilc)))))))) (.bin .cons (v 0) (.bin .cons (v 1) (.bin .cons (v 2) (.bin .cons (v 3) (.bin .cons (v 4) (.bin .cons (v 5) (.bin .cons (v 6) .nilc)))))))) (.bin .cons (v 7) (.bin .cons (v 8) (.bin .cons (v 9) (.bin .cons (v 10) (.bin .cons (v 11) (.bin .cons (v 12) (.bin .cons (v 13) .nilc)))))))), (.bin .snoc (.bin .snoc (.bin .snoc .nil (.bin .cons (n 0) .nilc)) (.bin .cons (n 0) .nilc)) (.bin .cons (n 0) .nilc)), (n 50)] 1 <|
 .call c_law26_fr [(n 1000), (n 30)] 7 <|
 .call c_law26_fr [(n 1000), (n 0)] 7 <|
 .call c_flex_Fill [(.bin .snoc (.bin .snoc .nil (.bin .cons (v 15) (.bin .cons (v 16) (.bin .cons (v 17) (.bin .cons (v 18) (.bin .cons (v 19) (.bin .cons (v 20) (.bin .cons (v 21) .nilc)))))))) (.bin .cons (v 22) (.bin .cons (v 23) (.bin .cons (v 24) (.bin .cons (v 25) (.bin .cons (v 26) (.bin .cons (v 27) (.bin .cons (v 28) .nilc)))))))), (.bin .snoc (.bin .snoc .nil (.bin .cons (n 0) .nilc)) (.bin .cons (n 0) .nilc)), (n 50)] 1 <|
 .call c_law26_bases [(v 14)] 1 <|
 .call c_ref01_Ints [(v 30), (.bin .snoc (.bin .snoc (.bin .snoc .nil (.bin .cons (n 10) .nilc)) (.bin .cons (n 10) .nilc)) (.bin .cons (n 30) .nilc))] 1 <|
 .ite (v 31)
 (.call c_law26_bases [(v 29)] 1 <|
  .call c_ref01_Ints [(v 32), (.bin .snoc (.bin .snoc .nil (.bin .cons (n 30) .nilc)) (.bin .cons (n 20) .nilc))] 1 <|
  .ret [(v 33)])
 (.ret [(.bool false)])
def law26_lives : T := law26_lives_b
/- parterre/flex.up -/
abbrev c_flex_up : Nat := 27
@[reducible] def flex_up_b : T := .call c_fixed_MulDiv [(.un (.neg .i64) (v 0)), (v 1), (v 2)] 2 <|
 .ret [(.un (.neg .i64) (v 3))]
def flex_up : T := flex_up_b
/- parterre/flex.Unit -/
abbrev c_flex_Unit : Nat := 9
@[reducible] def flex_Unit_b : T := .call c_flex_right [(v 0), (v 1)] 1 <|
 .ite (v 2)
 (.call c_flex_shared [(v 0), (v 1)] 3 <|
  .ite (cmp .eql (.un .len (v 5)) (n 0))
  (.ret [(n 0)])
  (.call c_flex_up [(v 3), (n 1000), (.bin (.max .i64) (v 4) (n 1000))] 1 <|
   .ret [(v 6)]))
 (.ret [(n 0)])
def flex_Unit : T := flex_Unit_b
/- parterre/parterreref22.Good -/
abbrev c_ref22_Good : Nat := 15
@[reducible] def ref22_Good_b : T := .ite (.bin .or (.bin .or (.bin .or (cmp .lss (v 0) (n 1)) (cmp .gtr (v 0) (n 4))) (cmp .lss (v 1) (n 1))) (cmp .gtr (v 1) (n 5)))
 (.ret [(.bool false)])
 (.ite (.bin .or (.bin .or (cmp .lss (v 2) (n 0)) (cmp .gtr (v 2) (n 1073741824))) (.bin .and (cmp .neq (v 1) (n 5)) (cmp .neq (v 2) (n 0))))
  (.ret [(.bool false)])
  (.ite (.bin .or (.bin .or (.bin .or (cmp .lss (v 4) (n 0)) (cmp .gtr (v 4) (n 68719476736))) (.bin .and (.un .not (v 3)) (cmp .neq (v 4) (n 0)))) (.bin .and (v 3) (.bin .or (cmp .neq (v 0) (n 2)) (cmp .neq (v 1) (n 4)))))
   (.ret [(.bool false)])
   (.ret [(.bin .and (.bin .and (.bin .and (cmp .geq (v 5) (n 0)) (cmp .lss (v 5) (n 1125899906842624))) (cmp .geq (v 6) (v 5))) (cmp .leq (v 6) (n 1125899906842624)))])))
def ref22_Good : T := ref22_Good_b
/- parterre/parterreref01.Is -/
abbrev c_ref01_Is : Nat := 48
@[reducible] def ref01_Is_b : T := .ret [(.bin .and (cmp .geq (v 0) (n (-68719476736))) (cmp .leq (v 0) (n 68719476736)))]
def ref01_Is : T := ref01_Is_b
/- parterre/parterreref26.right -/
abbrev c_ref26_right : Nat := 28
@[reducible] def ref26_right_j1_b : T := .ite (v 3)
 (.ret [(.bool false)])
 (.jump 0 [(add (v 2) (n 1))])
def ref26_right_j1 : T := ref26_right_j1_b
@[reducible] def ref26_right_l0_b : T := .ite (cmp .lss (v 2) (.un .len (v 0)))
 (.letj ref26_right_j1 <|
  .ite (cmp .leq (n 0) (v 2))
  (.call c_ref22_Good [(at_ 0 (v 0) (v 2)), (at_ 1 (v 0) (v 2)), (at_ 2 (v 0) (v 2)), (.bin (.cell 3 (.bool)) (v 0) (v 2)), (at_ 4 (v 0) (v 2)), (at_ 5 (v 0) (v 2)), (at_ 6 (v 0) (v 2))] 1 <|
   .ite (v 3)
   (.call c_ref01_Is [(at_ 5 (v 0) (v 2))] 1 <|
    .jump 1 [(.un .not (v 4))])
   (.jump 1 [(.bool true)]))
  (.fail ""))
 (.ret [(.bin .and (cmp .geq (v 1) (n 0)) (cmp .leq (v 1) (n 68719476736)))])
def ref26_right_l0 : T := ref26_right_l0_b
@[reducible] def ref26_right_b : T := .loop [(n 0)] ref26_right_l0
def ref26_right : T := ref26_right_b
/- parterre/parterreref26.flexible -/
abbrev c_ref26_flexible : Nat := 33
@[reducible] def ref26_flexible_b : T := .ret [(cmp .eql (v 1) (n 5))]
def ref26_flexible : T := ref26_flexible_b
/- parterre/parterreref26.sum -/
abbrev c_ref26_sum : Nat := 30
@[reducible] def ref26_sum_j1_b : T := .jump 0 [(add (v 2) (n 1)), (v 5), (v 6)]
def ref26_sum_j1 : T := ref26_sum_j1_b
@[reducible] def ref26_sum_l0_b : T := .ite (cmp .lss (v 2) (.un .len (v 0)))
 (.letj ref26_sum_j1 <|
  .ite (cmp .leq (n 0) (v 2))
  (.call c_ref26_flexible [(at_ 0 (v 0) (v 2)), (at_ 1 (v 0) (v 2)), (at_ 2 (v 0) (v 2)), (.bin (.cell 3 (.bool)) (v 0) (v 2)), (at_ 4 (v 0) (v 2)), (at_ 5 (v 0) (v 2)), (at_ 6 (v 0) (v 2))] 1 <|
   .ite (.bin .or (.un .not (v 5)) (cmp .lss (v 2) (.un .len (v 1))))
   (.ite (.bin .and (v 5) (.un .not (.bin (.cell 0 (.bool)) (v 1) (v 2))))
    (.jump 1 [(.bool true), (add (v 4) (at_ 2 (v 0) (v 2)))])
    (.jump 1 [(v 3), (v 4)]))
   (.fail ""))
  (.fail ""))
 (.ret [(v 4), (v 3)])
def ref26_sum_l0 : T := ref26_sum_l0_b
@[reducible] def ref26_sum_b : T := .loop [(n 0), (.bool false), (n 0)] ref26_sum_l0
def ref26_sum : T := ref26_sum_b
/- parterre/parterreref26.left -/
abbrev c_ref26_left : Nat := 32
@[reducible] def ref26_left_j1_b : T := .jump 0 [(add (v 3) (n 1)), (v 5)]
def ref26_left_j1 : T := ref26_left_j1_b
@[reducible] def ref26_left_l0_b : T := .ite (cmp .lss (v 3) (.un .len (v 0)))
 (.letj ref26_left_j1 <|
  .ite (cmp .leq (n 0) (v 3))
  (.call c_ref26_flexible [(at_ 0 (v 0) (v 3)), (at_ 1 (v 0) (v 3)), (at_ 2 (v 0) (v 3)), (.bin (.cell 3 (.bool)) (v 0) (v 3)), (at_ 4 (v 0) (v 3)), (at_ 5 (v 0) (v 3)), (at_ 6 (v 0) (v 3))] 1 <|
   .ite (.bin .or (.un .not (v 5)) (cmp .lss (v 3) (.un .len (v 1))))
   (.ite (.bin .or (.un .not (v 5)) (.bin (.cell 0 (.bool)) (v 1) (v 3)))
    (.jump 1 [(.bin (.max .i64) (n 0) (sub (v 4) (at_ 5 (v 0) (v 3))))])
    (.jump 1 [(v 4)]))
   (.fail ""))
  (.fail ""))
 (.ret [(v 4)])
def ref26_left_l0 : T := ref26_left_l0_b
@[reducible] def ref26_left_b : T := .loop [(n 0), (v 2)] ref26_left_l0
def ref26_left : T := ref26_left_b
/- parterre/parterreref01.size -/
abbrev c_ref01_size : Nat := 51
@[reducible] def ref01_size_b : T := .ite (cmp .lss (v 0) (n 0))
 (.ret [(.bin (.ar .sub .u64) (.int .u64 0) (.un (.conv .u64) (v 0)))])
 (.ret [(.un (.conv .u64) (v 0))])
def ref01_size : T := ref01_size_b
/- (parterre/parterreref01.Wide).twice -/
abbrev c_ref01_Wide_twice : Nat := 60
@[reducible] def ref01_Wide_twice_b : T := .ret [(.bin (.ar .add .u64) (.bin (.ar .mul .u64) (.int .u64 2) (v 0)) (.bin (.ar .quo .u64) (v 1) (.int .u64 9223372036854775808))), (.bin (.ar .add .u64) (.bin (.ar .mul .u64) (.int .u64 2) (v 1)) (v 2))]
def ref01_Wide_twice : T := ref01_Wide_twice_b
/- (parterre/parterreref01.Wide).plus -/
abbrev c_ref01_Wide_plus : Nat := 52
@[reducible] def ref01_Wide_plus_b : T := .ite (cmp .lss (.bin (.ar .add .u64) (v 1) (v 2)) (v 2))
 (.ret [(.bin (.ar .add .u64) (v 0) (.int .u64 1)), (.bin (.ar .add .u64) (v 1) (v 2))])
 (.ret [(v 0), (.bin (.ar .add .u64) (v 1) (v 2))])
def ref01_Wide_plus : T := ref01_Wide_plus_b
/- parterre/parterreref01.product -/
abbrev c_ref01_product : Nat := 50
@[reducible] def ref01_product_j1_b : T := .jump 0 [(add (v 2) (n 1)), (.bin (.ar .quo .u64) (v 3) (.int .u64 2)), (v 8), (v 9)]
def ref01_product_j1 : T := ref01_product_j1_b
@[reducible] def ref01_product_l0_b : T := .ite (cmp .lss (v 2) (n 64))
 (.call c_ref01_Wide_twice [(v 4), (v 5), (.int .u64 0)] 2 <|
  .letj ref01_product_j1 <|
  .ite (cmp .neq (v 3) (.int .u64 0))
  (.ite (cmp .eql (.bin (.ar .rem .u64) (.bin (.ar .quo .u64) (v 1) (v 3)) (.int .u64 2)) (.int .u64 1))
   (.call c_ref01_Wide_plus [(v 6), (v 7), (v 0)] 2 <|
    .jump 1 [(v 8), (v 9)])
   (.jump 1 [(v 6), (v 7)]))
  (.fail ""))
 (.ret [(v 4), (v 5)])
def ref01_product_l0 : T := ref01_product_l0_b
@[reducible] def ref01_product_b : T := .loop [(n 0), (.int .u64 9223372036854775808), (.int .u64 0), (.int .u64 0)] ref01_product_l0
def ref01_product : T := ref01_product_b
/- parterre/parterreref01.quotient -/
abbrev c_ref01_quotient : Nat := 49
@[reducible] def ref01_quotient_j3_b : T := .call c_ref01_Wide_twice [(v 4), (v 5), (v 14)] 2 <|
 .jump 0 [(sub (v 3) (n 1)), (v 17), (v 18), (v 15), (v 16)]
def ref01_quotient_j3 : T := ref01_quotient_j3_b
@[reducible] def ref01_quotient_l2_b : T := .ite (cmp .lss (v 10) (v 8))
 (.jump 1 [(add (v 10) (n 1)), (.bin (.ar .quo .u64) (v 11) (.int .u64 2))])
 (.call c_ref01_Wide_twice [(v 6), (v 7), (.bin (.ar .rem .u64) (v 11) (.int .u64 2))] 2 <|
  .letj ref01_quotient_j3 <|
  .ite (.bin .or (cmp .gtr (v 12) (.int .u64 0)) (cmp .geq (v 13) (v 2)))
  (.jump 2 [(.int .u64 1), (.int .u64 0), (.bin (.ar .sub .u64) (v 13) (v 2))])
  (.jump 2 [(.int .u64 0), (v 12), (v 13)]))
def ref01_quotient_l2 : T := ref01_quotient_l2_b
@[reducible] def ref01_quotient_j1_b : T := .loop [(n 0), (v 9)] ref01_quotient_l2
def ref01_quotient_j1 : T := ref01_quotient_j1_b
@[reducible] def ref01_quotient_l0_b : T := .ite (cmp .geq (v 3) (n 0))
 (.letj ref01_quotient_j1 <|
  .ite (cmp .lss (v 3) (n 64))
  (.jump 1 [(v 3), (v 1)])
  (.jump 1 [(sub (v 3) (n 64)), (v 0)]))
 (.ret [(v 4), (v 5), (v 7)])
def ref01_quotient_l0 : T := ref01_quotient_l0_b
@[reducible] def ref01_quotient_b : T := .loop [(n 127), (.int .u64 0), (.int .u64 0), (.int .u64 0), (.int .u64 0)] ref01_quotient_l0
def ref01_quotient : T := ref01_quotient_b
/- parterre/parterreref01.MulDiv -/
abbrev c_ref01_MulDiv : Nat := 35
@[reducible] def ref01_MulDiv_j0_b : T := .ite (.bin .or (cmp .gtr (v 11) (.int .u64 0)) (.bin .and (cmp .gtr (v 12) (.int .u64 9223372036854775807)) (.un .not (.bin .and (.bin .and (.un .not (.bin .beq (.un .not (.bin .beq (cmp .lss (v 0) (n 0)) (cmp .lss (v 1) (n 0)))) (cmp .lss (v 2) (n 0)))) (.bin .or (.un .not (.bin .and (cmp .eql (v 8) (.int .u64 0)) (cmp .eql (v 9) (.int .u64 0)))) (cmp .gtr (v 10) (.int .u64 0)))) (cmp .eql (v 12) (.int .u64 9223372036854775808))))))
 (.ret [(n 0), (n 10)])
 (.ite (.bin .and (.un .not (.bin .beq (.un .not (.bin .beq (cmp .lss (v 0) (n 0)) (cmp .lss (v 1) (n 0)))) (cmp .lss (v 2) (n 0)))) (.bin .or (.un .not (.bin .and (cmp .eql (v 8) (.int .u64 0)) (cmp .eql (v 9) (.int .u64 0)))) (cmp .gtr (v 10) (.int .u64 0))))
  (.ret [(.un (.conv .i64) (.bin (.ar .sub .u64) (.int .u64 0) (v 12))), (n 0)])
  (.ret [(.un (.conv .i64) (v 12)), (n 0)]))
def ref01_MulDiv_j0 : T := ref01_MulDiv_j0_b
@[reducible] def ref01_MulDiv_b : T := .ite (cmp .eql (v 2) (n 0))
 (.ret [(n 0), (n 2)])
 (.call c_ref01_size [(v 0)] 1 <|
  .call c_ref01_size [(v 1)] 1 <|
  .call c_ref01_product [(v 3), (v 4)] 2 <|
  .call c_ref01_size [(v 2)] 1 <|
  .call c_ref01_quotient [(v 5), (v 6), (v 7)] 3 <|
  .letj ref01_MulDiv_j0 <|
  .ite (.bin .and (.bin .and (.un .not (.bin .beq (.un .not (.bin .beq (cmp .lss (v 0) (n 0)) (cmp .lss (v 1) (n 0)))) (cmp .lss (v 2) (n 0)))) (.bin .or (.un .not (.bin .and (cmp .eql (v 8) (.int .u64 0)) (cmp .eql (v 9) (.int .u64 0)))) (cmp .gtr (v 10) (.int .u64 0)))) (cmp .gtr (v 10) (.int .u64 0)))
  (.call c_ref01_Wide_plus [(v 8), (v 9), (.int .u64 1)] 2 <|
   .jump 0 [(v 11), (v 12)])
  (.jump 0 [(v 8), (v 9)]))
def ref01_MulDiv : T := ref01_MulDiv_b
/- parterre/parterreref26.stiff -/
abbrev c_ref26_stiff : Nat := 29
@[reducible] def ref26_stiff_j2_b : T := .jump 1 [(add (v 7) (n 1)), (v 9)]
def ref26_stiff_j2 : T := ref26_stiff_j2_b
@[reducible] def ref26_stiff_l1_b : T := .ite (cmp .lss (v 7) (.un .len (v 0)))
 (.letj ref26_stiff_j2 <|
  .ite (cmp .leq (n 0) (v 7))
  (.call c_ref01_MulDiv [(v 6), (at_ 2 (v 0) (v 7)), (.bin (.max .i64) (v 4) (n 1000))] 2 <|
   .call c_ref26_flexible [(at_ 0 (v 0) (v 7)), (at_ 1 (v 0) (v 7)), (at_ 2 (v 0) (v 7)), (.bin (.cell 3 (.bool)) (v 0) (v 7)), (at_ 4 (v 0) (v 7)), (at_ 5 (v 0) (v 7)), (at_ 6 (v 0) (v 7))] 1 <|
   .ite (.bin .and (v 11) (cmp .gtr (at_ 5 (v 0) (v 7)) (v 9)))
   (.ite (cmp .lss (v 7) (.un .len (v 8)))
    (.jump 2 [(.tri .set (v 8) (v 7) (.bin .cons (.bool true) .nilc))])
    (.fail ""))
   (.jump 2 [(v 8)]))
  (.fail ""))
 (.jump 0 [(add (v 2) (n 1)), (v 8)])
def ref26_stiff_l1 : T := ref26_stiff_l1_b
@[reducible] def ref26_stiff_l0_b : T := .ite (cmp .leq (v 2) (.un .len (v 0)))
 (.call c_ref26_sum [(v 0), (v 3)] 2 <|
  .call c_ref26_left [(v 0), (v 3), (v 1)] 1 <|
  .ite (cmp .leq (.bin .plus (n 0) (.un .len (v 3))) (n 4294967296))
  (.loop [(n 0), (.bin .cat .nil (v 3))] ref26_stiff_l1)
  (.fail ""))
 (.ret [(v 3)])
def ref26_stiff_l0 : T := ref26_stiff_l0_b
@[reducible] def ref26_stiff_b : T := .ite (cmp .leq (.un .len (v 0)) (n 140737488355328))
 (.loop [(n 0), (.bin .make (.bin .cons (.bool false) .nilc) (.un .len (v 0)))] ref26_stiff_l0)
 (.fail "")
def ref26_stiff : T := ref26_stiff_b
/- parterre/parterreref26.up -/
abbrev c_ref26_up : Nat := 31
@[reducible] def ref26_up_b : T := .call c_ref01_MulDiv [(sub (n 0) (v 0)), (v 1), (v 2)] 2 <|
 .ret [(sub (n 0) (v 3))]
def ref26_up : T := ref26_up_b
/- parterre/parterreref26.Unit -/
abbrev c_ref26_Unit : Nat := 10
@[reducible] def ref26_Unit_b : T := .call c_ref26_right [(v 0), (v 1)] 1 <|
 .ite (v 2)
 (.call c_ref26_stiff [(v 0), (v 1)] 1 <|
  .call c_ref26_sum [(v 0), (v 3)] 2 <|
  .ite (v 5)
  (.call c_ref26_left [(v 0), (v 3), (v 1)] 1 <|
   .call c_ref26_up [(v 6), (n 1000), (.bin (.max .i64) (v 4) (n 1000))] 1 <|
   .ret [(v 7)])
  (.ret [(n 0)]))
 (.ret [(n 0)])
def ref26_Unit : T := ref26_Unit_b
/- parterre/parterreref01.Share -/
abbrev c_ref01_Share : Nat := 34
@[reducible] def ref01_Share_l1_b : T := .ite (cmp .lss (v 4) (.un .len (v 1)))
 (.ite (cmp .leq (n 0) (v 4))
  (.call c_ref01_MulDiv [(v 0), (add (v 6) (at_ 0 (v 1) (v 4))), (v 3)] 2 <|
   .ite (cmp .leq (.bin .plus (.un .len (v 7)) (.un .len (.bin .snoc .nil (.bin .cons (sub (v 8) (v 5)) .nilc)))) (n 4294967296))
   (.jump 1 [(add (v 4) (n 1)), (v 8), (add (v 6) (at_ 0 (v 1) (v 4))), (.bin .snoc (v 7) (.bin .cons (sub (v 8) (v 5)) .nilc))])
   (.fail ""))
  (.fail ""))
 (.ret [(v 7)])
def ref01_Share_l1 : T := ref01_Share_l1_b
@[reducible] def ref01_Share_l0_b : T := .ite (cmp .lss (v 2) (.un .len (v 1)))
 (.ite (cmp .leq (n 0) (v 2))
  (.ite (.bin .or (cmp .lss (at_ 0 (v 1) (v 2)) (n 0)) (cmp .gtr (at_ 0 (v 1) (v 2)) (n 1073741824)))
   (.ret [.nil])
   (.jump 0 [(add (v 2) (n 1)), (add (v 3) (at_ 0 (v 1) (v 2)))]))
  (.fail ""))
 (.ite (cmp .eql (v 3) (n 0))
  (.ret [.nil])
  (.loop [(n 0), (n 0), (n 0), .nil] ref01_Share_l1))
def ref01_Share_l0 : T := ref01_Share_l0_b
@[reducible] def ref01_Share_b : T := .ite (.bin .or (.bin .or (.bin .or (cmp .lss (v 0) (n 0)) (cmp .gtr (v 0) (n 68719476736))) (cmp .eql (.un .len (v 1)) (n 0))) (cmp .gtr (.un .len (v 1)) (n 65536)))
 (.ret [.nil])
 (.loop [(n 0), (n 0)] ref01_Share_l0)
def ref01_Share : T := ref01_Share_b
/- parterre/parterreref22.Raise -/
abbrev c_ref22_Raise : Nat := 36
@[reducible] def ref22_Raise_b : T := .ret [(v 0), (v 1), (v 2), (v 3), (v 4), (v 5), (.bin (.max .i64) (v 6) (v 5))]
def ref22_Raise : T := ref22_Raise_b
/- parterre/parterreref24.within -/
abbrev c_ref24_within : Nat := 16
@[reducible] def ref24_within_b : T := .ret [(.bin .and (cmp .geq (v 0) (n 0)) (cmp .leq (v 0) (n 68719476736)))]
def ref24_within : T := ref24_within_b
/- parterre/parterreref24.Good -/
abbrev c_ref24_Good : Nat := 6
@[reducible] def ref24_Good_j1_b : T := .ite (v 5)
 (.ret [(.bool false)])
 (.jump 0 [(add (v 4) (n 1))])
def ref24_Good_j1 : T := ref24_Good_j1_b
@[reducible] def ref24_Good_j3_b : T := .ite (v 6)
 (.ret [(.bool false)])
 (.jump 1 [(add (v 5) (n 1))])
def ref24_Good_j3 : T := ref24_Good_j3_b
@[reducible] def ref24_Good_l2_b : T := .ite (cmp .lss (v 5) (.un .len (v 2)))
 (.ite (cmp .leq (n 0) (v 5))
  (.letj ref24_Good_j3 <|
   .ite (.bin .or (.bin .or (cmp .lss (at_ 0 (v 2) (v 5)) (n 0)) (cmp .geq (at_ 0 (v 2) (v 5)) (at_ 1 (v 2) (v 5)))) (cmp .gtr (at_ 1 (v 2) (v 5)) (.un .len (v 0))))
   (.jump 2 [(.bool true)])
   (.call c_ref24_within [(at_ 2 (v 2) (v 5))] 1 <|
    .ite (v 6)
    (.call c_ref24_within [(at_ 3 (v 2) (v 5))] 1 <|
     .ite (v 7)
     (.call c_ref24_within [(at_ 4 (v 2) (v 5))] 1 <|
      .jump 2 [(.un .not (v 8))])
     (.jump 2 [(.bool true)]))
    (.jump 2 [(.bool true)])))
  (.fail ""))
 (.ret [(.bool true)])
def ref24_Good_l2 : T := ref24_Good_l2_b
@[reducible] def ref24_Good_l0_b : T := .ite (cmp .lss (v 4) (.un .len (v 0)))
 (.letj ref24_Good_j1 <|
  .ite (cmp .leq (n 0) (v 4))
  (.call c_ref22_Good [(at_ 0 (v 0) (v 4)), (at_ 1 (v 0) (v 4)), (at_ 2 (v 0) (v 4)), (.bin (.cell 3 (.bool)) (v 0) (v 4)), (at_ 4 (v 0) (v 4)), (at_ 5 (v 0) (v 4)), (at_ 6 (v 0) (v 4))] 1 <|
   .ite (.bin .or (.un .not (v 5)) (cmp .lss (v 4) (.un .len (v 1))))
   (.ite (v 5)
    (.call c_ref24_within [(at_ 0 (v 1) (v 4))] 1 <|
     .jump 1 [(.un .not (v 6))])
    (.jump 1 [(.bool true)]))
   (.fail ""))
  (.fail ""))
 (.loop [(n 0)] ref24_Good_l2)
def ref24_Good_l0 : T := ref24_Good_l0_b
@[reducible] def ref24_Good_b : T := .ite (.bin .or (.bin .or (.bin .or (cmp .neq (.un .len (v 1)) (.un .len (v 0))) (cmp .gtr (.un .len (v 2)) (n 4096))) (cmp .lss (v 3) (n 0))) (cmp .gtr (v 3) (n 2)))
 (.ret [(.bool false)])
 (.loop [(n 0)] ref24_Good_l0)
def ref24_Good : T := ref24_Good_b
/- parterre/parterreref26.Fill -/
abbrev c_ref26_Fill : Nat := 12
@[reducible] def ref26_Fill_j3_b : T := .ite (cmp .leq (.bin .plus (.un .len (v 11)) (.un .len (.bin .snoc .nil (.bin .cons (v 12) .nilc)))) (n 4294967296))
 (.jump 1 [(add (v 10) (n 1)), (.bin .snoc (v 11) (.bin .cons (v 12) .nilc))])
 (.fail "")
def ref26_Fill_j3 : T := ref26_Fill_j3_b
@[reducible] def ref26_Fill_j5_b : T := .call c_ref22_Raise [(at_ 0 (v 0) (v 13)), (at_ 1 (v 0) (v 13)), (at_ 2 (v 0) (v 13)), (.bin (.cell 3 (.bool)) (v 0) (v 13)), (at_ 4 (v 0) (v 13)), (v 15), (at_ 6 (v 0) (v 13))] 7 <|
 .ite (cmp .leq (.bin .plus (.un .len (v 14)) (.un .len (.bin .snoc .nil (.bin .cons (v 16) (.bin .cons (v 17) (.bin .cons (v 18) (.bin .cons (v 19) (.bin .cons (v 20) (.bin .cons (v 21) (.bin .cons (v 22) .nilc)))))))))) (n 4294967296))
 (.jump 2 [(add (v 13) (n 1)), (.bin .snoc (v 14) (.bin .cons (v 16) (.bin .cons (v 17) (.bin .cons (v 18) (.bin .cons (v 19) (.bin .cons (v 20) (.bin .cons (v 21) (.bin .cons (v 22) .nilc))))))))])
 (.fail "")
def ref26_Fill_j5 : T := ref26_Fill_j5_b
@[reducible] def ref26_Fill_j6_b : T := .jump 3 [(.bin (.max .i64) (at_ 5 (v 0) (v 13)) (v 18))]
def ref26_Fill_j6 : T := ref26_Fill_j6_b
@[reducible] def ref26_Fill_l4_b : T := .ite (cmp .lss (v 13) (.un .len (v 0)))
 (.ite (cmp .leq (n 0) (v 13))
  (.letj ref26_Fill_j5 <|
   .call c_ref26_flexible [(at_ 0 (v 0) (v 13)), (at_ 1 (v 0) (v 13)), (at_ 2 (v 0) (v 13)), (.bin (.cell 3 (.bool)) (v 0) (v 13)), (at_ 4 (v 0) (v 13)), (at_ 5 (v 0) (v 13)), (at_ 6 (v 0) (v 13))] 1 <|
   .ite (.bin .or (.un .not (v 15)) (cmp .lss (v 13) (.un .len (v 6))))
   (.ite (.bin .and (v 15) (.un .not (.bin (.cell 0 (.bool)) (v 6) (v 13))))
    (.call c_ref01_MulDiv [(v 9), (at_ 2 (v 0) (v 13)), (n 1000)] 2 <|
     .letj ref26_Fill_j6 <|
     .ite (cmp .geq (v 7) (n 1000))
     (.ite (cmp .lss (v 13) (.un .len (v 12)))
      (.jump 4 [(at_ 0 (v 12) (v 13))])
      (.fail ""))
     (.jump 4 [(v 16)]))
    (.jump 3 [(at_ 5 (v 0) (v 13))]))
   (.fail ""))
  (.fail ""))
 (.ret [(v 14)])
def ref26_Fill_l4 : T := ref26_Fill_l4_b
@[reducible] def ref26_Fill_l2_b : T := .ite (cmp .lss (v 10) (.un .len (v 0)))
 (.letj ref26_Fill_j3 <|
  .ite (cmp .leq (n 0) (v 10))
  (.call c_ref26_flexible [(at_ 0 (v 0) (v 10)), (at_ 1 (v 0) (v 10)), (at_ 2 (v 0) (v 10)), (.bin (.cell 3 (.bool)) (v 0) (v 10)), (at_ 4 (v 0) (v 10)), (at_ 5 (v 0) (v 10)), (at_ 6 (v 0) (v 10))] 1 <|
   .ite (.bin .or (.un .not (v 12)) (cmp .lss (v 10) (.un .len (v 6))))
   (.ite (.bin .and (v 12) (.un .not (.bin (.cell 0 (.bool)) (v 6) (v 10))))
    (.jump 2 [(at_ 2 (v 0) (v 10))])
    (.jump 2 [(n 0)]))
   (.fail ""))
  (.fail ""))
 (.call c_ref01_Share [(v 9), (v 11)] 1 <|
  .loop [(n 0), .nil] ref26_Fill_l4)
def ref26_Fill_l2 : T := ref26_Fill_l2_b
@[reducible] def ref26_Fill_l1_b : T := .ite (cmp .lss (v 4) (.un .len (v 1)))
 (.ite (cmp .leq (n 0) (v 4))
  (.jump 0 [(add (v 4) (n 1)), (.bin (.max .i64) (n 0) (sub (v 5) (at_ 0 (v 1) (v 4))))])
  (.fail ""))
 (.call c_ref26_stiff [(v 0), (v 5)] 1 <|
  .call c_ref26_sum [(v 0), (v 6)] 2 <|
  .call c_ref26_left [(v 0), (v 6), (v 5)] 1 <|
  .loop [(n 0), .nil] ref26_Fill_l2)
def ref26_Fill_l1 : T := ref26_Fill_l1_b
@[reducible] def ref26_Fill_j0_b : T := .ite (v 3)
 (.ret [(v 0)])
 (.loop [(n 0), (v 2)] ref26_Fill_l1)
def ref26_Fill_j0 : T := ref26_Fill_j0_b
@[reducible] def ref26_Fill_b : T := .letj ref26_Fill_j0 <|
 .call c_ref26_right [(v 0), (v 2)] 1 <|
 .ite (v 3)
 (.call c_ref24_Good [(v 0), (v 1), .nil, (n 0)] 1 <|
  .jump 0 [(.un .not (v 4))])
 (.jump 0 [(.bool true)])
def ref26_Fill : T := ref26_Fill_b
/- parterre/parterreref22.Same -/
abbrev c_ref22_Same : Nat := 11
@[reducible] def ref22_Same_l0_b : T := .ite (cmp .lss (v 2) (.un .len (v 0)))
 (.ite (cmp .leq (n 0) (v 2))
  (.ite (cmp .lss (v 2) (.un .len (v 1)))
   (.ite (.bin .and (cmp .eql (at_ 0 (v 0) (v 2)) (at_ 0 (v 1) (v 2))) (.bin .and (cmp .eql (at_ 1 (v 0) (v 2)) (at_ 1 (v 1) (v 2))) (.bin .and (cmp .eql (at_ 2 (v 0) (v 2)) (at_ 2 (v 1) (v 2))) (.bin .and (.bin .beq (.bin (.cell 3 (.bool)) (v 0) (v 2)) (.bin (.cell 3 (.bool)) (v 1) (v 2))) (.bin .and (cmp .eql (at_ 4 (v 0) (v 2)) (at_ 4 (v 1) (v 2))) (.bin .and (cmp .eql (at_ 5 (v 0) (v 2)) (at_ 5 (v 1) (v 2))) (cmp .eql (at_ 6 (v 0) (v 2)) (at_ 6 (v 1) (v 2)))))))))
    (.jump 0 [(add (v 2) (n 1))])
    (.ret [(.bool false)]))
   (.fail ""))
  (.fail ""))
 (.ret [(.bool true)])
def ref22_Same_l0 : T := ref22_Same_l0_b
@[reducible] def ref22_Same_b : T := .ite (cmp .neq (.un .len (v 0)) (.un .len (v 1)))
 (.ret [(.bool false)])
 (.loop [(n 0)] ref22_Same_l0)
def ref22_Same : T := ref22_Same_b
/- parterre/flex.Grow -/
abbrev c_flex_Grow : Nat := 13
@[reducible] def flex_Grow_j2_b : T := .jump 0 [(add (v 4) (n 1)), (v 6)]
def flex_Grow_j2 : T := flex_Grow_j2_b
@[reducible] def flex_Grow_j5_b : T := .jump 2 [(add (v 8) (n 1)), (v 10)]
def flex_Grow_j5 : T := flex_Grow_j5_b
@[reducible] def flex_Grow_j7_b : T := .jump 3 [(add (v 10) (n 1)), (v 12)]
def flex_Grow_j7 : T := flex_Grow_j7_b
@[reducible] def flex_Grow_l6_b : T := .ite (cmp .lss (v 10) (.un .len (.bin .copy (.bin .make (.bin .cons (n 0) (.bin .cons (n 0) (.bin .cons (n 0) (.bin .cons (.bool false) (.bin .cons (n 0) (.bin .cons (n 0) (.bin .cons (n 0) .nilc))))))) (.un .len (v 0))) (v 0))))
 (.letj flex_Grow_j7 <|
  .ite (cmp .leq (n 0) (v 10))
  (.ite (cmp .lss (v 10) (.un .len (v 11)))
   (.ite (cmp .leq (n (-9223372036854775808)) (v 10))
    (.ite (cmp .leq (v 10) (n 9223372036854775807))
     (.ite (cmp .lss (v 10) (.un .len (.tri (.put 5) (v 11) (v 10) (.bin (.max .i64) (at_ 5 (v 11) (v 10)) (.bin .mget (v 9) (v 10))))))
      (.call c_base_Raise [(at_ 0 (.tri (.put 5) (v 11) (v 10) (.bin (.max .i64) (at_ 5 (v 11) (v 10)) (.bin .mget (v 9) (v 10)))) (v 10)), (at_ 1 (.tri (.put 5) (v 11) (v 10) (.bin (.max .i64) (at_ 5 (v 11) (v 10)) (.bin .mget (v 9) (v 10)))) (v 10)), (at_ 2 (.tri (.put 5) (v 11) (v 10) (.bin (.max .i64) (at_ 5 (v 11) (v 10)) (.bin .mget (v 9) (v 10)))) (v 10)), (.bin (.cell 3 (.bool)) (.tri (.put 5) (v 11) (v 10) (.bin (.max .i64) (at_ 5 (v 11) (v 10)) (.bin .mget (v 9) (v 10)))) (v 10)), (at_ 4 (.tri (.put 5) (v 11) (v 10) (.bin (.max .i64) (at_ 5 (v 11) (v 10)) (.bin .mget (v 9) (v 10)))) (v 10)), (at_ 5 (.tri (.put 5) (v 11) (v 10) (.bin (.max .i64) (at_ 5 (v 11) (v 10)) (.bin .mget (v 9) (v 10)))) (v 10)), (at_ 6 (.tri (.put 5) (v 11) (v 10) (.bin (.max .i64) (at_ 5 (v 11) (v 10)) (.bin .mget (v 9) (v 10)))) (v 10))] 7 <|
       .ite (.bin .and (cmp .eql (v 12) (at_ 0 (.tri (.put 5) (v 11) (v 10) (.bin (.max .i64) (at_ 5 (v 11) (v 10)) (.bin .mget (v 9) (v 10)))) (v 10))) (.bin .and (cmp .eql (v 13) (at_ 1 (.tri (.put 5) (v 11) (v 10) (.bin (.max .i64) (at_ 5 (v 11) (v 10)) (.bin .mget (v 9) (v 10)))) (v 10))) (.bin .and (cmp .eql (v 14) (at_ 2 (.tri (.put 5) (v 11) (v 10) (.bin (.max .i64) (at_ 5 (v 11) (v 10)) (.bin .mget (v 9) (v 10)))) (v 10))) (.bin .and (.bin .beq (v 15) (.bin (.cell 3 (.bool)) (.tri (.put 5) (v 11) (v 10) (.bin (.max .i64) (at_ 5 (v 11) (v 10)) (.bin .mget (v 9) (v 10)))) (v 10))) (.bin .and (cmp .eql (v 16) (at_ 4 (.tri (.put 5) (v 11) (v 10) (.bin (.max .i64) (at_ 5 (v 11) (v 10)) (.bin .mget (v 9) (v 10)))) (v 10))) (.bin .and (cmp .eql (v 17) (at_ 5 (.tri (.put 5) (v 11) (v 10) (.bin (.max .i64) (at_ 5 (v 11) (v 10)) (.bin .mget (v 9) (v 10)))) (v 10))) (cmp .eql (v 18) (at_ 6 (.tri (.put 5) (v 11) (v 10) (.bin (.max .i64) (at_ 5 (v 11) (v 10)) (.bin .mget (v 9) (v 10)))) (v 10)))))))))
       (.jump 4 [(.tri (.put 5) (v 11) (v 10) (.bin (.max .i64) (at_ 5 (v 11) (v 10)) (.bin .mget (v 9) (v 10))))])
       (.jump 4 [(.tri .set (.tri (.put 5) (v 11) (v 10) (.bin (.max .i64) (at_ 5 (v 11) (v 10)) (.bin .mget (v 9) (v 10)))) (v 10) (.bin .cons (v 12) (.bin .cons (v 13) (.bin .cons (v 14) (.bin .cons (v 15) (.bin .cons (v 16) (.bin .cons (v 17) (.bin .cons (v 18) .nilc))))))))]))
      (.fail ""))
     (.fail ""))
    (.fail ""))
   (.fail ""))
  (.fail ""))
 (.ret [(v 11)])
def flex_Grow_l6 : T := flex_Grow_l6_b
@[reducible] def flex_Grow_l4_b : T := .ite (cmp .lss (v 8) (.un .len (v 0)))
 (.letj flex_Grow_j5 <|
  .ite (cmp .leq (n 0) (v 8))
  (.ite (cmp .eql (at_ 1 (v 0) (v 8)) (n 5))
   (.call c_fixed_MulDiv [(v 7), (at_ 2 (v 0) (v 8)), (n 1000)] 2 <|
    .ite (cmp .leq (n (-9223372036854775808)) (v 8))
    (.ite (cmp .leq (v 8) (n 9223372036854775807))
     (.ite (cmp .leq (n (-9223372036854775808)) (.bin (.min .i64) (v 10) (n 68719476736)))
      (.ite (cmp .leq (.bin (.min .i64) (v 10) (n 68719476736)) (n 9223372036854775807))
       (.ite (cmp .leq (.un .len (v 9)) (n 4294967296))
        (.jump 3 [(.bin .mput (v 9) (.bin .cons (v 8) (.bin .cons (.bin (.min .i64) (v 10) (n 68719476736)) .nilc)))])
        (.fail ""))
       (.fail ""))
      (.fail ""))
     (.fail ""))
    (.fail ""))
   (.jump 3 [(v 9)]))
  (.fail ""))
 (.ite (cmp .leq (.un .len (v 0)) (n 2513169434916))
  (.loop [(n 0), (.bin .copy (.bin .make (.bin .cons (n 0) (.bin .cons (n 0) (.bin .cons (n 0) (.bin .cons (.bool false) (.bin .cons (n 0) (.bin .cons (n 0) (.bin .cons (n 0) .nilc))))))) (.un .len (v 0))) (v 0))] flex_Grow_l6)
  (.fail ""))
def flex_Grow_l4 : T := flex_Grow_l4_b
@[reducible] def flex_Grow_l3_b : T := .ite (cmp .lss (v 6) (.un .len (v 2)))
 (.ite (cmp .leq (n 0) (v 6))
  (.ite (cmp .leq (n 0) (at_ 0 (v 2) (v 6)))
   (.ite (cmp .leq (at_ 0 (v 2) (v 6)) (at_ 1 (v 2) (v 6)))
    (.ite (cmp .leq (at_ 1 (v 2) (v 6)) (.un .len (v 0)))
     (.ite (cmp .leq (n 0) (add (at_ 0 (v 2) (v 6)) (n 1)))
      (.ite (cmp .leq (add (at_ 0 (v 2) (v 6)) (n 1)) (at_ 1 (v 2) (v 6)))
       (.ite (cmp .leq (at_ 1 (v 2) (v 6)) (.un .len (v 1)))
        (.call c_flex_less [(at_ 4 (v 2) (v 6)), (.tri .slice (v 1) (add (at_ 0 (v 2) (v 6)) (n 1)) (.bin .minus (at_ 1 (v 2) (v 6)) (add (at_ 0 (v 2) (v 6)) (n 1))))] 1 <|
         .call c_flex_Unit [(.tri .slice (v 0) (at_ 0 (v 2) (v 6)) (.bin .minus (at_ 1 (v 2) (v 6)) (at_ 0 (v 2) (v 6)))), (v 8)] 1 <|
         .jump 1 [(add (v 6) (n 1)), (.bin (.max .i64) (v 7) (v 9))])
        (.fail ""))
       (.fail ""))
      (.fail ""))
     (.fail ""))
    (.fail ""))
   (.fail ""))
  (.fail ""))
 (.loop [(n 0), .nil] flex_Grow_l4)
def flex_Grow_l3 : T := flex_Grow_l3_b
@[reducible] def flex_Grow_l1_b : T := .ite (cmp .lss (v 4) (.un .len (v 0)))
 (.letj flex_Grow_j2 <|
  .ite (cmp .leq (n 0) (v 4))
  (.ite (cmp .eql (at_ 1 (v 0) (v 4)) (n 5))
   (.call c_flex_up [(at_ 5 (v 0) (v 4)), (n 1000), (.bin (.max .i64) (at_ 2 (v 0) (v 4)) (n 1000))] 1 <|
    .jump 1 [(.bin (.max .i64) (v 5) (v 6))])
   (.jump 1 [(v 5)]))
  (.fail ""))
 (.loop [(n 0), (v 5)] flex_Grow_l3)
def flex_Grow_l1 : T := flex_Grow_l1_b
@[reducible] def flex_Grow_j0_b : T := .ite (v 3)
 (.ret [(v 0)])
 (.loop [(n 0), (n 0)] flex_Grow_l1)
def flex_Grow_j0 : T := flex_Grow_j0_b
@[reducible] def flex_Grow_b : T := .letj flex_Grow_j0 <|
 .call c_flex_right [(v 0), (n 0)] 1 <|
 .ite (v 3)
 (.call c_intrinsic_Good [(v 0), (v 1), (v 2), (n 0)] 1 <|
  .jump 0 [(.un .not (v 4))])
 (.jump 0 [(.bool true)])
def flex_Grow : T := flex_Grow_b
/- parterre/parterreref26.Grow -/
abbrev c_ref26_Grow : Nat := 14
@[reducible] def ref26_Grow_j2_b : T := .jump 0 [(add (v 4) (n 1)), (v 6)]
def ref26_Grow_j2 : T := ref26_Grow_j2_b
@[reducible] def ref26_Grow_l4_b : T := .ite (cmp .lss (v 8) (at_ 1 (v 2) (v 6)))
 (.ite (cmp .leq (n 0) (v 8))
  (.ite (cmp .lss (v 8) (.un .len (v 1)))
   (.jump 2 [(add (v 8) (n 1)), (.bin (.max .i64) (n 0) (sub (v 9) (at_ 0 (v 1) (v 8))))])
   (.fail ""))
  (.fail ""))
 (.ite (cmp .leq (n 0) (at_ 0 (v 2) (v 6)))
  (.ite (cmp .leq (at_ 0 (v 2) (v 6)) (at_ 1 (v 2) (v 6)))
   (.ite (cmp .leq (at_ 1 (v 2) (v 6)) (.un .len (v 0)))
    (.call c_ref26_Unit [(.tri .slice (v 0) (at_ 0 (v 2) (v 6)) (.bin .minus (at_ 1 (v 2) (v 6)) (at_ 0 (v 2) (v 6)))), (v 9)] 1 <|
     .jump 1 [(add (v 6) (n 1)), (.bin (.max .i64) (v 7) (v 10))])
    (.fail ""))
   (.fail ""))
  (.fail ""))
def ref26_Grow_l4 : T := ref26_Grow_l4_b
@[reducible] def ref26_Grow_j6_b : T := .call c_ref22_Raise [(at_ 0 (v 0) (v 8)), (at_ 1 (v 0) (v 8)), (at_ 2 (v 0) (v 8)), (.bin (.cell 3 (.bool)) (v 0) (v 8)), (at_ 4 (v 0) (v 8)), (v 10), (at_ 6 (v 0) (v 8))] 7 <|
 .ite (cmp .leq (.bin .plus (.un .len (v 9)) (.un .len (.bin .snoc .nil (.bin .cons (v 11) (.bin .cons (v 12) (.bin .cons (v 13) (.bin .cons (v 14) (.bin .cons (v 15) (.bin .cons (v 16) (.bin .cons (v 17) .nilc)))))))))) (n 4294967296))
 (.jump 2 [(add (v 8) (n 1)), (.bin .snoc (v 9) (.bin .cons (v 11) (.bin .cons (v 12) (.bin .cons (v 13) (.bin .cons (v 14) (.bin .cons (v 15) (.bin .cons (v 16) (.bin .cons (v 17) .nilc))))))))])
 (.fail "")
def ref26_Grow_j6 : T := ref26_Grow_j6_b
@[reducible] def ref26_Grow_l5_b : T := .ite (cmp .lss (v 8) (.un .len (v 0)))
 (.ite (cmp .leq (n 0) (v 8))
  (.letj ref26_Grow_j6 <|
   .call c_ref26_flexible [(at_ 0 (v 0) (v 8)), (at_ 1 (v 0) (v 8)), (at_ 2 (v 0) (v 8)), (.bin (.cell 3 (.bool)) (v 0) (v 8)), (at_ 4 (v 0) (v 8)), (at_ 5 (v 0) (v 8)), (at_ 6 (v 0) (v 8))] 1 <|
   .ite (v 10)
   (.call c_ref01_MulDiv [(v 7), (at_ 2 (v 0) (v 8)), (n 1000)] 2 <|
    .jump 3 [(.bin (.max .i64) (at_ 5 (v 0) (v 8)) (.bin (.min .i64) (v 11) (n 68719476736)))])
   (.jump 3 [(at_ 5 (v 0) (v 8))]))
  (.fail ""))
 (.ret [(v 9)])
def ref26_Grow_l5 : T := ref26_Grow_l5_b
@[reducible] def ref26_Grow_l3_b : T := .ite (cmp .lss (v 6) (.un .len (v 2)))
 (.ite (cmp .leq (n 0) (v 6))
  (.loop [(add (at_ 0 (v 2) (v 6)) (n 1)), (at_ 4 (v 2) (v 6))] ref26_Grow_l4)
  (.fail ""))
 (.loop [(n 0), .nil] ref26_Grow_l5)
def ref26_Grow_l3 : T := ref26_Grow_l3_b
@[reducible] def ref26_Grow_l1_b : T := .ite (cmp .lss (v 4) (.un .len (v 0)))
 (.letj ref26_Grow_j2 <|
  .ite (cmp .leq (n 0) (v 4))
  (.call c_ref26_flexible [(at_ 0 (v 0) (v 4)), (at_ 1 (v 0) (v 4)), (at_ 2 (v 0) (v 4)), (.bin (.cell 3 (.bool)) (v 0) (v 4)), (at_ 4 (v 0) (v 4)), (at_ 5 (v 0) (v 4)), (at_ 6 (v 0) (v 4))] 1 <|
   .ite (v 6)
   (.call c_ref26_up [(at_ 5 (v 0) (v 4)), (n 1000), (.bin (.max .i64) (at_ 2 (v 0) (v 4)) (n 1000))] 1 <|
    .jump 1 [(.bin (.max .i64) (v 5) (v 7))])
   (.jump 1 [(v 5)]))
  (.fail ""))
 (.loop [(n 0), (v 5)] ref26_Grow_l3)
def ref26_Grow_l1 : T := ref26_Grow_l1_b
@[reducible] def ref26_Grow_j0_b : T := .ite (v 3)
 (.ret [(v 0)])
 (.loop [(n 0), (n 0)] ref26_Grow_l1)
def ref26_Grow_j0 : T := ref26_Grow_j0_b
@[reducible] def ref26_Grow_b : T := .letj ref26_Grow_j0 <|
 .call c_ref26_right [(v 0), (n 0)] 1 <|
 .ite (v 3)
 (.call c_ref24_Good [(v 0), (v 1), (v 2), (n 0)] 1 <|
  .jump 0 [(.un .not (v 4))])
 (.jump 0 [(.bool true)])
def ref26_Grow : T := ref26_Grow_b
/- parterre/parterrelaw26.FlexTells -/
abbrev c_law26_FlexTells : Nat := 4
@[reducible] def law26_FlexTells_b : T := .ite (.bin .or (.bin .or (cmp .gtr (.un .len (v 0)) (n 60)) (cmp .gtr (.un .len (v 1)) (n 60))) (cmp .gtr (.un .len (v 2)) (n 60)))
 (.call c_law26_lives [] 1 <|
  .ret [(v 4)])
 (.call c_flex_Unit [(v 0), (v 3)] 1 <|
  .call c_ref26_Unit [(v 0), (v 3)] 1 <|
  .ite (cmp .eql (v 4) (v 5))
  (.call c_flex_Fill [(v 0), (v 1), (v 3)] 1 <|
   .call c_ref26_Fill [(v 0), (v 1), (v 3)] 1 <|
   .call c_ref22_Same [(v 6), (v 7)] 1 <|
   .ite (v 8)
   (.call c_flex_Grow [(v 0), (v 1), (v 2)] 1 <|
    .call c_ref26_Grow [(v 0), (v 1), (v 2)] 1 <|
    .call c_ref22_Same [(v 9), (v 10)] 1 <|
    .ite (v 11)
    (.call c_law26_lives [] 1 <|
     .ret [(v 12)])
    (.ret [(.bool false)]))
   (.ret [(.bool false)]))
  (.ret [(.bool false)]))
def law26_FlexTells : T := law26_FlexTells_b
/- parterre/parterrelaw26.FlexFills -/
abbrev c_law26_FlexFills : Nat := 3
@[reducible] def law26_FlexFills_j3_b : T := .jump 1 [(add (v 6) (n 1)), (v 10), (add (v 8) (add (at_ 5 (v 5) (v 6)) (at_ 0 (v 1) (v 6)))), (add (v 9) (add (at_ 5 (v 0) (v 6)) (at_ 0 (v 1) (v 6))))]
def law26_FlexFills_j3 : T := law26_FlexFills_j3_b
@[reducible] def law26_FlexFills_l4_b : T := .ite (cmp .lss (v 10) (.un .len (v 5)))
 (.ite (cmp .leq (n 0) (v 10))
  (.ite (.bin .or (.un .not (.bin .and (cmp .eql (at_ 1 (v 5) (v 10)) (n 5)) (cmp .eql (at_ 2 (v 5) (v 10)) (at_ 2 (v 5) (v 6))))) (cmp .lss (v 10) (.un .len (v 0))))
   (.ite (.bin .and (.bin .and (.bin .and (cmp .eql (at_ 1 (v 5) (v 10)) (n 5)) (cmp .eql (at_ 2 (v 5) (v 10)) (at_ 2 (v 5) (v 6)))) (cmp .gtr (at_ 5 (v 5) (v 10)) (at_ 5 (v 0) (v 10)))) (.bin .or (cmp .gtr (at_ 5 (v 5) (v 10)) (add (at_ 5 (v 5) (v 6)) (n 1))) (cmp .gtr (at_ 5 (v 5) (v 6)) (add (at_ 5 (v 5) (v 10)) (n 1)))))
    (.ret [(.bool false)])
    (.jump 3 [(add (v 10) (n 1))]))
   (.fail ""))
  (.fail ""))
 (.jump 2 [(add (v 7) (at_ 2 (v 5) (v 6)))])
def law26_FlexFills_l4 : T := law26_FlexFills_l4_b
@[reducible] def law26_FlexFills_l2_b : T := .ite (cmp .lss (v 6) (.un .len (v 5)))
 (.letj law26_FlexFills_j3 <|
  .ite (cmp .leq (n 0) (v 6))
  (.ite (cmp .lss (v 6) (.un .len (v 0)))
   (.ite (.bin .or (cmp .lss (at_ 5 (v 5) (v 6)) (at_ 5 (v 0) (v 6))) (.bin .and (cmp .neq (at_ 1 (v 5) (v 6)) (n 5)) (cmp .neq (at_ 5 (v 5) (v 6)) (at_ 5 (v 0) (v 6)))))
    (.ret [(.bool false)])
    (.ite (cmp .lss (v 6) (.un .len (v 1)))
     (.ite (cmp .gtr (at_ 5 (v 5) (v 6)) (at_ 5 (v 0) (v 6)))
      (.loop [(n 0)] law26_FlexFills_l4)
      (.jump 2 [(v 7)]))
     (.fail "")))
   (.fail ""))
  (.fail ""))
 (.ite (cmp .gtr (v 8) (.bin (.max .i64) (v 2) (v 9)))
  (.ret [(.bool false)])
  (.ite (.bin .or (cmp .lss (v 7) (n 1000)) (cmp .eql (v 8) (v 2)))
   (.call c_law26_lives [] 1 <|
    .ret [(v 10)])
   (.ret [(.bool false)])))
def law26_FlexFills_l2 : T := law26_FlexFills_l2_b
@[reducible] def law26_FlexFills_l1_b : T := .ite (cmp .lss (v 4) (.un .len (v 0)))
 (.ite (cmp .leq (n 0) (v 4))
  (.ite (cmp .gtr (at_ 5 (v 0) (v 4)) (n 68719476736))
   (.call c_law26_lives [] 1 <|
    .ret [(v 5)])
   (.jump 0 [(add (v 4) (n 1))]))
  (.fail ""))
 (.call c_flex_Fill [(v 0), (v 1), (v 2)] 1 <|
  .ite (cmp .neq (.un .len (v 5)) (.un .len (v 0)))
  (.ret [(.bool false)])
  (.loop [(n 0), (n 0), (n 0), (n 0)] law26_FlexFills_l2))
def law26_FlexFills_l1 : T := law26_FlexFills_l1_b
@[reducible] def law26_FlexFills_j0_b : T := .ite (v 3)
 (.call c_law26_lives [] 1 <|
  .ret [(v 4)])
 (.loop [(n 0)] law26_FlexFills_l1)
def law26_FlexFills_j0 : T := law26_FlexFills_j0_b
@[reducible] def law26_FlexFills_b : T := .letj law26_FlexFills_j0 <|
 .ite (cmp .gtr (.un .len (v 0)) (n 60))
 (.jump 0 [(.bool true)])
 (.call c_ref24_Good [(v 0), (v 1), .nil, (n 0)] 1 <|
  .jump 0 [(.bin .or (.bin .or (.un .not (v 3)) (cmp .lss (v 2) (n 0))) (cmp .gtr (v 2) (n 68719476736)))])
def law26_FlexFills : T := law26_FlexFills_b
/- parterre/parterrelaw26.FlexGrows -/
abbrev c_law26_FlexGrows : Nat := 5
@[reducible] def law26_FlexGrows_j5_b : T := .jump 3 [(add (v 8) (n 1)), (v 13), (v 14), (v 12)]
def law26_FlexGrows_j5 : T := law26_FlexGrows_j5_b
@[reducible] def law26_FlexGrows_j6_b : T := .ite (cmp .eql (at_ 1 (v 5) (v 8)) (n 5))
 (.jump 4 [(v 12), (.bin .or (v 9) (cmp .lss (at_ 2 (v 5) (v 8)) (n 1000))), (.bool true)])
 (.jump 4 [(v 12), (v 9), (v 10)])
def law26_FlexGrows_j6 : T := law26_FlexGrows_j6_b
@[reducible] def law26_FlexGrows_l4_b : T := .ite (cmp .lss (v 8) (at_ 1 (v 2) (v 7)))
 (.letj law26_FlexGrows_j5 <|
  .ite (cmp .leq (n 0) (v 8))
  (.ite (cmp .lss (v 8) (.un .len (v 5)))
   (.letj law26_FlexGrows_j6 <|
    .ite (cmp .gtr (v 8) (at_ 0 (v 2) (v 7)))
    (.ite (cmp .lss (v 8) (.un .len (v 1)))
     (.jump 5 [(add (add (v 11) (at_ 5 (v 5) (v 8))) (at_ 0 (v 1) (v 8)))])
     (.fail ""))
    (.jump 5 [(add (v 11) (at_ 5 (v 5) (v 8)))]))
   (.fail ""))
  (.fail ""))
 (.ite (.bin .and (.bin .and (.bin .and (v 10) (.un .not (v 9))) (cmp .lss (at_ 4 (v 2) (v 7)) (n 1073741824))) (cmp .lss (add (v 11) (sub (at_ 1 (v 2) (v 7)) (at_ 0 (v 2) (v 7)))) (at_ 4 (v 2) (v 7))))
  (.ret [(.bool false)])
  (.jump 2 [(add (v 7) (n 1))]))
def law26_FlexGrows_l4 : T := law26_FlexGrows_l4_b
@[reducible] def law26_FlexGrows_l3_b : T := .ite (cmp .lss (v 7) (.un .len (v 2)))
 (.ite (cmp .leq (n 0) (v 7))
  (.loop [(at_ 0 (v 2) (v 7)), (.bool false), (.bool false), (n 0)] law26_FlexGrows_l4)
  (.fail ""))
 (.call c_law26_lives [] 1 <|
  .ret [(v 8)])
def law26_FlexGrows_l3 : T := law26_FlexGrows_l3_b
@[reducible] def law26_FlexGrows_l2_b : T := .ite (cmp .lss (v 6) (.un .len (v 5)))
 (.ite (cmp .leq (n 0) (v 6))
  (.ite (cmp .lss (v 6) (.un .len (v 0)))
   (.ite (.bin .or (.bin .or (cmp .lss (at_ 5 (v 5) (v 6)) (at_ 5 (v 0) (v 6))) (.bin .and (cmp .neq (at_ 1 (v 5) (v 6)) (n 5)) (cmp .neq (at_ 5 (v 5) (v 6)) (at_ 5 (v 0) (v 6))))) (cmp .lss (at_ 6 (v 5) (v 6)) (at_ 5 (v 5) (v 6))))
    (.ret [(.bool false)])
    (.jump 1 [(add (v 6) (n 1))]))
   (.fail ""))
  (.fail ""))
 (.loop [(n 0)] law26_FlexGrows_l3)
def law26_FlexGrows_l2 : T := law26_FlexGrows_l2_b
@[reducible] def law26_FlexGrows_l1_b : T := .ite (cmp .lss (v 4) (.un .len (v 0)))
 (.ite (cmp .leq (n 0) (v 4))
  (.ite (cmp .gtr (at_ 5 (v 0) (v 4)) (n 1073741824))
   (.call c_law26_lives [] 1 <|
    .ret [(v 5)])
   (.jump 0 [(add (v 4) (n 1))]))
  (.fail ""))
 (.call c_flex_Grow [(v 0), (v 1), (v 2)] 1 <|
  .ite (cmp .neq (.un .len (v 5)) (.un .len (v 0)))
  (.ret [(.bool false)])
  (.loop [(n 0)] law26_FlexGrows_l2))
def law26_FlexGrows_l1 : T := law26_FlexGrows_l1_b
@[reducible] def law26_FlexGrows_j0_b : T := .ite (v 3)
 (.call c_law26_lives [] 1 <|
  .ret [(v 4)])
 (.loop [(n 0)] law26_FlexGrows_l1)
def law26_FlexGrows_j0 : T := law26_FlexGrows_j0_b
@[reducible] def law26_FlexGrows_b : T := .letj law26_FlexGrows_j0 <|
 .ite (.bin .or (cmp .gtr (.un .len (v 0)) (n 60)) (cmp .gtr (.un .len (v 2)) (n 60)))
 (.jump 0 [(.bool true)])
 (.call c_ref24_Good [(v 0), (v 1), (v 2), (n 0)] 1 <|
  .jump 0 [(.un .not (v 3))])
def law26_FlexGrows : T := law26_FlexGrows_b
def sigL : List (Nat × Sig) := [
  (17, ⟨[.leaf (.int .i64), .leaf (.int .i64)], [.agg [.int .i64, .int .i64, .int .i64, .bool, .int .i64, .int .i64, .int .i64]]⟩) -- law26_fr
  ,(23, ⟨[.leaf (.int .i64), .leaf (.row [.int .i64])], [.leaf (.int .i64)]⟩) -- flex_less
  ,(54, ⟨[.leaf (.int .i64)], [.leaf (.int .u64)]⟩) -- fixed_size
  ,(53, ⟨[.leaf (.int .u64), .leaf (.int .u64)], [.leaf (.int .u64), .leaf (.int .u64)]⟩) -- math_bits_Mul64
  ,(62, ⟨[.leaf (.int .u64)], [.leaf (.int .i64)]⟩) -- math_bits_Len64
  ,(61, ⟨[.leaf (.int .u64)], [.leaf (.int .i64)]⟩) -- math_bits_LeadingZeros64
  ,(55, ⟨[.leaf (.int .u64), .leaf (.int .u64), .leaf (.int .u64)], [.leaf (.int .u64), .leaf (.int .u64)]⟩) -- math_bits_Div64
  ,(37, ⟨[.leaf (.int .i64), .leaf (.int .i64), .leaf (.int .i64)], [.leaf (.int .i64), .leaf (.int .i64)]⟩) -- fixed_MulDiv
  ,(24, ⟨[.agg [.int .i64, .int .i64, .row [.int .i64]], .leaf (.int .i64)], [.leaf (.int .i64)]⟩) -- flex_share_part
  ,(22, ⟨[.leaf (.row [.int .i64, .int .i64, .int .i64, .bool, .int .i64, .int .i64, .int .i64]), .leaf (.int .i64)], [.agg [.int .i64, .int .i64, .row [.int .i64]]]⟩) -- flex_shared
  ,(47, ⟨[.agg [.int .i64, .int .i64, .int .i64, .bool, .int .i64, .int .i64, .int .i64]], [.agg [.int .i64, .int .i64, .int .i64, .bool, .int .i64, .int .i64, .int .i64]]⟩) -- base_Raise
  ,(25, ⟨[.leaf (.int .i64), .leaf (.row [.int .i64])], [.own [.int .i64]]⟩) -- fixed_Share
  ,(40, ⟨[.leaf (.int .i64)], [.leaf (.bool)]⟩) -- fixed_Is
  ,(56, ⟨[.leaf (.int .i64), .leaf (.int .i64), .leaf (.int .i64)], [.leaf (.bool)]⟩) -- base_Good_1
  ,(39, ⟨[.agg [.int .i64, .int .i64, .int .i64, .bool, .int .i64, .int .i64, .int .i64]], [.leaf (.bool)]⟩) -- base_Good
  ,(38, ⟨[.agg [.int .i64, .int .i64, .int .i64, .bool, .int .i64, .int .i64, .int .i64]], [.leaf (.bool)]⟩) -- flex_right_1
  ,(20, ⟨[.leaf (.row [.int .i64, .int .i64, .int .i64, .bool, .int .i64, .int .i64, .int .i64]), .leaf (.int .i64)], [.leaf (.bool)]⟩) -- flex_right
  ,(44, ⟨[.leaf (.int .i64)], [.leaf (.bool)]⟩) -- intrinsic_within
  ,(43, ⟨[.leaf (.int .i64)], [.leaf (.bool)]⟩) -- intrinsic_Good_2
  ,(42, ⟨[.agg [.int .i64, .int .i64, .int .i64, .bool, .int .i64, .int .i64, .int .i64]], [.leaf (.bool)]⟩) -- intrinsic_Good_1
  ,(21, ⟨[.leaf (.row [.int .i64, .int .i64, .int .i64, .bool, .int .i64, .int .i64, .int .i64]), .leaf (.row [.int .i64]), .leaf (.row [.int .i64, .int .i64, .int .i64, .int .i64, .int .i64]), .leaf (.int .i64)], [.leaf (.bool)]⟩) -- intrinsic_Good
  ,(8, ⟨[.leaf (.row [.int .i64, .int .i64, .int .i64, .bool, .int .i64, .int .i64, .int .i64]), .leaf (.row [.int .i64]), .leaf (.int .i64)], [.leaf (.row [.int .i64, .int .i64, .int .i64, .bool, .int .i64, .int .i64, .int .i64])]⟩) -- flex_Fill
  ,(19, ⟨[.leaf (.row [.int .i64, .int .i64, .int .i64, .bool, .int .i64, .int .i64, .int .i64])], [.own [.int .i64]]⟩) -- law26_bases
  ,(18, ⟨[.leaf (.row [.int .i64]), .leaf (.row [.int .i64])], [.leaf (.bool)]⟩) -- ref01_Ints
  ,(7, ⟨[], [.leaf (.bool)]⟩) -- law26_lives
  ,(27, ⟨[.leaf (.int .i64), .leaf (.int .i64), .leaf (.int .i64)], [.leaf (.int .i64)]⟩) -- flex_up
  ,(9, ⟨[.leaf (.row [.int .i64, .int .i64, .int .i64, .bool, .int .i64, .int .i64, .int .i64]), .leaf (.int .i64)], [.leaf (.int .i64)]⟩) -- flex_Unit
  ,(15, ⟨[.agg [.int .i64, .int .i64, .int .i64, .bool, .int .i64, .int .i64, .int .i64]], [.leaf (.bool)]⟩) -- ref22_Good
  ,(48, ⟨[.leaf (.int .i64)], [.leaf (.bool)]⟩) -- ref01_Is
  ,(28, ⟨[.leaf (.row [.int .i64, .int .i64, .int .i64, .bool, .int .i64, .int .i64, .int .i64]), .leaf (.int .i64)], [.leaf (.bool)]⟩) -- ref26_right
  ,(33, ⟨[.agg [.int .i64, .int .i64, .int .i64, .bool, .int .i64, .int .i64, .int .i64]], [.leaf (.bool)]⟩) -- ref26_flexible
  ,(30, ⟨[.leaf (.row [.int .i64, .int .i64, .int .i64, .bool, .int .i64, .int .i64, .int .i64]), .leaf (.row [.bool])], [.leaf (.int .i64), .leaf (.bool)]⟩) -- ref26_sum
  ,(32, ⟨[.leaf (.row [.int .i64, .int .i64, .int .i64, .bool, .int .i64, .int .i64, .int .i64]), .leaf (.row [.bool]), .leaf (.int .i64)], [.leaf (.int .i64)]⟩) -- ref26_left
  ,(51, ⟨[.leaf (.int .i64)], [.leaf (.int .u64)]⟩) -- ref01_size
  ,(60, ⟨[.agg [.int .u64, .int .u64], .leaf (.int .u64)], [.agg [.int .u64, .int .u64]]⟩) -- ref01_Wide_twice
  ,(52, ⟨[.agg [.int .u64, .int .u64], .leaf (.int .u64)], [.agg [.int .u64, .int .u64]]⟩) -- ref01_Wide_plus
  ,(50, ⟨[.leaf (.int .u64), .leaf (.int .u64)], [.agg [.int .u64, .int .u64]]⟩) -- ref01_product
  ,(49, ⟨[.agg [.int .u64, .int .u64], .leaf (.int .u64)], [.agg [.int .u64, .int .u64], .leaf (.int .u64)]⟩) -- ref01_quotient
  ,(35, ⟨[.leaf (.int .i64), .leaf (.int .i64), .leaf (.int .i64)], [.leaf (.int .i64), .leaf (.int .i64)]⟩) -- ref01_MulDiv
  ,(29, ⟨[.leaf (.row [.int .i64, .int .i64, .int .i64, .bool, .int .i64, .int .i64, .int .i64]), .leaf (.int .i64)], [.own [.bool]]⟩) -- ref26_stiff
  ,(31, ⟨[.leaf (.int .i64), .leaf (.int .i64), .leaf (.int .i64)], [.leaf (.int .i64)]⟩) -- ref26_up
  ,(10, ⟨[.leaf (.row [.int .i64, .int .i64, .int .i64, .bool, .int .i64, .int .i64, .int .i64]), .leaf (.int .i64)], [.leaf (.int .i64)]⟩) -- ref26_Unit
  ,(34, ⟨[.leaf (.int .i64), .leaf (.row [.int .i64])], [.own [.int .i64]]⟩) -- ref01_Share
  ,(36, ⟨[.agg [.int .i64, .int .i64, .int .i64, .bool, .int .i64, .int .i64, .int .i64]], [.agg [.int .i64, .int .i64, .int .i64, .bool, .int .i64, .int .i64, .int .i64]]⟩) -- ref22_Raise
  ,(16, ⟨[.leaf (.int .i64)], [.leaf (.bool)]⟩) -- ref24_within
  ,(6, ⟨[.leaf (.row [.int .i64, .int .i64, .int .i64, .bool, .int .i64, .int .i64, .int .i64]), .leaf (.row [.int .i64]), .leaf (.row [.int .i64, .int .i64, .int .i64, .int .i64, .int .i64]), .leaf (.int .i64)], [.leaf (.bool)]⟩) -- ref24_Good
  ,(12, ⟨[.leaf (.row [.int .i64, .int .i64, .int .i64, .bool, .int .i64, .int .i64, .int .i64]), .leaf (.row [.int .i64]), .leaf (.int .i64)], [.leaf (.row [.int .i64, .int .i64, .int .i64, .bool, .int .i64, .int .i64, .int .i64])]⟩) -- ref26_Fill
  ,(11, ⟨[.leaf (.row [.int .i64, .int .i64, .int .i64, .bool, .int .i64, .int .i64, .int .i64]), .leaf (.row [.int .i64, .int .i64, .int .i64, .bool, .int .i64, .int .i64, .int .i64])], [.leaf (.bool)]⟩) -- ref22_Same
  ,(13, ⟨[.leaf (.row [.int .i64, .int .i64, .int .i64, .bool, .int .i64, .int .i64, .int .i64]), .leaf (.row [.int .i64]), .leaf (.row [.int .i64, .int .i64, .int .i64, .int .i64, .int .i64])], [.leaf (.row [.int .i64, .int .i64, .int .i64, .bool, .int .i64, .int .i64, .int .i64])]⟩) -- flex_Grow
  ,(14, ⟨[.leaf (.row [.int .i64, .int .i64, .int .i64, .bool, .int .i64, .int .i64, .int .i64]), .leaf (.row [.int .i64]), .leaf (.row [.int .i64, .int .i64, .int .i64, .int .i64, .int .i64])], [.leaf (.row [.int .i64, .int .i64, .int .i64, .bool, .int .i64, .int .i64, .int .i64])]⟩) -- ref26_Grow
  ,(4, ⟨[.leaf (.row [.int .i64, .int .i64, .int .i64, .bool, .int .i64, .int .i64, .int .i64]), .leaf (.row [.int .i64]), .leaf (.row [.int .i64, .int .i64, .int .i64, .int .i64, .int .i64]), .leaf (.int .i64)], [.leaf (.bool)]⟩) -- law26_FlexTells
  ,(3, ⟨[.leaf (.row [.int .i64, .int .i64, .int .i64, .bool, .int .i64, .int .i64, .int .i64]), .leaf (.row [.int .i64]), .leaf (.int .i64)], [.leaf (.bool)]⟩) -- law26_FlexFills
  ,(5, ⟨[.leaf (.row [.int .i64, .int .i64, .int .i64, .bool, .int .i64, .int .i64, .int .i64]), .leaf (.row [.int .i64]), .leaf (.row [.int .i64, .int .i64, .int .i64, .int .i64, .int .i64])], [.leaf (.bool)]⟩) -- law26_FlexGrows
  ]
def trL : List (Nat × T) := [(17, law26_fr), (23, flex_less), (54, fixed_size), (53, math_bits_Mul64), (62, math_bits_Len64), (61, math_bits_LeadingZeros64), (55, math_bits_Div64), (37, fixed_MulDiv), (24, flex_share_part), (22, flex_shared), (47, base_Raise), (25, fixed_Share), (40, fixed_Is), (56, base_Good_1), (39, base_Good), (38, flex_right_1), (20, flex_right), (44, intrinsic_within), (43, intrinsic_Good_2), (42, intrinsic_Good_1), (21, intrinsic_Good), (8, flex_Fill), (19, law26_bases), (18, ref01_Ints), (7, law26_lives), (27, flex_up), (9, flex_Unit), (15, ref22_Good), (48, ref01_Is), (28, ref26_right), (33, ref26_flexible), (30, ref26_sum), (32, ref26_left), (51, ref01_size), (60, ref01_Wide_twice), (52, ref01_Wide_plus), (50, ref01_product), (49, ref01_quotient), (35, ref01_MulDiv), (29, ref26_stiff), (31, ref26_up), (10, ref26_Unit), (34, ref01_Share), (36, ref22_Raise), (16, ref24_within), (6, ref24_Good), (12, ref26_Fill), (11, ref22_Same), (13, flex_Grow), (14, ref26_Grow), (4, law26_FlexTells), (3, law26_FlexFills), (5, law26_FlexGrows)]

def sg (f : Nat) : Option Sig := Go.Proofs.Ytpaabecgngbjcaa.Sx.look sigL f
def tr (f : Nat) : Option T := Go.Proofs.Ytpaabecgngbjcaa.Sx.look trL f
/-- What the trees say, so many rounds and calls deep. -/
def says (k : Nat) : Nat → List PV → Option (List PV) := told tr k k
/-- THE ONE PURE STATEMENT of parterre/parterrelaw26.FlexTells. -/
def Pure_FlexTells : Prop := ∀ (p0 : PV), ∀ (p1 : PV), ∀ (p2 : PV), ∀ (p3 : PV), ((.row [.int .i64, .int .i64, .int .i64, .bool, .int .i64, .int .i64, .int .i64]) : LK).ok p0 → ((.row [.int .i64, .int .i64, .int .i64, .bool, .int .i64, .int .i64, .int .i64]) : LK).wf p0 → p0.r.length * 56 ≤ 140737488351232 → ((.row [.int .i64]) : LK).ok p1 → ((.row [.int .i64]) : LK).wf p1 → p1.r.length * 8 ≤ 140737488351232 → ((.row [.int .i64, .int .i64, .int .i64, .int .i64, .int .i64]) : LK).ok p2 → ((.row [.int .i64, .int .i64, .int .i64, .int .i64, .int .i64]) : LK).wf p2 → p2.r.length * 40 ≤ 140737488351232 → ((.int .i64) : LK).ok p3 → ((.int .i64) : LK).wf p3 → ∃ k, says k c_law26_FlexTells ((p0 :: (p1 :: (p2 :: (p3 :: []))))) = some [.bool true]
/-- THE ONE PURE STATEMENT of parterre/parterrelaw26.FlexFills. -/
def Pure_FlexFills : Prop := ∀ (p0 : PV), ∀ (p1 : PV), ∀ (p2 : PV), ((.row [.int .i64, .int .i64, .int .i64, .bool, .int .i64, .int .i64, .int .i64]) : LK).ok p0 → ((.row [.int .i64, .int .i64, .int .i64, .bool, .int .i64, .int .i64, .int .i64]) : LK).wf p0 → p0.r.length * 56 ≤ 140737488351232 → ((.row [.int .i64]) : LK).ok p1 → ((.row [.int .i64]) : LK).wf p1 → p1.r.length * 8 ≤ 140737488351232 → ((.int .i64) : LK).ok p2 → ((.int .i64) : LK).wf p2 → ∃ k, says k c_law26_FlexFills ((p0 :: (p1 :: (p2 :: [])))) = some [.bool true]
/-- THE ONE PURE STATEMENT of parterre/parterrelaw26.FlexGrows. -/
def Pure_FlexGrows : Prop := ∀ (p0 : PV), ∀ (p1 : PV), ∀ (p2 : PV), ((.row [.int .i64, .int .i64, .int .i64, .bool, .int .i64, .int .i64, .int .i64]) : LK).ok p0 → ((.row [.int .i64, .int .i64, .int .i64, .bool, .int .i64, .int .i64, .int .i64]) : LK).wf p0 → p0.r.length * 56 ≤ 140737488351232 → ((.row [.int .i64]) : LK).ok p1 → ((.row [.int .i64]) : LK).wf p1 → p1.r.length * 8 ≤ 140737488351232 → ((.row [.int .i64, .int .i64, .int .i64, .int .i64, .int .i64]) : LK).ok p2 → ((.row [.int .i64, .int .i64, .int .i64, .int .i64, .int .i64]) : LK).wf p2 → p2.r.length * 40 ≤ 140737488351232 → ∃ k, says k c_law26_FlexGrows ((p0 :: (p1 :: (p2 :: [])))) = some [.bool true]
section
variable {ρ : List PV} {J : List JT} {r : List PV}
theorem u_law26_fr : Run tr law26_fr ρ J r ↔ Run tr law26_fr_b ρ J r := Iff.rfl
theorem u_flex_less_l0 : Run tr flex_less_l0 ρ J r ↔ Run tr flex_less_l0_b ρ J r := Iff.rfl
theorem u_flex_less : Run tr flex_less ρ J r ↔ Run tr flex_less_b ρ J r := Iff.rfl
theorem u_fixed_size : Run tr fixed_size ρ J r ↔ Run tr fixed_size_b ρ J r := Iff.rfl
theorem u_math_bits_Mul64 : Run tr math_bits_Mul64 ρ J r ↔ Run tr math_bits_Mul64_b ρ J r := Iff.rfl
theorem u_math_bits_Len64_j2 : Run tr math_bits_Len64_j2 ρ J r ↔ Run tr math_bits_Len64_j2_b ρ J r := Iff.rfl
theorem u_math_bits_Len64_j1 : Run tr math_bits_Len64_j1 ρ J r ↔ Run tr math_bits_Len64_j1_b ρ J r := Iff.rfl
theorem u_math_bits_Len64_j0 : Run tr math_bits_Len64_j0 ρ J r ↔ Run tr math_bits_Len64_j0_b ρ J r := Iff.rfl
theorem u_math_bits_Len64 : Run tr math_bits_Len64 ρ J r ↔ Run tr math_bits_Len64_b ρ J r := Iff.rfl
theorem u_math_bits_LeadingZeros64 : Run tr math_bits_LeadingZeros64 ρ J r ↔ Run tr math_bits_LeadingZeros64_b ρ J r := Iff.rfl
theorem u_math_bits_Div64_j1 : Run tr math_bits_Div64_j1 ρ J r ↔ Run tr math_bits_Div64_j1_b ρ J r := Iff.rfl
theorem u_math_bits_Div64_l2 : Run tr math_bits_Div64_l2 ρ J r ↔ Run tr math_bits_Div64_l2_b ρ J r := Iff.rfl
theorem u_math_bits_Div64_j0 : Run tr math_bits_Div64_j0 ρ J r ↔ Run tr math_bits_Div64_j0_b ρ J r := Iff.rfl
theorem u_math_bits_Div64_l3 : Run tr math_bits_Div64_l3 ρ J r ↔ Run tr math_bits_Div64_l3_b ρ J r := Iff.rfl
theorem u_math_bits_Div64 : Run tr math_bits_Div64 ρ J r ↔ Run tr math_bits_Div64_b ρ J r := Iff.rfl
theorem u_fixed_MulDiv : Run tr fixed_MulDiv ρ J r ↔ Run tr fixed_MulDiv_b ρ J r := Iff.rfl
theorem u_flex_share_part : Run tr flex_share_part ρ J r ↔ Run tr flex_share_part_b ρ J r := Iff.rfl
theorem u_flex_shared_j2 : Run tr flex_shared_j2 ρ J r ↔ Run tr flex_shared_j2_b ρ J r := Iff.rfl
theorem u_flex_shared_j4 : Run tr flex_shared_j4 ρ J r ↔ Run tr flex_shared_j4_b ρ J r := Iff.rfl
theorem u_flex_shared_l3 : Run tr flex_shared_l3 ρ J r ↔ Run tr flex_shared_l3_b ρ J r := Iff.rfl
theorem u_flex_shared_l1 : Run tr flex_shared_l1 ρ J r ↔ Run tr flex_shared_l1_b ρ J r := Iff.rfl
theorem u_flex_shared_l0 : Run tr flex_shared_l0 ρ J r ↔ Run tr flex_shared_l0_b ρ J r := Iff.rfl
theorem u_flex_shared : Run tr flex_shared ρ J r ↔ Run tr flex_shared_b ρ J r := Iff.rfl
theorem u_base_Raise_j0 : Run tr base_Raise_j0 ρ J r ↔ Run tr base_Raise_j0_b ρ J r := Iff.rfl
theorem u_base_Raise : Run tr base_Raise ρ J r ↔ Run tr base_Raise_b ρ J r := Iff.rfl
theorem u_fixed_Share_l1 : Run tr fixed_Share_l1 ρ J r ↔ Run tr fixed_Share_l1_b ρ J r := Iff.rfl
theorem u_fixed_Share_l0 : Run tr fixed_Share_l0 ρ J r ↔ Run tr fixed_Share_l0_b ρ J r := Iff.rfl
theorem u_fixed_Share : Run tr fixed_Share ρ J r ↔ Run tr fixed_Share_b ρ J r := Iff.rfl
theorem u_fixed_Is : Run tr fixed_Is ρ J r ↔ Run tr fixed_Is_b ρ J r := Iff.rfl
theorem u_base_Good_1 : Run tr base_Good_1 ρ J r ↔ Run tr base_Good_1_b ρ J r := Iff.rfl
theorem u_base_Good_j0 : Run tr base_Good_j0 ρ J r ↔ Run tr base_Good_j0_b ρ J r := Iff.rfl
theorem u_base_Good : Run tr base_Good ρ J r ↔ Run tr base_Good_b ρ J r := Iff.rfl
theorem u_flex_right_1 : Run tr flex_right_1 ρ J r ↔ Run tr flex_right_1_b ρ J r := Iff.rfl
theorem u_flex_right_j0 : Run tr flex_right_j0 ρ J r ↔ Run tr flex_right_j0_b ρ J r := Iff.rfl
theorem u_flex_right_l1 : Run tr flex_right_l1 ρ J r ↔ Run tr flex_right_l1_b ρ J r := Iff.rfl
theorem u_flex_right : Run tr flex_right ρ J r ↔ Run tr flex_right_b ρ J r := Iff.rfl
theorem u_intrinsic_within : Run tr intrinsic_within ρ J r ↔ Run tr intrinsic_within_b ρ J r := Iff.rfl
theorem u_intrinsic_Good_2 : Run tr intrinsic_Good_2 ρ J r ↔ Run tr intrinsic_Good_2_b ρ J r := Iff.rfl
theorem u_intrinsic_Good_1 : Run tr intrinsic_Good_1 ρ J r ↔ Run tr intrinsic_Good_1_b ρ J r := Iff.rfl
theorem u_intrinsic_Good_j2 : Run tr intrinsic_Good_j2 ρ J r ↔ Run tr intrinsic_Good_j2_b ρ J r := Iff.rfl
theorem u_intrinsic_Good_l1 : Run tr intrinsic_Good_l1 ρ J r ↔ Run tr intrinsic_Good_l1_b ρ J r := Iff.rfl
theorem u_intrinsic_Good_j0 : Run tr intrinsic_Good_j0 ρ J r ↔ Run tr intrinsic_Good_j0_b ρ J r := Iff.rfl
theorem u_intrinsic_Good_j4 : Run tr intrinsic_Good_j4 ρ J r ↔ Run tr intrinsic_Good_j4_b ρ J r := Iff.rfl
theorem u_intrinsic_Good_l5 : Run tr intrinsic_Good_l5 ρ J r ↔ Run tr intrinsic_Good_l5_b ρ J r := Iff.rfl
theorem u_intrinsic_Good_j3 : Run tr intrinsic_Good_j3 ρ J r ↔ Run tr intrinsic_Good_j3_b ρ J r := Iff.rfl
theorem u_intrinsic_Good_l6 : Run tr intrinsic_Good_l6 ρ J r ↔ Run tr intrinsic_Good_l6_b ρ J r := Iff.rfl
theorem u_intrinsic_Good : Run tr intrinsic_Good ρ J r ↔ Run tr intrinsic_Good_b ρ J r := Iff.rfl
theorem u_flex_Fill_j4 : Run tr flex_Fill_j4 ρ J r ↔ Run tr flex_Fill_j4_b ρ J r := Iff.rfl
theorem u_flex_Fill_l3 : Run tr flex_Fill_l3 ρ J r ↔ Run tr flex_Fill_l3_b ρ J r := Iff.rfl
theorem u_flex_Fill_j2 : Run tr flex_Fill_j2 ρ J r ↔ Run tr flex_Fill_j2_b ρ J r := Iff.rfl
theorem u_flex_Fill_l5 : Run tr flex_Fill_l5 ρ J r ↔ Run tr flex_Fill_l5_b ρ J r := Iff.rfl
theorem u_flex_Fill_l1 : Run tr flex_Fill_l1 ρ J r ↔ Run tr flex_Fill_l1_b ρ J r := Iff.rfl
theorem u_flex_Fill_j0 : Run tr flex_Fill_j0 ρ J r ↔ Run tr flex_Fill_j0_b ρ J r := Iff.rfl
theorem u_flex_Fill : Run tr flex_Fill ρ J r ↔ Run tr flex_Fill_b ρ J r := Iff.rfl
theorem u_law26_bases_l0 : Run tr law26_bases_l0 ρ J r ↔ Run tr law26_bases_l0_b ρ J r := Iff.rfl
theorem u_law26_bases : Run tr law26_bases ρ J r ↔ Run tr law26_bases_b ρ J r := Iff.rfl
theorem u_ref01_Ints_l0 : Run tr ref01_Ints_l0 ρ J r ↔ Run tr ref01_Ints_l0_b ρ J r := Iff.rfl
theorem u_ref01_Ints : Run tr ref01_Ints ρ J r ↔ Run tr ref01_Ints_b ρ J r := Iff.rfl
theorem u_law26_lives : Run tr law26_lives ρ J r ↔ Run tr law26_lives_b ρ J r := Iff.rfl
theorem u_flex_up : Run tr flex_up ρ J r ↔ Run tr flex_up_b ρ J r := Iff.rfl
theorem u_flex_Unit : Run tr flex_Unit ρ J r ↔ Run tr flex_Unit_b ρ J r := Iff.rfl
theorem u_ref22_Good : Run tr ref22_Good ρ J r ↔ Run tr ref22_Good_b ρ J r := Iff.rfl
theorem u_ref01_Is : Run tr ref01_Is ρ J r ↔ Run tr ref01_Is_b ρ J r := Iff.rfl
theorem u_ref26_right_j1 : Run tr ref26_right_j1 ρ J r ↔ Run tr ref26_right_j1_b ρ J r := Iff.rfl
theorem u_ref26_right_l0 : Run tr ref26_right_l0 ρ J r ↔ Run tr ref26_right_l0_b ρ J r := Iff.rfl
theorem u_ref26_right : Run tr ref26_right ρ J r ↔ Run tr ref26_right_b ρ J r := Iff.rfl
theorem u_ref26_flexible : Run tr ref26_flexible ρ J r ↔ Run tr ref26_flexible_b ρ J r := Iff.rfl
theorem u_ref26_sum_j1 : Run tr ref26_sum_j1 ρ J r ↔ Run tr ref26_sum_j1_b ρ J r := Iff.rfl
theorem u_ref26_sum_l0 : Run tr ref26_sum_l0 ρ J r ↔ Run tr ref26_sum_l0_b ρ J r := Iff.rfl
theorem u_ref26_sum : Run tr ref26_sum ρ J r ↔ Run tr ref26_sum_b ρ J r := Iff.rfl
theorem u_ref26_left_j1 : Run tr ref26_left_j1 ρ J r ↔ Run tr ref26_left_j1_b ρ J r := Iff.rfl
theorem u_ref26_left_l0 : Run tr ref26_left_l0 ρ J r ↔ Run tr ref26_left_l0_b ρ J r := Iff.rfl
theorem u_ref26_left : Run tr ref26_left ρ J r ↔ Run tr ref26_left_b ρ J r := Iff.rfl
theorem u_ref01_size : Run tr ref01_size ρ J r ↔ Run tr ref01_size_b ρ J r := Iff.rfl
theorem u_ref01_Wide_twice : Run tr ref01_Wide_twice ρ J r ↔ Run tr ref01_Wide_twice_b ρ J r := Iff.rfl
theorem u_ref01_Wide_plus : Run tr ref01_Wide_plus ρ J r ↔ Run tr ref01_Wide_plus_b ρ J r := Iff.rfl
theorem u_ref01_product_j1 : Run tr ref01_product_j1 ρ J r ↔ Run tr ref01_product_j1_b ρ J r := Iff.rfl
theorem u_ref01_product_l0 : Run tr ref01_product_l0 ρ J r ↔ Run tr ref01_product_l0_b ρ J r := Iff.rfl
theorem u_ref01_product : Run tr ref01_product ρ J r ↔ Run tr ref01_product_b ρ J r := Iff.rfl
theorem u_ref01_quotient_j3 : Run tr ref01_quotient_j3 ρ J r ↔ Run tr ref01_quotient_j3_b ρ J r := Iff.rfl
theorem u_ref01_quotient_l2 : Run tr ref01_quotient_l2 ρ J r ↔ Run tr ref01_quotient_l2_b ρ J r := Iff.rfl
theorem u_ref01_quotient_j1 : Run tr ref01_quotient_j1 ρ J r ↔ Run tr ref01_quotient_j1_b ρ J r := Iff.rfl
theorem u_ref01_quotient_l0 : Run tr ref01_quotient_l0 ρ J r ↔ Run tr ref01_quotient_l0_b ρ J r := Iff.rfl
theorem u_ref01_quotient : Run tr ref01_quotient ρ J r ↔ Run tr ref01_quotient_b ρ J r := Iff.rfl
theorem u_ref01_MulDiv_j0 : Run tr ref01_MulDiv_j0 ρ J r ↔ Run tr ref01_MulDiv_j0_b ρ J r := Iff.rfl
theorem u_ref01_MulDiv : Run tr ref01_MulDiv ρ J r ↔ Run tr ref01_MulDiv_b ρ J r := Iff.rfl
theorem u_ref26_stiff_j2 : Run tr ref26_stiff_j2 ρ J r ↔ Run tr ref26_stiff_j2_b ρ J r := Iff.rfl
theorem u_ref26_stiff_l1 : Run tr ref26_stiff_l1 ρ J r ↔ Run tr ref26_stiff_l1_b ρ J r := Iff.rfl
theorem u_ref26_stiff_l0 : Run tr ref26_stiff_l0 ρ J r ↔ Run tr ref26_stiff_l0_b ρ J r := Iff.rfl
theorem u_ref26_stiff : Run tr ref26_stiff ρ J r ↔ Run tr ref26_stiff_b ρ J r := Iff.rfl
theorem u_ref26_up : Run tr ref26_up ρ J r ↔ Run tr ref26_up_b ρ J r := Iff.rfl
theorem u_ref26_Unit : Run tr ref26_Unit ρ J r ↔ Run tr ref26_Unit_b ρ J r := Iff.rfl
theorem u_ref01_Share_l1 : Run tr ref01_Share_l1 ρ J r ↔ Run tr ref01_Share_l1_b ρ J r := Iff.rfl
theorem u_ref01_Share_l0 : Run tr ref01_Share_l0 ρ J r ↔ Run tr ref01_Share_l0_b ρ J r := Iff.rfl
theorem u_ref01_Share : Run tr ref01_Share ρ J r ↔ Run tr ref01_Share_b ρ J r := Iff.rfl
theorem u_ref22_Raise : Run tr ref22_Raise ρ J r ↔ Run tr ref22_Raise_b ρ J r := Iff.rfl
theorem u_ref24_within : Run tr ref24_within ρ J r ↔ Run tr ref24_within_b ρ J r := Iff.rfl
theorem u_ref24_Good_j1 : Run tr ref24_Good_j1 ρ J r ↔ Run tr ref24_Good_j1_b ρ J r := Iff.rfl
theorem u_ref24_Good_j3 : Run tr ref24_Good_j3 ρ J r ↔ Run tr ref24_Good_j3_b ρ J r := Iff.rfl
theorem u_ref24_Good_l2 : Run tr ref24_Good_l2 ρ J r ↔ Run tr ref24_Good_l2_b ρ J r := Iff.rfl
theorem u_ref24_Good_l0 : Run tr ref24_Good_l0 ρ J r ↔ Run tr ref24_Good_l0_b ρ J r := Iff.rfl
theorem u_ref24_Good : Run tr ref24_Good ρ J r ↔ Run tr ref24_Good_b ρ J r := Iff.rfl
theorem u_ref26_Fill_j3 : Run tr ref26_Fill_j3 ρ J r ↔ Run tr ref26_Fill_j3_b ρ J r := Iff.rfl
theorem u_ref26_Fill_j5 : Run tr ref26_Fill_j5 ρ J r ↔ Run tr ref26_Fill_j5_b ρ J r := Iff.rfl
theorem u_ref26_Fill_j6 : Run tr ref26_Fill_j6 ρ J r ↔ Run tr ref26_Fill_j6_b ρ J r := Iff.rfl
theorem u_ref26_Fill_l4 : Run tr ref26_Fill_l4 ρ J r ↔ Run tr ref26_Fill_l4_b ρ J r := Iff.rfl
theorem u_ref26_Fill_l2 : Run tr ref26_Fill_l2 ρ J r ↔ Run tr ref26_Fill_l2_b ρ J r := Iff.rfl
theorem u_ref26_Fill_l1 : Run tr ref26_Fill_l1 ρ J r ↔ Run tr ref26_Fill_l1_b ρ J r := Iff.rfl
theorem u_ref26_Fill_j0 : Run tr ref26_Fill_j0 ρ J r ↔ Run tr ref26_Fill_j0_b ρ J r := Iff.rfl
theorem u_ref26_Fill : Run tr ref26_Fill ρ J r ↔ Run tr ref26_Fill_b ρ J r := Iff.rfl
theorem u_ref22_Same_l0 : Run tr ref22_Same_l0 ρ J r ↔ Run tr ref22_Same_l0_b ρ J r := Iff.rfl
theorem u_ref22_Same : Run tr ref22_Same ρ J r ↔ Run tr ref22_Same_b ρ J r := Iff.rfl
theorem u_flex_Grow_j2 : Run tr flex_Grow_j2 ρ J r ↔ Run tr flex_Grow_j2_b ρ J r := Iff.rfl
theorem u_flex_Grow_j5 : Run tr flex_Grow_j5 ρ J r ↔ Run tr flex_Grow_j5_b ρ J r := Iff.rfl
theorem u_flex_Grow_j7 : Run tr flex_Grow_j7 ρ J r ↔ Run tr flex_Grow_j7_b ρ J r := Iff.rfl
theorem u_flex_Grow_l6 : Run tr flex_Grow_l6 ρ J r ↔ Run tr flex_Grow_l6_b ρ J r := Iff.rfl
theorem u_flex_Grow_l4 : Run tr flex_Grow_l4 ρ J r ↔ Run tr flex_Grow_l4_b ρ J r := Iff.rfl
theorem u_flex_Grow_l3 : Run tr flex_Grow_l3 ρ J r ↔ Run tr flex_Grow_l3_b ρ J r := Iff.rfl
theorem u_flex_Grow_l1 : Run tr flex_Grow_l1 ρ J r ↔ Run tr flex_Grow_l1_b ρ J r := Iff.rfl
theorem u_flex_Grow_j0 : Run tr flex_Grow_j0 ρ J r ↔ Run tr flex_Grow_j0_b ρ J r := Iff.rfl
theorem u_flex_Grow : Run tr flex_Grow ρ J r ↔ Run tr flex_Grow_b ρ J r := Iff.rfl
theorem u_ref26_Grow_j2 : Run tr ref26_Grow_j2 ρ J r ↔ Run tr ref26_Grow_j2_b ρ J r := Iff.rfl
theorem u_ref26_Grow_l4 : Run tr ref26_Grow_l4 ρ J r ↔ Run tr ref26_Grow_l4_b ρ J r := Iff.rfl
theorem u_ref26_Grow_j6 : Run tr ref26_Grow_j6 ρ J r ↔ Run tr ref26_Grow_j6_b ρ J r := Iff.rfl
theorem u_ref26_Grow_l5 : Run tr ref26_Grow_l5 ρ J r ↔ Run tr ref26_Grow_l5_b ρ J r := Iff.rfl
theorem u_ref26_Grow_l3 : Run tr ref26_Grow_l3 ρ J r ↔ Run tr ref26_Grow_l3_b ρ J r := Iff.rfl
theorem u_ref26_Grow_l1 : Run tr ref26_Grow_l1 ρ J r ↔ Run tr ref26_Grow_l1_b ρ J r := Iff.rfl
theorem u_ref26_Grow_j0 : Run tr ref26_Grow_j0 ρ J r ↔ Run tr ref26_Grow_j0_b ρ J r := Iff.rfl
theorem u_ref26_Grow : Run tr ref26_Grow ρ J r ↔ Run tr ref26_Grow_b ρ J r := Iff.rfl
theorem u_law26_FlexTells : Run tr law26_FlexTells ρ J r ↔ Run tr law26_FlexTells_b ρ J r := Iff.rfl
theorem u_law26_FlexFills_j3 : Run tr law26_FlexFills_j3 ρ J r ↔ Run tr law26_FlexFills_j3_b ρ J r := Iff.rfl
theorem u_law26_FlexFills_l4 : Run tr law26_FlexFills_l4 ρ J r ↔ Run tr law26_FlexFills_l4_b ρ J r := Iff.rfl
theorem u_law26_FlexFills_l2 : Run tr law26_FlexFills_l2 ρ J r ↔ Run tr law26_FlexFills_l2_b ρ J r := Iff.rfl
theorem u_law26_FlexFills_l1 : Run tr law26_FlexFills_l1 ρ J r ↔ Run tr law26_FlexFills_l1_b ρ J r := Iff.rfl
theorem u_law26_FlexFills_j0 : Run tr law26_FlexFills_j0 ρ J r ↔ Run tr law26_FlexFills_j0_b ρ J r := Iff.rfl
theorem u_law26_FlexFills : Run tr law26_FlexFills ρ J r ↔ Run tr law26_FlexFills_b ρ J r := Iff.rfl
theorem u_law26_FlexGrows_j5 : Run tr law26_FlexGrows_j5 ρ J r ↔ Run tr law26_FlexGrows_j5_b ρ J r := Iff.rfl
theorem u_law26_FlexGrows_j6 : Run tr law26_FlexGrows_j6 ρ J r ↔ Run tr law26_FlexGrows_j6_b ρ J r := Iff.rfl
theorem u_law26_FlexGrows_l4 : Run tr law26_FlexGrows_l4 ρ J r ↔ Run tr law26_FlexGrows_l4_b ρ J r := Iff.rfl
theorem u_law26_FlexGrows_l3 : Run tr law26_FlexGrows_l3 ρ J r ↔ Run tr law26_FlexGrows_l3_b ρ J r := Iff.rfl
theorem u_law26_FlexGrows_l2 : Run tr law26_FlexGrows_l2 ρ J r ↔ Run tr law26_FlexGrows_l2_b ρ J r := Iff.rfl
theorem u_law26_FlexGrows_l1 : Run tr law26_FlexGrows_l1 ρ J r ↔ Run tr law26_FlexGrows_l1_b ρ J r := Iff.rfl
theorem u_law26_FlexGrows_j0 : Run tr law26_FlexGrows_j0 ρ J r ↔ Run tr law26_FlexGrows_j0_b ρ J r := Iff.rfl
theorem u_law26_FlexGrows : Run tr law26_FlexGrows ρ J r ↔ Run tr law26_FlexGrows_b ρ J r := Iff.rfl
end
end Go.Proofs.Ytpaabecgngbjcaa.T
