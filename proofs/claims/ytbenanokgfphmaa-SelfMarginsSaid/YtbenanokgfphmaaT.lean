/- The trees of the laws and of what they call, written down; the laws' pure statements. No condition. -/
import Derived.Test.YtbenanokgfphmaaSx4
set_option maxRecDepth 100000
set_option linter.unusedVariables false
namespace Go.Proofs.Ytbenanokgfphmaa.T
open Go Go.Proofs.Ytbenanokgfphmaa.Sx Go.Proofs.Ytbenanokgfphmaa.Sx.T Go.Proofs.Ytbenanokgfphmaa.Sx.Ex
abbrev v (i : Nat) : Ex := .var i
abbrev n (x : Int) : Ex := .int .i64 x
abbrev add (a b : Ex) : Ex := .bin (.ar .add .i64) a b
abbrev sub (a b : Ex) : Ex := .bin (.ar .sub .i64) a b
abbrev cmp (o : BinOp) (a b : Ex) : Ex := .bin (.cmp o) a b
abbrev at_ (j : Nat) (a b : Ex) : Ex := .bin (.cell j (.int .i64)) a b
/- parterre/fixed.Is -/
abbrev c_fixed_Is : Nat := 35
@[reducible] def fixed_Is_b : T := .ret [(.bin .and (cmp .geq (v 0) (n (-68719476736))) (cmp .leq (v 0) (n 68719476736)))]
def fixed_Is : T := fixed_Is_b
/- parterre/fixed.size -/
abbrev c_fixed_size : Nat := 42
@[reducible] def fixed_size_b : T := .ite (cmp .lss (v 0) (n 0))
 (.ret [(.un (.neg .u64) (.un (.conv .u64) (v 0)))])
 (.ret [(.un (.conv .u64) (v 0))])
def fixed_size : T := fixed_size_b
/- math/bits.Mul64 -/
abbrev c_math_bits_Mul64 : Nat := 41
@[reducible] def math_bits_Mul64_b : T := .ret [(.bin (.ar .add .u64) (.bin (.ar .add .u64) (.bin (.ar .mul .u64) (.bin (.ar .shr .u64) (v 0) (.int .u64 32)) (.bin (.ar .shr .u64) (v 1) (.int .u64 32))) (.bin (.ar .shr .u64) (.bin (.ar .add .u64) (.bin (.ar .mul .u64) (.bin (.ar .shr .u64) (v 0) (.int .u64 32)) (.bin (.ar .and .u64) (v 1) (.int .u64 4294967295))) (.bin (.ar .shr .u64) (.bin (.ar .mul .u64) (.bin (.ar .and .u64) (v 0) (.int .u64 4294967295)) (.bin (.ar .and .u64) (v 1) (.int .u64 4294967295))) (.int .u64 32))) (.int .u64 32))) (.bin (.ar .shr .u64) (.bin (.ar .add .u64) (.bin (.ar .and .u64) (.bin (.ar .add .u64) (.bin (.ar .mul .u64) (.bin (.ar .shr .u64) (v 0) (.int .u64 32)) (.bin (.ar .and .u64) (v 1) (.int .u64 4294967295))) (.bin (.ar .shr .u64) (.bin (.ar .mul .u64) (.bin (.ar .and .u64) (v 0) (.int .u64 4294967295)) (.bin (.ar .and .u64) (v 1) (.int .u64 4294967295))) (.int .u64 32))) (.int .u64 4294967295)) (.bin (.ar .mul .u64) (.bin (.ar .and .u64) (v 0) (.int .u64 4294967295)) (.bin (.ar .shr .u64) (v 1) (.int .u64 32)))) (.int .u64 32))), (.bin (.ar .mul .u64) (v 0) (v 1))]
def math_bits_Mul64 : T := math_bits_Mul64_b
/- math/bits.Len64 -/
abbrev c_math_bits_Len64 : Nat := 50
@[reducible] def math_bits_Len64_j2_b : T := .ite (cmp .leq (n 0) (.un (.conv .u8) (v 6)))
 (.ite (cmp .lss (.un (.conv .u8) (v 6)) (n 256))
  (.ret [(add (v 5) (.un (.conv .i64) (.bin .byte (.str ⟨#[0, 1, 2, 2, 3, 3, 3, 3, 4, 4, 4, 4, 4, 4, 4, 4, 5, 5, 5, 5, 5, 5, 5, 5, 5, 5, 5, 5, 5, 5, 5, 5, 6, 6, 6, 6, 6, 6, 6, 6, 6, 6, 6, 6, 6, 6, 6, 6, 6, 6, 6, 6, 6, 6, 6, 6, 6, 6, 6, 6, 6, 6, 6, 6, 7, 7, 7, 7, 7, 7, 7, 7, 7, 7, 7, 7, 7, 7, 7, 7, 7, 7, 7, 7, 7, 7, 7, 7, 7, 7, 7, 7, 7, 7, 7, 7, 7, 7, 7, 7, 7, 7, 7, 7, 7, 7, 7, 7, 7, 7, 7, 7, 7, 7, 7, 7, 7, 7, 7, 7, 7, 7, 7, 7, 7, 7, 7, 7, 8, 8, 8, 8, 8, 8, 8, 8, 8, 8, 8, 8, 8, 8, 8, 8, 8, 8, 8, 8, 8, 8, 8, 8, 8, 8, 8, 8, 8, 8, 8, 8, 8, 8, 8, 8, 8, 8, 8, 8, 8, 8, 8, 8, 8, 8, 8, 8, 8, 8, 8, 8, 8, 8, 8, 8, 8, 8, 8, 8, 8, 8, 8, 8, 8, 8, 8, 8, 8, 8, 8, 8, 8, 8, 8, 8, 8, 8, 8, 8, 8, 8, 8, 8, 8, 8, 8, 8, 8, 8, 8, 8, 8, 8, 8, 8, 8, 8, 8, 8, 8, 8, 8, 8, 8, 8, 8, 8, 8, 8, 8, 8, 8, 8, 8, 8, 8, 8, 8, 8, 8, 8, 8, 8, 8, 8, 8, 8]⟩) (.un (.conv .u8) (v 6)))))])
  (.fail ""))
 (.fail "")
def math_bits_Len64_j2 : T := math_bits_Len64_j2_b
@[reducible] def math_bits_Len64_j1_b : T := .letj math_bits_Len64_j2 <|
 .ite (cmp .geq (v 4) (.int .u64 256))
 (.jump 0 [(add (v 3) (n 8)), (.bin (.ar .shr .u64) (v 4) (.int .u64 8))])
 (.jump 0 [(v 3), (v 4)])
def math_bits_Len64_j1 : T := math_bits_Len64_j1_b
@[reducible] def math_bits_Len64_j0_b : T := .letj math_bits_Len64_j1 <|
 .ite (cmp .geq (v 2) (.int .u64 65536))
 (.jump 0 [(add (v 1) (n 16)), (.bin (.ar .shr .u64) (v 2) (.int .u64 16))])
 (.jump 0 [(v 1), (v 2)])
def math_bits_Len64_j0 : T := math_bits_Len64_j0_b
@[reducible] def math_bits_Len64_b : T := .letj math_bits_Len64_j0 <|
 .ite (cmp .geq (v 0) (.int .u64 4294967296))
 (.jump 0 [(n 32), (.bin (.ar .shr .u64) (v 0) (.int .u64 32))])
 (.jump 0 [(n 0), (v 0)])
def math_bits_Len64 : T := math_bits_Len64_b
/- math/bits.LeadingZeros64 -/
abbrev c_math_bits_LeadingZeros64 : Nat := 48
@[reducible] def math_bits_LeadingZeros64_b : T := .call c_math_bits_Len64 [(v 0)] 1 <|
 .ret [(sub (n 64) (v 1))]
def math_bits_LeadingZeros64 : T := math_bits_LeadingZeros64_b
/- math/bits.Div64 -/
abbrev c_math_bits_Div64 : Nat := 43
@[reducible] def math_bits_Div64_j1_b : T := .ret [(.bin (.ar .add .u64) (.bin (.ar .mul .u64) (v 4) (.int .u64 4294967296)) (v 5)), (.bin (.ar .shr .u64) (.bin (.ar .sub .u64) (.bin (.ar .add .u64) (.bin (.ar .mul .u64) (.bin (.ar .sub .u64) (.bin (.ar .add .u64) (.bin (.ar .mul .u64) (.bin (.ar .or .u64) (.bin (.ar .shl .u64) (v 0) (.un (.conv .u64) (v 3))) (.bin (.ar .shr .u64) (v 1) (.bin (.ar .sub .u64) (.int .u64 64) (.un (.conv .u64) (v 3))))) (.int .u64 4294967296)) (.bin (.ar .shr .u64) (.bin (.ar .shl .u64) (v 1) (.un (.conv .u64) (v 3))) (.int .u64 32))) (.bin (.ar .mul .u64) (v 4) (.bin (.ar .shl .u64) (v 2) (.un (.conv .u64) (v 3))))) (.int .u64 4294967296)) (.bin (.ar .and .u64) (.bin (.ar .shl .u64) (v 1) (.un (.conv .u64) (v 3))) (.int .u64 4294967295))) (.bin (.ar .mul .u64) (v 5) (.bin (.ar .shl .u64) (v 2) (.un (.conv .u64) (v 3))))) (.un (.conv .u64) (v 3)))]
def math_bits_Div64_j1 : T := math_bits_Div64_j1_b
@[reducible] def math_bits_Div64_l2_b : T := .ite (.bin .or (cmp .geq (v 6) (.int .u64 4294967296)) (cmp .gtr (.bin (.ar .mul .u64) (v 6) (.bin (.ar .and .u64) (.bin (.ar .shl .u64) (v 2) (.un (.conv .u64) (v 3))) (.int .u64 4294967295))) (.bin (.ar .add .u64) (.bin (.ar .mul .u64) (.int .u64 4294967296) (v 5)) (.bin (.ar .and .u64) (.bin (.ar .shl .u64) (v 1) (.un (.conv .u64) (v 3))) (.int .u64 4294967295)))))
 (.ite (cmp .geq (.bin (.ar .add .u64) (v 5) (.bin (.ar .shr .u64) (.bin (.ar .shl .u64) (v 2) (.un (.conv .u64) (v 3))) (.int .u64 32))) (.int .u64 4294967296))
  (.jump 0 [(.bin (.ar .sub .u64) (v 6) (.int .u64 1))])
  (.jump 1 [(.bin (.ar .add .u64) (v 5) (.bin (.ar .shr .u64) (.bin (.ar .shl .u64) (v 2) (.un (.conv .u64) (v 3))) (.int .u64 32))), (.bin (.ar .sub .u64) (v 6) (.int .u64 1))]))
 (.jump 0 [(v 6)])
def math_bits_Div64_l2 : T := math_bits_Div64_l2_b
@[reducible] def math_bits_Div64_j0_b : T := .letj math_bits_Div64_j1 <|
 .loop [(.bin (.ar .sub .u64) (.bin (.ar .sub .u64) (.bin (.ar .add .u64) (.bin (.ar .mul .u64) (.bin (.ar .or .u64) (.bin (.ar .shl .u64) (v 0) (.un (.conv .u64) (v 3))) (.bin (.ar .shr .u64) (v 1) (.bin (.ar .sub .u64) (.int .u64 64) (.un (.conv .u64) (v 3))))) (.int .u64 4294967296)) (.bin (.ar .shr .u64) (.bin (.ar .shl .u64) (v 1) (.un (.conv .u64) (v 3))) (.int .u64 32))) (.bin (.ar .mul .u64) (v 4) (.bin (.ar .shl .u64) (v 2) (.un (.conv .u64) (v 3))))) (.bin (.ar .mul .u64) (.bin (.ar .quo .u64) (.bin (.ar .sub .u64) (.bin (.ar .add .u64) (.bin (.ar .mul .u64) (.bin (.ar .or .u64) (.bin (.ar .shl .u64) (v 0) (.un (.conv .u64) (v 3))) (.bin (.ar .shr .u64) (v 1) (.bin (.ar .sub .u64) (.int .u64 64) (.un (.conv .u64) (v 3))))) (.int .u64 4294967296)) (.bin (.ar .shr .u64) (.bin (.ar .shl .u64) (v 1) (.un (.conv .u64) (v 3))) (.int .u64 32))) (.bin (.ar .mul .u64) (v 4) (.bin (.ar .shl .u64) (v 2) (.un (.conv .u64) (v 3))))) (.bin (.ar .shr .u64) (.bin (.ar .shl .u64) (v 2) (.un (.conv .u64) (v 3))) (.int .u64 32))) (.bin (.ar .shr .u64) (.bin (.ar .shl .u64) (v 2) (.un (.conv .u64) (v 3))) (.int .u64 32)))), (.bin (.ar .quo .u64) (.bin (.ar .sub .u64) (.bin (.ar .add .u64) (.bin (.ar .mul .u64) (.bin (.ar .or .u64) (.bin (.ar .shl .u64) (v 0) (.un (.conv .u64) (v 3))) (.bin (.ar .shr .u64) (v 1) (.bin (.ar .sub .u64) (.int .u64 64) (.un (.conv .u64) (v 3))))) (.int .u64 4294967296)) (.bin (.ar .shr .u64) (.bin (.ar .shl .u64) (v 1) (.un (.conv .u64) (v 3))) (.int .u64 32))) (.bin (.ar .mul .u64) (v 4) (.bin (.ar .shl .u64) (v 2) (.un (.conv .u64) (v 3))))) (.bin (.ar .shr .u64) (.bin (.ar .shl .u64) (v 2) (.un (.conv .u64) (v 3))) (.int .u64 32)))] math_bits_Div64_l2
def math_bits_Div64_j0 : T := math_bits_Div64_j0_b
@[reducible] def math_bits_Div64_l3_b : T := .ite (.bin .or (cmp .geq (v 5) (.int .u64 4294967296)) (cmp .gtr (.bin (.ar .mul .u64) (v 5) (.bin (.ar .and .u64) (.bin (.ar .shl .u64) (v 2) (.un (.conv .u64) (v 3))) (.int .u64 4294967295))) (.bin (.ar .add .u64) (.bin (.ar .mul .u64) (.int .u64 4294967296) (v 4)) (.bin (.ar .shr .u64) (.bin (.ar .shl .u64) (v 1) (.un (.conv .u64) (v 3))) (.int .u64 32)))))
 (.ite (cmp .geq (.bin (.ar .add .u64) (v 4) (.bin (.ar .shr .u64) (.bin (.ar .shl .u64) (v 2) (.un (.conv .u64) (v 3))) (.int .u64 32))) (.int .u64 4294967296))
  (.jump 0 [(.bin (.ar .sub .u64) (v 5) (.int .u64 1))])
  (.jump 1 [(.bin (.ar .add .u64) (v 4) (.bin (.ar .shr .u64) (.bin (.ar .shl .u64) (v 2) (.un (.conv .u64) (v 3))) (.int .u64 32))), (.bin (.ar .sub .u64) (v 5) (.int .u64 1))]))
 (.jump 0 [(v 5)])
def math_bits_Div64_l3 : T := math_bits_Div64_l3_b
@[reducible] def math_bits_Div64_b : T := .ite (cmp .eql (v 2) (.int .u64 0))
 (.fail "")
 (.ite (cmp .leq (v 2) (v 0))
  (.fail "")
  (.ite (cmp .eql (v 0) (.int .u64 0))
   (.ite (cmp .neq (v 2) (.int .u64 0))
    (.ret [(.bin (.ar .quo .u64) (v 1) (v 2)), (.bin (.ar .rem .u64) (v 1) (v 2))])
    (.fail ""))
   (.call c_math_bits_LeadingZeros64 [(v 2)] 1 <|
    .ite (cmp .leq (.int .u64 0) (.un (.conv .u64) (v 3)))
    (.ite (cmp .leq (.int .u64 0) (.bin (.ar .sub .u64) (.int .u64 64) (.un (.conv .u64) (v 3))))
     (.ite (cmp .neq (.bin (.ar .shr .u64) (.bin (.ar .shl .u64) (v 2) (.un (.conv .u64) (v 3))) (.int .u64 32)) (.int .u64 0))
      (.letj math_bits_Div64_j0 <|
       .loop [(.bin (.ar .sub .u64) (.bin (.ar .or .u64) (.bin (.ar .shl .u64) (v 0) (.un (.conv .u64) (v 3))) (.bin (.ar .shr .u64) (v 1) (.bin (.ar .sub .u64) (.int .u64 64) (.un (.conv .u64) (v 3))))) (.bin (.ar .mul .u64) (.bin (.ar .quo .u64) (.bin (.ar .or .u64) (.bin (.ar .shl .u64) (v 0) (.un (.conv .u64) (v 3))) (.bin (.ar .shr .u64) (v 1) (.bin (.ar .sub .u64) (.int .u64 64) (.un (.conv .u64) (v 3))))) (.bin (.ar .shr .u64) (.bin (.ar .shl .u64) (v 2) (.un (.conv .u64) (v 3))) (.int .u64 32))) (.bin (.ar .shr .u64) (.bin (.ar .shl .u64) (v 2) (.un (.conv .u64) (v 3))) (.int .u64 32)))), (.bin (.ar .quo .u64) (.bin (.ar .or .u64) (.bin (.ar .shl .u64) (v 0) (.un (.conv .u64) (v 3))) (.bin (.ar .shr .u64) (v 1) (.bin (.ar .sub .u64) (.int .u64 64) (.un (.conv .u64) (v 3))))) (.bin (.ar .shr .u64) (.bin (.ar .shl .u64) (v 2) (.un (.conv .u64) (v 3))) (.int .u64 32)))] math_bits_Div64_l3)
      (.fail ""))
     (.fail ""))
    (.fail ""))))
def math_bits_Div64 : T := math_bits_Div64_b
/- parterre/fixed.MulDiv -/
abbrev c_fixed_MulDiv : Nat := 39
@[reducible] def fixed_MulDiv_b : T := .ite (cmp .eql (v 2) (n 0))
 (.ret [(n 0), (n 2)])
 (.call c_fixed_size [(v 0)] 1 <|
  .call c_fixed_size [(v 1)] 1 <|
  .call c_math_bits_Mul64 [(v 3), (v 4)] 2 <|
  .call c_fixed_size [(v 2)] 1 <|
  .ite (cmp .geq (v 5) (v 7))
  (.ret [(n 0), (n 10)])
  (.call c_math_bits_Div64 [(v 5), (v 6), (v 7)] 2 <|
   .ite (.bin .and (.un .not (.bin .beq (.un .not (.bin .beq (cmp .lss (v 0) (n 0)) (cmp .lss (v 1) (n 0)))) (cmp .lss (v 2) (n 0)))) (cmp .gtr (v 9) (.int .u64 0)))
   (.ite (cmp .geq (v 8) (.int .u64 9223372036854775808))
    (.ret [(n 0), (n 10)])
    (.ret [(.un (.conv .i64) (.un (.neg .u64) (.bin (.ar .add .u64) (v 8) (.int .u64 1)))), (n 0)]))
   (.ite (.bin .and (.un .not (.bin .beq (.un .not (.bin .beq (cmp .lss (v 0) (n 0)) (cmp .lss (v 1) (n 0)))) (cmp .lss (v 2) (n 0)))) (cmp .leq (v 8) (.int .u64 9223372036854775808)))
    (.ret [(.un (.conv .i64) (.un (.neg .u64) (v 8))), (n 0)])
    (.ite (cmp .geq (v 8) (.int .u64 9223372036854775808))
     (.ret [(n 0), (n 10)])
     (.ret [(.un (.conv .i64) (v 8)), (n 0)])))))
def fixed_MulDiv : T := fixed_MulDiv_b
/- parterre/fixed.Percent -/
abbrev c_fixed_Percent : Nat := 37
@[reducible] def fixed_Percent_j0_b : T := .ite (v 5)
 (.ret [(n 0), (n 10)])
 (.ret [(v 3), (n 0)])
def fixed_Percent_j0 : T := fixed_Percent_j0_b
@[reducible] def fixed_Percent_b : T := .call c_fixed_Is [(v 1)] 1 <|
 .ite (.bin .or (.bin .or (.un .not (v 2)) (cmp .lss (v 0) (n (-1073741824)))) (cmp .gtr (v 0) (n 1073741824)))
 (.ret [(n 0), (n 2)])
 (.call c_fixed_MulDiv [(v 1), (v 0), (n 100000)] 2 <|
  .letj fixed_Percent_j0 <|
  .ite (cmp .neq (v 4) (n 0))
  (.jump 0 [(.bool true)])
  (.call c_fixed_Is [(v 3)] 1 <|
   .jump 0 [(.un .not (v 5))]))
def fixed_Percent : T := fixed_Percent_b
/- parterre/value.Resolve -/
abbrev c_value_Resolve : Nat := 27
@[reducible] def value_Resolve_b : T := .ite (.bin .and (cmp .eql (v 0) (n 2)) (cmp .eql (v 1) (v 1)))
 (.ret [(v 1), (.bool true), (n 0)])
 (.ite (.bin .and (cmp .eql (v 0) (n 3)) (v 3))
  (.call c_fixed_Percent [(v 1), (v 2)] 2 <|
   .ret [(v 4), (cmp .eql (v 5) (n 0)), (v 5)])
  (.ret [(n 0), (.bool false), (n 0)]))
def value_Resolve : T := value_Resolve_b
/- parterre/self.isSize -/
abbrev c_self_isSize : Nat := 22
@[reducible] def self_isSize_b : T := .ite (cmp .geq (v 0) (n 0))
 (.call c_fixed_Is [(v 0)] 1 <|
  .ret [(v 1)])
 (.ret [(.bool false)])
def self_isSize : T := self_isSize_b
/- parterre/self.Margins -/
abbrev c_self_Margins : Nat := 11
@[reducible] def self_Margins_j4_b : T := .ret [(v 54), (v 55), (v 56), (v 57), (v 58), (v 59), (v 60), (v 61), (n 0)]
def self_Margins_j4 : T := self_Margins_j4_b
@[reducible] def self_Margins_j3_b : T := .letj self_Margins_j4 <|
 .ite (cmp .eql (v 48) (n 1))
 (.jump 0 [(.bool true), (n 0)])
 (.call c_value_Resolve [(v 48), (v 49), (v 51), (v 52)] 3 <|
  .ite (cmp .neq (v 62) (n 0))
  (.ret [(.bool false), (n 0), (.bool false), (n 0), (.bool false), (n 0), (.bool false), (n 0), (v 62)])
  (.jump 0 [(.bool false), (v 60)]))
def self_Margins_j3 : T := self_Margins_j3_b
@[reducible] def self_Margins_j2_b : T := .letj self_Margins_j3 <|
 .ite (cmp .eql (v 46) (n 1))
 (.jump 0 [(.bool true), (n 0)])
 (.call c_value_Resolve [(v 46), (v 47), (v 51), (v 52)] 3 <|
  .ite (cmp .neq (v 60) (n 0))
  (.ret [(.bool false), (n 0), (.bool false), (n 0), (.bool false), (n 0), (.bool false), (n 0), (v 60)])
  (.jump 0 [(.bool false), (v 58)]))
def self_Margins_j2 : T := self_Margins_j2_b
@[reducible] def self_Margins_j1_b : T := .letj self_Margins_j2 <|
 .ite (cmp .eql (v 44) (n 1))
 (.jump 0 [(.bool true), (n 0)])
 (.call c_value_Resolve [(v 44), (v 45), (v 51), (v 52)] 3 <|
  .ite (cmp .neq (v 58) (n 0))
  (.ret [(.bool false), (n 0), (.bool false), (n 0), (.bool false), (n 0), (.bool false), (n 0), (v 58)])
  (.jump 0 [(.bool false), (v 56)]))
def self_Margins_j1 : T := self_Margins_j1_b
@[reducible] def self_Margins_j0_b : T := .ite (v 53)
 (.ret [(.bool false), (n 0), (.bool false), (n 0), (.bool false), (n 0), (.bool false), (n 0), (n 2)])
 (.letj self_Margins_j1 <|
  .ite (cmp .eql (v 42) (n 1))
  (.jump 0 [(.bool true), (n 0)])
  (.call c_value_Resolve [(v 42), (v 43), (v 51), (v 52)] 3 <|
   .ite (cmp .neq (v 56) (n 0))
   (.ret [(.bool false), (n 0), (.bool false), (n 0), (.bool false), (n 0), (.bool false), (n 0), (v 56)])
   (.jump 0 [(.bool false), (v 54)])))
def self_Margins_j0 : T := self_Margins_j0_b
@[reducible] def self_Margins_b : T := .letj self_Margins_j0 <|
 .ite (v 52)
 (.call c_self_isSize [(v 51)] 1 <|
  .jump 0 [(.un .not (v 53))])
 (.jump 0 [(.bool false)])
def self_Margins : T := self_Margins_b
/- parterre/parterreref01.Is -/
abbrev c_ref01_Is : Nat := 36
@[reducible] def ref01_Is_b : T := .ret [(.bin .and (cmp .geq (v 0) (n (-68719476736))) (cmp .leq (v 0) (n 68719476736)))]
def ref01_Is : T := ref01_Is_b
/- parterre/parterreref01.size -/
abbrev c_ref01_size : Nat := 46
@[reducible] def ref01_size_b : T := .ite (cmp .lss (v 0) (n 0))
 (.ret [(.bin (.ar .sub .u64) (.int .u64 0) (.un (.conv .u64) (v 0)))])
 (.ret [(.un (.conv .u64) (v 0))])
def ref01_size : T := ref01_size_b
/- (parterre/parterreref01.Wide).twice -/
abbrev c_ref01_Wide_twice : Nat := 49
@[reducible] def ref01_Wide_twice_b : T := .ret [(.bin (.ar .add .u64) (.bin (.ar .mul .u64) (.int .u64 2) (v 0)) (.bin (.ar .quo .u64) (v 1) (.int .u64 9223372036854775808))), (.bin (.ar .add .u64) (.bin (.ar .mul .u64) (.int .u64 2) (v 1)) (v 2))]
def ref01_Wide_twice : T := ref01_Wide_twice_b
/- (parterre/parterreref01.Wide).plus -/
abbrev c_ref01_Wide_plus : Nat := 47
@[reducible] def ref01_Wide_plus_b : T := .ite (cmp .lss (.bin (.ar .add .u64) (v 1) (v 2)) (v 2))
 (.ret [(.bin (.ar .add .u64) (v 0) (.int .u64 1)), (.bin (.ar .add .u64) (v 1) (v 2))])
 (.ret [(v 0), (.bin (.ar .add .u64) (v 1) (v 2))])
def ref01_Wide_plus : T := ref01_Wide_plus_b
/- parterre/parterreref01.product -/
abbrev c_ref01_product : Nat := 45
@[reducible] def ref01_product_j1_b : T := .jump 0 [(add (v 2) (n 1)), (.bin (.ar .quo .u64) (v 3) (.int .u64 2)), (v 8), (v 9)]
def ref01_product_j1 : T := ref01_product_j1_b
@[reducible] def ref01_product_l0_b : T := .ite (cmp .lss (v 2) (n 64))
 (.call c_ref01_Wide_twice [(v 4), (v 5), (.int .u64 0)] 2 <|
  .letj ref01_product_j1 <|
  .ite (cmp .neq (v 3) (.int .u64 0))
  (.ite (cmp .eql (.bin (.ar .rem .u64) (.bin (.ar .quo .u64) (v 1) (v 3)) (.int .u64 2)) (.int .u64 1))
   (.call c_ref01_Wide_plus [(v 6), (v 7), (v 0)] 2 <|
    .jump 1 [(v 8), (v 9)])
   (.jump 1 [(v 6), (v 7)]))
  (.fail ""))
 (.ret [(v 4), (v 5)])
def ref01_product_l0 : T := ref01_product_l0_b
@[reducible] def ref01_product_b : T := .loop [(n 0), (.int .u64 9223372036854775808), (.int .u64 0), (.int .u64 0)] ref01_product_l0
def ref01_product : T := ref01_product_b
/- parterre/parterreref01.quotient -/
abbrev c_ref01_quotient : Nat := 44
@[reducible] def ref01_quotient_j3_b : T := .call c_ref01_Wide_twice [(v 4), (v 5), (v 14)] 2 <|
 .jump 0 [(sub (v 3) (n 1)), (v 17), (v 18), (v 15), (v 16)]
def ref01_quotient_j3 : T := ref01_quotient_j3_b
@[reducible] def ref01_quotient_l2_b : T := .ite (cmp .lss (v 10) (v 8))
 (.jump 1 [(add (v 10) (n 1)), (.bin (.ar .quo .u64) (v 11) (.int .u64 2))])
 (.call c_ref01_Wide_twice [(v 6), (v 7), (.bin (.ar .rem .u64) (v 11) (.int .u64 2))] 2 <|
  .letj ref01_quotient_j3 <|
  .ite (.bin .or (cmp .gtr (v 12) (.int .u64 0)) (cmp .geq (v 13) (v 2)))
  (.jump 2 [(.int .u64 1), (.int .u64 0), (.bin (.ar .sub .u64) (v 13) (v 2))])
  (.jump 2 [(.int .u64 0), (v 12), (v 13)]))
def ref01_quotient_l2 : T := ref01_quotient_l2_b
@[reducible] def ref01_quotient_j1_b : T := .loop [(n 0), (v 9)] ref01_quotient_l2
def ref01_quotient_j1 : T := ref01_quotient_j1_b
@[reducible] def ref01_quotient_l0_b : T := .ite (cmp .geq (v 3) (n 0))
 (.letj ref01_quotient_j1 <|
  .ite (cmp .lss (v 3) (n 64))
  (.jump 1 [(v 3), (v 1)])
  (.jump 1 [(sub (v 3) (n 64)), (v 0)]))
 (.ret [(v 4), (v 5), (v 7)])
def ref01_quotient_l0 : T := ref01_quotient_l0_b
@[reducible] def ref01_quotient_b : T := .loop [(n 127), (.int .u64 0), (.int .u64 0), (.int .u64 0), (.int .u64 0)] ref01_quotient_l0
def ref01_quotient : T := ref01_quotient_b
/- parterre/parterreref01.MulDiv -/
abbrev c_ref01_MulDiv : Nat := 40
@[reducible] def ref01_MulDiv_j0_b : T := .ite (.bin .or (cmp .gtr (v 11) (.int .u64 0)) (.bin .and (cmp .gtr (v 12) (.int .u64 9223372036854775807)) (.un .not (.bin .and (.bin .and (.un .not (.bin .beq (.un .not (.bin .beq (cmp .lss (v 0) (n 0)) (cmp .lss (v 1) (n 0)))) (cmp .lss (v 2) (n 0)))) (.bin .or (.un .not (.bin .and (cmp .eql (v 8) (.int .u64 0)) (cmp .eql (v 9) (.int .u64 0)))) (cmp .gtr (v 10) (.int .u64 0)))) (cmp .eql (v 12) (.int .u64 9223372036854775808))))))
 (.ret [(n 0), (n 10)])
 (.ite (.bin .and (.un .not (.bin .beq (.un .not (.bin .beq (cmp .lss (v 0) (n 0)) (cmp .lss (v 1) (n 0)))) (cmp .lss (v 2) (n 0)))) (.bin .or (.un .not (.bin .and (cmp .eql (v 8) (.int .u64 0)) (cmp .eql (v 9) (.int .u64 0)))) (cmp .gtr (v 10) (.int .u64 0))))
  (.ret [(.un (.conv .i64) (.bin (.ar .sub .u64) (.int .u64 0) (v 12))), (n 0)])
  (.ret [(.un (.conv .i64) (v 12)), (n 0)]))
def ref01_MulDiv_j0 : T := ref01_MulDiv_j0_b
@[reducible] def ref01_MulDiv_b : T := .ite (cmp .eql (v 2) (n 0))
 (.ret [(n 0), (n 2)])
 (.call c_ref01_size [(v 0)] 1 <|
  .call c_ref01_size [(v 1)] 1 <|
  .call c_ref01_product [(v 3), (v 4)] 2 <|
  .call c_ref01_size [(v 2)] 1 <|
  .call c_ref01_quotient [(v 5), (v 6), (v 7)] 3 <|
  .letj ref01_MulDiv_j0 <|
  .ite (.bin .and (.bin .and (.un .not (.bin .beq (.un .not (.bin .beq (cmp .lss (v 0) (n 0)) (cmp .lss (v 1) (n 0)))) (cmp .lss (v 2) (n 0)))) (.bin .or (.un .not (.bin .and (cmp .eql (v 8) (.int .u64 0)) (cmp .eql (v 9) (.int .u64 0)))) (cmp .gtr (v 10) (.int .u64 0)))) (cmp .gtr (v 10) (.int .u64 0)))
  (.call c_ref01_Wide_plus [(v 8), (v 9), (.int .u64 1)] 2 <|
   .jump 0 [(v 11), (v 12)])
  (.jump 0 [(v 8), (v 9)]))
def ref01_MulDiv : T := ref01_MulDiv_b
/- parterre/parterreref01.Percent -/
abbrev c_ref01_Percent : Nat := 38
@[reducible] def ref01_Percent_j0_b : T := .ite (v 5)
 (.ret [(n 0), (n 10)])
 (.ret [(v 3), (n 0)])
def ref01_Percent_j0 : T := ref01_Percent_j0_b
@[reducible] def ref01_Percent_b : T := .call c_ref01_Is [(v 1)] 1 <|
 .ite (.bin .or (.bin .or (.un .not (v 2)) (cmp .lss (v 0) (n (-1073741824)))) (cmp .gtr (v 0) (n 1073741824)))
 (.ret [(n 0), (n 2)])
 (.call c_ref01_MulDiv [(v 1), (v 0), (n 100000)] 2 <|
  .letj ref01_Percent_j0 <|
  .ite (cmp .neq (v 4) (n 0))
  (.jump 0 [(.bool true)])
  (.call c_ref01_Is [(v 3)] 1 <|
   .jump 0 [(.un .not (v 5))]))
def ref01_Percent : T := ref01_Percent_b
/- parterre/parterreref05.Resolve -/
abbrev c_ref05_Resolve : Nat := 28
@[reducible] def ref05_Resolve_b : T := .ite (cmp .eql (v 0) (n 2))
 (.ret [(v 1), (.bool true), (n 0)])
 (.ite (.bin .and (cmp .eql (v 0) (n 3)) (v 3))
  (.call c_ref01_Percent [(v 1), (v 2)] 2 <|
   .ret [(v 4), (cmp .eql (v 5) (n 0)), (v 5)])
  (.ret [(n 0), (.bool false), (n 0)]))
def ref05_Resolve : T := ref05_Resolve_b
/- parterre/parterreref29.Size -/
abbrev c_ref29_Size : Nat := 21
@[reducible] def ref29_Size_b : T := .ret [(.bin .and (cmp .geq (v 0) (n 0)) (cmp .leq (v 0) (n 68719476736)))]
def ref29_Size : T := ref29_Size_b
/- parterre/parterreref29.Margins -/
abbrev c_ref29_Margins : Nat := 12
@[reducible] def ref29_Margins_j4_b : T := .ret [(v 54), (v 55), (v 56), (v 57), (v 58), (v 59), (v 60), (v 61), (n 0)]
def ref29_Margins_j4 : T := ref29_Margins_j4_b
@[reducible] def ref29_Margins_j3_b : T := .letj ref29_Margins_j4 <|
 .ite (cmp .eql (v 48) (n 1))
 (.jump 0 [(.bool true), (n 0)])
 (.call c_ref05_Resolve [(v 48), (v 49), (v 51), (v 52)] 3 <|
  .ite (cmp .neq (v 62) (n 0))
  (.ret [(.bool false), (n 0), (.bool false), (n 0), (.bool false), (n 0), (.bool false), (n 0), (v 62)])
  (.jump 0 [(.bool false), (v 60)]))
def ref29_Margins_j3 : T := ref29_Margins_j3_b
@[reducible] def ref29_Margins_j2_b : T := .letj ref29_Margins_j3 <|
 .ite (cmp .eql (v 46) (n 1))
 (.jump 0 [(.bool true), (n 0)])
 (.call c_ref05_Resolve [(v 46), (v 47), (v 51), (v 52)] 3 <|
  .ite (cmp .neq (v 60) (n 0))
  (.ret [(.bool false), (n 0), (.bool false), (n 0), (.bool false), (n 0), (.bool false), (n 0), (v 60)])
  (.jump 0 [(.bool false), (v 58)]))
def ref29_Margins_j2 : T := ref29_Margins_j2_b
@[reducible] def ref29_Margins_j1_b : T := .letj ref29_Margins_j2 <|
 .ite (cmp .eql (v 44) (n 1))
 (.jump 0 [(.bool true), (n 0)])
 (.call c_ref05_Resolve [(v 44), (v 45), (v 51), (v 52)] 3 <|
  .ite (cmp .neq (v 58) (n 0))
  (.ret [(.bool false), (n 0), (.bool false), (n 0), (.bool false), (n 0), (.bool false), (n 0), (v 58)])
  (.jump 0 [(.bool false), (v 56)]))
def ref29_Margins_j1 : T := ref29_Margins_j1_b
@[reducible] def ref29_Margins_j0_b : T := .ite (v 53)
 (.ret [(.bool false), (n 0), (.bool false), (n 0), (.bool false), (n 0), (.bool false), (n 0), (n 2)])
 (.letj ref29_Margins_j1 <|
  .ite (cmp .eql (v 42) (n 1))
  (.jump 0 [(.bool true), (n 0)])
  (.call c_ref05_Resolve [(v 42), (v 43), (v 51), (v 52)] 3 <|
   .ite (cmp .neq (v 56) (n 0))
   (.ret [(.bool false), (n 0), (.bool false), (n 0), (.bool false), (n 0), (.bool false), (n 0), (v 56)])
   (.jump 0 [(.bool false), (v 54)])))
def ref29_Margins_j0 : T := ref29_Margins_j0_b
@[reducible] def ref29_Margins_b : T := .letj ref29_Margins_j0 <|
 .ite (v 52)
 (.call c_ref29_Size [(v 51)] 1 <|
  .jump 0 [(.un .not (v 53))])
 (.jump 0 [(.bool false)])
def ref29_Margins : T := ref29_Margins_b
/- parterre/fixed.Div -/
abbrev c_fixed_Div : Nat := 24
@[reducible] def fixed_Div_j0_b : T := .ret [(v 2)]
def fixed_Div_j0 : T := fixed_Div_j0_b
@[reducible] def fixed_Div_b : T := .ite (cmp .eql (v 1) (n 0))
 (.ret [(n 0)])
 (.ite (cmp .eql (v 1) (n (-1)))
  (.ret [(.un (.neg .i64) (v 0))])
  (.ite (cmp .neq (v 1) (n 0))
   (.letj fixed_Div_j0 <|
    .ite (.bin .and (cmp .neq (.bin (.ar .rem .i64) (v 0) (v 1)) (n 0)) (.un .not (.bin .beq (cmp .lss (v 0) (n 0)) (cmp .lss (v 1) (n 0)))))
    (.jump 0 [(sub (.bin (.ar .quo .i64) (v 0) (v 1)) (n 1))])
    (.jump 0 [(.bin (.ar .quo .i64) (v 0) (v 1))]))
   (.fail "")))
def fixed_Div : T := fixed_Div_b
/- parterre/self.isMargin -/
abbrev c_self_isMargin : Nat := 23
@[reducible] def self_isMargin_b : T := .call c_fixed_Is [(v 1)] 1 <|
 .ret [(.bin .and (v 2) (.bin .or (.un .not (v 0)) (cmp .eql (v 1) (n 0))))]
def self_isMargin : T := self_isMargin_b
/- parterre/self.Place -/
abbrev c_self_Place : Nat := 8
@[reducible] def self_Place_j1_b : T := .ite (cmp .eql (v 6) (n 4))
 (.ret [(add (v 3) (sub (sub (sub (v 0) (v 1)) (v 3)) (v 5)))])
 (.ite (cmp .eql (v 6) (n 5))
  (.ret [(add (v 3) (v 8))])
  (.ret [(v 3)]))
def self_Place_j1 : T := self_Place_j1_b
@[reducible] def self_Place_j0_b : T := .ite (v 7)
 (.ret [(n 0)])
 (.call c_fixed_Div [(sub (sub (sub (v 0) (v 1)) (v 3)) (v 5)), (n 2)] 1 <|
  .letj self_Place_j1 <|
  .ite (cmp .gtr (sub (sub (sub (v 0) (v 1)) (v 3)) (v 5)) (n 0))
  (.ite (.bin .and (.bin .beq (v 2) (.bool true)) (.bin .beq (v 4) (.bool true)))
   (.ret [(v 8)])
   (.ite (.bin .and (.bin .beq (v 2) (.bool true)) (.bin .beq (v 4) (.bool false)))
    (.ret [(sub (sub (sub (v 0) (v 1)) (v 3)) (v 5))])
    (.ite (.bin .and (.bin .beq (v 2) (.bool false)) (.bin .beq (v 4) (.bool true)))
     (.ret [(v 3)])
     (.jump 0 []))))
  (.jump 0 []))
def self_Place_j0 : T := self_Place_j0_b
@[reducible] def self_Place_b : T := .letj self_Place_j0 <|
 .call c_self_isSize [(v 0)] 1 <|
 .ite (v 7)
 (.call c_self_isSize [(v 1)] 1 <|
  .ite (v 8)
  (.call c_self_isMargin [(v 2), (v 3)] 1 <|
   .ite (v 9)
   (.call c_self_isMargin [(v 4), (v 5)] 1 <|
    .jump 0 [(.un .not (v 10))])
   (.jump 0 [(.bool true)]))
  (.jump 0 [(.bool true)]))
 (.jump 0 [(.bool true)])
def self_Place : T := self_Place_b
/- parterre/parterrelaw29.lives -/
abbrev c_law29_lives : Nat := 10
@[reducible] def law29_lives_b : T := .call c_self_Place [(n 100), (n 41), (.bool false), (n 0), (.bool false), (n 0), (n 5)] 1 <|
 .ite (cmp .eql (v 0) (n 29))
 (.call c_self_Place [(n 100), (n 41), (.bool false), (n 0), (.bool false), (n 0), (n 4)] 1 <|
  .ite (cmp .eql (v 1) (n 59))
  (.call c_self_Place [(n 100), (n 41), (.bool true), (n 0), (.bool true), (n 0), (n 4)] 1 <|
   .ret [(cmp .eql (v 2) (n 29))])
  (.ret [(.bool false)]))
 (.ret [(.bool false)])
def law29_lives : T := law29_lives_b
/- parterre/parterrelaw29.SelfMargins -/
abbrev c_law29_SelfMargins : Nat := 4
@[reducible] def law29_SelfMargins_b : T := .call c_self_Margins [(v 0), (v 1), (v 2), (v 3), (v 4), (v 5), (v 6), (v 7), (v 8), (v 9), (v 10), (v 11), (v 12), (v 13), (v 14), (v 15), (v 16), (v 17), (v 18), (v 19), (v 20), (v 21), (v 22), (v 23), (v 24), (v 25), (v 26), (v 27), (v 28), (v 29), (v 30), (v 31), (v 32), (v 33), (v 34), (v 35), (v 36), (v 37), (v 38), (v 39), (v 40), (v 41), (v 42), (v 43), (v 44), (v 45), (v 46), (v 47), (v 48), (v 49), (v 50), (v 51), (v 52)] 9 <|
 .call c_ref29_Margins [(v 0), (v 1), (v 2), (v 3), (v 4), (v 5), (v 6), (v 7), (v 8), (v 9), (v 10), (v 11), (v 12), (v 13), (v 14), (v 15), (v 16), (v 17), (v 18), (v 19), (v 20), (v 21), (v 22), (v 23), (v 24), (v 25), (v 26), (v 27), (v 28), (v 29), (v 30), (v 31), (v 32), (v 33), (v 34), (v 35), (v 36), (v 37), (v 38), (v 39), (v 40), (v 41), (v 42), (v 43), (v 44), (v 45), (v 46), (v 47), (v 48), (v 49), (v 50), (v 51), (v 52)] 9 <|
 .ite (.bin .and (.bin .and (.bin .beq (v 53) (v 62)) (.bin .and (cmp .eql (v 54) (v 63)) (.bin .and (.bin .beq (v 55) (v 64)) (.bin .and (cmp .eql (v 56) (v 65)) (.bin .and (.bin .beq (v 57) (v 66)) (.bin .and (cmp .eql (v 58) (v 67)) (.bin .and (.bin .beq (v 59) (v 68)) (cmp .eql (v 60) (v 69))))))))) (cmp .eql (v 61) (v 70)))
 (.call c_law29_lives [] 1 <|
  .ret [(v 71)])
 (.ret [(.bool false)])
def law29_SelfMargins : T := law29_SelfMargins_b
def sigL : List (Nat × Sig) := [
  (35, ⟨[.leaf (.int .i64)], [.leaf (.bool)]⟩) -- fixed_Is
  ,(42, ⟨[.leaf (.int .i64)], [.leaf (.int .u64)]⟩) -- fixed_size
  ,(41, ⟨[.leaf (.int .u64), .leaf (.int .u64)], [.leaf (.int .u64), .leaf (.int .u64)]⟩) -- math_bits_Mul64
  ,(50, ⟨[.leaf (.int .u64)], [.leaf (.int .i64)]⟩) -- math_bits_Len64
  ,(48, ⟨[.leaf (.int .u64)], [.leaf (.int .i64)]⟩) -- math_bits_LeadingZeros64
  ,(43, ⟨[.leaf (.int .u64), .leaf (.int .u64), .leaf (.int .u64)], [.leaf (.int .u64), .leaf (.int .u64)]⟩) -- math_bits_Div64
  ,(39, ⟨[.leaf (.int .i64), .leaf (.int .i64), .leaf (.int .i64)], [.leaf (.int .i64), .leaf (.int .i64)]⟩) -- fixed_MulDiv
  ,(37, ⟨[.leaf (.int .i64), .leaf (.int .i64)], [.leaf (.int .i64), .leaf (.int .i64)]⟩) -- fixed_Percent
  ,(27, ⟨[.agg [.int .i64, .int .i64], .leaf (.int .i64), .leaf (.bool)], [.leaf (.int .i64), .leaf (.bool), .leaf (.int .i64)]⟩) -- value_Resolve
  ,(22, ⟨[.leaf (.int .i64)], [.leaf (.bool)]⟩) -- self_isSize
  ,(11, ⟨[.agg [.row [.int .i64, .row [.str], .int .i64, .int .i64, .int .i64, .int .i64, .bool, .int .i64, .int .i64, .int .i64, .row [.int .i64, .row [.str], .int .i64, .int .i64, .int .i64, .int .i64, .bool, .int .i64, .int .i64, .int .i64, .row [.int .i64, .row [.str], .int .i64, .int .i64, .int .i64, .int .i64, .bool, .int .i64, .int .i64, .int .i64, .row [.int .i64, .row [.str], .int .i64, .int .i64, .int .i64, .int .i64, .bool, .int .i64, .int .i64, .int .i64, .any]]]], .row [.int .i64, .row [.str], .int .i64, .int .i64, .int .i64, .int .i64, .bool, .int .i64, .int .i64, .int .i64, .row [.int .i64, .row [.str], .int .i64, .int .i64, .int .i64, .int .i64, .bool, .int .i64, .int .i64, .int .i64, .row [.int .i64, .row [.str], .int .i64, .int .i64, .int .i64, .int .i64, .bool, .int .i64, .int .i64, .int .i64, .row [.int .i64, .row [.str], .int .i64, .int .i64, .int .i64, .int .i64, .bool, .int .i64, .int .i64, .int .i64, .any]]]], .row [.row [.str]], .row [.int .i64, .int .i64, .int .i64, .int .i64, .bool, .int .i64, .int .i64], .row [.int .i64, .int .i64, .int .i64, .int .i64, .bool, .int .i64, .int .i64], .bool, .bool, .int .i64, .int .i64, .int .i64, .int .i64, .int .i64, .int .i64, .int .i64, .int .i64, .int .i64, .int .i64, .int .i64, .int .i64, .str, .int .i64, .int .i64, .str, .int .i64, .int .i64, .str, .int .i64, .int .i64, .str, .int .i64, .int .i64, .int .i64, .int .i64, .int .i64, .int .i64, .int .i64, .int .i64, .int .i64, .int .i64, .int .i64, .int .i64, .int .i64, .int .i64, .int .i64, .int .i64, .int .i64, .int .i64, .int .i64, .int .i64, .int .i64, .row [.row [.int .i64, .int .i64]]], .leaf (.int .i64), .leaf (.bool)], [.agg [.bool, .int .i64, .bool, .int .i64, .bool, .int .i64, .bool, .int .i64], .leaf (.int .i64)]⟩) -- self_Margins
  ,(36, ⟨[.leaf (.int .i64)], [.leaf (.bool)]⟩) -- ref01_Is
  ,(46, ⟨[.leaf (.int .i64)], [.leaf (.int .u64)]⟩) -- ref01_size
  ,(49, ⟨[.agg [.int .u64, .int .u64], .leaf (.int .u64)], [.agg [.int .u64, .int .u64]]⟩) -- ref01_Wide_twice
  ,(47, ⟨[.agg [.int .u64, .int .u64], .leaf (.int .u64)], [.agg [.int .u64, .int .u64]]⟩) -- ref01_Wide_plus
  ,(45, ⟨[.leaf (.int .u64), .leaf (.int .u64)], [.agg [.int .u64, .int .u64]]⟩) -- ref01_product
  ,(44, ⟨[.agg [.int .u64, .int .u64], .leaf (.int .u64)], [.agg [.int .u64, .int .u64], .leaf (.int .u64)]⟩) -- ref01_quotient
  ,(40, ⟨[.leaf (.int .i64), .leaf (.int .i64), .leaf (.int .i64)], [.leaf (.int .i64), .leaf (.int .i64)]⟩) -- ref01_MulDiv
  ,(38, ⟨[.leaf (.int .i64), .leaf (.int .i64)], [.leaf (.int .i64), .leaf (.int .i64)]⟩) -- ref01_Percent
  ,(28, ⟨[.agg [.int .i64, .int .i64], .leaf (.int .i64), .leaf (.bool)], [.leaf (.int .i64), .leaf (.bool), .leaf (.int .i64)]⟩) -- ref05_Resolve
  ,(21, ⟨[.leaf (.int .i64)], [.leaf (.bool)]⟩) -- ref29_Size
  ,(12, ⟨[.agg [.row [.int .i64, .row [.str], .int .i64, .int .i64, .int .i64, .int .i64, .bool, .int .i64, .int .i64, .int .i64, .row [.int .i64, .row [.str], .int .i64, .int .i64, .int .i64, .int .i64, .bool, .int .i64, .int .i64, .int .i64, .row [.int .i64, .row [.str], .int .i64, .int .i64, .int .i64, .int .i64, .bool, .int .i64, .int .i64, .int .i64, .row [.int .i64, .row [.str], .int .i64, .int .i64, .int .i64, .int .i64, .bool, .int .i64, .int .i64, .int .i64, .any]]]], .row [.int .i64, .row [.str], .int .i64, .int .i64, .int .i64, .int .i64, .bool, .int .i64, .int .i64, .int .i64, .row [.int .i64, .row [.str], .int .i64, .int .i64, .int .i64, .int .i64, .bool, .int .i64, .int .i64, .int .i64, .row [.int .i64, .row [.str], .int .i64, .int .i64, .int .i64, .int .i64, .bool, .int .i64, .int .i64, .int .i64, .row [.int .i64, .row [.str], .int .i64, .int .i64, .int .i64, .int .i64, .bool, .int .i64, .int .i64, .int .i64, .any]]]], .row [.row [.str]], .row [.int .i64, .int .i64, .int .i64, .int .i64, .bool, .int .i64, .int .i64], .row [.int .i64, .int .i64, .int .i64, .int .i64, .bool, .int .i64, .int .i64], .bool, .bool, .int .i64, .int .i64, .int .i64, .int .i64, .int .i64, .int .i64, .int .i64, .int .i64, .int .i64, .int .i64, .int .i64, .int .i64, .str, .int .i64, .int .i64, .str, .int .i64, .int .i64, .str, .int .i64, .int .i64, .str, .int .i64, .int .i64, .int .i64, .int .i64, .int .i64, .int .i64, .int .i64, .int .i64, .int .i64, .int .i64, .int .i64, .int .i64, .int .i64, .int .i64, .int .i64, .int .i64, .int .i64, .int .i64, .int .i64, .int .i64, .int .i64, .row [.row [.int .i64, .int .i64]]], .leaf (.int .i64), .leaf (.bool)], [.agg [.bool, .int .i64, .bool, .int .i64, .bool, .int .i64, .bool, .int .i64], .leaf (.int .i64)]⟩) -- ref29_Margins
  ,(24, ⟨[.leaf (.int .i64), .leaf (.int .i64)], [.leaf (.int .i64)]⟩) -- fixed_Div
  ,(23, ⟨[.agg [.bool, .int .i64]], [.leaf (.bool)]⟩) -- self_isMargin
  ,(8, ⟨[.leaf (.int .i64), .leaf (.int .i64), .agg [.bool, .int .i64], .agg [.bool, .int .i64], .leaf (.int .i64)], [.leaf (.int .i64)]⟩) -- self_Place
  ,(10, ⟨[], [.leaf (.bool)]⟩) -- law29_lives
  ,(4, ⟨[.agg [.row [.int .i64, .row [.str], .int .i64, .int .i64, .int .i64, .int .i64, .bool, .int .i64, .int .i64, .int .i64, .row [.int .i64, .row [.str], .int .i64, .int .i64, .int .i64, .int .i64, .bool, .int .i64, .int .i64, .int .i64, .row [.int .i64, .row [.str], .int .i64, .int .i64, .int .i64, .int .i64, .bool, .int .i64, .int .i64, .int .i64, .row [.int .i64, .row [.str], .int .i64, .int .i64, .int .i64, .int .i64, .bool, .int .i64, .int .i64, .int .i64, .any]]]], .row [.int .i64, .row [.str], .int .i64, .int .i64, .int .i64, .int .i64, .bool, .int .i64, .int .i64, .int .i64, .row [.int .i64, .row [.str], .int .i64, .int .i64, .int .i64, .int .i64, .bool, .int .i64, .int .i64, .int .i64, .row [.int .i64, .row [.str], .int .i64, .int .i64, .int .i64, .int .i64, .bool, .int .i64, .int .i64, .int .i64, .row [.int .i64, .row [.str], .int .i64, .int .i64, .int .i64, .int .i64, .bool, .int .i64, .int .i64, .int .i64, .any]]]], .row [.row [.str]], .row [.int .i64, .int .i64, .int .i64, .int .i64, .bool, .int .i64, .int .i64], .row [.int .i64, .int .i64, .int .i64, .int .i64, .bool, .int .i64, .int .i64], .bool, .bool, .int .i64, .int .i64, .int .i64, .int .i64, .int .i64, .int .i64, .int .i64, .int .i64, .int .i64, .int .i64, .int .i64, .int .i64, .str, .int .i64, .int .i64, .str, .int .i64, .int .i64, .str, .int .i64, .int .i64, .str, .int .i64, .int .i64, .int .i64, .int .i64, .int .i64, .int .i64, .int .i64, .int .i64, .int .i64, .int .i64, .int .i64, .int .i64, .int .i64, .int .i64, .int .i64, .int .i64, .int .i64, .int .i64, .int .i64, .int .i64, .int .i64, .row [.row [.int .i64, .int .i64]]], .leaf (.int .i64), .leaf (.bool)], [.leaf (.bool)]⟩) -- law29_SelfMargins
  ]
def trL : List (Nat × T) := [(35, fixed_Is), (42, fixed_size), (41, math_bits_Mul64), (50, math_bits_Len64), (48, math_bits_LeadingZeros64), (43, math_bits_Div64), (39, fixed_MulDiv), (37, fixed_Percent), (27, value_Resolve), (22, self_isSize), (11, self_Margins), (36, ref01_Is), (46, ref01_size), (49, ref01_Wide_twice), (47, ref01_Wide_plus), (45, ref01_product), (44, ref01_quotient), (40, ref01_MulDiv), (38, ref01_Percent), (28, ref05_Resolve), (21, ref29_Size), (12, ref29_Margins), (24, fixed_Div), (23, self_isMargin), (8, self_Place), (10, law29_lives), (4, law29_SelfMargins)]

def sg (f : Nat) : Option Sig := Go.Proofs.Ytbenanokgfphmaa.Sx.look sigL f
def tr (f : Nat) : Option T := Go.Proofs.Ytbenanokgfphmaa.Sx.look trL f
/-- What the trees say, so many rounds and calls deep. -/
def says (k : Nat) : Nat → List PV → Option (List PV) := told tr k k
/-- THE ONE PURE STATEMENT of parterre/parterrelaw29.SelfMargins. -/
def Pure_SelfMargins : Prop := ∀ (q0 : List PV), ∀ (p1 : PV), ∀ (p2 : PV), LK.oks [.row [.int .i64, .row [.str], .int .i64, .int .i64, .int .i64, .int .i64, .bool, .int .i64, .int .i64, .int .i64, .row [.int .i64, .row [.str], .int .i64, .int .i64, .int .i64, .int .i64, .bool, .int .i64, .int .i64, .int .i64, .row [.int .i64, .row [.str], .int .i64, .int .i64, .int .i64, .int .i64, .bool, .int .i64, .int .i64, .int .i64, .row [.int .i64, .row [.str], .int .i64, .int .i64, .int .i64, .int .i64, .bool, .int .i64, .int .i64, .int .i64, .any]]]], .row [.int .i64, .row [.str], .int .i64, .int .i64, .int .i64, .int .i64, .bool, .int .i64, .int .i64, .int .i64, .row [.int .i64, .row [.str], .int .i64, .int .i64, .int .i64, .int .i64, .bool, .int .i64, .int .i64, .int .i64, .row [.int .i64, .row [.str], .int .i64, .int .i64, .int .i64, .int .i64, .bool, .int .i64, .int .i64, .int .i64, .row [.int .i64, .row [.str], .int .i64, .int .i64, .int .i64, .int .i64, .bool, .int .i64, .int .i64, .int .i64, .any]]]], .row [.row [.str]], .row [.int .i64, .int .i64, .int .i64, .int .i64, .bool, .int .i64, .int .i64], .row [.int .i64, .int .i64, .int .i64, .int .i64, .bool, .int .i64, .int .i64], .bool, .bool, .int .i64, .int .i64, .int .i64, .int .i64, .int .i64, .int .i64, .int .i64, .int .i64, .int .i64, .int .i64, .int .i64, .int .i64, .str, .int .i64, .int .i64, .str, .int .i64, .int .i64, .str, .int .i64, .int .i64, .str, .int .i64, .int .i64, .int .i64, .int .i64, .int .i64, .int .i64, .int .i64, .int .i64, .int .i64, .int .i64, .int .i64, .int .i64, .int .i64, .int .i64, .int .i64, .int .i64, .int .i64, .int .i64, .int .i64, .int .i64, .int .i64, .row [.row [.int .i64, .int .i64]]] q0 → LK.wfs [.row [.int .i64, .row [.str], .int .i64, .int .i64, .int .i64, .int .i64, .bool, .int .i64, .int .i64, .int .i64, .row [.int .i64, .row [.str], .int .i64, .int .i64, .int .i64, .int .i64, .bool, .int .i64, .int .i64, .int .i64, .row [.int .i64, .row [.str], .int .i64, .int .i64, .int .i64, .int .i64, .bool, .int .i64, .int .i64, .int .i64, .row [.int .i64, .row [.str], .int .i64, .int .i64, .int .i64, .int .i64, .bool, .int .i64, .int .i64, .int .i64, .any]]]], .row [.int .i64, .row [.str], .int .i64, .int .i64, .int .i64, .int .i64, .bool, .int .i64, .int .i64, .int .i64, .row [.int .i64, .row [.str], .int .i64, .int .i64, .int .i64, .int .i64, .bool, .int .i64, .int .i64, .int .i64, .row [.int .i64, .row [.str], .int .i64, .int .i64, .int .i64, .int .i64, .bool, .int .i64, .int .i64, .int .i64, .row [.int .i64, .row [.str], .int .i64, .int .i64, .int .i64, .int .i64, .bool, .int .i64, .int .i64, .int .i64, .any]]]], .row [.row [.str]], .row [.int .i64, .int .i64, .int .i64, .int .i64, .bool, .int .i64, .int .i64], .row [.int .i64, .int .i64, .int .i64, .int .i64, .bool, .int .i64, .int .i64], .bool, .bool, .int .i64, .int .i64, .int .i64, .int .i64, .int .i64, .int .i64, .int .i64, .int .i64, .int .i64, .int .i64, .int .i64, .int .i64, .str, .int .i64, .int .i64, .str, .int .i64, .int .i64, .str, .int .i64, .int .i64, .str, .int .i64, .int .i64, .int .i64, .int .i64, .int .i64, .int .i64, .int .i64, .int .i64, .int .i64, .int .i64, .int .i64, .int .i64, .int .i64, .int .i64, .int .i64, .int .i64, .int .i64, .int .i64, .int .i64, .int .i64, .int .i64, .row [.row [.int .i64, .int .i64]]] q0 → ((.int .i64) : LK).ok p1 → ((.int .i64) : LK).wf p1 → ((.bool) : LK).ok p2 → ((.bool) : LK).wf p2 → ∃ k, says k c_law29_SelfMargins ((q0 ++ (p1 :: (p2 :: [])))) = some [.bool true]
section
variable {ρ : List PV} {J : List JT} {r : List PV}
theorem u_fixed_Is : Run tr fixed_Is ρ J r ↔ Run tr fixed_Is_b ρ J r := Iff.rfl
theorem u_fixed_size : Run tr fixed_size ρ J r ↔ Run tr fixed_size_b ρ J r := Iff.rfl
theorem u_math_bits_Mul64 : Run tr math_bits_Mul64 ρ J r ↔ Run tr math_bits_Mul64_b ρ J r := Iff.rfl
theorem u_math_bits_Len64_j2 : Run tr math_bits_Len64_j2 ρ J r ↔ Run tr math_bits_Len64_j2_b ρ J r := Iff.rfl
theorem u_math_bits_Len64_j1 : Run tr math_bits_Len64_j1 ρ J r ↔ Run tr math_bits_Len64_j1_b ρ J r := Iff.rfl
theorem u_math_bits_Len64_j0 : Run tr math_bits_Len64_j0 ρ J r ↔ Run tr math_bits_Len64_j0_b ρ J r := Iff.rfl
theorem u_math_bits_Len64 : Run tr math_bits_Len64 ρ J r ↔ Run tr math_bits_Len64_b ρ J r := Iff.rfl
theorem u_math_bits_LeadingZeros64 : Run tr math_bits_LeadingZeros64 ρ J r ↔ Run tr math_bits_LeadingZeros64_b ρ J r := Iff.rfl
theorem u_math_bits_Div64_j1 : Run tr math_bits_Div64_j1 ρ J r ↔ Run tr math_bits_Div64_j1_b ρ J r := Iff.rfl
theorem u_math_bits_Div64_l2 : Run tr math_bits_Div64_l2 ρ J r ↔ Run tr math_bits_Div64_l2_b ρ J r := Iff.rfl
theorem u_math_bits_Div64_j0 : Run tr math_bits_Div64_j0 ρ J r ↔ Run tr math_bits_Div64_j0_b ρ J r := Iff.rfl
theorem u_math_bits_Div64_l3 : Run tr math_bits_Div64_l3 ρ J r ↔ Run tr math_bits_Div64_l3_b ρ J r := Iff.rfl
theorem u_math_bits_Div64 : Run tr math_bits_Div64 ρ J r ↔ Run tr math_bits_Div64_b ρ J r := Iff.rfl
theorem u_fixed_MulDiv : Run tr fixed_MulDiv ρ J r ↔ Run tr fixed_MulDiv_b ρ J r := Iff.rfl
theorem u_fixed_Percent_j0 : Run tr fixed_Percent_j0 ρ J r ↔ Run tr fixed_Percent_j0_b ρ J r := Iff.rfl
theorem u_fixed_Percent : Run tr fixed_Percent ρ J r ↔ Run tr fixed_Percent_b ρ J r := Iff.rfl
theorem u_value_Resolve : Run tr value_Resolve ρ J r ↔ Run tr value_Resolve_b ρ J r := Iff.rfl
theorem u_self_isSize : Run tr self_isSize ρ J r ↔ Run tr self_isSize_b ρ J r := Iff.rfl
theorem u_self_Margins_j4 : Run tr self_Margins_j4 ρ J r ↔ Run tr self_Margins_j4_b ρ J r := Iff.rfl
theorem u_self_Margins_j3 : Run tr self_Margins_j3 ρ J r ↔ Run tr self_Margins_j3_b ρ J r := Iff.rfl
theorem u_self_Margins_j2 : Run tr self_Margins_j2 ρ J r ↔ Run tr self_Margins_j2_b ρ J r := Iff.rfl
theorem u_self_Margins_j1 : Run tr self_Margins_j1 ρ J r ↔ Run tr self_Margins_j1_b ρ J r := Iff.rfl
theorem u_self_Margins_j0 : Run tr self_Margins_j0 ρ J r ↔ Run tr self_Margins_j0_b ρ J r := Iff.rfl
theorem u_self_Margins : Run tr self_Margins ρ J r ↔ Run tr self_Margins_b ρ J r := Iff.rfl
theorem u_ref01_Is : Run tr ref01_Is ρ J r ↔ Run tr ref01_Is_b ρ J r := Iff.rfl
theorem u_ref01_size : Run tr ref01_size ρ J r ↔ Run tr ref01_size_b ρ J r := Iff.rfl
theorem u_ref01_Wide_twice : Run tr ref01_Wide_twice ρ J r ↔ Run tr ref01_Wide_twice_b ρ J r := Iff.rfl
theorem u_ref01_Wide_plus : Run tr ref01_Wide_plus ρ J r ↔ Run tr ref01_Wide_plus_b ρ J r := Iff.rfl
theorem u_ref01_product_j1 : Run tr ref01_product_j1 ρ J r ↔ Run tr ref01_product_j1_b ρ J r := Iff.rfl
theorem u_ref01_product_l0 : Run tr ref01_product_l0 ρ J r ↔ Run tr ref01_product_l0_b ρ J r := Iff.rfl
theorem u_ref01_product : Run tr ref01_product ρ J r ↔ Run tr ref01_product_b ρ J r := Iff.rfl
theorem u_ref01_quotient_j3 : Run tr ref01_quotient_j3 ρ J r ↔ Run tr ref01_quotient_j3_b ρ J r := Iff.rfl
theorem u_ref01_quotient_l2 : Run tr ref01_quotient_l2 ρ J r ↔ Run tr ref01_quotient_l2_b ρ J r := Iff.rfl
theorem u_ref01_quotient_j1 : Run tr ref01_quotient_j1 ρ J r ↔ Run tr ref01_quotient_j1_b ρ J r := Iff.rfl
theorem u_ref01_quotient_l0 : Run tr ref01_quotient_l0 ρ J r ↔ Run tr ref01_quotient_l0_b ρ J r := Iff.rfl
theorem u_ref01_quotient : Run tr ref01_quotient ρ J r ↔ Run tr ref01_quotient_b ρ J r := Iff.rfl
theorem u_ref01_MulDiv_j0 : Run tr ref01_MulDiv_j0 ρ J r ↔ Run tr ref01_MulDiv_j0_b ρ J r := Iff.rfl
theorem u_ref01_MulDiv : Run tr ref01_MulDiv ρ J r ↔ Run tr ref01_MulDiv_b ρ J r := Iff.rfl
theorem u_ref01_Percent_j0 : Run tr ref01_Percent_j0 ρ J r ↔ Run tr ref01_Percent_j0_b ρ J r := Iff.rfl
theorem u_ref01_Percent : Run tr ref01_Percent ρ J r ↔ Run tr ref01_Percent_b ρ J r := Iff.rfl
theorem u_ref05_Resolve : Run tr ref05_Resolve ρ J r ↔ Run tr ref05_Resolve_b ρ J r := Iff.rfl
theorem u_ref29_Size : Run tr ref29_Size ρ J r ↔ Run tr ref29_Size_b ρ J r := Iff.rfl
theorem u_ref29_Margins_j4 : Run tr ref29_Margins_j4 ρ J r ↔ Run tr ref29_Margins_j4_b ρ J r := Iff.rfl
theorem u_ref29_Margins_j3 : Run tr ref29_Margins_j3 ρ J r ↔ Run tr ref29_Margins_j3_b ρ J r := Iff.rfl
theorem u_ref29_Margins_j2 : Run tr ref29_Margins_j2 ρ J r ↔ Run tr ref29_Margins_j2_b ρ J r := Iff.rfl
theorem u_ref29_Margins_j1 : Run tr ref29_Margins_j1 ρ J r ↔ Run tr ref29_Margins_j1_b ρ J r := Iff.rfl
theorem u_ref29_Margins_j0 : Run tr ref29_Margins_j0 ρ J r ↔ Run tr ref29_Margins_j0_b ρ J r := Iff.rfl
theorem u_ref29_Margins : Run tr ref29_Margins ρ J r ↔ Run tr ref29_Margins_b ρ J r := Iff.rfl
theorem u_fixed_Div_j0 : Run tr fixed_Div_j0 ρ J r ↔ Run tr fixed_Div_j0_b ρ J r := Iff.rfl
theorem u_fixed_Div : Run tr fixed_Div ρ J r ↔ Run tr fixed_Div_b ρ J r := Iff.rfl
theorem u_self_isMargin : Run tr self_isMargin ρ J r ↔ Run tr self_isMargin_b ρ J r := Iff.rfl
theorem u_self_Place_j1 : Run tr self_Place_j1 ρ J r ↔ Run tr self_Place_j1_b ρ J r := Iff.rfl
theorem u_self_Place_j0 : Run tr self_Place_j0 ρ J r ↔ Run tr self_Place_j0_b ρ J r := Iff.rfl
theorem u_self_Place : Run tr self_Place ρ J r ↔ Run tr self_Place_b ρ J r := Iff.rfl
theorem u_law29_lives : Run tr law29_lives ρ J r ↔ Run tr law29_lives_b ρ J r := Iff.rfl
theorem u_law29_SelfMargins : Run tr law29_SelfMargins ρ J r ↔ Run tr law29_SelfMargins_b ρ J r := Iff.rfl
end
end Go.Proofs.Ytbenanokgfphmaa.T
