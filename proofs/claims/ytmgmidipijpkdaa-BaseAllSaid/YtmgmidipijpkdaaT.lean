/- The trees of the laws and of what they call, written down; the laws' pure statements. No condition. -/
import Derived.Test.YtmgmidipijpkdaaSx4
set_option maxRecDepth 100000
set_option linter.unusedVariables false
namespace Go.Proofs.Ytmgmidipijpkdaa.T
open Go Go.Proofs.Ytmgmidipijpkdaa.Sx Go.Proofs.Ytmgmidipijpkdaa.Sx.T Go.Proofs.Ytmgmidipijpkdaa.Sx.Ex
abbrev v (i : Nat) : Ex := .var i
abbrev n (x : Int) : Ex := .int .i64 x
abbrev add (a b : Ex) : Ex := .bin (.ar .add .i64) a b
abbrev sub (a b : Ex) : Ex := .bin (.ar .sub .i64) a b
abbrev cmp (o : BinOp) (a b : Ex) : Ex := .bin (.cmp o) a b
abbrev at_ (j : Nat) (a b : Ex) : Ex := .bin (.cell j (.int .i64)) a b
/- parterre/fixed.Is -/
abbrev c_fixed_Is : Nat := 17
@[reducible] def fixed_Is_b : T := .ret [(.bin .and (cmp .geq (v 0) (n (-68719476736))) (cmp .leq (v 0) (n 68719476736)))]
def fixed_Is : T := fixed_Is_b
/- parterre/fixed.size -/
abbrev c_fixed_size : Nat := 46
@[reducible] def fixed_size_b : T := .ite (cmp .lss (v 0) (n 0))
 (.ret [(.un (.neg .u64) (.un (.conv .u64) (v 0)))])
 (.ret [(.un (.conv .u64) (v 0))])
def fixed_size : T := fixed_size_b
/- math/bits.Mul64 -/
abbrev c_math_bits_Mul64 : Nat := 45
@[reducible] def math_bits_Mul64_b : T := .ret [(.bin (.ar .add .u64) (.bin (.ar .add .u64) (.bin (.ar .mul .u64) (.bin (.ar .shr .u64) (v 0) (.int .u64 32)) (.bin (.ar .shr .u64) (v 1) (.int .u64 32))) (.bin (.ar .shr .u64) (.bin (.ar .add .u64) (.bin (.ar .mul .u64) (.bin (.ar .shr .u64) (v 0) (.int .u64 32)) (.bin (.ar .and .u64) (v 1) (.int .u64 4294967295))) (.bin (.ar .shr .u64) (.bin (.ar .mul .u64) (.bin (.ar .and .u64) (v 0) (.int .u64 4294967295)) (.bin (.ar .and .u64) (v 1) (.int .u64 4294967295))) (.int .u64 32))) (.int .u64 32))) (.bin (.ar .shr .u64) (.bin (.ar .add .u64) (.bin (.ar .and .u64) (.bin (.ar .add .u64) (.bin (.ar .mul .u64) (.bin (.ar .shr .u64) (v 0) (.int .u64 32)) (.bin (.ar .and .u64) (v 1) (.int .u64 4294967295))) (.bin (.ar .shr .u64) (.bin (.ar .mul .u64) (.bin (.ar .and .u64) (v 0) (.int .u64 4294967295)) (.bin (.ar .and .u64) (v 1) (.int .u64 4294967295))) (.int .u64 32))) (.int .u64 4294967295)) (.bin (.ar .mul .u64) (.bin (.ar .and .u64) (v 0) (.int .u64 4294967295)) (.bin (.ar .shr .u64) (v 1) (.int .u64 32)))) (.int .u64 32))), (.bin (.ar .mul .u64) (v 0) (v 1))]
def math_bits_Mul64 : T := math_bits_Mul64_b
/- math/bits.Len64 -/
abbrev c_math_bits_Len64 : Nat := 54
@[reducible] def math_bits_Len64_j2_b : T := .ite (cmp .leq (n 0) (.un (.conv .u8) (v 6)))
 (.ite (cmp .lss (.un (.conv .u8) (v 6)) (n 256))
  (.ret [(add (v 5) (.un (.conv .i64) (.bin .byte (.str ⟨#[0, 1, 2, 2, 3, 3, 3, 3, 4, 4, 4, 4, 4, 4, 4, 4, 5, 5, 5, 5, 5, 5, 5, 5, 5, 5, 5, 5, 5, 5, 5, 5, 6, 6, 6, 6, 6, 6, 6, 6, 6, 6, 6, 6, 6, 6, 6, 6, 6, 6, 6, 6, 6, 6, 6, 6, 6, 6, 6, 6, 6, 6, 6, 6, 7, 7, 7, 7, 7, 7, 7, 7, 7, 7, 7, 7, 7, 7, 7, 7, 7, 7, 7, 7, 7, 7, 7, 7, 7, 7, 7, 7, 7, 7, 7, 7, 7, 7, 7, 7, 7, 7, 7, 7, 7, 7, 7, 7, 7, 7, 7, 7, 7, 7, 7, 7, 7, 7, 7, 7, 7, 7, 7, 7, 7, 7, 7, 7, 8, 8, 8, 8, 8, 8, 8, 8, 8, 8, 8, 8, 8, 8, 8, 8, 8, 8, 8, 8, 8, 8, 8, 8, 8, 8, 8, 8, 8, 8, 8, 8, 8, 8, 8, 8, 8, 8, 8, 8, 8, 8, 8, 8, 8, 8, 8, 8, 8, 8, 8, 8, 8, 8, 8, 8, 8, 8, 8, 8, 8, 8, 8, 8, 8, 8, 8, 8, 8, 8, 8, 8, 8, 8, 8, 8, 8, 8, 8, 8, 8, 8, 8, 8, 8, 8, 8, 8, 8, 8, 8, 8, 8, 8, 8, 8, 8, 8, 8, 8, 8, 8, 8, 8, 8, 8, 8, 8, 8, 8, 8, 8, 8, 8, 8, 8, 8, 8, 8, 8, 8, 8, 8, 8, 8, 8, 8, 8]⟩) (.un (.conv .u8) (v 6)))))])
  (.fail ""))
 (.fail "")
def math_bits_Len64_j2 : T := math_bits_Len64_j2_b
@[reducible] def math_bits_Len64_j1_b : T := .letj math_bits_Len64_j2 <|
 .ite (cmp .geq (v 4) (.int .u64 256))
 (.jump 0 [(add (v 3) (n 8)), (.bin (.ar .shr .u64) (v 4) (.int .u64 8))])
 (.jump 0 [(v 3), (v 4)])
def math_bits_Len64_j1 : T := math_bits_Len64_j1_b
@[reducible] def math_bits_Len64_j0_b : T := .letj math_bits_Len64_j1 <|
 .ite (cmp .geq (v 2) (.int .u64 65536))
 (.jump 0 [(add (v 1) (n 16)), (.bin (.ar .shr .u64) (v 2) (.int .u64 16))])
 (.jump 0 [(v 1), (v 2)])
def math_bits_Len64_j0 : T := math_bits_Len64_j0_b
@[reducible] def math_bits_Len64_b : T := .letj math_bits_Len64_j0 <|
 .ite (cmp .geq (v 0) (.int .u64 4294967296))
 (.jump 0 [(n 32), (.bin (.ar .shr .u64) (v 0) (.int .u64 32))])
 (.jump 0 [(n 0), (v 0)])
def math_bits_Len64 : T := math_bits_Len64_b
/- math/bits.LeadingZeros64 -/
abbrev c_math_bits_LeadingZeros64 : Nat := 52
@[reducible] def math_bits_LeadingZeros64_b : T := .call c_math_bits_Len64 [(v 0)] 1 <|
 .ret [(sub (n 64) (v 1))]
def math_bits_LeadingZeros64 : T := math_bits_LeadingZeros64_b
/- math/bits.Div64 -/
abbrev c_math_bits_Div64 : Nat := 47
@[reducible] def math_bits_Div64_j1_b : T := .ret [(.bin (.ar .add .u64) (.bin (.ar .mul .u64) (v 4) (.int .u64 4294967296)) (v 5)), (.bin (.ar .shr .u64) (.bin (.ar .sub .u64) (.bin (.ar .add .u64) (.bin (.ar .mul .u64) (.bin (.ar .sub .u64) (.bin (.ar .add .u64) (.bin (.ar .mul .u64) (.bin (.ar .or .u64) (.bin (.ar .shl .u64) (v 0) (.un (.conv .u64) (v 3))) (.bin (.ar .shr .u64) (v 1) (.bin (.ar .sub .u64) (.int .u64 64) (.un (.conv .u64) (v 3))))) (.int .u64 4294967296)) (.bin (.ar .shr .u64) (.bin (.ar .shl .u64) (v 1) (.un (.conv .u64) (v 3))) (.int .u64 32))) (.bin (.ar .mul .u64) (v 4) (.bin (.ar .shl .u64) (v 2) (.un (.conv .u64) (v 3))))) (.int .u64 4294967296)) (.bin (.ar .and .u64) (.bin (.ar .shl .u64) (v 1) (.un (.conv .u64) (v 3))) (.int .u64 4294967295))) (.bin (.ar .mul .u64) (v 5) (.bin (.ar .shl .u64) (v 2) (.un (.conv .u64) (v 3))))) (.un (.conv .u64) (v 3)))]
def math_bits_Div64_j1 : T := math_bits_Div64_j1_b
@[reducible] def math_bits_Div64_l2_b : T := .ite (.bin .or (cmp .geq (v 6) (.int .u64 4294967296)) (cmp .gtr (.bin (.ar .mul .u64) (v 6) (.bin (.ar .and .u64) (.bin (.ar .shl .u64) (v 2) (.un (.conv .u64) (v 3))) (.int .u64 4294967295))) (.bin (.ar .add .u64) (.bin (.ar .mul .u64) (.int .u64 4294967296) (v 5)) (.bin (.ar .and .u64) (.bin (.ar .shl .u64) (v 1) (.un (.conv .u64) (v 3))) (.int .u64 4294967295)))))
 (.ite (cmp .geq (.bin (.ar .add .u64) (v 5) (.bin (.ar .shr .u64) (.bin (.ar .shl .u64) (v 2) (.un (.conv .u64) (v 3))) (.int .u64 32))) (.int .u64 4294967296))
  (.jump 0 [(.bin (.ar .sub .u64) (v 6) (.int .u64 1))])
  (.jump 1 [(.bin (.ar .add .u64) (v 5) (.bin (.ar .shr .u64) (.bin (.ar .shl .u64) (v 2) (.un (.conv .u64) (v 3))) (.int .u64 32))), (.bin (.ar .sub .u64) (v 6) (.int .u64 1))]))
 (.jump 0 [(v 6)])
def math_bits_Div64_l2 : T := math_bits_Div64_l2_b
@[reducible] def math_bits_Div64_j0_b : T := .letj math_bits_Div64_j1 <|
 .loop [(.bin (.ar .sub .u64) (.bin (.ar .sub .u64) (.bin (.ar .add .u64) (.bin (.ar .mul .u64) (.bin (.ar .or .u64) (.bin (.ar .shl .u64) (v 0) (.un (.conv .u64) (v 3))) (.bin (.ar .shr .u64) (v 1) (.bin (.ar .sub .u64) (.int .u64 64) (.un (.conv .u64) (v 3))))) (.int .u64 4294967296)) (.bin (.ar .shr .u64) (.bin (.ar .shl .u64) (v 1) (.un (.conv .u64) (v 3))) (.int .u64 32))) (.bin (.ar .mul .u64) (v 4) (.bin (.ar .shl .u64) (v 2) (.un (.conv .u64) (v 3))))) (.bin (.ar .mul .u64) (.bin (.ar .quo .u64) (.bin (.ar .sub .u64) (.bin (.ar .add .u64) (.bin (.ar .mul .u64) (.bin (.ar .or .u64) (.bin (.ar .shl .u64) (v 0) (.un (.conv .u64) (v 3))) (.bin (.ar .shr .u64) (v 1) (.bin (.ar .sub .u64) (.int .u64 64) (.un (.conv .u64) (v 3))))) (.int .u64 4294967296)) (.bin (.ar .shr .u64) (.bin (.ar .shl .u64) (v 1) (.un (.conv .u64) (v 3))) (.int .u64 32))) (.bin (.ar .mul .u64) (v 4) (.bin (.ar .shl .u64) (v 2) (.un (.conv .u64) (v 3))))) (.bin (.ar .shr .u64) (.bin (.ar .shl .u64) (v 2) (.un (.conv .u64) (v 3))) (.int .u64 32))) (.bin (.ar .shr .u64) (.bin (.ar .shl .u64) (v 2) (.un (.conv .u64) (v 3))) (.int .u64 32)))), (.bin (.ar .quo .u64) (.bin (.ar .sub .u64) (.bin (.ar .add .u64) (.bin (.ar .mul .u64) (.bin (.ar .or .u64) (.bin (.ar .shl .u64) (v 0) (.un (.conv .u64) (v 3))) (.bin (.ar .shr .u64) (v 1) (.bin (.ar .sub .u64) (.int .u64 64) (.un (.conv .u64) (v 3))))) (.int .u64 4294967296)) (.bin (.ar .shr .u64) (.bin (.ar .shl .u64) (v 1) (.un (.conv .u64) (v 3))) (.int .u64 32))) (.bin (.ar .mul .u64) (v 4) (.bin (.ar .shl .u64) (v 2) (.un (.conv .u64) (v 3))))) (.bin (.ar .shr .u64) (.bin (.ar .shl .u64) (v 2) (.un (.conv .u64) (v 3))) (.int .u64 32)))] math_bits_Div64_l2
def math_bits_Div64_j0 : T := math_bits_Div64_j0_b
@[reducible] def math_bits_Div64_l3_b : T := .ite (.bin .or (cmp .geq (v 5) (.int .u64 4294967296)) (cmp .gtr (.bin (.ar .mul .u64) (v 5) (.bin (.ar .and .u64) (.bin (.ar .shl .u64) (v 2) (.un (.conv .u64) (v 3))) (.int .u64 4294967295))) (.bin (.ar .add .u64) (.bin (.ar .mul .u64) (.int .u64 4294967296) (v 4)) (.bin (.ar .shr .u64) (.bin (.ar .shl .u64) (v 1) (.un (.conv .u64) (v 3))) (.int .u64 32)))))
 (.ite (cmp .geq (.bin (.ar .add .u64) (v 4) (.bin (.ar .shr .u64) (.bin (.ar .shl .u64) (v 2) (.un (.conv .u64) (v 3))) (.int .u64 32))) (.int .u64 4294967296))
  (.jump 0 [(.bin (.ar .sub .u64) (v 5) (.int .u64 1))])
  (.jump 1 [(.bin (.ar .add .u64) (v 4) (.bin (.ar .shr .u64) (.bin (.ar .shl .u64) (v 2) (.un (.conv .u64) (v 3))) (.int .u64 32))), (.bin (.ar .sub .u64) (v 5) (.int .u64 1))]))
 (.jump 0 [(v 5)])
def math_bits_Div64_l3 : T := math_bits_Div64_l3_b
@[reducible] def math_bits_Div64_b : T := .ite (cmp .eql (v 2) (.int .u64 0))
 (.fail "")
 (.ite (cmp .leq (v 2) (v 0))
  (.fail "")
  (.ite (cmp .eql (v 0) (.int .u64 0))
   (.ite (cmp .neq (v 2) (.int .u64 0))
    (.ret [(.bin (.ar .quo .u64) (v 1) (v 2)), (.bin (.ar .rem .u64) (v 1) (v 2))])
    (.fail ""))
   (.call c_math_bits_LeadingZeros64 [(v 2)] 1 <|
    .ite (cmp .leq (.int .u64 0) (.un (.conv .u64) (v 3)))
    (.ite (cmp .leq (.int .u64 0) (.bin (.ar .sub .u64) (.int .u64 64) (.un (.conv .u64) (v 3))))
     (.ite (cmp .neq (.bin (.ar .shr .u64) (.bin (.ar .shl .u64) (v 2) (.un (.conv .u64) (v 3))) (.int .u64 32)) (.int .u64 0))
      (.letj math_bits_Div64_j0 <|
       .loop [(.bin (.ar .sub .u64) (.bin (.ar .or .u64) (.bin (.ar .shl .u64) (v 0) (.un (.conv .u64) (v 3))) (.bin (.ar .shr .u64) (v 1) (.bin (.ar .sub .u64) (.int .u64 64) (.un (.conv .u64) (v 3))))) (.bin (.ar .mul .u64) (.bin (.ar .quo .u64) (.bin (.ar .or .u64) (.bin (.ar .shl .u64) (v 0) (.un (.conv .u64) (v 3))) (.bin (.ar .shr .u64) (v 1) (.bin (.ar .sub .u64) (.int .u64 64) (.un (.conv .u64) (v 3))))) (.bin (.ar .shr .u64) (.bin (.ar .shl .u64) (v 2) (.un (.conv .u64) (v 3))) (.int .u64 32))) (.bin (.ar .shr .u64) (.bin (.ar .shl .u64) (v 2) (.un (.conv .u64) (v 3))) (.int .u64 32)))), (.bin (.ar .quo .u64) (.bin (.ar .or .u64) (.bin (.ar .shl .u64) (v 0) (.un (.conv .u64) (v 3))) (.bin (.ar .shr .u64) (v 1) (.bin (.ar .sub .u64) (.int .u64 64) (.un (.conv .u64) (v 3))))) (.bin (.ar .shr .u64) (.bin (.ar .shl .u64) (v 2) (.un (.conv .u64) (v 3))) (.int .u64 32)))] math_bits_Div64_l3)
      (.fail ""))
     (.fail ""))
    (.fail ""))))
def math_bits_Div64 : T := math_bits_Div64_b
/- parterre/fixed.MulDiv -/
abbrev c_fixed_MulDiv : Nat := 40
@[reducible] def fixed_MulDiv_b : T := .ite (cmp .eql (v 2) (n 0))
 (.ret [(n 0), (n 2)])
 (.call c_fixed_size [(v 0)] 1 <|
  .call c_fixed_size [(v 1)] 1 <|
  .call c_math_bits_Mul64 [(v 3), (v 4)] 2 <|
  .call c_fixed_size [(v 2)] 1 <|
  .ite (cmp .geq (v 5) (v 7))
  (.ret [(n 0), (n 10)])
  (.call c_math_bits_Div64 [(v 5), (v 6), (v 7)] 2 <|
   .ite (.bin .and (.un .not (.bin .beq (.un .not (.bin .beq (cmp .lss (v 0) (n 0)) (cmp .lss (v 1) (n 0)))) (cmp .lss (v 2) (n 0)))) (cmp .gtr (v 9) (.int .u64 0)))
   (.ite (cmp .geq (v 8) (.int .u64 9223372036854775808))
    (.ret [(n 0), (n 10)])
    (.ret [(.un (.conv .i64) (.un (.neg .u64) (.bin (.ar .add .u64) (v 8) (.int .u64 1)))), (n 0)]))
   (.ite (.bin .and (.un .not (.bin .beq (.un .not (.bin .beq (cmp .lss (v 0) (n 0)) (cmp .lss (v 1) (n 0)))) (cmp .lss (v 2) (n 0)))) (cmp .leq (v 8) (.int .u64 9223372036854775808)))
    (.ret [(.un (.conv .i64) (.un (.neg .u64) (v 8))), (n 0)])
    (.ite (cmp .geq (v 8) (.int .u64 9223372036854775808))
     (.ret [(n 0), (n 10)])
     (.ret [(.un (.conv .i64) (v 8)), (n 0)])))))
def fixed_MulDiv : T := fixed_MulDiv_b
/- parterre/fixed.Percent -/
abbrev c_fixed_Percent : Nat := 31
@[reducible] def fixed_Percent_j0_b : T := .ite (v 5)
 (.ret [(n 0), (n 10)])
 (.ret [(v 3), (n 0)])
def fixed_Percent_j0 : T := fixed_Percent_j0_b
@[reducible] def fixed_Percent_b : T := .call c_fixed_Is [(v 1)] 1 <|
 .ite (.bin .or (.bin .or (.un .not (v 2)) (cmp .lss (v 0) (n (-1073741824)))) (cmp .gtr (v 0) (n 1073741824)))
 (.ret [(n 0), (n 2)])
 (.call c_fixed_MulDiv [(v 1), (v 0), (n 100000)] 2 <|
  .letj fixed_Percent_j0 <|
  .ite (cmp .neq (v 4) (n 0))
  (.jump 0 [(.bool true)])
  (.call c_fixed_Is [(v 3)] 1 <|
   .jump 0 [(.un .not (v 5))]))
def fixed_Percent : T := fixed_Percent_b
/- parterre/value.Resolve -/
abbrev c_value_Resolve : Nat := 18
@[reducible] def value_Resolve_b : T := .ite (.bin .and (cmp .eql (v 0) (n 2)) (cmp .eql (v 1) (v 1)))
 (.ret [(v 1), (.bool true), (n 0)])
 (.ite (.bin .and (cmp .eql (v 0) (n 3)) (v 3))
  (.call c_fixed_Percent [(v 1), (v 2)] 2 <|
   .ret [(v 4), (cmp .eql (v 5) (n 0)), (v 5)])
  (.ret [(n 0), (.bool false), (n 0)]))
def value_Resolve : T := value_Resolve_b
/- parterre/base.kind -/
abbrev c_base_kind : Nat := 19
@[reducible] def base_kind_j0_b : T := .ret [(n 1)]
def base_kind_j0 : T := base_kind_j0_b
@[reducible] def base_kind_b : T := .letj base_kind_j0 <|
 .ite (cmp .eql (v 0) (n 4))
 (.ret [(n 3)])
 (.ite (cmp .eql (v 0) (n 5))
  (.ret [(n 4)])
  (.ite (cmp .eql (v 0) (n 6))
   (.ret [(n 5)])
   (.ite (cmp .eql (v 0) (n 3))
    (.ite (v 2)
     (.jump 0 [])
     (.ret [(n 2)]))
    (.ite (cmp .eql (v 0) (n 2))
     (.jump 0 [])
     (.ret [(n 2)])))))
def base_kind : T := base_kind_b
/- parterre/base.Raise -/
abbrev c_base_Raise : Nat := 11
@[reducible] def base_Raise_j0_b : T := .ret [(v 0), (v 1), (v 2), (v 3), (v 4), (v 5), (v 7)]
def base_Raise_j0 : T := base_Raise_j0_b
@[reducible] def base_Raise_b : T := .letj base_Raise_j0 <|
 .ite (cmp .lss (v 6) (v 5))
 (.jump 0 [(v 5)])
 (.jump 0 [(v 6)])
def base_Raise : T := base_Raise_b
/- parterre/track.auto -/
abbrev c_track_auto : Nat := 37
@[reducible] def track_auto_b : T := .ret [(n 1), (n 0)]
def track_auto : T := track_auto_b
/- parterre/track.fit -/
abbrev c_track_fit : Nat := 28
@[reducible] def track_fit_b : T := .call c_track_auto [] 2 <|
 .ret [(v 2), (v 3), (n 5), (n 0), (.bool true), (v 0), (v 1)]
def track_fit : T := track_fit_b
/- parterre/track.isLen -/
abbrev c_track_isLen : Nat := 29
@[reducible] def track_isLen_b : T := .ret [(.bin .or (cmp .eql (v 0) (n 2)) (cmp .eql (v 0) (n 3)))]
def track_isLen : T := track_isLen_b
/- parterre/value.keyBit -/
abbrev c_value_keyBit : Nat := 39
@[reducible] def value_keyBit_j0_b : T := .ite (v 1)
 (.ret [(n 8)])
 (.ite (cmp .eql (v 0) (n 7))
  (.ret [(n 32)])
  (.ret [(n 0)]))
def value_keyBit_j0 : T := value_keyBit_j0_b
@[reducible] def value_keyBit_b : T := .ite (cmp .eql (v 0) (n 1))
 (.ret [(n 4)])
 (.letj value_keyBit_j0 <|
  .ite (cmp .eql (v 0) (n 4))
  (.jump 0 [(cmp .eql (v 0) (n 4))])
  (.jump 0 [(cmp .eql (v 0) (n 5))]))
def value_keyBit : T := value_keyBit_b
/- parterre/value.Good -/
abbrev c_value_Good : Nat := 30
@[reducible] def value_Good_j0_b : T := .ret [(v 3)]
def value_Good_j0 : T := value_Good_j0_b
@[reducible] def value_Good_j1_b : T := .ret [(v 3)]
def value_Good_j1 : T := value_Good_j1_b
@[reducible] def value_Good_b : T := .ite (cmp .eql (v 0) (n 2))
 (.letj value_Good_j0 <|
  .ite (cmp .lss (v 1) (n 0))
  (.jump 0 [(.bin .and (cmp .gtr (.bin (.ar .and .i64) (v 2) (n 2)) (n 0)) (cmp .geq (v 1) (n (-68719476736))))])
  (.jump 0 [(cmp .leq (v 1) (n 68719476736))]))
 (.ite (cmp .eql (v 0) (n 3))
  (.ite (cmp .gtr (.bin (.ar .and .i64) (v 2) (n 1)) (n 0))
   (.letj value_Good_j1 <|
    .ite (cmp .lss (v 1) (n 0))
    (.jump 0 [(.bin .and (cmp .gtr (.bin (.ar .and .i64) (v 2) (n 2)) (n 0)) (cmp .geq (v 1) (n (-1073741824))))])
    (.jump 0 [(cmp .leq (v 1) (n 1073741824))]))
   (.ret [(.bool false)]))
  (.ite (cmp .eql (v 0) (n 6))
   (.ret [(.bin .and (.bin .and (cmp .gtr (.bin (.ar .and .i64) (v 2) (n 16)) (n 0)) (cmp .geq (v 1) (n 0))) (cmp .leq (v 1) (n 1073741824)))])
   (.ite (cmp .eql (v 1) (n 0))
    (.call c_value_keyBit [(v 0)] 1 <|
     .ret [(cmp .gtr (.bin (.ar .and .i64) (v 2) (v 3)) (n 0))])
    (.ret [(.bool false)]))))
def value_Good : T := value_Good_b
/- parterre/track.Right -/
abbrev c_track_Right : Nat := 16
@[reducible] def track_Right_b : T := .ite (v 4)
 (.call c_track_fit [(v 5), (v 6)] 7 <|
  .ite (.bin .and (cmp .eql (v 0) (v 7)) (.bin .and (cmp .eql (v 1) (v 8)) (.bin .and (cmp .eql (v 2) (v 9)) (.bin .and (cmp .eql (v 3) (v 10)) (.bin .and (.bin .beq (v 4) (v 11)) (.bin .and (cmp .eql (v 5) (v 12)) (cmp .eql (v 6) (v 13))))))))
  (.call c_track_isLen [(v 5), (v 6)] 1 <|
   .ite (v 14)
   (.call c_value_Good [(v 5), (v 6), (n 1)] 1 <|
    .ret [(v 15)])
   (.ret [(.bool false)]))
  (.ret [(.bool false)]))
 (.ite (.bin .and (cmp .eql (v 5) (n 0)) (cmp .eql (v 6) (n 0)))
  (.call c_value_Good [(v 0), (v 1), (n 13)] 1 <|
   .ite (v 7)
   (.call c_value_Good [(v 2), (v 3), (n 29)] 1 <|
    .ret [(v 8)])
   (.ret [(.bool false)]))
  (.ret [(.bool false)]))
def track_Right : T := track_Right_b
/- parterre/base.Start -/
abbrev c_base_Start : Nat := 6
@[reducible] def base_Start_j3_b : T := .call c_base_Raise [(v 19), (v 20), (v 22), (v 23), (v 24), (v 10), (v 21)] 7 <|
 .ret [(v 25), (v 26), (v 27), (v 28), (v 29), (v 30), (v 31), (n 0)]
def base_Start_j3 : T := base_Start_j3_b
@[reducible] def base_Start_j2_b : T := .letj base_Start_j3 <|
 .ite (.bin .and (v 4) (v 17))
 (.jump 0 [(.bool true), (v 16)])
 (.jump 0 [(.bool false), (n 0)])
def base_Start_j2 : T := base_Start_j2_b
@[reducible] def base_Start_j1_b : T := .letj base_Start_j2 <|
 .ite (cmp .eql (v 20) (n 5))
 (.jump 0 [(v 3)])
 (.jump 0 [(n 0)])
def base_Start_j1 : T := base_Start_j1_b
@[reducible] def base_Start_j0_b : T := .ite (v 9)
 (.ret [(n 0), (n 0), (n 0), (.bool false), (n 0), (n 0), (n 0), (n 2)])
 (.call c_value_Resolve [(v 0), (v 1), (v 7), (v 8)] 3 <|
  .ite (cmp .neq (v 12) (n 0))
  (.ret [(n 0), (n 0), (n 0), (.bool false), (n 0), (n 0), (n 0), (v 12)])
  (.call c_value_Resolve [(v 2), (v 3), (v 7), (v 8)] 3 <|
   .ite (cmp .neq (v 15) (n 0))
   (.ret [(n 0), (n 0), (n 0), (.bool false), (n 0), (n 0), (n 0), (v 15)])
   (.call c_value_Resolve [(v 5), (v 6), (v 7), (v 8)] 3 <|
    .ite (cmp .neq (v 18) (n 0))
    (.ret [(n 0), (n 0), (n 0), (.bool false), (n 0), (n 0), (n 0), (v 18)])
    (.call c_base_kind [(v 0), (v 1), (v 8)] 1 <|
     .call c_base_kind [(v 2), (v 3), (v 8)] 1 <|
     .letj base_Start_j1 <|
     .ite (v 14)
     (.jump 0 [(v 13)])
     (.jump 0 [(n 1125899906842624)])))))
def base_Start_j0 : T := base_Start_j0_b
@[reducible] def base_Start_b : T := .letj base_Start_j0 <|
 .call c_track_Right [(v 0), (v 1), (v 2), (v 3), (v 4), (v 5), (v 6)] 1 <|
 .ite (.bin .and (.bin .and (v 9) (v 8)) (.un .not (cmp .lss (v 7) (n 0))))
 (.call c_fixed_Is [(v 7)] 1 <|
  .jump 0 [(.un .not (v 10))])
 (.jump 0 [(.bin .or (.un .not (v 9)) (.bin .and (v 8) (.bool true)))])
def base_Start : T := base_Start_b
/- parterre/parterreref06.isLen -/
abbrev c_ref06_isLen : Nat := 32
@[reducible] def ref06_isLen_b : T := .ret [(.bin .or (cmp .eql (v 0) (n 2)) (cmp .eql (v 0) (n 3)))]
def ref06_isLen : T := ref06_isLen_b
/- parterre/parterreref05.bits -/
abbrev c_ref05_bits : Nat := 41
@[reducible] def ref05_bits_b : T := .ret [(.un (.conv .i64) (.bin (.ar .rem .u64) (.un (.conv .u64) (v 0)) (.int .u64 64)))]
def ref05_bits : T := ref05_bits_b
/- parterre/parterreref05.Has -/
abbrev c_ref05_Has : Nat := 42
@[reducible] def ref05_Has_b : T := .ite (cmp .neq (v 1) (n 0))
 (.ret [(cmp .eql (.bin (.ar .rem .i64) (.bin (.ar .quo .i64) (v 0) (v 1)) (n 2)) (n 1))])
 (.fail "")
def ref05_Has : T := ref05_Has_b
/- parterre/parterreref05.Good -/
abbrev c_ref05_Good : Nat := 33
@[reducible] def ref05_Good_j0_b : T := .ret [(.bin .and (cmp .geq (v 1) (v 4)) (cmp .leq (v 1) (n 68719476736)))]
def ref05_Good_j0 : T := ref05_Good_j0_b
@[reducible] def ref05_Good_j1_b : T := .call c_ref05_Has [(v 3), (n 1)] 1 <|
 .ret [(.bin .and (.bin .and (v 5) (cmp .geq (v 1) (v 4))) (cmp .leq (v 1) (n 1073741824)))]
def ref05_Good_j1 : T := ref05_Good_j1_b
@[reducible] def ref05_Good_j2_b : T := .ite (v 4)
 (.call c_ref05_Has [(v 3), (n 8)] 1 <|
  .ret [(.bin .and (v 5) (cmp .eql (v 1) (n 0)))])
 (.ite (cmp .eql (v 0) (n 6))
  (.call c_ref05_Has [(v 3), (n 16)] 1 <|
   .ret [(.bin .and (.bin .and (v 5) (cmp .geq (v 1) (n 0))) (cmp .leq (v 1) (n 1073741824)))])
  (.ite (cmp .eql (v 0) (n 7))
   (.call c_ref05_Has [(v 3), (n 32)] 1 <|
    .ret [(.bin .and (v 5) (cmp .eql (v 1) (n 0)))])
   (.ret [(.bool false)])))
def ref05_Good_j2 : T := ref05_Good_j2_b
@[reducible] def ref05_Good_b : T := .call c_ref05_bits [(v 2)] 1 <|
 .ite (cmp .eql (v 0) (n 2))
 (.letj ref05_Good_j0 <|
  .call c_ref05_Has [(v 3), (n 2)] 1 <|
  .ite (v 4)
  (.jump 0 [(n (-68719476736))])
  (.jump 0 [(n 0)]))
 (.ite (cmp .eql (v 0) (n 3))
  (.letj ref05_Good_j1 <|
   .call c_ref05_Has [(v 3), (n 2)] 1 <|
   .ite (v 4)
   (.jump 0 [(n (-1073741824))])
   (.jump 0 [(n 0)]))
  (.ite (cmp .eql (v 0) (n 1))
   (.call c_ref05_Has [(v 3), (n 4)] 1 <|
    .ret [(.bin .and (v 4) (cmp .eql (v 1) (n 0)))])
   (.letj ref05_Good_j2 <|
    .ite (cmp .eql (v 0) (n 4))
    (.jump 0 [(cmp .eql (v 0) (n 4))])
    (.jump 0 [(cmp .eql (v 0) (n 5))]))))
def ref05_Good : T := ref05_Good_b
/- parterre/parterreref06.Right -/
abbrev c_ref06_Right : Nat := 20
@[reducible] def ref06_Right_b : T := .ite (v 4)
 (.ite (.bin .and (.bin .and (cmp .eql (v 0) (n 1)) (cmp .eql (v 1) (n 0))) (.bin .and (cmp .eql (v 2) (n 5)) (cmp .eql (v 3) (n 0))))
  (.call c_ref06_isLen [(v 5), (v 6)] 1 <|
   .ite (v 7)
   (.call c_ref05_Good [(v 5), (v 6), (n 1)] 1 <|
    .ret [(v 8)])
   (.ret [(.bool false)]))
  (.ret [(.bool false)]))
 (.ite (.bin .and (cmp .eql (v 5) (n 0)) (cmp .eql (v 6) (n 0)))
  (.call c_ref05_Good [(v 0), (v 1), (n 13)] 1 <|
   .ite (v 7)
   (.call c_ref05_Good [(v 2), (v 3), (n 29)] 1 <|
    .ret [(v 8)])
   (.ret [(.bool false)]))
  (.ret [(.bool false)]))
def ref06_Right : T := ref06_Right_b
/- parterre/parterreref01.Is -/
abbrev c_ref01_Is : Nat := 43
@[reducible] def ref01_Is_b : T := .ret [(.bin .and (cmp .geq (v 0) (n (-68719476736))) (cmp .leq (v 0) (n 68719476736)))]
def ref01_Is : T := ref01_Is_b
/- parterre/parterreref01.size -/
abbrev c_ref01_size : Nat := 50
@[reducible] def ref01_size_b : T := .ite (cmp .lss (v 0) (n 0))
 (.ret [(.bin (.ar .sub .u64) (.int .u64 0) (.un (.conv .u64) (v 0)))])
 (.ret [(.un (.conv .u64) (v 0))])
def ref01_size : T := ref01_size_b
/- (parterre/parterreref01.Wide).twice -/
abbrev c_ref01_Wide_twice : Nat := 53
@[reducible] def ref01_Wide_twice_b : T := .ret [(.bin (.ar .add .u64) (.bin (.ar .mul .u64) (.int .u64 2) (v 0)) (.bin (.ar .quo .u64) (v 1) (.int .u64 9223372036854775808))), (.bin (.ar .add .u64) (.bin (.ar .mul .u64) (.int .u64 2) (v 1)) (v 2))]
def ref01_Wide_twice : T := ref01_Wide_twice_b
/- (parterre/parterreref01.Wide).plus -/
abbrev c_ref01_Wide_plus : Nat := 51
@[reducible] def ref01_Wide_plus_b : T := .ite (cmp .lss (.bin (.ar .add .u64) (v 1) (v 2)) (v 2))
 (.ret [(.bin (.ar .add .u64) (v 0) (.int .u64 1)), (.bin (.ar .add .u64) (v 1) (v 2))])
 (.ret [(v 0), (.bin (.ar .add .u64) (v 1) (v 2))])
def ref01_Wide_plus : T := ref01_Wide_plus_b
/- parterre/parterreref01.product -/
abbrev c_ref01_product : Nat := 49
@[reducible] def ref01_product_j1_b : T := .jump 0 [(add (v 2) (n 1)), (.bin (.ar .quo .u64) (v 3) (.int .u64 2)), (v 8), (v 9)]
def ref01_product_j1 : T := ref01_product_j1_b
@[reducible] def ref01_product_l0_b : T := .ite (cmp .lss (v 2) (n 64))
 (.call c_ref01_Wide_twice [(v 4), (v 5), (.int .u64 0)] 2 <|
  .letj ref01_product_j1 <|
  .ite (cmp .neq (v 3) (.int .u64 0))
  (.ite (cmp .eql (.bin (.ar .rem .u64) (.bin (.ar .quo .u64) (v 1) (v 3)) (.int .u64 2)) (.int .u64 1))
   (.call c_ref01_Wide_plus [(v 6), (v 7), (v 0)] 2 <|
    .jump 1 [(v 8), (v 9)])
   (.jump 1 [(v 6), (v 7)]))
  (.fail ""))
 (.ret [(v 4), (v 5)])
def ref01_product_l0 : T := ref01_product_l0_b
@[reducible] def ref01_product_b : T := .loop [(n 0), (.int .u64 9223372036854775808), (.int .u64 0), (.int .u64 0)] ref01_product_l0
def ref01_product : T := ref01_product_b
/- parterre/parterreref01.quotient -/
abbrev c_ref01_quotient : Nat := 48
@[reducible] def ref01_quotient_j3_b : T := .call c_ref01_Wide_twice [(v 4), (v 5), (v 14)] 2 <|
 .jump 0 [(sub (v 3) (n 1)), (v 17), (v 18), (v 15), (v 16)]
def ref01_quotient_j3 : T := ref01_quotient_j3_b
@[reducible] def ref01_quotient_l2_b : T := .ite (cmp .lss (v 10) (v 8))
 (.jump 1 [(add (v 10) (n 1)), (.bin (.ar .quo .u64) (v 11) (.int .u64 2))])
 (.call c_ref01_Wide_twice [(v 6), (v 7), (.bin (.ar .rem .u64) (v 11) (.int .u64 2))] 2 <|
  .letj ref01_quotient_j3 <|
  .ite (.bin .or (cmp .gtr (v 12) (.int .u64 0)) (cmp .geq (v 13) (v 2)))
  (.jump 2 [(.int .u64 1), (.int .u64 0), (.bin (.ar .sub .u64) (v 13) (v 2))])
  (.jump 2 [(.int .u64 0), (v 12), (v 13)]))
def ref01_quotient_l2 : T := ref01_quotient_l2_b
@[reducible] def ref01_quotient_j1_b : T := .loop [(n 0), (v 9)] ref01_quotient_l2
def ref01_quotient_j1 : T := ref01_quotient_j1_b
@[reducible] def ref01_quotient_l0_b : T := .ite (cmp .geq (v 3) (n 0))
 (.letj ref01_quotient_j1 <|
  .ite (cmp .lss (v 3) (n 64))
  (.jump 1 [(v 3), (v 1)])
  (.jump 1 [(sub (v 3) (n 64)), (v 0)]))
 (.ret [(v 4), (v 5), (v 7)])
def ref01_quotient_l0 : T := ref01_quotient_l0_b
@[reducible] def ref01_quotient_b : T := .loop [(n 127), (.int .u64 0), (.int .u64 0), (.int .u64 0), (.int .u64 0)] ref01_quotient_l0
def ref01_quotient : T := ref01_quotient_b
/- parterre/parterreref01.MulDiv -/
abbrev c_ref01_MulDiv : Nat := 44
@[reducible] def ref01_MulDiv_j0_b : T := .ite (.bin .or (cmp .gtr (v 11) (.int .u64 0)) (.bin .and (cmp .gtr (v 12) (.int .u64 9223372036854775807)) (.un .not (.bin .and (.bin .and (.un .not (.bin .beq (.un .not (.bin .beq (cmp .lss (v 0) (n 0)) (cmp .lss (v 1) (n 0)))) (cmp .lss (v 2) (n 0)))) (.bin .or (.un .not (.bin .and (cmp .eql (v 8) (.int .u64 0)) (cmp .eql (v 9) (.int .u64 0)))) (cmp .gtr (v 10) (.int .u64 0)))) (cmp .eql (v 12) (.int .u64 9223372036854775808))))))
 (.ret [(n 0), (n 10)])
 (.ite (.bin .and (.un .not (.bin .beq (.un .not (.bin .beq (cmp .lss (v 0) (n 0)) (cmp .lss (v 1) (n 0)))) (cmp .lss (v 2) (n 0)))) (.bin .or (.un .not (.bin .and (cmp .eql (v 8) (.int .u64 0)) (cmp .eql (v 9) (.int .u64 0)))) (cmp .gtr (v 10) (.int .u64 0))))
  (.ret [(.un (.conv .i64) (.bin (.ar .sub .u64) (.int .u64 0) (v 12))), (n 0)])
  (.ret [(.un (.conv .i64) (v 12)), (n 0)]))
def ref01_MulDiv_j0 : T := ref01_MulDiv_j0_b
@[reducible] def ref01_MulDiv_b : T := .ite (cmp .eql (v 2) (n 0))
 (.ret [(n 0), (n 2)])
 (.call c_ref01_size [(v 0)] 1 <|
  .call c_ref01_size [(v 1)] 1 <|
  .call c_ref01_product [(v 3), (v 4)] 2 <|
  .call c_ref01_size [(v 2)] 1 <|
  .call c_ref01_quotient [(v 5), (v 6), (v 7)] 3 <|
  .letj ref01_MulDiv_j0 <|
  .ite (.bin .and (.bin .and (.un .not (.bin .beq (.un .not (.bin .beq (cmp .lss (v 0) (n 0)) (cmp .lss (v 1) (n 0)))) (cmp .lss (v 2) (n 0)))) (.bin .or (.un .not (.bin .and (cmp .eql (v 8) (.int .u64 0)) (cmp .eql (v 9) (.int .u64 0)))) (cmp .gtr (v 10) (.int .u64 0)))) (cmp .gtr (v 10) (.int .u64 0)))
  (.call c_ref01_Wide_plus [(v 8), (v 9), (.int .u64 1)] 2 <|
   .jump 0 [(v 11), (v 12)])
  (.jump 0 [(v 8), (v 9)]))
def ref01_MulDiv : T := ref01_MulDiv_b
/- parterre/parterreref01.Percent -/
abbrev c_ref01_Percent : Nat := 34
@[reducible] def ref01_Percent_j0_b : T := .ite (v 5)
 (.ret [(n 0), (n 10)])
 (.ret [(v 3), (n 0)])
def ref01_Percent_j0 : T := ref01_Percent_j0_b
@[reducible] def ref01_Percent_b : T := .call c_ref01_Is [(v 1)] 1 <|
 .ite (.bin .or (.bin .or (.un .not (v 2)) (cmp .lss (v 0) (n (-1073741824)))) (cmp .gtr (v 0) (n 1073741824)))
 (.ret [(n 0), (n 2)])
 (.call c_ref01_MulDiv [(v 1), (v 0), (n 100000)] 2 <|
  .letj ref01_Percent_j0 <|
  .ite (cmp .neq (v 4) (n 0))
  (.jump 0 [(.bool true)])
  (.call c_ref01_Is [(v 3)] 1 <|
   .jump 0 [(.un .not (v 5))]))
def ref01_Percent : T := ref01_Percent_b
/- parterre/parterreref05.Resolve -/
abbrev c_ref05_Resolve : Nat := 21
@[reducible] def ref05_Resolve_b : T := .ite (cmp .eql (v 0) (n 2))
 (.ret [(v 1), (.bool true), (n 0)])
 (.ite (.bin .and (cmp .eql (v 0) (n 3)) (v 3))
  (.call c_ref01_Percent [(v 1), (v 2)] 2 <|
   .ret [(v 4), (cmp .eql (v 5) (n 0)), (v 5)])
  (.ret [(n 0), (.bool false), (n 0)]))
def ref05_Resolve : T := ref05_Resolve_b
/- parterre/parterreref22.Kind -/
abbrev c_ref22_Kind : Nat := 22
@[reducible] def ref22_Kind_b : T := .ite (.bin .or (cmp .eql (v 0) (n 2)) (.bin .and (cmp .eql (v 0) (n 3)) (v 2)))
 (.ret [(n 1)])
 (.ite (cmp .eql (v 0) (n 4))
  (.ret [(n 3)])
  (.ite (cmp .eql (v 0) (n 5))
   (.ret [(n 4)])
   (.ite (cmp .eql (v 0) (n 6))
    (.ret [(n 5)])
    (.ret [(n 2)]))))
def ref22_Kind : T := ref22_Kind_b
/- parterre/parterreref22.Raise -/
abbrev c_ref22_Raise : Nat := 12
@[reducible] def ref22_Raise_b : T := .ret [(v 0), (v 1), (v 2), (v 3), (v 4), (v 5), (.bin (.max .i64) (v 6) (v 5))]
def ref22_Raise : T := ref22_Raise_b
/- parterre/parterreref22.Start -/
abbrev c_ref22_Start : Nat := 7
@[reducible] def ref22_Start_j3_b : T := .call c_ref22_Raise [(v 19), (v 20), (v 23), (v 24), (v 25), (v 21), (v 22)] 7 <|
 .ret [(v 26), (v 27), (v 28), (v 29), (v 30), (v 31), (v 32), (n 0)]
def ref22_Start_j3 : T := ref22_Start_j3_b
@[reducible] def ref22_Start_j2_b : T := .letj ref22_Start_j3 <|
 .ite (.bin .and (v 4) (v 17))
 (.jump 0 [(.bool true), (v 16)])
 (.jump 0 [(.bool false), (n 0)])
def ref22_Start_j2 : T := ref22_Start_j2_b
@[reducible] def ref22_Start_j1_b : T := .letj ref22_Start_j2 <|
 .ite (cmp .eql (v 20) (n 5))
 (.jump 0 [(v 3)])
 (.jump 0 [(n 0)])
def ref22_Start_j1 : T := ref22_Start_j1_b
@[reducible] def ref22_Start_j0_b : T := .letj ref22_Start_j1 <|
 .ite (cmp .eql (v 20) (n 1))
 (.jump 0 [(v 13)])
 (.jump 0 [(n 1125899906842624)])
def ref22_Start_j0 : T := ref22_Start_j0_b
@[reducible] def ref22_Start_b : T := .call c_ref06_Right [(v 0), (v 1), (v 2), (v 3), (v 4), (v 5), (v 6)] 1 <|
 .ite (.bin .or (.un .not (v 9)) (.bin .and (v 8) (.bin .or (cmp .lss (v 7) (n 0)) (cmp .gtr (v 7) (n 68719476736)))))
 (.ret [(n 0), (n 0), (n 0), (.bool false), (n 0), (n 0), (n 0), (n 2)])
 (.call c_ref05_Resolve [(v 0), (v 1), (v 7), (v 8)] 3 <|
  .call c_ref05_Resolve [(v 2), (v 3), (v 7), (v 8)] 3 <|
  .call c_ref05_Resolve [(v 5), (v 6), (v 7), (v 8)] 3 <|
  .ite (cmp .neq (v 12) (n 0))
  (.ret [(n 0), (n 0), (n 0), (.bool false), (n 0), (n 0), (n 0), (v 12)])
  (.ite (cmp .neq (v 15) (n 0))
   (.ret [(n 0), (n 0), (n 0), (.bool false), (n 0), (n 0), (n 0), (v 15)])
   (.ite (cmp .neq (v 18) (n 0))
    (.ret [(n 0), (n 0), (n 0), (.bool false), (n 0), (n 0), (n 0), (v 18)])
    (.call c_ref22_Kind [(v 0), (v 1), (v 8)] 1 <|
     .call c_ref22_Kind [(v 2), (v 3), (v 8)] 1 <|
     .letj ref22_Start_j0 <|
     .ite (cmp .eql (v 19) (n 1))
     (.jump 0 [(v 10)])
     (.jump 0 [(n 0)])))))
def ref22_Start : T := ref22_Start_b
/- parterre/parterrelaw22.px -/
abbrev c_law22_px : Nat := 23
@[reducible] def law22_px_b : T := .ret [(n 2), (v 0)]
def law22_px : T := law22_px_b
/- parterre/parterrelaw22.lives -/
abbrev c_law22_lives : Nat := 8
@[reducible] def law22_lives_b : T := .call c_law22_px [(n 640)] 2 <|
 .call c_law22_px [(n 320)] 2 <|
 .call c_base_Start [(v 0), (v 1), (v 2), (v 3), (.bool false), (n 0), (n 0), (n 0), (.bool false)] 8 <|
 .call c_base_Start [(n 1), (n 0), (n 6), (n 1000), (.bool false), (n 0), (n 0), (n 0), (.bool false)] 8 <|
 .ret [(.bin .and (.bin .and (.bin .and (cmp .eql (v 11) (n 0)) (.bin .and (cmp .eql (v 4) (n 1)) (.bin .and (cmp .eql (v 5) (n 1)) (.bin .and (cmp .eql (v 6) (n 0)) (.bin .and (.bin .beq (v 7) (.bool false)) (.bin .and (cmp .eql (v 8) (n 0)) (.bin .and (cmp .eql (v 9) (n 640)) (cmp .eql (v 10) (n 640))))))))) (cmp .eql (v 19) (n 0))) (.bin .and (cmp .eql (v 12) (n 2)) (.bin .and (cmp .eql (v 13) (n 5)) (.bin .and (cmp .eql (v 14) (n 1000)) (.bin .and (.bin .beq (v 15) (.bool false)) (.bin .and (cmp .eql (v 16) (n 0)) (.bin .and (cmp .eql (v 17) (n 0)) (cmp .eql (v 18) (n 1125899906842624)))))))))]
def law22_lives : T := law22_lives_b
/- parterre/parterrelaw22.BaseStarts -/
abbrev c_law22_BaseStarts : Nat := 3
@[reducible] def law22_BaseStarts_b : T := .call c_base_Start [(v 0), (v 1), (v 2), (v 3), (v 4), (v 5), (v 6), (v 7), (v 8)] 8 <|
 .call c_ref22_Start [(v 0), (v 1), (v 2), (v 3), (v 4), (v 5), (v 6), (v 7), (v 8)] 8 <|
 .ite (.bin .and (.bin .and (cmp .eql (v 9) (v 17)) (.bin .and (cmp .eql (v 10) (v 18)) (.bin .and (cmp .eql (v 11) (v 19)) (.bin .and (.bin .beq (v 12) (v 20)) (.bin .and (cmp .eql (v 13) (v 21)) (.bin .and (cmp .eql (v 14) (v 22)) (cmp .eql (v 15) (v 23)))))))) (cmp .eql (v 16) (v 24)))
 (.call c_law22_lives [] 1 <|
  .ret [(v 25)])
 (.ret [(.bool false)])
def law22_BaseStarts : T := law22_BaseStarts_b
/- parterre/implicit.within -/
abbrev c_implicit_within : Nat := 35
@[reducible] def implicit_within_b : T := .ite (cmp .geq (v 0) (n 0))
 (.call c_fixed_Is [(v 0)] 1 <|
  .ret [(v 1)])
 (.ret [(.bool false)])
def implicit_within : T := implicit_within_b
/- parterre/implicit.Good -/
abbrev c_implicit_Good : Nat := 25
@[reducible] def implicit_Good_j1_b : T := .ite (v 5)
 (.ret [(.bool false)])
 (.jump 0 [(add (v 4) (n 1))])
def implicit_Good_j1 : T := implicit_Good_j1_b
@[reducible] def implicit_Good_l0_b : T := .ite (cmp .lss (v 4) (.un .len (v 1)))
 (.ite (cmp .leq (n 0) (v 4))
  (.ite (.bin .or (cmp .eql (v 4) (n 0)) (cmp .lss (v 4) (.un .len (v 2))))
   (.letj implicit_Good_j1 <|
    .call c_track_Right [(at_ 0 (v 1) (v 4)), (at_ 1 (v 1) (v 4)), (at_ 2 (v 1) (v 4)), (at_ 3 (v 1) (v 4)), (.bin (.cell 4 (.bool)) (v 1) (v 4)), (at_ 5 (v 1) (v 4)), (at_ 6 (v 1) (v 4))] 1 <|
    .ite (.bin .or (.un .not (v 5)) (cmp .lss (v 4) (.un .len (v 3))))
    (.ite (v 5)
     (.call c_implicit_within [(at_ 0 (v 3) (v 4))] 1 <|
      .ite (.bin .or (.un .not (.bin .and (v 6) (.bin .or (cmp .eql (v 4) (n 0)) (.bin (.cell 0 (.bool)) (v 2) (v 4))))) (cmp .lss (v 4) (.un .len (v 3))))
      (.jump 1 [(.bin .or (.un .not (v 6)) (.bin .and (.bin .or (cmp .eql (v 4) (n 0)) (.bin (.cell 0 (.bool)) (v 2) (v 4))) (cmp .gtr (at_ 0 (v 3) (v 4)) (n 0))))])
      (.fail ""))
     (.jump 1 [(.bool true)]))
    (.fail ""))
   (.fail ""))
  (.fail ""))
 (.ret [(.bool true)])
def implicit_Good_l0 : T := implicit_Good_l0_b
@[reducible] def implicit_Good_b : T := .ite (.bin .or (.bin .or (.bin .or (.bin .or (cmp .gtr (.un .len (v 1)) (n 40000)) (cmp .neq (.un .len (v 2)) (.un .len (v 1)))) (cmp .neq (.un .len (v 3)) (.un .len (v 1)))) (cmp .gtr (v 0) (n 0))) (cmp .lss (v 0) (n (-10000))))
 (.ret [(.bool false)])
 (.loop [(n 0)] implicit_Good_l0)
def implicit_Good : T := implicit_Good_b
/- parterre/base.All -/
abbrev c_base_All : Nat := 13
@[reducible] def base_All_j1_b : T := .call c_base_Start [(v 9), (v 10), (v 11), (v 12), (v 13), (v 14), (v 15), (v 4), (v 5)] 8 <|
 .ite (cmp .neq (v 23) (n 0))
 (.ret [.nil, (v 23)])
 (.ite (cmp .lss (v 7) (.un .len (v 8)))
  (.jump 0 [(add (v 7) (n 1)), (.tri .set (v 8) (v 7) (.bin .cons (v 16) (.bin .cons (v 17) (.bin .cons (v 18) (.bin .cons (v 19) (.bin .cons (v 20) (.bin .cons (v 21) (.bin .cons (v 22) .nilc))))))))])
  (.fail ""))
def base_All_j1 : T := base_All_j1_b
@[reducible] def base_All_l0_b : T := .ite (cmp .lss (v 7) (.un .len (v 1)))
 (.ite (cmp .leq (n 0) (v 7))
  (.letj base_All_j1 <|
   .ite (cmp .lss (v 7) (.un .len (v 2)))
   (.ite (.bin (.cell 0 (.bool)) (v 2) (v 7))
    (.jump 1 [(n 2), (n 0), (n 2), (n 0), (.bool false), (n 0), (n 0)])
    (.jump 1 [(at_ 0 (v 1) (v 7)), (at_ 1 (v 1) (v 7)), (at_ 2 (v 1) (v 7)), (at_ 3 (v 1) (v 7)), (.bin (.cell 4 (.bool)) (v 1) (v 7)), (at_ 5 (v 1) (v 7)), (at_ 6 (v 1) (v 7))]))
   (.fail ""))
  (.fail ""))
 (.ret [(v 8), (n 0)])
def base_All_l0 : T := base_All_l0_b
@[reducible] def base_All_b : T := .call c_implicit_Good [(v 0), (v 1), (v 2), (v 3)] 1 <|
 .ite (v 6)
 (.ite (cmp .leq (.un .len (v 1)) (n 2513169434916))
  (.loop [(n 0), (.bin .make (.bin .cons (n 0) (.bin .cons (n 0) (.bin .cons (n 0) (.bin .cons (.bool false) (.bin .cons (n 0) (.bin .cons (n 0) (.bin .cons (n 0) .nilc))))))) (.un .len (v 1)))] base_All_l0)
  (.fail ""))
 (.ret [.nil, (n 2)])
def base_All : T := base_All_b
/- parterre/parterreref21.within -/
abbrev c_ref21_within : Nat := 36
@[reducible] def ref21_within_b : T := .ret [(.bin .and (cmp .geq (v 0) (n 0)) (cmp .leq (v 0) (n 68719476736)))]
def ref21_within : T := ref21_within_b
/- parterre/parterreref21.Good -/
abbrev c_ref21_Good : Nat := 26
@[reducible] def ref21_Good_j1_b : T := .ite (v 5)
 (.ret [(.bool false)])
 (.jump 0 [(add (v 4) (n 1))])
def ref21_Good_j1 : T := ref21_Good_j1_b
@[reducible] def ref21_Good_l0_b : T := .ite (cmp .lss (v 4) (.un .len (v 1)))
 (.letj ref21_Good_j1 <|
  .ite (cmp .leq (n 0) (v 4))
  (.call c_ref06_Right [(at_ 0 (v 1) (v 4)), (at_ 1 (v 1) (v 4)), (at_ 2 (v 1) (v 4)), (at_ 3 (v 1) (v 4)), (.bin (.cell 4 (.bool)) (v 1) (v 4)), (at_ 5 (v 1) (v 4)), (at_ 6 (v 1) (v 4))] 1 <|
   .ite (.bin .or (.un .not (v 5)) (cmp .lss (v 4) (.un .len (v 3))))
   (.ite (v 5)
    (.call c_ref21_within [(at_ 0 (v 3) (v 4))] 1 <|
     .ite (.bin .or (.un .not (.bin .and (v 6) (.un .not (cmp .eql (v 4) (n 0))))) (cmp .lss (v 4) (.un .len (v 2))))
     (.ite (.bin .or (.un .not (.bin .and (v 6) (.bin .or (cmp .eql (v 4) (n 0)) (.bin (.cell 0 (.bool)) (v 2) (v 4))))) (cmp .lss (v 4) (.un .len (v 3))))
      (.jump 1 [(.bin .or (.un .not (v 6)) (.bin .and (.bin .or (cmp .eql (v 4) (n 0)) (.bin (.cell 0 (.bool)) (v 2) (v 4))) (cmp .neq (at_ 0 (v 3) (v 4)) (n 0))))])
      (.fail ""))
     (.fail ""))
    (.jump 1 [(.bool true)]))
   (.fail ""))
  (.fail ""))
 (.ret [(.bool true)])
def ref21_Good_l0 : T := ref21_Good_l0_b
@[reducible] def ref21_Good_b : T := .ite (.bin .or (.bin .or (.bin .or (.bin .or (cmp .gtr (.un .len (v 1)) (n 40000)) (cmp .neq (.un .len (v 2)) (.un .len (v 1)))) (cmp .neq (.un .len (v 3)) (.un .len (v 1)))) (cmp .gtr (v 0) (n 0))) (cmp .lss (v 0) (n (-10000))))
 (.ret [(.bool false)])
 (.loop [(n 0)] ref21_Good_l0)
def ref21_Good : T := ref21_Good_b
/- parterre/parterreref06.One -/
abbrev c_ref06_One : Nat := 27
@[reducible] def ref06_One_b : T := .ite (cmp .eql (v 0) (n 6))
 (.ret [(n 1), (n 0), (v 0), (v 1), (.bool false), (n 0), (n 0)])
 (.ret [(v 0), (v 1), (v 0), (v 1), (.bool false), (n 0), (n 0)])
def ref06_One : T := ref06_One_b
/- parterre/parterreref22.All -/
abbrev c_ref22_All : Nat := 14
@[reducible] def ref22_All_j1_b : T := .call c_ref22_Start [(v 9), (v 10), (v 11), (v 12), (v 13), (v 14), (v 15), (v 4), (v 5)] 8 <|
 .ite (cmp .neq (v 23) (n 0))
 (.ret [.nil, (v 23)])
 (.ite (cmp .leq (.bin .plus (.un .len (v 8)) (.un .len (.bin .snoc .nil (.bin .cons (v 16) (.bin .cons (v 17) (.bin .cons (v 18) (.bin .cons (v 19) (.bin .cons (v 20) (.bin .cons (v 21) (.bin .cons (v 22) .nilc)))))))))) (n 4294967296))
  (.jump 0 [(add (v 7) (n 1)), (.bin .snoc (v 8) (.bin .cons (v 16) (.bin .cons (v 17) (.bin .cons (v 18) (.bin .cons (v 19) (.bin .cons (v 20) (.bin .cons (v 21) (.bin .cons (v 22) .nilc))))))))])
  (.fail ""))
def ref22_All_j1 : T := ref22_All_j1_b
@[reducible] def ref22_All_l0_b : T := .ite (cmp .lss (v 7) (.un .len (v 1)))
 (.ite (cmp .leq (n 0) (v 7))
  (.letj ref22_All_j1 <|
   .ite (cmp .lss (v 7) (.un .len (v 2)))
   (.ite (.bin (.cell 0 (.bool)) (v 2) (v 7))
    (.call c_ref06_One [(n 2), (n 0)] 7 <|
     .jump 1 [(v 9), (v 10), (v 11), (v 12), (v 13), (v 14), (v 15)])
    (.jump 1 [(at_ 0 (v 1) (v 7)), (at_ 1 (v 1) (v 7)), (at_ 2 (v 1) (v 7)), (at_ 3 (v 1) (v 7)), (.bin (.cell 4 (.bool)) (v 1) (v 7)), (at_ 5 (v 1) (v 7)), (at_ 6 (v 1) (v 7))]))
   (.fail ""))
  (.fail ""))
 (.ret [(v 8), (n 0)])
def ref22_All_l0 : T := ref22_All_l0_b
@[reducible] def ref22_All_b : T := .call c_ref21_Good [(v 0), (v 1), (v 2), (v 3)] 1 <|
 .ite (v 6)
 (.loop [(n 0), .nil] ref22_All_l0)
 (.ret [.nil, (n 2)])
def ref22_All : T := ref22_All_b
/- parterre/parterreref22.Same -/
abbrev c_ref22_Same : Nat := 15
@[reducible] def ref22_Same_l0_b : T := .ite (cmp .lss (v 2) (.un .len (v 0)))
 (.ite (cmp .leq (n 0) (v 2))
  (.ite (cmp .lss (v 2) (.un .len (v 1)))
   (.ite (.bin .and (cmp .eql (at_ 0 (v 0) (v 2)) (at_ 0 (v 1) (v 2))) (.bin .and (cmp .eql (at_ 1 (v 0) (v 2)) (at_ 1 (v 1) (v 2))) (.bin .and (cmp .eql (at_ 2 (v 0) (v 2)) (at_ 2 (v 1) (v 2))) (.bin .and (.bin .beq (.bin (.cell 3 (.bool)) (v 0) (v 2)) (.bin (.cell 3 (.bool)) (v 1) (v 2))) (.bin .and (cmp .eql (at_ 4 (v 0) (v 2)) (at_ 4 (v 1) (v 2))) (.bin .and (cmp .eql (at_ 5 (v 0) (v 2)) (at_ 5 (v 1) (v 2))) (cmp .eql (at_ 6 (v 0) (v 2)) (at_ 6 (v 1) (v 2)))))))))
    (.jump 0 [(add (v 2) (n 1))])
    (.ret [(.bool false)]))
   (.fail ""))
  (.fail ""))
 (.ret [(.bool true)])
def ref22_Same_l0 : T := ref22_Same_l0_b
@[reducible] def ref22_Same_b : T := .ite (cmp .neq (.un .len (v 0)) (.un .len (v 1)))
 (.ret [(.bool false)])
 (.loop [(n 0)] ref22_Same_l0)
def ref22_Same : T := ref22_Same_b
/- parterre/base.Good$1 -/
abbrev c_base_Good_1 : Nat := 24
@[reducible] def base_Good_1_b : T := .ret [(.bin .and (cmp .geq (v 0) (v 1)) (cmp .leq (v 0) (v 2)))]
def base_Good_1 : T := base_Good_1_b
/- parterre/base.Good -/
abbrev c_base_Good : Nat := 9
@[reducible] def base_Good_j0_b : T := .ite (v 7)
 (.ret [(.bool false)])
 (.call c_base_Good_1 [(v 2), (n 0), (n 1073741824)] 1 <|
  .ite (.bin .or (.un .not (v 8)) (.bin .and (cmp .neq (v 1) (n 5)) (cmp .gtr (v 2) (n 0))))
  (.ret [(.bool false)])
  (.call c_base_Good_1 [(v 4), (n 0), (n 68719476736)] 1 <|
   .ite (.bin .or (.un .not (v 9)) (.bin .and (.un .not (v 3)) (cmp .gtr (v 4) (n 0))))
   (.ret [(.bool false)])
   (.ite (.bin .and (v 3) (.un .not (.bin .and (cmp .eql (v 0) (n 2)) (.bin .and (cmp .eql (v 1) (n 4)) (.bin .and (cmp .eql (v 2) (n 0)) (.bin .and (.bin .beq (v 3) (.bool true)) (.bin .and (cmp .eql (v 4) (v 4)) (.bin .and (cmp .eql (v 5) (v 5)) (cmp .eql (v 6) (v 6))))))))))
    (.ret [(.bool false)])
    (.call c_base_Good_1 [(v 5), (n 0), (n 1125899906842623)] 1 <|
     .ite (v 10)
     (.call c_base_Good_1 [(v 6), (v 5), (n 1125899906842624)] 1 <|
      .ret [(v 11)])
     (.ret [(.bool false)])))))
def base_Good_j0 : T := base_Good_j0_b
@[reducible] def base_Good_b : T := .letj base_Good_j0 <|
 .call c_base_Good_1 [(v 0), (n 1), (n 4)] 1 <|
 .ite (v 7)
 (.call c_base_Good_1 [(v 1), (n 1), (n 5)] 1 <|
  .jump 0 [(.un .not (v 8))])
 (.jump 0 [(.bool true)])
def base_Good : T := base_Good_b
/- parterre/parterrelaw22.BaseAll -/
abbrev c_law22_BaseAll : Nat := 5
@[reducible] def law22_BaseAll_j1_b : T := .ite (v 12)
 (.ret [(.bool false)])
 (.jump 0 [(add (v 11) (n 1))])
def law22_BaseAll_j1 : T := law22_BaseAll_j1_b
@[reducible] def law22_BaseAll_l0_b : T := .ite (cmp .lss (v 11) (.un .len (v 6)))
 (.ite (cmp .leq (n 0) (v 11))
  (.letj law22_BaseAll_j1 <|
   .call c_base_Good [(at_ 0 (v 6) (v 11)), (at_ 1 (v 6) (v 11)), (at_ 2 (v 6) (v 11)), (.bin (.cell 3 (.bool)) (v 6) (v 11)), (at_ 4 (v 6) (v 11)), (at_ 5 (v 6) (v 11)), (at_ 6 (v 6) (v 11))] 1 <|
   .ite (v 12)
   (.call c_base_Raise [(at_ 0 (v 6) (v 11)), (at_ 1 (v 6) (v 11)), (at_ 2 (v 6) (v 11)), (.bin (.cell 3 (.bool)) (v 6) (v 11)), (at_ 4 (v 6) (v 11)), (at_ 5 (v 6) (v 11)), (at_ 6 (v 6) (v 11))] 7 <|
    .jump 1 [(.un .not (.bin .and (cmp .eql (v 13) (at_ 0 (v 6) (v 11))) (.bin .and (cmp .eql (v 14) (at_ 1 (v 6) (v 11))) (.bin .and (cmp .eql (v 15) (at_ 2 (v 6) (v 11))) (.bin .and (.bin .beq (v 16) (.bin (.cell 3 (.bool)) (v 6) (v 11))) (.bin .and (cmp .eql (v 17) (at_ 4 (v 6) (v 11))) (.bin .and (cmp .eql (v 18) (at_ 5 (v 6) (v 11))) (cmp .eql (v 19) (at_ 6 (v 6) (v 11))))))))))])
   (.jump 1 [(.bool true)]))
  (.fail ""))
 (.call c_law22_lives [] 1 <|
  .ret [(v 12)])
def law22_BaseAll_l0 : T := law22_BaseAll_l0_b
@[reducible] def law22_BaseAll_b : T := .ite (cmp .gtr (.un .len (v 1)) (n 2000))
 (.call c_law22_lives [] 1 <|
  .ret [(v 6)])
 (.call c_base_All [(v 0), (v 1), (v 2), (v 3), (v 4), (v 5)] 2 <|
  .call c_ref22_All [(v 0), (v 1), (v 2), (v 3), (v 4), (v 5)] 2 <|
  .call c_ref22_Same [(v 6), (v 8)] 1 <|
  .ite (.bin .or (.un .not (v 10)) (cmp .neq (v 7) (v 9)))
  (.ret [(.bool false)])
  (.loop [(n 0)] law22_BaseAll_l0))
def law22_BaseAll : T := law22_BaseAll_b
def sigL : List (Nat × Sig) := [
  (17, ⟨[.leaf (.int .i64)], [.leaf (.bool)]⟩) -- fixed_Is
  ,(46, ⟨[.leaf (.int .i64)], [.leaf (.int .u64)]⟩) -- fixed_size
  ,(45, ⟨[.leaf (.int .u64), .leaf (.int .u64)], [.leaf (.int .u64), .leaf (.int .u64)]⟩) -- math_bits_Mul64
  ,(54, ⟨[.leaf (.int .u64)], [.leaf (.int .i64)]⟩) -- math_bits_Len64
  ,(52, ⟨[.leaf (.int .u64)], [.leaf (.int .i64)]⟩) -- math_bits_LeadingZeros64
  ,(47, ⟨[.leaf (.int .u64), .leaf (.int .u64), .leaf (.int .u64)], [.leaf (.int .u64), .leaf (.int .u64)]⟩) -- math_bits_Div64
  ,(40, ⟨[.leaf (.int .i64), .leaf (.int .i64), .leaf (.int .i64)], [.leaf (.int .i64), .leaf (.int .i64)]⟩) -- fixed_MulDiv
  ,(31, ⟨[.leaf (.int .i64), .leaf (.int .i64)], [.leaf (.int .i64), .leaf (.int .i64)]⟩) -- fixed_Percent
  ,(18, ⟨[.agg [.int .i64, .int .i64], .leaf (.int .i64), .leaf (.bool)], [.leaf (.int .i64), .leaf (.bool), .leaf (.int .i64)]⟩) -- value_Resolve
  ,(19, ⟨[.agg [.int .i64, .int .i64], .leaf (.bool)], [.leaf (.int .i64)]⟩) -- base_kind
  ,(11, ⟨[.agg [.int .i64, .int .i64, .int .i64, .bool, .int .i64, .int .i64, .int .i64]], [.agg [.int .i64, .int .i64, .int .i64, .bool, .int .i64, .int .i64, .int .i64]]⟩) -- base_Raise
  ,(37, ⟨[], [.agg [.int .i64, .int .i64]]⟩) -- track_auto
  ,(28, ⟨[.agg [.int .i64, .int .i64]], [.agg [.int .i64, .int .i64, .int .i64, .int .i64, .bool, .int .i64, .int .i64]]⟩) -- track_fit
  ,(29, ⟨[.agg [.int .i64, .int .i64]], [.leaf (.bool)]⟩) -- track_isLen
  ,(39, ⟨[.leaf (.int .i64)], [.leaf (.int .i64)]⟩) -- value_keyBit
  ,(30, ⟨[.agg [.int .i64, .int .i64], .leaf (.int .i64)], [.leaf (.bool)]⟩) -- value_Good
  ,(16, ⟨[.agg [.int .i64, .int .i64, .int .i64, .int .i64, .bool, .int .i64, .int .i64]], [.leaf (.bool)]⟩) -- track_Right
  ,(6, ⟨[.agg [.int .i64, .int .i64, .int .i64, .int .i64, .bool, .int .i64, .int .i64], .leaf (.int .i64), .leaf (.bool)], [.agg [.int .i64, .int .i64, .int .i64, .bool, .int .i64, .int .i64, .int .i64], .leaf (.int .i64)]⟩) -- base_Start
  ,(32, ⟨[.agg [.int .i64, .int .i64]], [.leaf (.bool)]⟩) -- ref06_isLen
  ,(41, ⟨[.leaf (.int .i64)], [.leaf (.int .i64)]⟩) -- ref05_bits
  ,(42, ⟨[.leaf (.int .i64), .leaf (.int .i64)], [.leaf (.bool)]⟩) -- ref05_Has
  ,(33, ⟨[.agg [.int .i64, .int .i64], .leaf (.int .i64)], [.leaf (.bool)]⟩) -- ref05_Good
  ,(20, ⟨[.agg [.int .i64, .int .i64, .int .i64, .int .i64, .bool, .int .i64, .int .i64]], [.leaf (.bool)]⟩) -- ref06_Right
  ,(43, ⟨[.leaf (.int .i64)], [.leaf (.bool)]⟩) -- ref01_Is
  ,(50, ⟨[.leaf (.int .i64)], [.leaf (.int .u64)]⟩) -- ref01_size
  ,(53, ⟨[.agg [.int .u64, .int .u64], .leaf (.int .u64)], [.agg [.int .u64, .int .u64]]⟩) -- ref01_Wide_twice
  ,(51, ⟨[.agg [.int .u64, .int .u64], .leaf (.int .u64)], [.agg [.int .u64, .int .u64]]⟩) -- ref01_Wide_plus
  ,(49, ⟨[.leaf (.int .u64), .leaf (.int .u64)], [.agg [.int .u64, .int .u64]]⟩) -- ref01_product
  ,(48, ⟨[.agg [.int .u64, .int .u64], .leaf (.int .u64)], [.agg [.int .u64, .int .u64], .leaf (.int .u64)]⟩) -- ref01_quotient
  ,(44, ⟨[.leaf (.int .i64), .leaf (.int .i64), .leaf (.int .i64)], [.leaf (.int .i64), .leaf (.int .i64)]⟩) -- ref01_MulDiv
  ,(34, ⟨[.leaf (.int .i64), .leaf (.int .i64)], [.leaf (.int .i64), .leaf (.int .i64)]⟩) -- ref01_Percent
  ,(21, ⟨[.agg [.int .i64, .int .i64], .leaf (.int .i64), .leaf (.bool)], [.leaf (.int .i64), .leaf (.bool), .leaf (.int .i64)]⟩) -- ref05_Resolve
  ,(22, ⟨[.agg [.int .i64, .int .i64], .leaf (.bool)], [.leaf (.int .i64)]⟩) -- ref22_Kind
  ,(12, ⟨[.agg [.int .i64, .int .i64, .int .i64, .bool, .int .i64, .int .i64, .int .i64]], [.agg [.int .i64, .int .i64, .int .i64, .bool, .int .i64, .int .i64, .int .i64]]⟩) -- ref22_Raise
  ,(7, ⟨[.agg [.int .i64, .int .i64, .int .i64, .int .i64, .bool, .int .i64, .int .i64], .leaf (.int .i64), .leaf (.bool)], [.agg [.int .i64, .int .i64, .int .i64, .bool, .int .i64, .int .i64, .int .i64], .leaf (.int .i64)]⟩) -- ref22_Start
  ,(23, ⟨[.leaf (.int .i64)], [.agg [.int .i64, .int .i64]]⟩) -- law22_px
  ,(8, ⟨[], [.leaf (.bool)]⟩) -- law22_lives
  ,(3, ⟨[.agg [.int .i64, .int .i64, .int .i64, .int .i64, .bool, .int .i64, .int .i64], .leaf (.int .i64), .leaf (.bool)], [.leaf (.bool)]⟩) -- law22_BaseStarts
  ,(35, ⟨[.leaf (.int .i64)], [.leaf (.bool)]⟩) -- implicit_within
  ,(25, ⟨[.agg [.int .i64, .row [.int .i64, .int .i64, .int .i64, .int .i64, .bool, .int .i64, .int .i64], .row [.bool], .row [.int .i64]]], [.leaf (.bool)]⟩) -- implicit_Good
  ,(13, ⟨[.agg [.int .i64, .row [.int .i64, .int .i64, .int .i64, .int .i64, .bool, .int .i64, .int .i64], .row [.bool], .row [.int .i64]], .leaf (.int .i64), .leaf (.bool)], [.own [.int .i64, .int .i64, .int .i64, .bool, .int .i64, .int .i64, .int .i64], .leaf (.int .i64)]⟩) -- base_All
  ,(36, ⟨[.leaf (.int .i64)], [.leaf (.bool)]⟩) -- ref21_within
  ,(26, ⟨[.agg [.int .i64, .row [.int .i64, .int .i64, .int .i64, .int .i64, .bool, .int .i64, .int .i64], .row [.bool], .row [.int .i64]]], [.leaf (.bool)]⟩) -- ref21_Good
  ,(27, ⟨[.agg [.int .i64, .int .i64]], [.agg [.int .i64, .int .i64, .int .i64, .int .i64, .bool, .int .i64, .int .i64]]⟩) -- ref06_One
  ,(14, ⟨[.agg [.int .i64, .row [.int .i64, .int .i64, .int .i64, .int .i64, .bool, .int .i64, .int .i64], .row [.bool], .row [.int .i64]], .leaf (.int .i64), .leaf (.bool)], [.own [.int .i64, .int .i64, .int .i64, .bool, .int .i64, .int .i64, .int .i64], .leaf (.int .i64)]⟩) -- ref22_All
  ,(15, ⟨[.leaf (.row [.int .i64, .int .i64, .int .i64, .bool, .int .i64, .int .i64, .int .i64]), .leaf (.row [.int .i64, .int .i64, .int .i64, .bool, .int .i64, .int .i64, .int .i64])], [.leaf (.bool)]⟩) -- ref22_Same
  ,(24, ⟨[.leaf (.int .i64), .leaf (.int .i64), .leaf (.int .i64)], [.leaf (.bool)]⟩) -- base_Good_1
  ,(9, ⟨[.agg [.int .i64, .int .i64, .int .i64, .bool, .int .i64, .int .i64, .int .i64]], [.leaf (.bool)]⟩) -- base_Good
  ,(5, ⟨[.agg [.int .i64, .row [.int .i64, .int .i64, .int .i64, .int .i64, .bool, .int .i64, .int .i64], .row [.bool], .row [.int .i64]], .leaf (.int .i64), .leaf (.bool)], [.leaf (.bool)]⟩) -- law22_BaseAll
  ]
def trL : List (Nat × T) := [(17, fixed_Is), (46, fixed_size), (45, math_bits_Mul64), (54, math_bits_Len64), (52, math_bits_LeadingZeros64), (47, math_bits_Div64), (40, fixed_MulDiv), (31, fixed_Percent), (18, value_Resolve), (19, base_kind), (11, base_Raise), (37, track_auto), (28, track_fit), (29, track_isLen), (39, value_keyBit), (30, value_Good), (16, track_Right), (6, base_Start), (32, ref06_isLen), (41, ref05_bits), (42, ref05_Has), (33, ref05_Good), (20, ref06_Right), (43, ref01_Is), (50, ref01_size), (53, ref01_Wide_twice), (51, ref01_Wide_plus), (49, ref01_product), (48, ref01_quotient), (44, ref01_MulDiv), (34, ref01_Percent), (21, ref05_Resolve), (22, ref22_Kind), (12, ref22_Raise), (7, ref22_Start), (23, law22_px), (8, law22_lives), (3, law22_BaseStarts), (35, implicit_within), (25, implicit_Good), (13, base_All), (36, ref21_within), (26, ref21_Good), (27, ref06_One), (14, ref22_All), (15, ref22_Same), (24, base_Good_1), (9, base_Good), (5, law22_BaseAll)]

def sg (f : Nat) : Option Sig := Go.Proofs.Ytmgmidipijpkdaa.Sx.look sigL f
def tr (f : Nat) : Option T := Go.Proofs.Ytmgmidipijpkdaa.Sx.look trL f
/-- What the trees say, so many rounds and calls deep. -/
def says (k : Nat) : Nat → List PV → Option (List PV) := told tr k k
/-- THE ONE PURE STATEMENT of parterre/parterrelaw22.BaseStarts. -/
def Pure_BaseStarts : Prop := ∀ (q0 : List PV), ∀ (p1 : PV), ∀ (p2 : PV), LK.oks [.int .i64, .int .i64, .int .i64, .int .i64, .bool, .int .i64, .int .i64] q0 → LK.wfs [.int .i64, .int .i64, .int .i64, .int .i64, .bool, .int .i64, .int .i64] q0 → ((.int .i64) : LK).ok p1 → ((.int .i64) : LK).wf p1 → ((.bool) : LK).ok p2 → ((.bool) : LK).wf p2 → ∃ k, says k c_law22_BaseStarts ((q0 ++ (p1 :: (p2 :: [])))) = some [.bool true]
/-- THE ONE PURE STATEMENT of parterre/parterrelaw22.BaseAll. -/
def Pure_BaseAll : Prop := ∀ (q0 : List PV), ∀ (p1 : PV), ∀ (p2 : PV), LK.oks [.int .i64, .row [.int .i64, .int .i64, .int .i64, .int .i64, .bool, .int .i64, .int .i64], .row [.bool], .row [.int .i64]] q0 → LK.wfs [.int .i64, .row [.int .i64, .int .i64, .int .i64, .int .i64, .bool, .int .i64, .int .i64], .row [.bool], .row [.int .i64]] q0 → ((.int .i64) : LK).ok p1 → ((.int .i64) : LK).wf p1 → ((.bool) : LK).ok p2 → ((.bool) : LK).wf p2 → ∃ k, says k c_law22_BaseAll ((q0 ++ (p1 :: (p2 :: [])))) = some [.bool true]
section
variable {ρ : List PV} {J : List JT} {r : List PV}
theorem u_fixed_Is : Run tr fixed_Is ρ J r ↔ Run tr fixed_Is_b ρ J r := Iff.rfl
theorem u_fixed_size : Run tr fixed_size ρ J r ↔ Run tr fixed_size_b ρ J r := Iff.rfl
theorem u_math_bits_Mul64 : Run tr math_bits_Mul64 ρ J r ↔ Run tr math_bits_Mul64_b ρ J r := Iff.rfl
theorem u_math_bits_Len64_j2 : Run tr math_bits_Len64_j2 ρ J r ↔ Run tr math_bits_Len64_j2_b ρ J r := Iff.rfl
theorem u_math_bits_Len64_j1 : Run tr math_bits_Len64_j1 ρ J r ↔ Run tr math_bits_Len64_j1_b ρ J r := Iff.rfl
theorem u_math_bits_Len64_j0 : Run tr math_bits_Len64_j0 ρ J r ↔ Run tr math_bits_Len64_j0_b ρ J r := Iff.rfl
theorem u_math_bits_Len64 : Run tr math_bits_Len64 ρ J r ↔ Run tr math_bits_Len64_b ρ J r := Iff.rfl
theorem u_math_bits_LeadingZeros64 : Run tr math_bits_LeadingZeros64 ρ J r ↔ Run tr math_bits_LeadingZeros64_b ρ J r := Iff.rfl
theorem u_math_bits_Div64_j1 : Run tr math_bits_Div64_j1 ρ J r ↔ Run tr math_bits_Div64_j1_b ρ J r := Iff.rfl
theorem u_math_bits_Div64_l2 : Run tr math_bits_Div64_l2 ρ J r ↔ Run tr math_bits_Div64_l2_b ρ J r := Iff.rfl
theorem u_math_bits_Div64_j0 : Run tr math_bits_Div64_j0 ρ J r ↔ Run tr math_bits_Div64_j0_b ρ J r := Iff.rfl
theorem u_math_bits_Div64_l3 : Run tr math_bits_Div64_l3 ρ J r ↔ Run tr math_bits_Div64_l3_b ρ J r := Iff.rfl
theorem u_math_bits_Div64 : Run tr math_bits_Div64 ρ J r ↔ Run tr math_bits_Div64_b ρ J r := Iff.rfl
theorem u_fixed_MulDiv : Run tr fixed_MulDiv ρ J r ↔ Run tr fixed_MulDiv_b ρ J r := Iff.rfl
theorem u_fixed_Percent_j0 : Run tr fixed_Percent_j0 ρ J r ↔ Run tr fixed_Percent_j0_b ρ J r := Iff.rfl
theorem u_fixed_Percent : Run tr fixed_Percent ρ J r ↔ Run tr fixed_Percent_b ρ J r := Iff.rfl
theorem u_value_Resolve : Run tr value_Resolve ρ J r ↔ Run tr value_Resolve_b ρ J r := Iff.rfl
theorem u_base_kind_j0 : Run tr base_kind_j0 ρ J r ↔ Run tr base_kind_j0_b ρ J r := Iff.rfl
theorem u_base_kind : Run tr base_kind ρ J r ↔ Run tr base_kind_b ρ J r := Iff.rfl
theorem u_base_Raise_j0 : Run tr base_Raise_j0 ρ J r ↔ Run tr base_Raise_j0_b ρ J r := Iff.rfl
theorem u_base_Raise : Run tr base_Raise ρ J r ↔ Run tr base_Raise_b ρ J r := Iff.rfl
theorem u_track_auto : Run tr track_auto ρ J r ↔ Run tr track_auto_b ρ J r := Iff.rfl
theorem u_track_fit : Run tr track_fit ρ J r ↔ Run tr track_fit_b ρ J r := Iff.rfl
theorem u_track_isLen : Run tr track_isLen ρ J r ↔ Run tr track_isLen_b ρ J r := Iff.rfl
theorem u_value_keyBit_j0 : Run tr value_keyBit_j0 ρ J r ↔ Run tr value_keyBit_j0_b ρ J r := Iff.rfl
theorem u_value_keyBit : Run tr value_keyBit ρ J r ↔ Run tr value_keyBit_b ρ J r := Iff.rfl
theorem u_value_Good_j0 : Run tr value_Good_j0 ρ J r ↔ Run tr value_Good_j0_b ρ J r := Iff.rfl
theorem u_value_Good_j1 : Run tr value_Good_j1 ρ J r ↔ Run tr value_Good_j1_b ρ J r := Iff.rfl
theorem u_value_Good : Run tr value_Good ρ J r ↔ Run tr value_Good_b ρ J r := Iff.rfl
theorem u_track_Right : Run tr track_Right ρ J r ↔ Run tr track_Right_b ρ J r := Iff.rfl
theorem u_base_Start_j3 : Run tr base_Start_j3 ρ J r ↔ Run tr base_Start_j3_b ρ J r := Iff.rfl
theorem u_base_Start_j2 : Run tr base_Start_j2 ρ J r ↔ Run tr base_Start_j2_b ρ J r := Iff.rfl
theorem u_base_Start_j1 : Run tr base_Start_j1 ρ J r ↔ Run tr base_Start_j1_b ρ J r := Iff.rfl
theorem u_base_Start_j0 : Run tr base_Start_j0 ρ J r ↔ Run tr base_Start_j0_b ρ J r := Iff.rfl
theorem u_base_Start : Run tr base_Start ρ J r ↔ Run tr base_Start_b ρ J r := Iff.rfl
theorem u_ref06_isLen : Run tr ref06_isLen ρ J r ↔ Run tr ref06_isLen_b ρ J r := Iff.rfl
theorem u_ref05_bits : Run tr ref05_bits ρ J r ↔ Run tr ref05_bits_b ρ J r := Iff.rfl
theorem u_ref05_Has : Run tr ref05_Has ρ J r ↔ Run tr ref05_Has_b ρ J r := Iff.rfl
theorem u_ref05_Good_j0 : Run tr ref05_Good_j0 ρ J r ↔ Run tr ref05_Good_j0_b ρ J r := Iff.rfl
theorem u_ref05_Good_j1 : Run tr ref05_Good_j1 ρ J r ↔ Run tr ref05_Good_j1_b ρ J r := Iff.rfl
theorem u_ref05_Good_j2 : Run tr ref05_Good_j2 ρ J r ↔ Run tr ref05_Good_j2_b ρ J r := Iff.rfl
theorem u_ref05_Good : Run tr ref05_Good ρ J r ↔ Run tr ref05_Good_b ρ J r := Iff.rfl
theorem u_ref06_Right : Run tr ref06_Right ρ J r ↔ Run tr ref06_Right_b ρ J r := Iff.rfl
theorem u_ref01_Is : Run tr ref01_Is ρ J r ↔ Run tr ref01_Is_b ρ J r := Iff.rfl
theorem u_ref01_size : Run tr ref01_size ρ J r ↔ Run tr ref01_size_b ρ J r := Iff.rfl
theorem u_ref01_Wide_twice : Run tr ref01_Wide_twice ρ J r ↔ Run tr ref01_Wide_twice_b ρ J r := Iff.rfl
theorem u_ref01_Wide_plus : Run tr ref01_Wide_plus ρ J r ↔ Run tr ref01_Wide_plus_b ρ J r := Iff.rfl
theorem u_ref01_product_j1 : Run tr ref01_product_j1 ρ J r ↔ Run tr ref01_product_j1_b ρ J r := Iff.rfl
theorem u_ref01_product_l0 : Run tr ref01_product_l0 ρ J r ↔ Run tr ref01_product_l0_b ρ J r := Iff.rfl
theorem u_ref01_product : Run tr ref01_product ρ J r ↔ Run tr ref01_product_b ρ J r := Iff.rfl
theorem u_ref01_quotient_j3 : Run tr ref01_quotient_j3 ρ J r ↔ Run tr ref01_quotient_j3_b ρ J r := Iff.rfl
theorem u_ref01_quotient_l2 : Run tr ref01_quotient_l2 ρ J r ↔ Run tr ref01_quotient_l2_b ρ J r := Iff.rfl
theorem u_ref01_quotient_j1 : Run tr ref01_quotient_j1 ρ J r ↔ Run tr ref01_quotient_j1_b ρ J r := Iff.rfl
theorem u_ref01_quotient_l0 : Run tr ref01_quotient_l0 ρ J r ↔ Run tr ref01_quotient_l0_b ρ J r := Iff.rfl
theorem u_ref01_quotient : Run tr ref01_quotient ρ J r ↔ Run tr ref01_quotient_b ρ J r := Iff.rfl
theorem u_ref01_MulDiv_j0 : Run tr ref01_MulDiv_j0 ρ J r ↔ Run tr ref01_MulDiv_j0_b ρ J r := Iff.rfl
theorem u_ref01_MulDiv : Run tr ref01_MulDiv ρ J r ↔ Run tr ref01_MulDiv_b ρ J r := Iff.rfl
theorem u_ref01_Percent_j0 : Run tr ref01_Percent_j0 ρ J r ↔ Run tr ref01_Percent_j0_b ρ J r := Iff.rfl
theorem u_ref01_Percent : Run tr ref01_Percent ρ J r ↔ Run tr ref01_Percent_b ρ J r := Iff.rfl
theorem u_ref05_Resolve : Run tr ref05_Resolve ρ J r ↔ Run tr ref05_Resolve_b ρ J r := Iff.rfl
theorem u_ref22_Kind : Run tr ref22_Kind ρ J r ↔ Run tr ref22_Kind_b ρ J r := Iff.rfl
theorem u_ref22_Raise : Run tr ref22_Raise ρ J r ↔ Run tr ref22_Raise_b ρ J r := Iff.rfl
theorem u_ref22_Start_j3 : Run tr ref22_Start_j3 ρ J r ↔ Run tr ref22_Start_j3_b ρ J r := Iff.rfl
theorem u_ref22_Start_j2 : Run tr ref22_Start_j2 ρ J r ↔ Run tr ref22_Start_j2_b ρ J r := Iff.rfl
theorem u_ref22_Start_j1 : Run tr ref22_Start_j1 ρ J r ↔ Run tr ref22_Start_j1_b ρ J r := Iff.rfl
theorem u_ref22_Start_j0 : Run tr ref22_Start_j0 ρ J r ↔ Run tr ref22_Start_j0_b ρ J r := Iff.rfl
theorem u_ref22_Start : Run tr ref22_Start ρ J r ↔ Run tr ref22_Start_b ρ J r := Iff.rfl
theorem u_law22_px : Run tr law22_px ρ J r ↔ Run tr law22_px_b ρ J r := Iff.rfl
theorem u_law22_lives : Run tr law22_lives ρ J r ↔ Run tr law22_lives_b ρ J r := Iff.rfl
theorem u_law22_BaseStarts : Run tr law22_BaseStarts ρ J r ↔ Run tr law22_BaseStarts_b ρ J r := Iff.rfl
theorem u_implicit_within : Run tr implicit_within ρ J r ↔ Run tr implicit_within_b ρ J r := Iff.rfl
theorem u_implicit_Good_j1 : Run tr implicit_Good_j1 ρ J r ↔ Run tr implicit_Good_j1_b ρ J r := Iff.rfl
theorem u_implicit_Good_l0 : Run tr implicit_Good_l0 ρ J r ↔ Run tr implicit_Good_l0_b ρ J r := Iff.rfl
theorem u_implicit_Good : Run tr implicit_Good ρ J r ↔ Run tr implicit_Good_b ρ J r := Iff.rfl
theorem u_base_All_j1 : Run tr base_All_j1 ρ J r ↔ Run tr base_All_j1_b ρ J r := Iff.rfl
theorem u_base_All_l0 : Run tr base_All_l0 ρ J r ↔ Run tr base_All_l0_b ρ J r := Iff.rfl
theorem u_base_All : Run tr base_All ρ J r ↔ Run tr base_All_b ρ J r := Iff.rfl
theorem u_ref21_within : Run tr ref21_within ρ J r ↔ Run tr ref21_within_b ρ J r := Iff.rfl
theorem u_ref21_Good_j1 : Run tr ref21_Good_j1 ρ J r ↔ Run tr ref21_Good_j1_b ρ J r := Iff.rfl
theorem u_ref21_Good_l0 : Run tr ref21_Good_l0 ρ J r ↔ Run tr ref21_Good_l0_b ρ J r := Iff.rfl
theorem u_ref21_Good : Run tr ref21_Good ρ J r ↔ Run tr ref21_Good_b ρ J r := Iff.rfl
theorem u_ref06_One : Run tr ref06_One ρ J r ↔ Run tr ref06_One_b ρ J r := Iff.rfl
theorem u_ref22_All_j1 : Run tr ref22_All_j1 ρ J r ↔ Run tr ref22_All_j1_b ρ J r := Iff.rfl
theorem u_ref22_All_l0 : Run tr ref22_All_l0 ρ J r ↔ Run tr ref22_All_l0_b ρ J r := Iff.rfl
theorem u_ref22_All : Run tr ref22_All ρ J r ↔ Run tr ref22_All_b ρ J r := Iff.rfl
theorem u_ref22_Same_l0 : Run tr ref22_Same_l0 ρ J r ↔ Run tr ref22_Same_l0_b ρ J r := Iff.rfl
theorem u_ref22_Same : Run tr ref22_Same ρ J r ↔ Run tr ref22_Same_b ρ J r := Iff.rfl
theorem u_base_Good_1 : Run tr base_Good_1 ρ J r ↔ Run tr base_Good_1_b ρ J r := Iff.rfl
theorem u_base_Good_j0 : Run tr base_Good_j0 ρ J r ↔ Run tr base_Good_j0_b ρ J r := Iff.rfl
theorem u_base_Good : Run tr base_Good ρ J r ↔ Run tr base_Good_b ρ J r := Iff.rfl
theorem u_law22_BaseAll_j1 : Run tr law22_BaseAll_j1 ρ J r ↔ Run tr law22_BaseAll_j1_b ρ J r := Iff.rfl
theorem u_law22_BaseAll_l0 : Run tr law22_BaseAll_l0 ρ J r ↔ Run tr law22_BaseAll_l0_b ρ J r := Iff.rfl
theorem u_law22_BaseAll : Run tr law22_BaseAll ρ J r ↔ Run tr law22_BaseAll_b ρ J r := Iff.rfl
end
end Go.Proofs.Ytmgmidipijpkdaa.T
