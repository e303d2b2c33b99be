/- The trees of the laws and of what they call, written down; the laws' pure statements. No condition. -/
import Derived.Test.YtbkohlhonhmhmaaSx4
set_option maxRecDepth 100000
set_option linter.unusedVariables false
namespace Go.Proofs.Ytbkohlhonhmhmaa.T
open Go Go.Proofs.Ytbkohlhonhmhmaa.Sx Go.Proofs.Ytbkohlhonhmhmaa.Sx.T Go.Proofs.Ytbkohlhonhmhmaa.Sx.Ex
abbrev v (i : Nat) : Ex := .var i
abbrev n (x : Int) : Ex := .int .i64 x
abbrev add (a b : Ex) : Ex := .bin (.ar .add .i64) a b
abbrev sub (a b : Ex) : Ex := .bin (.ar .sub .i64) a b
abbrev cmp (o : BinOp) (a b : Ex) : Ex := .bin (.cmp o) a b
abbrev at_ (j : Nat) (a b : Ex) : Ex := .bin (.cell j (.int .i64)) a b
/- parterre/parterrelaw28.three -/
abbrev c_law28_three : Nat := 14
@[reducible] def law28_three_b : T := .ret [(n 0), (.bin .snoc (.bin .snoc (.bin .snoc .nil (.bin .cons (n 2) (.bin .cons (n 10) (.bin .cons (n 2) (.bin .cons (n 10) (.bin .cons (.bool false) (.bin .cons (n 0) (.bin .cons (n 0) .nilc)))))))) (.bin .cons (n 2) (.bin .cons (n 10) (.bin .cons (n 2) (.bin .cons (n 10) (.bin .cons (.bool false) (.bin .cons (n 0) (.bin .cons (n 0) .nilc)))))))) (.bin .cons (n 2) (.bin .cons (n 10) (.bin .cons (n 2) (.bin .cons (n 10) (.bin .cons (.bool false) (.bin .cons (n 0) (.bin .cons (n 0) .nilc)))))))), (.bin .make (.bin .cons (.bool false) .nilc) (n 3)), (.bin .make (.bin .cons (n 0) .nilc) (n 3)), (.bin .snoc (.bin .snoc (.bin .snoc .nil (.bin .cons (n 10) .nilc)) (.bin .cons (n 10) .nilc)) (.bin .cons (n 10) .nilc))]
def law28_three : T := law28_three_b
/- parterre/track.auto -/
abbrev c_track_auto : Nat := 47
@[reducible] def track_auto_b : T := .ret [(n 1), (n 0)]
def track_auto : T := track_auto_b
/- parterre/track.fit -/
abbrev c_track_fit : Nat := 40
@[reducible] def track_fit_b : T := .call c_track_auto [] 2 <|
 .ret [(v 2), (v 3), (n 5), (n 0), (.bool true), (v 0), (v 1)]
def track_fit : T := track_fit_b
/- parterre/track.isLen -/
abbrev c_track_isLen : Nat := 41
@[reducible] def track_isLen_b : T := .ret [(.bin .or (cmp .eql (v 0) (n 2)) (cmp .eql (v 0) (n 3)))]
def track_isLen : T := track_isLen_b
/- parterre/value.keyBit -/
abbrev c_value_keyBit : Nat := 49
@[reducible] def value_keyBit_j0_b : T := .ite (v 1)
 (.ret [(n 8)])
 (.ite (cmp .eql (v 0) (n 7))
  (.ret [(n 32)])
  (.ret [(n 0)]))
def value_keyBit_j0 : T := value_keyBit_j0_b
@[reducible] def value_keyBit_b : T := .ite (cmp .eql (v 0) (n 1))
 (.ret [(n 4)])
 (.letj value_keyBit_j0 <|
  .ite (cmp .eql (v 0) (n 4))
  (.jump 0 [(cmp .eql (v 0) (n 4))])
  (.jump 0 [(cmp .eql (v 0) (n 5))]))
def value_keyBit : T := value_keyBit_b
/- parterre/value.Good -/
abbrev c_value_Good : Nat := 42
@[reducible] def value_Good_j0_b : T := .ret [(v 3)]
def value_Good_j0 : T := value_Good_j0_b
@[reducible] def value_Good_j1_b : T := .ret [(v 3)]
def value_Good_j1 : T := value_Good_j1_b
@[reducible] def value_Good_b : T := .ite (cmp .eql (v 0) (n 2))
 (.letj value_Good_j0 <|
  .ite (cmp .lss (v 1) (n 0))
  (.jump 0 [(.bin .and (cmp .gtr (.bin (.ar .and .i64) (v 2) (n 2)) (n 0)) (cmp .geq (v 1) (n (-68719476736))))])
  (.jump 0 [(cmp .leq (v 1) (n 68719476736))]))
 (.ite (cmp .eql (v 0) (n 3))
  (.ite (cmp .gtr (.bin (.ar .and .i64) (v 2) (n 1)) (n 0))
   (.letj value_Good_j1 <|
    .ite (cmp .lss (v 1) (n 0))
    (.jump 0 [(.bin .and (cmp .gtr (.bin (.ar .and .i64) (v 2) (n 2)) (n 0)) (cmp .geq (v 1) (n (-1073741824))))])
    (.jump 0 [(cmp .leq (v 1) (n 1073741824))]))
   (.ret [(.bool false)]))
  (.ite (cmp .eql (v 0) (n 6))
   (.ret [(.bin .and (.bin .and (cmp .gtr (.bin (.ar .and .i64) (v 2) (n 16)) (n 0)) (cmp .geq (v 1) (n 0))) (cmp .leq (v 1) (n 1073741824)))])
   (.ite (cmp .eql (v 1) (n 0))
    (.call c_value_keyBit [(v 0)] 1 <|
     .ret [(cmp .gtr (.bin (.ar .and .i64) (v 2) (v 3)) (n 0))])
    (.ret [(.bool false)]))))
def value_Good : T := value_Good_b
/- parterre/track.Right -/
abbrev c_track_Right : Nat := 31
@[reducible] def track_Right_b : T := .ite (v 4)
 (.call c_track_fit [(v 5), (v 6)] 7 <|
  .ite (.bin .and (cmp .eql (v 0) (v 7)) (.bin .and (cmp .eql (v 1) (v 8)) (.bin .and (cmp .eql (v 2) (v 9)) (.bin .and (cmp .eql (v 3) (v 10)) (.bin .and (.bin .beq (v 4) (v 11)) (.bin .and (cmp .eql (v 5) (v 12)) (cmp .eql (v 6) (v 13))))))))
  (.call c_track_isLen [(v 5), (v 6)] 1 <|
   .ite (v 14)
   (.call c_value_Good [(v 5), (v 6), (n 1)] 1 <|
    .ret [(v 15)])
   (.ret [(.bool false)]))
  (.ret [(.bool false)]))
 (.ite (.bin .and (cmp .eql (v 5) (n 0)) (cmp .eql (v 6) (n 0)))
  (.call c_value_Good [(v 0), (v 1), (n 13)] 1 <|
   .ite (v 7)
   (.call c_value_Good [(v 2), (v 3), (n 29)] 1 <|
    .ret [(v 8)])
   (.ret [(.bool false)]))
  (.ret [(.bool false)]))
def track_Right : T := track_Right_b
/- parterre/fixed.Is -/
abbrev c_fixed_Is : Nat := 15
@[reducible] def fixed_Is_b : T := .ret [(.bin .and (cmp .geq (v 0) (n (-68719476736))) (cmp .leq (v 0) (n 68719476736)))]
def fixed_Is : T := fixed_Is_b
/- parterre/implicit.within -/
abbrev c_implicit_within : Nat := 32
@[reducible] def implicit_within_b : T := .ite (cmp .geq (v 0) (n 0))
 (.call c_fixed_Is [(v 0)] 1 <|
  .ret [(v 1)])
 (.ret [(.bool false)])
def implicit_within : T := implicit_within_b
/- parterre/implicit.Good -/
abbrev c_implicit_Good : Nat := 22
@[reducible] def implicit_Good_j1_b : T := .ite (v 5)
 (.ret [(.bool false)])
 (.jump 0 [(add (v 4) (n 1))])
def implicit_Good_j1 : T := implicit_Good_j1_b
@[reducible] def implicit_Good_l0_b : T := .ite (cmp .lss (v 4) (.un .len (v 1)))
 (.ite (cmp .leq (n 0) (v 4))
  (.ite (.bin .or (cmp .eql (v 4) (n 0)) (cmp .lss (v 4) (.un .len (v 2))))
   (.letj implicit_Good_j1 <|
    .call c_track_Right [(at_ 0 (v 1) (v 4)), (at_ 1 (v 1) (v 4)), (at_ 2 (v 1) (v 4)), (at_ 3 (v 1) (v 4)), (.bin (.cell 4 (.bool)) (v 1) (v 4)), (at_ 5 (v 1) (v 4)), (at_ 6 (v 1) (v 4))] 1 <|
    .ite (.bin .or (.un .not (v 5)) (cmp .lss (v 4) (.un .len (v 3))))
    (.ite (v 5)
     (.call c_implicit_within [(at_ 0 (v 3) (v 4))] 1 <|
      .ite (.bin .or (.un .not (.bin .and (v 6) (.bin .or (cmp .eql (v 4) (n 0)) (.bin (.cell 0 (.bool)) (v 2) (v 4))))) (cmp .lss (v 4) (.un .len (v 3))))
      (.jump 1 [(.bin .or (.un .not (v 6)) (.bin .and (.bin .or (cmp .eql (v 4) (n 0)) (.bin (.cell 0 (.bool)) (v 2) (v 4))) (cmp .gtr (at_ 0 (v 3) (v 4)) (n 0))))])
      (.fail ""))
     (.jump 1 [(.bool true)]))
    (.fail ""))
   (.fail ""))
  (.fail ""))
 (.ret [(.bool true)])
def implicit_Good_l0 : T := implicit_Good_l0_b
@[reducible] def implicit_Good_b : T := .ite (.bin .or (.bin .or (.bin .or (.bin .or (cmp .gtr (.un .len (v 1)) (n 40000)) (cmp .neq (.un .len (v 2)) (.un .len (v 1)))) (cmp .neq (.un .len (v 3)) (.un .len (v 1)))) (cmp .gtr (v 0) (n 0))) (cmp .lss (v 0) (n (-10000))))
 (.ret [(.bool false)])
 (.loop [(n 0)] implicit_Good_l0)
def implicit_Good : T := implicit_Good_b
/- parterre/tracks.within -/
abbrev c_tracks_within : Nat := 23
@[reducible] def tracks_within_b : T := .ite (cmp .geq (v 0) (n 0))
 (.call c_fixed_Is [(v 0)] 1 <|
  .ret [(v 1)])
 (.ret [(.bool false)])
def tracks_within : T := tracks_within_b
/- parterre/tracks.Sum -/
abbrev c_tracks_Sum : Nat := 11
@[reducible] def tracks_Sum_l1_b : T := .ite (cmp .lss (v 7) (.un .len (v 4)))
 (.ite (cmp .leq (n 0) (v 7))
  (.ite (cmp .lss (v 7) (.un .len (v 3)))
   (.call c_fixed_Is [(add (v 8) (add (at_ 0 (v 4) (v 7)) (at_ 0 (v 3) (v 7))))] 1 <|
    .ite (v 9)
    (.jump 1 [(add (v 7) (n 1)), (add (v 8) (add (at_ 0 (v 4) (v 7)) (at_ 0 (v 3) (v 7))))])
    (.ret [(n 0), (n 10)]))
   (.fail ""))
  (.fail ""))
 (.ret [(v 8), (n 0)])
def tracks_Sum_l1 : T := tracks_Sum_l1_b
@[reducible] def tracks_Sum_l0_b : T := .ite (cmp .lss (v 6) (.un .len (v 4)))
 (.ite (cmp .leq (n 0) (v 6))
  (.call c_tracks_within [(at_ 0 (v 4) (v 6))] 1 <|
   .ite (v 7)
   (.jump 0 [(add (v 6) (n 1))])
   (.ret [(n 0), (n 2)]))
  (.fail ""))
 (.loop [(n 0), (n 0)] tracks_Sum_l1)
def tracks_Sum_l0 : T := tracks_Sum_l0_b
@[reducible] def tracks_Sum_b : T := .call c_implicit_Good [(v 0), (v 1), (v 2), (v 3)] 1 <|
 .ite (.bin .or (.un .not (v 5)) (cmp .neq (.un .len (v 4)) (.un .len (v 1))))
 (.ret [(n 0), (n 2)])
 (.loop [(n 0)] tracks_Sum_l0)
def tracks_Sum : T := tracks_Sum_b
/- parterre/fixed.Div -/
abbrev c_fixed_Div : Nat := 17
@[reducible] def fixed_Div_j0_b : T := .ret [(v 2)]
def fixed_Div_j0 : T := fixed_Div_j0_b
@[reducible] def fixed_Div_b : T := .ite (cmp .eql (v 1) (n 0))
 (.ret [(n 0)])
 (.ite (cmp .eql (v 1) (n (-1)))
  (.ret [(.un (.neg .i64) (v 0))])
  (.ite (cmp .neq (v 1) (n 0))
   (.letj fixed_Div_j0 <|
    .ite (.bin .and (cmp .neq (.bin (.ar .rem .i64) (v 0) (v 1)) (n 0)) (.un .not (.bin .beq (cmp .lss (v 0) (n 0)) (cmp .lss (v 1) (n 0)))))
    (.jump 0 [(sub (.bin (.ar .quo .i64) (v 0) (v 1)) (n 1))])
    (.jump 0 [(.bin (.ar .quo .i64) (v 0) (v 1))]))
   (.fail "")))
def fixed_Div : T := fixed_Div_b
/- parterre/content.ratio -/
abbrev c_content_ratio : Nat := 18
@[reducible] def content_ratio_j0_b : T := .ret [(n 0), (n 1)]
def content_ratio_j0 : T := content_ratio_j0_b
@[reducible] def content_ratio_b : T := .letj content_ratio_j0 <|
 .ite (cmp .eql (v 0) (n 7))
 (.ite (cmp .gtr (v 2) (n 1))
  (.ret [(v 1), (sub (v 2) (n 1))])
  (.jump 0 []))
 (.ite (cmp .eql (v 0) (n 8))
  (.ret [(add (.bin (.ar .mul .i64) (n 2) (v 1)) (n 1)), (.bin (.ar .mul .i64) (n 2) (v 2))])
  (.ite (cmp .eql (v 0) (n 9))
   (.ret [(add (v 1) (n 1)), (add (v 2) (n 1))])
   (.jump 0 [])))
def content_ratio : T := content_ratio_b
/- parterre/fixed.size -/
abbrev c_fixed_size : Nat := 26
@[reducible] def fixed_size_b : T := .ite (cmp .lss (v 0) (n 0))
 (.ret [(.un (.neg .u64) (.un (.conv .u64) (v 0)))])
 (.ret [(.un (.conv .u64) (v 0))])
def fixed_size : T := fixed_size_b
/- math/bits.Mul64 -/
abbrev c_math_bits_Mul64 : Nat := 25
@[reducible] def math_bits_Mul64_b : T := .ret [(.bin (.ar .add .u64) (.bin (.ar .add .u64) (.bin (.ar .mul .u64) (.bin (.ar .shr .u64) (v 0) (.int .u64 32)) (.bin (.ar .shr .u64) (v 1) (.int .u64 32))) (.bin (.ar .shr .u64) (.bin (.ar .add .u64) (.bin (.ar .mul .u64) (.bin (.ar .shr .u64) (v 0) (.int .u64 32)) (.bin (.ar .and .u64) (v 1) (.int .u64 4294967295))) (.bin (.ar .shr .u64) (.bin (.ar .mul .u64) (.bin (.ar .and .u64) (v 0) (.int .u64 4294967295)) (.bin (.ar .and .u64) (v 1) (.int .u64 4294967295))) (.int .u64 32))) (.int .u64 32))) (.bin (.ar .shr .u64) (.bin (.ar .add .u64) (.bin (.ar .and .u64) (.bin (.ar .add .u64) (.bin (.ar .mul .u64) (.bin (.ar .shr .u64) (v 0) (.int .u64 32)) (.bin (.ar .and .u64) (v 1) (.int .u64 4294967295))) (.bin (.ar .shr .u64) (.bin (.ar .mul .u64) (.bin (.ar .and .u64) (v 0) (.int .u64 4294967295)) (.bin (.ar .and .u64) (v 1) (.int .u64 4294967295))) (.int .u64 32))) (.int .u64 4294967295)) (.bin (.ar .mul .u64) (.bin (.ar .and .u64) (v 0) (.int .u64 4294967295)) (.bin (.ar .shr .u64) (v 1) (.int .u64 32)))) (.int .u64 32))), (.bin (.ar .mul .u64) (v 0) (v 1))]
def math_bits_Mul64 : T := math_bits_Mul64_b
/- math/bits.Len64 -/
abbrev c_math_bits_Len64 : Nat := 43
@[reducible] def math_bits_Len64_j2_b : T := .ite (cmp .leq (n 0) (.un (.conv .u8) (v 6)))
 (.ite (cmp .lss (.un (.conv .u8) (v 6)) (n 256))
  (.ret [(add (v 5) (.un (.conv .i64) (.bin .byte (.str ⟨#[0, 1, 2, 2, 3, 3, 3, 3, 4, 4, 4, 4, 4, 4, 4, 4, 5, 5, 5, 5, 5, 5, 5, 5, 5, 5, 5, 5, 5, 5, 5, 5, 6, 6, 6, 6, 6, 6, 6, 6, 6, 6, 6, 6, 6, 6, 6, 6, 6, 6, 6, 6, 6, 6, 6, 6, 6, 6, 6, 6, 6, 6, 6, 6, 7, 7, 7, 7, 7, 7, 7, 7, 7, 7, 7, 7, 7, 7, 7, 7, 7, 7, 7, 7, 7, 7, 7, 7, 7, 7, 7, 7, 7, 7, 7, 7, 7, 7, 7, 7, 7, 7, 7, 7, 7, 7, 7, 7, 7, 7, 7, 7, 7, 7, 7, 7, 7, 7, 7, 7, 7, 7, 7, 7, 7, 7, 7, 7, 8, 8, 8, 8, 8, 8, 8, 8, 8, 8, 8, 8, 8, 8, 8, 8, 8, 8, 8, 8, 8, 8, 8, 8, 8, 8, 8, 8, 8, 8, 8, 8, 8, 8, 8, 8, 8, 8, 8, 8, 8, 8, 8, 8, 8, 8, 8, 8, 8, 8, 8, 8, 8, 8, 8, 8, 8, 8, 8, 8, 8, 8, 8, 8, 8, 8, 8, 8, 8, 8, 8, 8, 8, 8, 8, 8, 8, 8, 8, 8, 8, 8, 8, 8, 8, 8, 8, 8, 8, 8, 8, 8, 8, 8, 8, 8, 8, 8, 8, 8, 8, 8, 8, 8, 8, 8, 8, 8, 8, 8, 8, 8, 8, 8, 8, 8, 8, 8, 8, 8, 8, 8, 8, 8, 8, 8, 8, 8]⟩) (.un (.conv .u8) (v 6)))))])
  (.fail ""))
 (.fail "")
def math_bits_Len64_j2 : T := math_bits_Len64_j2_b
@[reducible] def math_bits_Len64_j1_b : T := .letj math_bits_Len64_j2 <|
 .ite (cmp .geq (v 4) (.int .u64 256))
 (.jump 0 [(add (v 3) (n 8)), (.bin (.ar .shr .u64) (v 4) (.int .u64 8))])
 (.jump 0 [(v 3), (v 4)])
def math_bits_Len64_j1 : T := math_bits_Len64_j1_b
@[reducible] def math_bits_Len64_j0_b : T := .letj math_bits_Len64_j1 <|
 .ite (cmp .geq (v 2) (.int .u64 65536))
 (.jump 0 [(add (v 1) (n 16)), (.bin (.ar .shr .u64) (v 2) (.int .u64 16))])
 (.jump 0 [(v 1), (v 2)])
def math_bits_Len64_j0 : T := math_bits_Len64_j0_b
@[reducible] def math_bits_Len64_b : T := .letj math_bits_Len64_j0 <|
 .ite (cmp .geq (v 0) (.int .u64 4294967296))
 (.jump 0 [(n 32), (.bin (.ar .shr .u64) (v 0) (.int .u64 32))])
 (.jump 0 [(n 0), (v 0)])
def math_bits_Len64 : T := math_bits_Len64_b
/- math/bits.LeadingZeros64 -/
abbrev c_math_bits_LeadingZeros64 : Nat := 33
@[reducible] def math_bits_LeadingZeros64_b : T := .call c_math_bits_Len64 [(v 0)] 1 <|
 .ret [(sub (n 64) (v 1))]
def math_bits_LeadingZeros64 : T := math_bits_LeadingZeros64_b
/- math/bits.Div64 -/
abbrev c_math_bits_Div64 : Nat := 27
@[reducible] def math_bits_Div64_j1_b : T := .ret [(.bin (.ar .add .u64) (.bin (.ar .mul .u64) (v 4) (.int .u64 4294967296)) (v 5)), (.bin (.ar .shr .u64) (.bin (.ar .sub .u64) (.bin (.ar .add .u64) (.bin (.ar .mul .u64) (.bin (.ar .sub .u64) (.bin (.ar .add .u64) (.bin (.ar .mul .u64) (.bin (.ar .or .u64) (.bin (.ar .shl .u64) (v 0) (.un (.conv .u64) (v 3))) (.bin (.ar .shr .u64) (v 1) (.bin (.ar .sub .u64) (.int .u64 64) (.un (.conv .u64) (v 3))))) (.int .u64 4294967296)) (.bin (.ar .shr .u64) (.bin (.ar .shl .u64) (v 1) (.un (.conv .u64) (v 3))) (.int .u64 32))) (.bin (.ar .mul .u64) (v 4) (.bin (.ar .shl .u64) (v 2) (.un (.conv .u64) (v 3))))) (.int .u64 4294967296)) (.bin (.ar .and .u64) (.bin (.ar .shl .u64) (v 1) (.un (.conv .u64) (v 3))) (.int .u64 4294967295))) (.bin (.ar .mul .u64) (v 5) (.bin (.ar .shl .u64) (v 2) (.un (.conv .u64) (v 3))))) (.un (.conv .u64) (v 3)))]
def math_bits_Div64_j1 : T := math_bits_Div64_j1_b
@[reducible] def math_bits_Div64_l2_b : T := .ite (.bin .or (cmp .geq (v 6) (.int .u64 4294967296)) (cmp .gtr (.bin (.ar .mul .u64) (v 6) (.bin (.ar .and .u64) (.bin (.ar .shl .u64) (v 2) (.un (.conv .u64) (v 3))) (.int .u64 4294967295))) (.bin (.ar .add .u64) (.bin (.ar .mul .u64) (.int .u64 4294967296) (v 5)) (.bin (.ar .and .u64) (.bin (.ar .shl .u64) (v 1) (.un (.conv .u64) (v 3))) (.int .u64 4294967295)))))
 (.ite (cmp .geq (.bin (.ar .add .u64) (v 5) (.bin (.ar .shr .u64) (.bin (.ar .shl .u64) (v 2) (.un (.conv .u64) (v 3))) (.int .u64 32))) (.int .u64 4294967296))
  (.jump 0 [(.bin (.ar .sub .u64) (v 6) (.int .u64 1))])
  (.jump 1 [(.bin (.ar .add .u64) (v 5) (.bin (.ar .shr .u64) (.bin (.ar .shl .u64) (v 2) (.un (.conv .u64) (v 3))) (.int .u64 32))), (.bin (.ar .sub .u64) (v 6) (.int .u64 1))]))
 (.jump 0 [(v 6)])
def math_bits_Div64_l2 : T := math_bits_Div64_l2_b
@[reducible] def math_bits_Div64_j0_b : T := .letj math_bits_Div64_j1 <|
 .loop [(.bin (.ar .sub .u64) (.bin (.ar .sub .u64) (.bin (.ar .add .u64) (.bin (.ar .mul .u64) (.bin (.ar .or .u64) (.bin (.ar .shl .u64) (v 0) (.un (.conv .u64) (v 3))) (.bin (.ar .shr .u64) (v 1) (.bin (.ar .sub .u64) (.int .u64 64) (.un (.conv .u64) (v 3))))) (.int .u64 4294967296)) (.bin (.ar .shr .u64) (.bin (.ar .shl .u64) (v 1) (.un (.conv .u64) (v 3))) (.int .u64 32))) (.bin (.ar .mul .u64) (v 4) (.bin (.ar .shl .u64) (v 2) (.un (.conv .u64) (v 3))))) (.bin (.ar .mul .u64) (.bin (.ar .quo .u64) (.bin (.ar .sub .u64) (.bin (.ar .add .u64) (.bin (.ar .mul .u64) (.bin (.ar .or .u64) (.bin (.ar .shl .u64) (v 0) (.un (.conv .u64) (v 3))) (.bin (.ar .shr .u64) (v 1) (.bin (.ar .sub .u64) (.int .u64 64) (.un (.conv .u64) (v 3))))) (.int .u64 4294967296)) (.bin (.ar .shr .u64) (.bin (.ar .shl .u64) (v 1) (.un (.conv .u64) (v 3))) (.int .u64 32))) (.bin (.ar .mul .u64) (v 4) (.bin (.ar .shl .u64) (v 2) (.un (.conv .u64) (v 3))))) (.bin (.ar .shr .u64) (.bin (.ar .shl .u64) (v 2) (.un (.conv .u64) (v 3))) (.int .u64 32))) (.bin (.ar .shr .u64) (.bin (.ar .shl .u64) (v 2) (.un (.conv .u64) (v 3))) (.int .u64 32)))), (.bin (.ar .quo .u64) (.bin (.ar .sub .u64) (.bin (.ar .add .u64) (.bin (.ar .mul .u64) (.bin (.ar .or .u64) (.bin (.ar .shl .u64) (v 0) (.un (.conv .u64) (v 3))) (.bin (.ar .shr .u64) (v 1) (.bin (.ar .sub .u64) (.int .u64 64) (.un (.conv .u64) (v 3))))) (.int .u64 4294967296)) (.bin (.ar .shr .u64) (.bin (.ar .shl .u64) (v 1) (.un (.conv .u64) (v 3))) (.int .u64 32))) (.bin (.ar .mul .u64) (v 4) (.bin (.ar .shl .u64) (v 2) (.un (.conv .u64) (v 3))))) (.bin (.ar .shr .u64) (.bin (.ar .shl .u64) (v 2) (.un (.conv .u64) (v 3))) (.int .u64 32)))] math_bits_Div64_l2
def math_bits_Div64_j0 : T := math_bits_Div64_j0_b
@[reducible] def math_bits_Div64_l3_b : T := .ite (.bin .or (cmp .geq (v 5) (.int .u64 4294967296)) (cmp .gtr (.bin (.ar .mul .u64) (v 5) (.bin (.ar .and .u64) (.bin (.ar .shl .u64) (v 2) (.un (.conv .u64) (v 3))) (.int .u64 4294967295))) (.bin (.ar .add .u64) (.bin (.ar .mul .u64) (.int .u64 4294967296) (v 4)) (.bin (.ar .shr .u64) (.bin (.ar .shl .u64) (v 1) (.un (.conv .u64) (v 3))) (.int .u64 32)))))
 (.ite (cmp .geq (.bin (.ar .add .u64) (v 4) (.bin (.ar .shr .u64) (.bin (.ar .shl .u64) (v 2) (.un (.conv .u64) (v 3))) (.int .u64 32))) (.int .u64 4294967296))
  (.jump 0 [(.bin (.ar .sub .u64) (v 5) (.int .u64 1))])
  (.jump 1 [(.bin (.ar .add .u64) (v 4) (.bin (.ar .shr .u64) (.bin (.ar .shl .u64) (v 2) (.un (.conv .u64) (v 3))) (.int .u64 32))), (.bin (.ar .sub .u64) (v 5) (.int .u64 1))]))
 (.jump 0 [(v 5)])
def math_bits_Div64_l3 : T := math_bits_Div64_l3_b
@[reducible] def math_bits_Div64_b : T := .ite (cmp .eql (v 2) (.int .u64 0))
 (.fail "")
 (.ite (cmp .leq (v 2) (v 0))
  (.fail "")
  (.ite (cmp .eql (v 0) (.int .u64 0))
   (.ite (cmp .neq (v 2) (.int .u64 0))
    (.ret [(.bin (.ar .quo .u64) (v 1) (v 2)), (.bin (.ar .rem .u64) (v 1) (v 2))])
    (.fail ""))
   (.call c_math_bits_LeadingZeros64 [(v 2)] 1 <|
    .ite (cmp .leq (.int .u64 0) (.un (.conv .u64) (v 3)))
    (.ite (cmp .leq (.int .u64 0) (.bin (.ar .sub .u64) (.int .u64 64) (.un (.conv .u64) (v 3))))
     (.ite (cmp .neq (.bin (.ar .shr .u64) (.bin (.ar .shl .u64) (v 2) (.un (.conv .u64) (v 3))) (.int .u64 32)) (.int .u64 0))
      (.letj math_bits_Div64_j0 <|
       .loop [(.bin (.ar .sub .u64) (.bin (.ar .or .u64) (.bin (.ar .shl .u64) (v 0) (.un (.conv .u64) (v 3))) (.bin (.ar .shr .u64) (v 1) (.bin (.ar .sub .u64) (.int .u64 64) (.un (.conv .u64) (v 3))))) (.bin (.ar .mul .u64) (.bin (.ar .quo .u64) (.bin (.ar .or .u64) (.bin (.ar .shl .u64) (v 0) (.un (.conv .u64) (v 3))) (.bin (.ar .shr .u64) (v 1) (.bin (.ar .sub .u64) (.int .u64 64) (.un (.conv .u64) (v 3))))) (.bin (.ar .shr .u64) (.bin (.ar .shl .u64) (v 2) (.un (.conv .u64) (v 3))) (.int .u64 32))) (.bin (.ar .shr .u64) (.bin (.ar .shl .u64) (v 2) (.un (.conv .u64) (v 3))) (.int .u64 32)))), (.bin (.ar .quo .u64) (.bin (.ar .or .u64) (.bin (.ar .shl .u64) (v 0) (.un (.conv .u64) (v 3))) (.bin (.ar .shr .u64) (v 1) (.bin (.ar .sub .u64) (.int .u64 64) (.un (.conv .u64) (v 3))))) (.bin (.ar .shr .u64) (.bin (.ar .shl .u64) (v 2) (.un (.conv .u64) (v 3))) (.int .u64 32)))] math_bits_Div64_l3)
      (.fail ""))
     (.fail ""))
    (.fail ""))))
def math_bits_Div64 : T := math_bits_Div64_b
/- parterre/fixed.MulDiv -/
abbrev c_fixed_MulDiv : Nat := 19
@[reducible] def fixed_MulDiv_b : T := .ite (cmp .eql (v 2) (n 0))
 (.ret [(n 0), (n 2)])
 (.call c_fixed_size [(v 0)] 1 <|
  .call c_fixed_size [(v 1)] 1 <|
  .call c_math_bits_Mul64 [(v 3), (v 4)] 2 <|
  .call c_fixed_size [(v 2)] 1 <|
  .ite (cmp .geq (v 5) (v 7))
  (.ret [(n 0), (n 10)])
  (.call c_math_bits_Div64 [(v 5), (v 6), (v 7)] 2 <|
   .ite (.bin .and (.un .not (.bin .beq (.un .not (.bin .beq (cmp .lss (v 0) (n 0)) (cmp .lss (v 1) (n 0)))) (cmp .lss (v 2) (n 0)))) (cmp .gtr (v 9) (.int .u64 0)))
   (.ite (cmp .geq (v 8) (.int .u64 9223372036854775808))
    (.ret [(n 0), (n 10)])
    (.ret [(.un (.conv .i64) (.un (.neg .u64) (.bin (.ar .add .u64) (v 8) (.int .u64 1)))), (n 0)]))
   (.ite (.bin .and (.un .not (.bin .beq (.un .not (.bin .beq (cmp .lss (v 0) (n 0)) (cmp .lss (v 1) (n 0)))) (cmp .lss (v 2) (n 0)))) (cmp .leq (v 8) (.int .u64 9223372036854775808)))
    (.ret [(.un (.conv .i64) (.un (.neg .u64) (v 8))), (n 0)])
    (.ite (cmp .geq (v 8) (.int .u64 9223372036854775808))
     (.ret [(n 0), (n 10)])
     (.ret [(.un (.conv .i64) (v 8)), (n 0)])))))
def fixed_MulDiv : T := fixed_MulDiv_b
/- parterre/content.Starts -/
abbrev c_content_Starts : Nat := 8
@[reducible] def content_Starts_j2_b : T := .jump 0 [(add (v 10) (n 1)), (v 12)]
def content_Starts_j2 : T := content_Starts_j2_b
@[reducible] def content_Starts_j5_b : T := .ite (cmp .lss (v 12) (.un .len (v 15)))
 (.ite (cmp .lss (v 12) (.un .len (v 4)))
  (.jump 1 [(add (v 12) (n 1)), (v 16), (add (add (v 14) (at_ 0 (v 3) (v 12))) (at_ 0 (v 4) (v 12))), (.tri .set (v 15) (v 12) (.bin .cons (add (add (v 14) (at_ 0 (v 3) (v 12))) (v 17)) .nilc))])
  (.fail ""))
 (.fail "")
def content_Starts_j5 : T := content_Starts_j5_b
@[reducible] def content_Starts_j4_b : T := .ite (cmp .leq (n 0) (v 12))
 (.ite (cmp .lss (v 12) (.un .len (v 3)))
  (.letj content_Starts_j5 <|
   .ite (cmp .eql (v 6) (n 4))
   (.jump 2 [(sub (v 5) (v 7))])
   (.ite (cmp .eql (v 6) (n 5))
    (.call c_fixed_Div [(sub (v 5) (v 7)), (n 2)] 1 <|
     .jump 2 [(v 17)])
    (.ite (.bin .or (cmp .leq (sub (v 5) (v 7)) (n 0)) (cmp .eql (v 11) (n 0)))
     (.jump 2 [(n 0)])
     (.call c_content_ratio [(v 6), (.bin (.max .i64) (v 16) (n 0)), (v 11)] 2 <|
      .call c_fixed_MulDiv [(sub (v 5) (v 7)), (v 17), (v 18)] 2 <|
      .jump 2 [(v 19)]))))
  (.fail ""))
 (.fail "")
def content_Starts_j4 : T := content_Starts_j4_b
@[reducible] def content_Starts_l3_b : T := .ite (cmp .lss (v 12) (.un .len (.bin .make (.bin .cons (n 0) .nilc) (.un .len (v 4)))))
 (.letj content_Starts_j4 <|
  .ite (cmp .leq (n 0) (v 12))
  (.ite (cmp .lss (v 12) (.un .len (v 2)))
   (.ite (.bin (.cell 0 (.bool)) (v 2) (v 12))
    (.jump 2 [(v 13)])
    (.jump 2 [(add (v 13) (n 1))]))
   (.fail ""))
  (.fail ""))
 (.ret [(v 15), (n 0)])
def content_Starts_l3 : T := content_Starts_l3_b
@[reducible] def content_Starts_l1_b : T := .ite (cmp .lss (v 10) (.un .len (v 2)))
 (.letj content_Starts_j2 <|
  .ite (cmp .leq (n 0) (v 10))
  (.ite (.bin (.cell 0 (.bool)) (v 2) (v 10))
   (.jump 1 [(v 11)])
   (.jump 1 [(add (v 11) (n 1))]))
  (.fail ""))
 (.ite (cmp .leq (.un .len (v 4)) (n 17592186044416))
  (.loop [(n 0), (n (-1)), (n 0), (.bin .make (.bin .cons (n 0) .nilc) (.un .len (v 4)))] content_Starts_l3)
  (.fail ""))
def content_Starts_l1 : T := content_Starts_l1_b
@[reducible] def content_Starts_j0_b : T := .ite (v 9)
 (.ret [.nil, (n 2)])
 (.ite (cmp .neq (v 8) (n 0))
  (.ret [.nil, (v 8)])
  (.loop [(n 0), (n 0)] content_Starts_l1))
def content_Starts_j0 : T := content_Starts_j0_b
@[reducible] def content_Starts_b : T := .call c_tracks_Sum [(v 0), (v 1), (v 2), (v 3), (v 4)] 2 <|
 .letj content_Starts_j0 <|
 .ite (.bin .or (cmp .eql (v 8) (n 2)) (cmp .lss (v 5) (n 0)))
 (.jump 0 [(.bool true)])
 (.call c_fixed_Is [(v 5)] 1 <|
  .jump 0 [(.bin .or (.bin .or (.un .not (v 9)) (cmp .lss (v 6) (n 2))) (cmp .gtr (v 6) (n 9)))])
def content_Starts : T := content_Starts_b
/- parterre/parterreref01.Ints -/
abbrev c_ref01_Ints : Nat := 10
@[reducible] def ref01_Ints_l0_b : T := .ite (cmp .lss (v 2) (.un .len (v 0)))
 (.ite (cmp .leq (n 0) (v 2))
  (.ite (cmp .lss (v 2) (.un .len (v 1)))
   (.ite (cmp .neq (at_ 0 (v 0) (v 2)) (at_ 0 (v 1) (v 2)))
    (.ret [(.bool false)])
    (.jump 0 [(add (v 2) (n 1))]))
   (.fail ""))
  (.fail ""))
 (.ret [(.bool true)])
def ref01_Ints_l0 : T := ref01_Ints_l0_b
@[reducible] def ref01_Ints_b : T := .ite (cmp .neq (.un .len (v 0)) (.un .len (v 1)))
 (.ret [(.bool false)])
 (.loop [(n 0)] ref01_Ints_l0)
def ref01_Ints : T := ref01_Ints_b
/- parterre/parterrelaw28.lives -/
abbrev c_law28_lives : Nat := 7
@[reducible] def law28_lives_b : T := .call c_law28_three [] 5 <|
 .call c_content_Starts [(v 0), (v 1), (v 2), (v 3), (v 4), (n 60), (n 7)] 2 <|
 .call c_content_Starts [(v 0), (v 1), (v 2), (v 3), (v 4), (n 60), (n 8)] 2 <|
 .call c_content_Starts [(v 0), (v 1), (v 2), (v 3), (v 4), (n 60), (n 9)] 2 <|
 .ite (cmp .eql (v 10) (n 0))
 (.call c_ref01_Ints [(v 5), (.bin .snoc (.bin .snoc (.bin .snoc .nil (.bin .cons (n 0) .nilc)) (.bin .cons (n 25) .nilc)) (.bin .cons (n 50) .nilc))] 1 <|
  .ite (v 11)
  (.call c_ref01_Ints [(v 7), (.bin .snoc (.bin .snoc (.bin .snoc .nil (.bin .cons (n 5) .nilc)) (.bin .cons (n 25) .nilc)) (.bin .cons (n 45) .nilc))] 1 <|
   .ite (v 12)
   (.call c_ref01_Ints [(v 9), (.bin .snoc (.bin .snoc (.bin .snoc .nil (.bin .cons (n 7) .nilc)) (.bin .cons (n 25) .nilc)) (.bin .cons (n 42) .nilc))] 1 <|
    .ret [(v 13)])
   (.ret [(.bool false)]))
  (.ret [(.bool false)]))
 (.ret [(.bool false)])
def law28_lives : T := law28_lives_b
/- parterre/parterreref06.isLen -/
abbrev c_ref06_isLen : Nat := 44
@[reducible] def ref06_isLen_b : T := .ret [(.bin .or (cmp .eql (v 0) (n 2)) (cmp .eql (v 0) (n 3)))]
def ref06_isLen : T := ref06_isLen_b
/- parterre/parterreref05.bits -/
abbrev c_ref05_bits : Nat := 50
@[reducible] def ref05_bits_b : T := .ret [(.un (.conv .i64) (.bin (.ar .rem .u64) (.un (.conv .u64) (v 0)) (.int .u64 64)))]
def ref05_bits : T := ref05_bits_b
/- parterre/parterreref05.Has -/
abbrev c_ref05_Has : Nat := 51
@[reducible] def ref05_Has_b : T := .ite (cmp .neq (v 1) (n 0))
 (.ret [(cmp .eql (.bin (.ar .rem .i64) (.bin (.ar .quo .i64) (v 0) (v 1)) (n 2)) (n 1))])
 (.fail "")
def ref05_Has : T := ref05_Has_b
/- parterre/parterreref05.Good -/
abbrev c_ref05_Good : Nat := 45
@[reducible] def ref05_Good_j0_b : T := .ret [(.bin .and (cmp .geq (v 1) (v 4)) (cmp .leq (v 1) (n 68719476736)))]
def ref05_Good_j0 : T := ref05_Good_j0_b
@[reducible] def ref05_Good_j1_b : T := .call c_ref05_Has [(v 3), (n 1)] 1 <|
 .ret [(.bin .and (.bin .and (v 5) (cmp .geq (v 1) (v 4))) (cmp .leq (v 1) (n 1073741824)))]
def ref05_Good_j1 : T := ref05_Good_j1_b
@[reducible] def ref05_Good_j2_b : T := .ite (v 4)
 (.call c_ref05_Has [(v 3), (n 8)] 1 <|
  .ret [(.bin .and (v 5) (cmp .eql (v 1) (n 0)))])
 (.ite (cmp .eql (v 0) (n 6))
  (.call c_ref05_Has [(v 3), (n 16)] 1 <|
   .ret [(.bin .and (.bin .and (v 5) (cmp .geq (v 1) (n 0))) (cmp .leq (v 1) (n 1073741824)))])
  (.ite (cmp .eql (v 0) (n 7))
   (.call c_ref05_Has [(v 3), (n 32)] 1 <|
    .ret [(.bin .and (v 5) (cmp .eql (v 1) (n 0)))])
   (.ret [(.bool false)])))
def ref05_Good_j2 : T := ref05_Good_j2_b
@[reducible] def ref05_Good_b : T := .call c_ref05_bits [(v 2)] 1 <|
 .ite (cmp .eql (v 0) (n 2))
 (.letj ref05_Good_j0 <|
  .call c_ref05_Has [(v 3), (n 2)] 1 <|
  .ite (v 4)
  (.jump 0 [(n (-68719476736))])
  (.jump 0 [(n 0)]))
 (.ite (cmp .eql (v 0) (n 3))
  (.letj ref05_Good_j1 <|
   .call c_ref05_Has [(v 3), (n 2)] 1 <|
   .ite (v 4)
   (.jump 0 [(n (-1073741824))])
   (.jump 0 [(n 0)]))
  (.ite (cmp .eql (v 0) (n 1))
   (.call c_ref05_Has [(v 3), (n 4)] 1 <|
    .ret [(.bin .and (v 4) (cmp .eql (v 1) (n 0)))])
   (.letj ref05_Good_j2 <|
    .ite (cmp .eql (v 0) (n 4))
    (.jump 0 [(cmp .eql (v 0) (n 4))])
    (.jump 0 [(cmp .eql (v 0) (n 5))]))))
def ref05_Good : T := ref05_Good_b
/- parterre/parterreref06.Right -/
abbrev c_ref06_Right : Nat := 34
@[reducible] def ref06_Right_b : T := .ite (v 4)
 (.ite (.bin .and (.bin .and (cmp .eql (v 0) (n 1)) (cmp .eql (v 1) (n 0))) (.bin .and (cmp .eql (v 2) (n 5)) (cmp .eql (v 3) (n 0))))
  (.call c_ref06_isLen [(v 5), (v 6)] 1 <|
   .ite (v 7)
   (.call c_ref05_Good [(v 5), (v 6), (n 1)] 1 <|
    .ret [(v 8)])
   (.ret [(.bool false)]))
  (.ret [(.bool false)]))
 (.ite (.bin .and (cmp .eql (v 5) (n 0)) (cmp .eql (v 6) (n 0)))
  (.call c_ref05_Good [(v 0), (v 1), (n 13)] 1 <|
   .ite (v 7)
   (.call c_ref05_Good [(v 2), (v 3), (n 29)] 1 <|
    .ret [(v 8)])
   (.ret [(.bool false)]))
  (.ret [(.bool false)]))
def ref06_Right : T := ref06_Right_b
/- parterre/parterreref21.within -/
abbrev c_ref21_within : Nat := 35
@[reducible] def ref21_within_b : T := .ret [(.bin .and (cmp .geq (v 0) (n 0)) (cmp .leq (v 0) (n 68719476736)))]
def ref21_within : T := ref21_within_b
/- parterre/parterreref21.Good -/
abbrev c_ref21_Good : Nat := 28
@[reducible] def ref21_Good_j1_b : T := .ite (v 5)
 (.ret [(.bool false)])
 (.jump 0 [(add (v 4) (n 1))])
def ref21_Good_j1 : T := ref21_Good_j1_b
@[reducible] def ref21_Good_l0_b : T := .ite (cmp .lss (v 4) (.un .len (v 1)))
 (.letj ref21_Good_j1 <|
  .ite (cmp .leq (n 0) (v 4))
  (.call c_ref06_Right [(at_ 0 (v 1) (v 4)), (at_ 1 (v 1) (v 4)), (at_ 2 (v 1) (v 4)), (at_ 3 (v 1) (v 4)), (.bin (.cell 4 (.bool)) (v 1) (v 4)), (at_ 5 (v 1) (v 4)), (at_ 6 (v 1) (v 4))] 1 <|
   .ite (.bin .or (.un .not (v 5)) (cmp .lss (v 4) (.un .len (v 3))))
   (.ite (v 5)
    (.call c_ref21_within [(at_ 0 (v 3) (v 4))] 1 <|
     .ite (.bin .or (.un .not (.bin .and (v 6) (.un .not (cmp .eql (v 4) (n 0))))) (cmp .lss (v 4) (.un .len (v 2))))
     (.ite (.bin .or (.un .not (.bin .and (v 6) (.bin .or (cmp .eql (v 4) (n 0)) (.bin (.cell 0 (.bool)) (v 2) (v 4))))) (cmp .lss (v 4) (.un .len (v 3))))
      (.jump 1 [(.bin .or (.un .not (v 6)) (.bin .and (.bin .or (cmp .eql (v 4) (n 0)) (.bin (.cell 0 (.bool)) (v 2) (v 4))) (cmp .neq (at_ 0 (v 3) (v 4)) (n 0))))])
      (.fail ""))
     (.fail ""))
    (.jump 1 [(.bool true)]))
   (.fail ""))
  (.fail ""))
 (.ret [(.bool true)])
def ref21_Good_l0 : T := ref21_Good_l0_b
@[reducible] def ref21_Good_b : T := .ite (.bin .or (.bin .or (.bin .or (.bin .or (cmp .gtr (.un .len (v 1)) (n 40000)) (cmp .neq (.un .len (v 2)) (.un .len (v 1)))) (cmp .neq (.un .len (v 3)) (.un .len (v 1)))) (cmp .gtr (v 0) (n 0))) (cmp .lss (v 0) (n (-10000))))
 (.ret [(.bool false)])
 (.loop [(n 0)] ref21_Good_l0)
def ref21_Good : T := ref21_Good_b
/- parterre/parterreref27.Sum -/
abbrev c_ref27_Sum : Nat := 20
@[reducible] def ref27_Sum_l1_b : T := .ite (cmp .lss (v 7) (.un .len (v 4)))
 (.ite (cmp .leq (n 0) (v 7))
  (.ite (cmp .lss (v 7) (.un .len (v 3)))
   (.ite (cmp .gtr (add (add (v 8) (at_ 0 (v 4) (v 7))) (at_ 0 (v 3) (v 7))) (n 68719476736))
    (.ret [(n 0), (n 10)])
    (.jump 1 [(add (v 7) (n 1)), (add (add (v 8) (at_ 0 (v 4) (v 7))) (at_ 0 (v 3) (v 7)))]))
   (.fail ""))
  (.fail ""))
 (.ret [(v 8), (n 0)])
def ref27_Sum_l1 : T := ref27_Sum_l1_b
@[reducible] def ref27_Sum_l0_b : T := .ite (cmp .lss (v 6) (.un .len (v 4)))
 (.ite (cmp .leq (n 0) (v 6))
  (.ite (.bin .or (cmp .lss (at_ 0 (v 4) (v 6)) (n 0)) (cmp .gtr (at_ 0 (v 4) (v 6)) (n 68719476736)))
   (.ret [(n 0), (n 2)])
   (.jump 0 [(add (v 6) (n 1))]))
  (.fail ""))
 (.loop [(n 0), (n 0)] ref27_Sum_l1)
def ref27_Sum_l0 : T := ref27_Sum_l0_b
@[reducible] def ref27_Sum_b : T := .call c_ref21_Good [(v 0), (v 1), (v 2), (v 3)] 1 <|
 .ite (.bin .or (.un .not (v 5)) (cmp .neq (.un .len (v 4)) (.un .len (v 1))))
 (.ret [(n 0), (n 2)])
 (.loop [(n 0)] ref27_Sum_l0)
def ref27_Sum : T := ref27_Sum_b
/- parterre/parterreref01.Div -/
abbrev c_ref01_Div : Nat := 29
@[reducible] def ref01_Div_j0_b : T := .ret [(v 2)]
def ref01_Div_j0 : T := ref01_Div_j0_b
@[reducible] def ref01_Div_b : T := .ite (cmp .eql (v 1) (n 0))
 (.ret [(n 0)])
 (.ite (cmp .eql (v 1) (n (-1)))
  (.ret [(sub (n 0) (v 0))])
  (.ite (cmp .neq (v 1) (n 0))
   (.letj ref01_Div_j0 <|
    .ite (.bin .and (cmp .neq (.bin (.ar .rem .i64) (v 0) (v 1)) (n 0)) (.un .not (.bin .beq (cmp .lss (v 0) (n 0)) (cmp .lss (v 1) (n 0)))))
    (.jump 0 [(sub (.bin (.ar .quo .i64) (v 0) (v 1)) (n 1))])
    (.jump 0 [(.bin (.ar .quo .i64) (v 0) (v 1))]))
   (.fail "")))
def ref01_Div : T := ref01_Div_b
/- parterre/parterreref01.size -/
abbrev c_ref01_size : Nat := 38
@[reducible] def ref01_size_b : T := .ite (cmp .lss (v 0) (n 0))
 (.ret [(.bin (.ar .sub .u64) (.int .u64 0) (.un (.conv .u64) (v 0)))])
 (.ret [(.un (.conv .u64) (v 0))])
def ref01_size : T := ref01_size_b
/- (parterre/parterreref01.Wide).twice -/
abbrev c_ref01_Wide_twice : Nat := 46
@[reducible] def ref01_Wide_twice_b : T := .ret [(.bin (.ar .add .u64) (.bin (.ar .mul .u64) (.int .u64 2) (v 0)) (.bin (.ar .quo .u64) (v 1) (.int .u64 9223372036854775808))), (.bin (.ar .add .u64) (.bin (.ar .mul .u64) (.int .u64 2) (v 1)) (v 2))]
def ref01_Wide_twice : T := ref01_Wide_twice_b
/- (parterre/parterreref01.Wide).plus -/
abbrev c_ref01_Wide_plus : Nat := 39
@[reducible] def ref01_Wide_plus_b : T := .ite (cmp .lss (.bin (.ar .add .u64) (v 1) (v 2)) (v 2))
 (.ret [(.bin (.ar .add .u64) (v 0) (.int .u64 1)), (.bin (.ar .add .u64) (v 1) (v 2))])
 (.ret [(v 0), (.bin (.ar .add .u64) (v 1) (v 2))])
def ref01_Wide_plus : T := ref01_Wide_plus_b
/- parterre/parterreref01.product -/
abbrev c_ref01_product : Nat := 37
@[reducible] def ref01_product_j1_b : T := .jump 0 [(add (v 2) (n 1)), (.bin (.ar .quo .u64) (v 3) (.int .u64 2)), (v 8), (v 9)]
def ref01_product_j1 : T := ref01_product_j1_b
@[reducible] def ref01_product_l0_b : T := .ite (cmp .lss (v 2) (n 64))
 (.call c_ref01_Wide_twice [(v 4), (v 5), (.int .u64 0)] 2 <|
  .letj ref01_product_j1 <|
  .ite (cmp .neq (v 3) (.int .u64 0))
  (.ite (cmp .eql (.bin (.ar .rem .u64) (.bin (.ar .quo .u64) (v 1) (v 3)) (.int .u64 2)) (.int .u64 1))
   (.call c_ref01_Wide_plus [(v 6), (v 7), (v 0)] 2 <|
    .jump 1 [(v 8), (v 9)])
   (.jump 1 [(v 6), (v 7)]))
  (.fail ""))
 (.ret [(v 4), (v 5)])
def ref01_product_l0 : T := ref01_product_l0_b
@[reducible] def ref01_product_b : T := .loop [(n 0), (.int .u64 9223372036854775808), (.int .u64 0), (.int .u64 0)] ref01_product_l0
def ref01_product : T := ref01_product_b
/- parterre/parterreref01.quotient -/
abbrev c_ref01_quotient : Nat := 36
@[reducible] def ref01_quotient_j3_b : T := .call c_ref01_Wide_twice [(v 4), (v 5), (v 14)] 2 <|
 .jump 0 [(sub (v 3) (n 1)), (v 17), (v 18), (v 15), (v 16)]
def ref01_quotient_j3 : T := ref01_quotient_j3_b
@[reducible] def ref01_quotient_l2_b : T := .ite (cmp .lss (v 10) (v 8))
 (.jump 1 [(add (v 10) (n 1)), (.bin (.ar .quo .u64) (v 11) (.int .u64 2))])
 (.call c_ref01_Wide_twice [(v 6), (v 7), (.bin (.ar .rem .u64) (v 11) (.int .u64 2))] 2 <|
  .letj ref01_quotient_j3 <|
  .ite (.bin .or (cmp .gtr (v 12) (.int .u64 0)) (cmp .geq (v 13) (v 2)))
  (.jump 2 [(.int .u64 1), (.int .u64 0), (.bin (.ar .sub .u64) (v 13) (v 2))])
  (.jump 2 [(.int .u64 0), (v 12), (v 13)]))
def ref01_quotient_l2 : T := ref01_quotient_l2_b
@[reducible] def ref01_quotient_j1_b : T := .loop [(n 0), (v 9)] ref01_quotient_l2
def ref01_quotient_j1 : T := ref01_quotient_j1_b
@[reducible] def ref01_quotient_l0_b : T := .ite (cmp .geq (v 3) (n 0))
 (.letj ref01_quotient_j1 <|
  .ite (cmp .lss (v 3) (n 64))
  (.jump 1 [(v 3), (v 1)])
  (.jump 1 [(sub (v 3) (n 64)), (v 0)]))
 (.ret [(v 4), (v 5), (v 7)])
def ref01_quotient_l0 : T := ref01_quotient_l0_b
@[reducible] def ref01_quotient_b : T := .loop [(n 127), (.int .u64 0), (.int .u64 0), (.int .u64 0), (.int .u64 0)] ref01_quotient_l0
def ref01_quotient : T := ref01_quotient_b
/- parterre/parterreref01.MulDiv -/
abbrev c_ref01_MulDiv : Nat := 30
@[reducible] def ref01_MulDiv_j0_b : T := .ite (.bin .or (cmp .gtr (v 11) (.int .u64 0)) (.bin .and (cmp .gtr (v 12) (.int .u64 9223372036854775807)) (.un .not (.bin .and (.bin .and (.un .not (.bin .beq (.un .not (.bin .beq (cmp .lss (v 0) (n 0)) (cmp .lss (v 1) (n 0)))) (cmp .lss (v 2) (n 0)))) (.bin .or (.un .not (.bin .and (cmp .eql (v 8) (.int .u64 0)) (cmp .eql (v 9) (.int .u64 0)))) (cmp .gtr (v 10) (.int .u64 0)))) (cmp .eql (v 12) (.int .u64 9223372036854775808))))))
 (.ret [(n 0), (n 10)])
 (.ite (.bin .and (.un .not (.bin .beq (.un .not (.bin .beq (cmp .lss (v 0) (n 0)) (cmp .lss (v 1) (n 0)))) (cmp .lss (v 2) (n 0)))) (.bin .or (.un .not (.bin .and (cmp .eql (v 8) (.int .u64 0)) (cmp .eql (v 9) (.int .u64 0)))) (cmp .gtr (v 10) (.int .u64 0))))
  (.ret [(.un (.conv .i64) (.bin (.ar .sub .u64) (.int .u64 0) (v 12))), (n 0)])
  (.ret [(.un (.conv .i64) (v 12)), (n 0)]))
def ref01_MulDiv_j0 : T := ref01_MulDiv_j0_b
@[reducible] def ref01_MulDiv_b : T := .ite (cmp .eql (v 2) (n 0))
 (.ret [(n 0), (n 2)])
 (.call c_ref01_size [(v 0)] 1 <|
  .call c_ref01_size [(v 1)] 1 <|
  .call c_ref01_product [(v 3), (v 4)] 2 <|
  .call c_ref01_size [(v 2)] 1 <|
  .call c_ref01_quotient [(v 5), (v 6), (v 7)] 3 <|
  .letj ref01_MulDiv_j0 <|
  .ite (.bin .and (.bin .and (.un .not (.bin .beq (.un .not (.bin .beq (cmp .lss (v 0) (n 0)) (cmp .lss (v 1) (n 0)))) (cmp .lss (v 2) (n 0)))) (.bin .or (.un .not (.bin .and (cmp .eql (v 8) (.int .u64 0)) (cmp .eql (v 9) (.int .u64 0)))) (cmp .gtr (v 10) (.int .u64 0)))) (cmp .gtr (v 10) (.int .u64 0)))
  (.call c_ref01_Wide_plus [(v 8), (v 9), (.int .u64 1)] 2 <|
   .jump 0 [(v 11), (v 12)])
  (.jump 0 [(v 8), (v 9)]))
def ref01_MulDiv : T := ref01_MulDiv_b
/- parterre/parterreref28.added -/
abbrev c_ref28_added : Nat := 21
@[reducible] def ref28_added_j0_b : T := .ite (.bin .or (cmp .leq (v 4) (n 0)) (cmp .leq (v 3) (n 0)))
 (.ret [(n 0)])
 (.call c_ref01_MulDiv [(v 1), (v 5), (v 4)] 2 <|
  .ret [(v 6)])
def ref28_added_j0 : T := ref28_added_j0_b
@[reducible] def ref28_added_b : T := .ite (cmp .eql (v 0) (n 4))
 (.ret [(v 1)])
 (.ite (cmp .eql (v 0) (n 5))
  (.call c_ref01_Div [(v 1), (n 2)] 1 <|
   .ret [(v 4)])
  (.ite (cmp .leq (v 1) (n 0))
   (.ret [(n 0)])
   (.letj ref28_added_j0 <|
    .ite (cmp .eql (v 0) (n 7))
    (.jump 0 [(sub (v 3) (n 1)), (v 2)])
    (.ite (cmp .eql (v 0) (n 8))
     (.jump 0 [(.bin (.ar .mul .i64) (n 2) (v 3)), (add (.bin (.ar .mul .i64) (n 2) (v 2)) (n 1))])
     (.ite (cmp .eql (v 0) (n 9))
      (.jump 0 [(add (v 3) (n 1)), (add (v 2) (n 1))])
      (.jump 0 [(n 1), (n 0)]))))))
def ref28_added : T := ref28_added_b
/- parterre/parterreref28.Starts -/
abbrev c_ref28_Starts : Nat := 9
@[reducible] def ref28_Starts_j1_b : T := .jump 0 [(add (v 9) (n 1)), (v 11)]
def ref28_Starts_j1 : T := ref28_Starts_j1_b
@[reducible] def ref28_Starts_j3_b : T := .ite (cmp .leq (n 0) (v 11))
 (.ite (cmp .lss (v 11) (.un .len (v 3)))
  (.call c_ref28_added [(v 6), (sub (v 5) (v 7)), (.bin (.max .i64) (v 15) (n 0)), (v 10)] 1 <|
   .ite (cmp .leq (.bin .plus (.un .len (v 14)) (.un .len (.bin .snoc .nil (.bin .cons (add (add (v 13) (at_ 0 (v 3) (v 11))) (v 16)) .nilc)))) (n 4294967296))
   (.jump 1 [(add (v 11) (n 1)), (v 15), (add (add (v 13) (at_ 0 (v 3) (v 11))) (at_ 0 (v 4) (v 11))), (.bin .snoc (v 14) (.bin .cons (add (add (v 13) (at_ 0 (v 3) (v 11))) (v 16)) .nilc))])
   (.fail ""))
  (.fail ""))
 (.fail "")
def ref28_Starts_j3 : T := ref28_Starts_j3_b
@[reducible] def ref28_Starts_l2_b : T := .ite (cmp .lss (v 11) (.un .len (v 4)))
 (.letj ref28_Starts_j3 <|
  .ite (cmp .leq (n 0) (v 11))
  (.ite (cmp .lss (v 11) (.un .len (v 2)))
   (.ite (.bin (.cell 0 (.bool)) (v 2) (v 11))
    (.jump 2 [(v 12)])
    (.jump 2 [(add (v 12) (n 1))]))
   (.fail ""))
  (.fail ""))
 (.ret [(v 14), (n 0)])
def ref28_Starts_l2 : T := ref28_Starts_l2_b
@[reducible] def ref28_Starts_l0_b : T := .ite (cmp .lss (v 9) (.un .len (v 2)))
 (.letj ref28_Starts_j1 <|
  .ite (cmp .leq (n 0) (v 9))
  (.ite (.bin (.cell 0 (.bool)) (v 2) (v 9))
   (.jump 1 [(v 10)])
   (.jump 1 [(add (v 10) (n 1))]))
  (.fail ""))
 (.loop [(n 0), (n (-1)), (n 0), .nil] ref28_Starts_l2)
def ref28_Starts_l0 : T := ref28_Starts_l0_b
@[reducible] def ref28_Starts_b : T := .call c_ref27_Sum [(v 0), (v 1), (v 2), (v 3), (v 4)] 2 <|
 .ite (.bin .or (.bin .or (.bin .or (.bin .or (cmp .eql (v 8) (n 2)) (cmp .lss (v 5) (n 0))) (cmp .gtr (v 5) (n 68719476736))) (cmp .lss (v 6) (n 2))) (cmp .gtr (v 6) (n 9)))
 (.ret [.nil, (n 2)])
 (.ite (cmp .neq (v 8) (n 0))
  (.ret [.nil, (v 8)])
  (.loop [(n 0), (n 0)] ref28_Starts_l0))
def ref28_Starts : T := ref28_Starts_b
/- parterre/parterrelaw28.ContentStarts -/
abbrev c_law28_ContentStarts : Nat := 3
@[reducible] def law28_ContentStarts_b : T := .ite (.bin .or (.bin .or (.bin .or (cmp .gtr (.un .len (v 1)) (n 300)) (cmp .gtr (.un .len (v 4)) (n 300))) (cmp .gtr (.un .len (v 2)) (n 500))) (cmp .gtr (.un .len (v 3)) (n 500)))
 (.call c_law28_lives [] 1 <|
  .ret [(v 7)])
 (.call c_content_Starts [(v 0), (v 1), (v 2), (v 3), (v 4), (v 5), (v 6)] 2 <|
  .call c_ref28_Starts [(v 0), (v 1), (v 2), (v 3), (v 4), (v 5), (v 6)] 2 <|
  .call c_ref01_Ints [(v 7), (v 9)] 1 <|
  .ite (.bin .and (v 11) (cmp .eql (v 8) (v 10)))
  (.call c_law28_lives [] 1 <|
   .ret [(v 12)])
  (.ret [(.bool false)]))
def law28_ContentStarts : T := law28_ContentStarts_b
def sigL : List (Nat × Sig) := [
  (14, ⟨[], [.agg [.int .i64, .row [.int .i64, .int .i64, .int .i64, .int .i64, .bool, .int .i64, .int .i64], .row [.bool], .row [.int .i64]], .leaf (.row [.int .i64])]⟩) -- law28_three
  ,(47, ⟨[], [.agg [.int .i64, .int .i64]]⟩) -- track_auto
  ,(40, ⟨[.agg [.int .i64, .int .i64]], [.agg [.int .i64, .int .i64, .int .i64, .int .i64, .bool, .int .i64, .int .i64]]⟩) -- track_fit
  ,(41, ⟨[.agg [.int .i64, .int .i64]], [.leaf (.bool)]⟩) -- track_isLen
  ,(49, ⟨[.leaf (.int .i64)], [.leaf (.int .i64)]⟩) -- value_keyBit
  ,(42, ⟨[.agg [.int .i64, .int .i64], .leaf (.int .i64)], [.leaf (.bool)]⟩) -- value_Good
  ,(31, ⟨[.agg [.int .i64, .int .i64, .int .i64, .int .i64, .bool, .int .i64, .int .i64]], [.leaf (.bool)]⟩) -- track_Right
  ,(15, ⟨[.leaf (.int .i64)], [.leaf (.bool)]⟩) -- fixed_Is
  ,(32, ⟨[.leaf (.int .i64)], [.leaf (.bool)]⟩) -- implicit_within
  ,(22, ⟨[.agg [.int .i64, .row [.int .i64, .int .i64, .int .i64, .int .i64, .bool, .int .i64, .int .i64], .row [.bool], .row [.int .i64]]], [.leaf (.bool)]⟩) -- implicit_Good
  ,(23, ⟨[.leaf (.int .i64)], [.leaf (.bool)]⟩) -- tracks_within
  ,(11, ⟨[.agg [.int .i64, .row [.int .i64, .int .i64, .int .i64, .int .i64, .bool, .int .i64, .int .i64], .row [.bool], .row [.int .i64]], .leaf (.row [.int .i64])], [.leaf (.int .i64), .leaf (.int .i64)]⟩) -- tracks_Sum
  ,(17, ⟨[.leaf (.int .i64), .leaf (.int .i64)], [.leaf (.int .i64)]⟩) -- fixed_Div
  ,(18, ⟨[.leaf (.int .i64), .leaf (.int .i64), .leaf (.int .i64)], [.agg [.int .i64, .int .i64]]⟩) -- content_ratio
  ,(26, ⟨[.leaf (.int .i64)], [.leaf (.int .u64)]⟩) -- fixed_size
  ,(25, ⟨[.leaf (.int .u64), .leaf (.int .u64)], [.leaf (.int .u64), .leaf (.int .u64)]⟩) -- math_bits_Mul64
  ,(43, ⟨[.leaf (.int .u64)], [.leaf (.int .i64)]⟩) -- math_bits_Len64
  ,(33, ⟨[.leaf (.int .u64)], [.leaf (.int .i64)]⟩) -- math_bits_LeadingZeros64
  ,(27, ⟨[.leaf (.int .u64), .leaf (.int .u64), .leaf (.int .u64)], [.leaf (.int .u64), .leaf (.int .u64)]⟩) -- math_bits_Div64
  ,(19, ⟨[.leaf (.int .i64), .leaf (.int .i64), .leaf (.int .i64)], [.leaf (.int .i64), .leaf (.int .i64)]⟩) -- fixed_MulDiv
  ,(8, ⟨[.agg [.int .i64, .row [.int .i64, .int .i64, .int .i64, .int .i64, .bool, .int .i64, .int .i64], .row [.bool], .row [.int .i64]], .leaf (.row [.int .i64]), .leaf (.int .i64), .leaf (.int .i64)], [.own [.int .i64], .leaf (.int .i64)]⟩) -- content_Starts
  ,(10, ⟨[.leaf (.row [.int .i64]), .leaf (.row [.int .i64])], [.leaf (.bool)]⟩) -- ref01_Ints
  ,(7, ⟨[], [.leaf (.bool)]⟩) -- law28_lives
  ,(44, ⟨[.agg [.int .i64, .int .i64]], [.leaf (.bool)]⟩) -- ref06_isLen
  ,(50, ⟨[.leaf (.int .i64)], [.leaf (.int .i64)]⟩) -- ref05_bits
  ,(51, ⟨[.leaf (.int .i64), .leaf (.int .i64)], [.leaf (.bool)]⟩) -- ref05_Has
  ,(45, ⟨[.agg [.int .i64, .int .i64], .leaf (.int .i64)], [.leaf (.bool)]⟩) -- ref05_Good
  ,(34, ⟨[.agg [.int .i64, .int .i64, .int .i64, .int .i64, .bool, .int .i64, .int .i64]], [.leaf (.bool)]⟩) -- ref06_Right
  ,(35, ⟨[.leaf (.int .i64)], [.leaf (.bool)]⟩) -- ref21_within
  ,(28, ⟨[.agg [.int .i64, .row [.int .i64, .int .i64, .int .i64, .int .i64, .bool, .int .i64, .int .i64], .row [.bool], .row [.int .i64]]], [.leaf (.bool)]⟩) -- ref21_Good
  ,(20, ⟨[.agg [.int .i64, .row [.int .i64, .int .i64, .int .i64, .int .i64, .bool, .int .i64, .int .i64], .row [.bool], .row [.int .i64]], .leaf (.row [.int .i64])], [.leaf (.int .i64), .leaf (.int .i64)]⟩) -- ref27_Sum
  ,(29, ⟨[.leaf (.int .i64), .leaf (.int .i64)], [.leaf (.int .i64)]⟩) -- ref01_Div
  ,(38, ⟨[.leaf (.int .i64)], [.leaf (.int .u64)]⟩) -- ref01_size
  ,(46, ⟨[.agg [.int .u64, .int .u64], .leaf (.int .u64)], [.agg [.int .u64, .int .u64]]⟩) -- ref01_Wide_twice
  ,(39, ⟨[.agg [.int .u64, .int .u64], .leaf (.int .u64)], [.agg [.int .u64, .int .u64]]⟩) -- ref01_Wide_plus
  ,(37, ⟨[.leaf (.int .u64), .leaf (.int .u64)], [.agg [.int .u64, .int .u64]]⟩) -- ref01_product
  ,(36, ⟨[.agg [.int .u64, .int .u64], .leaf (.int .u64)], [.agg [.int .u64, .int .u64], .leaf (.int .u64)]⟩) -- ref01_quotient
  ,(30, ⟨[.leaf (.int .i64), .leaf (.int .i64), .leaf (.int .i64)], [.leaf (.int .i64), .leaf (.int .i64)]⟩) -- ref01_MulDiv
  ,(21, ⟨[.leaf (.int .i64), .leaf (.int .i64), .leaf (.int .i64), .leaf (.int .i64)], [.leaf (.int .i64)]⟩) -- ref28_added
  ,(9, ⟨[.agg [.int .i64, .row [.int .i64, .int .i64, .int .i64, .int .i64, .bool, .int .i64, .int .i64], .row [.bool], .row [.int .i64]], .leaf (.row [.int .i64]), .leaf (.int .i64), .leaf (.int .i64)], [.own [.int .i64], .leaf (.int .i64)]⟩) -- ref28_Starts
  ,(3, ⟨[.agg [.int .i64, .row [.int .i64, .int .i64, .int .i64, .int .i64, .bool, .int .i64, .int .i64], .row [.bool], .row [.int .i64]], .leaf (.row [.int .i64]), .leaf (.int .i64), .leaf (.int .i64)], [.leaf (.bool)]⟩) -- law28_ContentStarts
  ]
def trL : List (Nat × T) := [(14, law28_three), (47, track_auto), (40, track_fit), (41, track_isLen), (49, value_keyBit), (42, value_Good), (31, track_Right), (15, fixed_Is), (32, implicit_within), (22, implicit_Good), (23, tracks_within), (11, tracks_Sum), (17, fixed_Div), (18, content_ratio), (26, fixed_size), (25, math_bits_Mul64), (43, math_bits_Len64), (33, math_bits_LeadingZeros64), (27, math_bits_Div64), (19, fixed_MulDiv), (8, content_Starts), (10, ref01_Ints), (7, law28_lives), (44, ref06_isLen), (50, ref05_bits), (51, ref05_Has), (45, ref05_Good), (34, ref06_Right), (35, ref21_within), (28, ref21_Good), (20, ref27_Sum), (29, ref01_Div), (38, ref01_size), (46, ref01_Wide_twice), (39, ref01_Wide_plus), (37, ref01_product), (36, ref01_quotient), (30, ref01_MulDiv), (21, ref28_added), (9, ref28_Starts), (3, law28_ContentStarts)]

def sg (f : Nat) : Option Sig := Go.Proofs.Ytbkohlhonhmhmaa.Sx.look sigL f
def tr (f : Nat) : Option T := Go.Proofs.Ytbkohlhonhmhmaa.Sx.look trL f
/-- What the trees say, so many rounds and calls deep. -/
def says (k : Nat) : Nat → List PV → Option (List PV) := told tr k k
/-- THE ONE PURE STATEMENT of parterre/parterrelaw28.ContentStarts. -/
def Pure_ContentStarts : Prop := ∀ (q0 : List PV), ∀ (p1 : PV), ∀ (p2 : PV), ∀ (p3 : PV), LK.oks [.int .i64, .row [.int .i64, .int .i64, .int .i64, .int .i64, .bool, .int .i64, .int .i64], .row [.bool], .row [.int .i64]] q0 → LK.wfs [.int .i64, .row [.int .i64, .int .i64, .int .i64, .int .i64, .bool, .int .i64, .int .i64], .row [.bool], .row [.int .i64]] q0 → ((.row [.int .i64]) : LK).ok p1 → ((.row [.int .i64]) : LK).wf p1 → p1.r.length * 8 ≤ 140737488351232 → ((.int .i64) : LK).ok p2 → ((.int .i64) : LK).wf p2 → ((.int .i64) : LK).ok p3 → ((.int .i64) : LK).wf p3 → ∃ k, says k c_law28_ContentStarts ((q0 ++ (p1 :: (p2 :: (p3 :: []))))) = some [.bool true]
section
variable {ρ : List PV} {J : List JT} {r : List PV}
theorem u_law28_three : Run tr law28_three ρ J r ↔ Run tr law28_three_b ρ J r := Iff.rfl
theorem u_track_auto : Run tr track_auto ρ J r ↔ Run tr track_auto_b ρ J r := Iff.rfl
theorem u_track_fit : Run tr track_fit ρ J r ↔ Run tr track_fit_b ρ J r := Iff.rfl
theorem u_track_isLen : Run tr track_isLen ρ J r ↔ Run tr track_isLen_b ρ J r := Iff.rfl
theorem u_value_keyBit_j0 : Run tr value_keyBit_j0 ρ J r ↔ Run tr value_keyBit_j0_b ρ J r := Iff.rfl
theorem u_value_keyBit : Run tr value_keyBit ρ J r ↔ Run tr value_keyBit_b ρ J r := Iff.rfl
theorem u_value_Good_j0 : Run tr value_Good_j0 ρ J r ↔ Run tr value_Good_j0_b ρ J r := Iff.rfl
theorem u_value_Good_j1 : Run tr value_Good_j1 ρ J r ↔ Run tr value_Good_j1_b ρ J r := Iff.rfl
theorem u_value_Good : Run tr value_Good ρ J r ↔ Run tr value_Good_b ρ J r := Iff.rfl
theorem u_track_Right : Run tr track_Right ρ J r ↔ Run tr track_Right_b ρ J r := Iff.rfl
theorem u_fixed_Is : Run tr fixed_Is ρ J r ↔ Run tr fixed_Is_b ρ J r := Iff.rfl
theorem u_implicit_within : Run tr implicit_within ρ J r ↔ Run tr implicit_within_b ρ J r := Iff.rfl
theorem u_implicit_Good_j1 : Run tr implicit_Good_j1 ρ J r ↔ Run tr implicit_Good_j1_b ρ J r := Iff.rfl
theorem u_implicit_Good_l0 : Run tr implicit_Good_l0 ρ J r ↔ Run tr implicit_Good_l0_b ρ J r := Iff.rfl
theorem u_implicit_Good : Run tr implicit_Good ρ J r ↔ Run tr implicit_Good_b ρ J r := Iff.rfl
theorem u_tracks_within : Run tr tracks_within ρ J r ↔ Run tr tracks_within_b ρ J r := Iff.rfl
theorem u_tracks_Sum_l1 : Run tr tracks_Sum_l1 ρ J r ↔ Run tr tracks_Sum_l1_b ρ J r := Iff.rfl
theorem u_tracks_Sum_l0 : Run tr tracks_Sum_l0 ρ J r ↔ Run tr tracks_Sum_l0_b ρ J r := Iff.rfl
theorem u_tracks_Sum : Run tr tracks_Sum ρ J r ↔ Run tr tracks_Sum_b ρ J r := Iff.rfl
theorem u_fixed_Div_j0 : Run tr fixed_Div_j0 ρ J r ↔ Run tr fixed_Div_j0_b ρ J r := Iff.rfl
theorem u_fixed_Div : Run tr fixed_Div ρ J r ↔ Run tr fixed_Div_b ρ J r := Iff.rfl
theorem u_content_ratio_j0 : Run tr content_ratio_j0 ρ J r ↔ Run tr content_ratio_j0_b ρ J r := Iff.rfl
theorem u_content_ratio : Run tr content_ratio ρ J r ↔ Run tr content_ratio_b ρ J r := Iff.rfl
theorem u_fixed_size : Run tr fixed_size ρ J r ↔ Run tr fixed_size_b ρ J r := Iff.rfl
theorem u_math_bits_Mul64 : Run tr math_bits_Mul64 ρ J r ↔ Run tr math_bits_Mul64_b ρ J r := Iff.rfl
theorem u_math_bits_Len64_j2 : Run tr math_bits_Len64_j2 ρ J r ↔ Run tr math_bits_Len64_j2_b ρ J r := Iff.rfl
theorem u_math_bits_Len64_j1 : Run tr math_bits_Len64_j1 ρ J r ↔ Run tr math_bits_Len64_j1_b ρ J r := Iff.rfl
theorem u_math_bits_Len64_j0 : Run tr math_bits_Len64_j0 ρ J r ↔ Run tr math_bits_Len64_j0_b ρ J r := Iff.rfl
theorem u_math_bits_Len64 : Run tr math_bits_Len64 ρ J r ↔ Run tr math_bits_Len64_b ρ J r := Iff.rfl
theorem u_math_bits_LeadingZeros64 : Run tr math_bits_LeadingZeros64 ρ J r ↔ Run tr math_bits_LeadingZeros64_b ρ J r := Iff.rfl
theorem u_math_bits_Div64_j1 : Run tr math_bits_Div64_j1 ρ J r ↔ Run tr math_bits_Div64_j1_b ρ J r := Iff.rfl
theorem u_math_bits_Div64_l2 : Run tr math_bits_Div64_l2 ρ J r ↔ Run tr math_bits_Div64_l2_b ρ J r := Iff.rfl
theorem u_math_bits_Div64_j0 : Run tr math_bits_Div64_j0 ρ J r ↔ Run tr math_bits_Div64_j0_b ρ J r := Iff.rfl
theorem u_math_bits_Div64_l3 : Run tr math_bits_Div64_l3 ρ J r ↔ Run tr math_bits_Div64_l3_b ρ J r := Iff.rfl
theorem u_math_bits_Div64 : Run tr math_bits_Div64 ρ J r ↔ Run tr math_bits_Div64_b ρ J r := Iff.rfl
theorem u_fixed_MulDiv : Run tr fixed_MulDiv ρ J r ↔ Run tr fixed_MulDiv_b ρ J r := Iff.rfl
theorem u_content_Starts_j2 : Run tr content_Starts_j2 ρ J r ↔ Run tr content_Starts_j2_b ρ J r := Iff.rfl
theorem u_content_Starts_j5 : Run tr content_Starts_j5 ρ J r ↔ Run tr content_Starts_j5_b ρ J r := Iff.rfl
theorem u_content_Starts_j4 : Run tr content_Starts_j4 ρ J r ↔ Run tr content_Starts_j4_b ρ J r := Iff.rfl
theorem u_content_Starts_l3 : Run tr content_Starts_l3 ρ J r ↔ Run tr content_Starts_l3_b ρ J r := Iff.rfl
theorem u_content_Starts_l1 : Run tr content_Starts_l1 ρ J r ↔ Run tr content_Starts_l1_b ρ J r := Iff.rfl
theorem u_content_Starts_j0 : Run tr content_Starts_j0 ρ J r ↔ Run tr content_Starts_j0_b ρ J r := Iff.rfl
theorem u_content_Starts : Run tr content_Starts ρ J r ↔ Run tr content_Starts_b ρ J r := Iff.rfl
theorem u_ref01_Ints_l0 : Run tr ref01_Ints_l0 ρ J r ↔ Run tr ref01_Ints_l0_b ρ J r := Iff.rfl
theorem u_ref01_Ints : Run tr ref01_Ints ρ J r ↔ Run tr ref01_Ints_b ρ J r := Iff.rfl
theorem u_law28_lives : Run tr law28_lives ρ J r ↔ Run tr law28_lives_b ρ J r := Iff.rfl
theorem u_ref06_isLen : Run tr ref06_isLen ρ J r ↔ Run tr ref06_isLen_b ρ J r := Iff.rfl
theorem u_ref05_bits : Run tr ref05_bits ρ J r ↔ Run tr ref05_bits_b ρ J r := Iff.rfl
theorem u_ref05_Has : Run tr ref05_Has ρ J r ↔ Run tr ref05_Has_b ρ J r := Iff.rfl
theorem u_ref05_Good_j0 : Run tr ref05_Good_j0 ρ J r ↔ Run tr ref05_Good_j0_b ρ J r := Iff.rfl
theorem u_ref05_Good_j1 : Run tr ref05_Good_j1 ρ J r ↔ Run tr ref05_Good_j1_b ρ J r := Iff.rfl
theorem u_ref05_Good_j2 : Run tr ref05_Good_j2 ρ J r ↔ Run tr ref05_Good_j2_b ρ J r := Iff.rfl
theorem u_ref05_Good : Run tr ref05_Good ρ J r ↔ Run tr ref05_Good_b ρ J r := Iff.rfl
theorem u_ref06_Right : Run tr ref06_Right ρ J r ↔ Run tr ref06_Right_b ρ J r := Iff.rfl
theorem u_ref21_within : Run tr ref21_within ρ J r ↔ Run tr ref21_within_b ρ J r := Iff.rfl
theorem u_ref21_Good_j1 : Run tr ref21_Good_j1 ρ J r ↔ Run tr ref21_Good_j1_b ρ J r := Iff.rfl
theorem u_ref21_Good_l0 : Run tr ref21_Good_l0 ρ J r ↔ Run tr ref21_Good_l0_b ρ J r := Iff.rfl
theorem u_ref21_Good : Run tr ref21_Good ρ J r ↔ Run tr ref21_Good_b ρ J r := Iff.rfl
theorem u_ref27_Sum_l1 : Run tr ref27_Sum_l1 ρ J r ↔ Run tr ref27_Sum_l1_b ρ J r := Iff.rfl
theorem u_ref27_Sum_l0 : Run tr ref27_Sum_l0 ρ J r ↔ Run tr ref27_Sum_l0_b ρ J r := Iff.rfl
theorem u_ref27_Sum : Run tr ref27_Sum ρ J r ↔ Run tr ref27_Sum_b ρ J r := Iff.rfl
theorem u_ref01_Div_j0 : Run tr ref01_Div_j0 ρ J r ↔ Run tr ref01_Div_j0_b ρ J r := Iff.rfl
theorem u_ref01_Div : Run tr ref01_Div ρ J r ↔ Run tr ref01_Div_b ρ J r := Iff.rfl
theorem u_ref01_size : Run tr ref01_size ρ J r ↔ Run tr ref01_size_b ρ J r := Iff.rfl
theorem u_ref01_Wide_twice : Run tr ref01_Wide_twice ρ J r ↔ Run tr ref01_Wide_twice_b ρ J r := Iff.rfl
theorem u_ref01_Wide_plus : Run tr ref01_Wide_plus ρ J r ↔ Run tr ref01_Wide_plus_b ρ J r := Iff.rfl
theorem u_ref01_product_j1 : Run tr ref01_product_j1 ρ J r ↔ Run tr ref01_product_j1_b ρ J r := Iff.rfl
theorem u_ref01_product_l0 : Run tr ref01_product_l0 ρ J r ↔ Run tr ref01_product_l0_b ρ J r := Iff.rfl
theorem u_ref01_product : Run tr ref01_product ρ J r ↔ Run tr ref01_product_b ρ J r := Iff.rfl
theorem u_ref01_quotient_j3 : Run tr ref01_quotient_j3 ρ J r ↔ Run tr ref01_quotient_j3_b ρ J r := Iff.rfl
theorem u_ref01_quotient_l2 : Run tr ref01_quotient_l2 ρ J r ↔ Run tr ref01_quotient_l2_b ρ J r := Iff.rfl
theorem u_ref01_quotient_j1 : Run tr ref01_quotient_j1 ρ J r ↔ Run tr ref01_quotient_j1_b ρ J r := Iff.rfl
theorem u_ref01_quotient_l0 : Run tr ref01_quotient_l0 ρ J r ↔ Run tr ref01_quotient_l0_b ρ J r := Iff.rfl
theorem u_ref01_quotient : Run tr ref01_quotient ρ J r ↔ Run tr ref01_quotient_b ρ J r := Iff.rfl
theorem u_ref01_MulDiv_j0 : Run tr ref01_MulDiv_j0 ρ J r ↔ Run tr ref01_MulDiv_j0_b ρ J r := Iff.rfl
theorem u_ref01_MulDiv : Run tr ref01_MulDiv ρ J r ↔ Run tr ref01_MulDiv_b ρ J r := Iff.rfl
theorem u_ref28_added_j0 : Run tr ref28_added_j0 ρ J r ↔ Run tr ref28_added_j0_b ρ J r := Iff.rfl
theorem u_ref28_added : Run tr ref28_added ρ J r ↔ Run tr ref28_added_b ρ J r := Iff.rfl
theorem u_ref28_Starts_j1 : Run tr ref28_Starts_j1 ρ J r ↔ Run tr ref28_Starts_j1_b ρ J r := Iff.rfl
theorem u_ref28_Starts_j3 : Run tr ref28_Starts_j3 ρ J r ↔ Run tr ref28_Starts_j3_b ρ J r := Iff.rfl
theorem u_ref28_Starts_l2 : Run tr ref28_Starts_l2 ρ J r ↔ Run tr ref28_Starts_l2_b ρ J r := Iff.rfl
theorem u_ref28_Starts_l0 : Run tr ref28_Starts_l0 ρ J r ↔ Run tr ref28_Starts_l0_b ρ J r := Iff.rfl
theorem u_ref28_Starts : Run tr ref28_Starts ρ J r ↔ Run tr ref28_Starts_b ρ J r := Iff.rfl
theorem u_law28_ContentStarts : Run tr law28_ContentStarts ρ J r ↔ Run tr law28_ContentStarts_b ρ J r := Iff.rfl
end
end Go.Proofs.Ytbkohlhonhmhmaa.T
