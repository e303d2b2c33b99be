/- The trees of the laws and of what they call, written down; the laws' pure statements. No condition. -/
import Derived.Test.YtckjdlmfibjpaaaGreatSx6
set_option maxRecDepth 100000
set_option linter.unusedVariables false
namespace Go.Proofs.YtckjdlmfibjpaaaGreat.T
open Go Go.Proofs.YtckjdlmfibjpaaaGreat.Sx Go.Proofs.YtckjdlmfibjpaaaGreat.Sx.T Go.Proofs.YtckjdlmfibjpaaaGreat.Sx.Ex
abbrev v (i:Nat):Ex:= .var i
abbrev n (x:Int):Ex:= .int .i64 x
abbrev add (a b:Ex):Ex:= .bin (.ar .add .i64) a b
abbrev sub (a b:Ex):Ex:= .bin (.ar .sub .i64) a b
abbrev cmp (o:BinOp) (a b:Ex):Ex:= .bin (.cmp o) a b
abbrev U (a b:T):Prop:=∀ {tr:Nat→Option T} {ρ:List PV} {J:List JT} {r:List PV},Run tr a ρ J r↔Run tr b ρ J r
abbrev ck (c : Ex) (t : T) : T := .ite c t (.fail "")
abbrev at_ (j:Nat) (a b:Ex):Ex:= .bin (.cell j (.int .i64)) a b
/- parterre/parterrelaw27.light -/
abbrev c_law27_light:Nat:=8
@[reducible] def law27_light_b:T:= .ret [(.bin .and (.bin .and (.bin .and (cmp .leq (.un .len (v 1)) (n 60)) (cmp .leq (.un .len (v 2)) (n 100))) (cmp .leq (.un .len (v 3)) (n 100))) (cmp .leq (.un .len (v 4)) (n 60)))]
def law27_light:T:=law27_light_b
/- parterre/track.auto -/
abbrev c_track_auto:Nat:=146
@[reducible] def track_auto_b:T:= .ret [(n 1),(n 0)]
def track_auto:T:=track_auto_b
/- parterre/track.fit -/
abbrev c_track_fit:Nat:=87
@[reducible] def track_fit_b:T:= .call c_track_auto [] 2 <|
 .ret [(v 2),(v 3),(n 5),(n 0),(.bool true),(v 0),(v 1)]
def track_fit:T:=track_fit_b
/- parterre/track.isLen -/
abbrev c_track_isLen:Nat:=88
@[reducible] def track_isLen_b:T:= .ret [(.bin .or (cmp .eql (v 0) (n 2)) (cmp .eql (v 0) (n 3)))]
def track_isLen:T:=track_isLen_b
/- parterre/value.keyBit -/
abbrev c_value_keyBit:Nat:=148
@[reducible] def value_keyBit_j0_b:T:= .ite (v 1)
 (.ret [(n 8)])
 (.ite (cmp .eql (v 0) (n 7))
  (.ret [(n 32)])
  (.ret [(n 0)]))
def value_keyBit_j0:T:=value_keyBit_j0_b
@[reducible] def value_keyBit_b:T:= .ite (cmp .eql (v 0) (n 1))
 (.ret [(n 4)])
 (.letj value_keyBit_j0 <|
  .ite (cmp .eql (v 0) (n 4))
  (.jump 0 [(cmp .eql (v 0) (n 4))])
  (.jump 0 [(cmp .eql (v 0) (n 5))]))
def value_keyBit:T:=value_keyBit_b
/- parterre/value.Good -/
abbrev c_value_Good:Nat:=89
@[reducible] def value_Good_j0_b:T:= .ret [(v 3)]
def value_Good_j0:T:=value_Good_j0_b
@[reducible] def value_Good_j1_b:T:= .ret [(v 3)]
def value_Good_j1:T:=value_Good_j1_b
@[reducible] def value_Good_b:T:= .ite (cmp .eql (v 0) (n 2))
 (.letj value_Good_j0 <|
  .ite (cmp .lss (v 1) (n 0))
  (.jump 0 [(.bin .and (cmp .gtr (.bin (.ar .and .i64) (v 2) (n 2)) (n 0)) (cmp .geq (v 1) (n (-68719476736))))])
  (.jump 0 [(cmp .leq (v 1) (n 68719476736))]))
 (.ite (cmp .eql (v 0) (n 3))
  (.ite (cmp .gtr (.bin (.ar .and .i64) (v 2) (n 1)) (n 0))
   (.letj value_Good_j1 <|
    .ite (cmp .lss (v 1) (n 0))
    (.jump 0 [(.bin .and (cmp .gtr (.bin (.ar .and .i64) (v 2) (n 2)) (n 0)) (cmp .geq (v 1) (n (-1073741824))))])
    (.jump 0 [(cmp .leq (v 1) (n 1073741824))]))
   (.ret [(.bool false)]))
  (.ite (cmp .eql (v 0) (n 6))
   (.ret [(.bin .and (.bin .and (cmp .gtr (.bin (.ar .and .i64) (v 2) (n 16)) (n 0)) (cmp .geq (v 1) (n 0))) (cmp .leq (v 1) (n 1073741824)))])
   (.ite (cmp .eql (v 1) (n 0))
    (.call c_value_keyBit [(v 0)] 1 <|
     .ret [(cmp .gtr (.bin (.ar .and .i64) (v 2) (v 3)) (n 0))])
    (.ret [(.bool false)]))))
def value_Good:T:=value_Good_b
/- parterre/track.Right -/
abbrev c_track_Right:Nat:=35
@[reducible] def track_Right_b:T:= .ite (v 4)
 (.call c_track_fit [(v 5),(v 6)] 7 <|
  .ite (.bin .and (cmp .eql (v 0) (v 7)) (.bin .and (cmp .eql (v 1) (v 8)) (.bin .and (cmp .eql (v 2) (v 9)) (.bin .and (cmp .eql (v 3) (v 10)) (.bin .and (.bin .beq (v 4) (v 11)) (.bin .and (cmp .eql (v 5) (v 12)) (cmp .eql (v 6) (v 13))))))))
  (.call c_track_isLen [(v 5),(v 6)] 1 <|
   .ite (v 14)
   (.call c_value_Good [(v 5),(v 6),(n 1)] 1 <|
    .ret [(v 15)])
   (.ret [(.bool false)]))
  (.ret [(.bool false)]))
 (.ite (.bin .and (cmp .eql (v 5) (n 0)) (cmp .eql (v 6) (n 0)))
  (.call c_value_Good [(v 0),(v 1),(n 13)] 1 <|
   .ite (v 7)
   (.call c_value_Good [(v 2),(v 3),(n 29)] 1 <|
    .ret [(v 8)])
   (.ret [(.bool false)]))
  (.ret [(.bool false)]))
def track_Right:T:=track_Right_b
/- parterre/fixed.Is -/
abbrev c_fixed_Is:Nat:=34
@[reducible] def fixed_Is_b:T:= .ret [(.bin .and (cmp .geq (v 0) (n (-68719476736))) (cmp .leq (v 0) (n 68719476736)))]
def fixed_Is:T:=fixed_Is_b
/- parterre/implicit.within -/
abbrev c_implicit_within:Nat:=36
@[reducible] def implicit_within_b:T:= .ite (cmp .geq (v 0) (n 0))
 (.call c_fixed_Is [(v 0)] 1 <|
  .ret [(v 1)])
 (.ret [(.bool false)])
def implicit_within:T:=implicit_within_b
/- parterre/implicit.Good -/
abbrev c_implicit_Good:Nat:=16
@[reducible] def implicit_Good_j1_b:T:= .ite (v 5)
 (.ret [(.bool false)])
 (.jump 0 [(add (v 4) (n 1))])
def implicit_Good_j1:T:=implicit_Good_j1_b
@[reducible] def implicit_Good_l0_b:T:= .ite (cmp .lss (v 4) (.un .len (v 1)))
 (ck (cmp .leq (n 0) (v 4))
  (ck (.bin .or (cmp .eql (v 4) (n 0)) (cmp .lss (v 4) (.un .len (v 2))))
   (.letj implicit_Good_j1 <|
    .call c_track_Right [(at_ 0 (v 1) (v 4)),(at_ 1 (v 1) (v 4)),(at_ 2 (v 1) (v 4)),(at_ 3 (v 1) (v 4)),(.bin (.cell 4 (.bool)) (v 1) (v 4)),(at_ 5 (v 1) (v 4)),(at_ 6 (v 1) (v 4))] 1 <|
    ck (.bin .or (.un .not (v 5)) (cmp .lss (v 4) (.un .len (v 3))))
    (.ite (v 5)
     (.call c_implicit_within [(at_ 0 (v 3) (v 4))] 1 <|
      ck (.bin .or (.un .not (.bin .and (v 6) (.bin .or (cmp .eql (v 4) (n 0)) (.bin (.cell 0 (.bool)) (v 2) (v 4))))) (cmp .lss (v 4) (.un .len (v 3))))
      (.jump 1 [(.bin .or (.un .not (v 6)) (.bin .and (.bin .or (cmp .eql (v 4) (n 0)) (.bin (.cell 0 (.bool)) (v 2) (v 4))) (cmp .gtr (at_ 0 (v 3) (v 4)) (n 0))))]))
     (.jump 1 [(.bool true)])))))
 (.ret [(.bool true)])
def implicit_Good_l0:T:=implicit_Good_l0_b
@[reducible] def implicit_Good_b:T:= .ite (.bin .or (.bin .or (.bin .or (.bin .or (cmp .gtr (.un .len (v 1)) (n 40000)) (cmp .neq (.un .len (v 2)) (.un .len (v 1)))) (cmp .neq (.un .len (v 3)) (.un .len (v 1)))) (cmp .gtr (v 0) (n 0))) (cmp .lss (v 0) (n (-10000))))
 (.ret [(.bool false)])
 (.loop [(n 0)] implicit_Good_l0)
def implicit_Good:T:=implicit_Good_b
/- parterre/fixed.size -/
abbrev c_fixed_size:Nat:=121
@[reducible] def fixed_size_b:T:= .ite (cmp .lss (v 0) (n 0))
 (.ret [(.un (.neg .u64) (.un (.conv .u64) (v 0)))])
 (.ret [(.un (.conv .u64) (v 0))])
def fixed_size:T:=fixed_size_b
/- math/bits.Mul64 -/
abbrev c_math_bits_Mul64:Nat:=120
@[reducible] def math_bits_Mul64_b:T:= .ret [(.bin (.ar .add .u64) (.bin (.ar .add .u64) (.bin (.ar .mul .u64) (.bin (.ar .shr .u64) (v 0) (.int .u64 32)) (.bin (.ar .shr .u64) (v 1) (.int .u64 32))) (.bin (.ar .shr .u64) (.bin (.ar .add .u64) (.bin (.ar .mul .u64) (.bin (.ar .shr .u64) (v 0) (.int .u64 32)) (.bin (.ar .and .u64) (v 1) (.int .u64 4294967295))) (.bin (.ar .shr .u64) (.bin (.ar .mul .u64) (.bin (.ar .and .u64) (v 0) (.int .u64 4294967295)) (.bin (.ar .and .u64) (v 1) (.int .u64 4294967295))) (.int .u64 32))) (.int .u64 32))) (.bin (.ar .shr .u64) (.bin (.ar .add .u64) (.bin (.ar .and .u64) (.bin (.ar .add .u64) (.bin (.ar .mul .u64) (.bin (.ar .shr .u64) (v 0) (.int .u64 32)) (.bin (.ar .and .u64) (v 1) (.int .u64 4294967295))) (.bin (.ar .shr .u64) (.bin (.ar .mul .u64) (.bin (.ar .and .u64) (v 0) (.int .u64 4294967295)) (.bin (.ar .and .u64) (v 1) (.int .u64 4294967295))) (.int .u64 32))) (.int .u64 4294967295)) (.bin (.ar .mul .u64) (.bin (.ar .and .u64) (v 0) (.int .u64 4294967295)) (.bin (.ar .shr .u64) (v 1) (.int .u64 32)))) (.int .u64 32))),(.bin (.ar .mul .u64) (v 0) (v 1))]
def math_bits_Mul64:T:=math_bits_Mul64_b
/- math/bits.Len64 -/
abbrev c_math_bits_Len64:Nat:=171
@[reducible] def math_bits_Len64_j2_b:T:=ck (cmp .leq (n 0) (.un (.conv .u8) (v 6)))
 (ck (cmp .lss (.un (.conv .u8) (v 6)) (n 256))
  (.ret [(add (v 5) (.un (.conv .i64) (.bin .byte (.str ⟨#[0,1,2,2,3,3,3,3,4,4,4,4,4,4,4,4,5,5,5,5,5,5,5,5,5,5,5,5,5,5,5,5,6,6,6,6,6,6,6,6,6,6,6,6,6,6,6,6,6,6,6,6,6,6,6,6,6,6,6,6,6,6,6,6,7,7,7,7,7,7,7,7,7,7,7,7,7,7,7,7,7,7,7,7,7,7,7,7,7,7,7,7,7,7,7,7,7,7,7,7,7,7,7,7,7,7,7,7,7,7,7,7,7,7,7,7,7,7,7,7,7,7,7,7,7,7,7,7,8,8,8,8,8,8,8,8,8,8,8,8,8,8,8,8,8,8,8,8,8,8,8,8,8,8,8,8,8,8,8,8,8,8,8,8,8,8,8,8,8,8,8,8,8,8,8,8,8,8,8,8,8,8,8,8,8,8,8,8,8,8,8,8,8,8,8,8,8,8,8,8,8,8,8,8,8,8,8,8,8,8,8,8,8,8,8,8,8,8,8,8,8,8,8,8,8,8,8,8,8,8,8,8,8,8,8,8,8,8,8,8,8,8,8,8,8,8,8,8,8,8,8,8,8,8,8,8]⟩) (.un (.conv .u8) (v 6)))))]))
def math_bits_Len64_j2:T:=math_bits_Len64_j2_b
@[reducible] def math_bits_Len64_j1_b:T:= .letj math_bits_Len64_j2 <|
 .ite (cmp .geq (v 4) (.int .u64 256))
 (.jump 0 [(add (v 3) (n 8)),(.bin (.ar .shr .u64) (v 4) (.int .u64 8))])
 (.jump 0 [(v 3),(v 4)])
def math_bits_Len64_j1:T:=math_bits_Len64_j1_b
@[reducible] def math_bits_Len64_j0_b:T:= .letj math_bits_Len64_j1 <|
 .ite (cmp .geq (v 2) (.int .u64 65536))
 (.jump 0 [(add (v 1) (n 16)),(.bin (.ar .shr .u64) (v 2) (.int .u64 16))])
 (.jump 0 [(v 1),(v 2)])
def math_bits_Len64_j0:T:=math_bits_Len64_j0_b
@[reducible] def math_bits_Len64_b:T:= .letj math_bits_Len64_j0 <|
 .ite (cmp .geq (v 0) (.int .u64 4294967296))
 (.jump 0 [(n 32),(.bin (.ar .shr .u64) (v 0) (.int .u64 32))])
 (.jump 0 [(n 0),(v 0)])
def math_bits_Len64:T:=math_bits_Len64_b
/- math/bits.LeadingZeros64 -/
abbrev c_math_bits_LeadingZeros64:Nat:=180
@[reducible] def math_bits_LeadingZeros64_b:T:= .call c_math_bits_Len64 [(v 0)] 1 <|
 .ret [(sub (n 64) (v 1))]
def math_bits_LeadingZeros64:T:=math_bits_LeadingZeros64_b
/- math/bits.Div64 -/
abbrev c_math_bits_Div64:Nat:=122
@[reducible] def math_bits_Div64_j1_b:T:= .ret [(.bin (.ar .add .u64) (.bin (.ar .mul .u64) (v 4) (.int .u64 4294967296)) (v 5)),(.bin (.ar .shr .u64) (.bin (.ar .sub .u64) (.bin (.ar .add .u64) (.bin (.ar .mul .u64) (.bin (.ar .sub .u64) (.bin (.ar .add .u64) (.bin (.ar .mul .u64) (.bin (.ar .or .u64) (.bin (.ar .shl .u64) (v 0) (.un (.conv .u64) (v 3))) (.bin (.ar .shr .u64) (v 1) (.bin (.ar .sub .u64) (.int .u64 64) (.un (.conv .u64) (v 3))))) (.int .u64 4294967296)) (.bin (.ar .shr .u64) (.bin (.ar .shl .u64) (v 1) (.un (.conv .u64) (v 3))) (.int .u64 32))) (.bin (.ar .mul .u64) (v 4) (.bin (.ar .shl .u64) (v 2) (.un (.conv .u64) (v 3))))) (.int .u64 4294967296)) (.bin (.ar .and .u64) (.bin (.ar .shl .u64) (v 1) (.un (.conv .u64) (v 3))) (.int .u64 4294967295))) (.bin (.ar .mul .u64) (v 5) (.bin (.ar .shl .u64) (v 2) (.un (.conv .u64) (v 3))))) (.un (.conv .u64) (v 3)))]
def math_bits_Div64_j1:T:=math_bits_Div64_j1_b
@[reducible] def math_bits_Div64_l2_b:T:= .ite (.bin .or (cmp .geq (v 6) (.int .u64 4294967296)) (cmp .gtr (.bin (.ar .mul .u64) (v 6) (.bin (.ar .and .u64) (.bin (.ar .shl .u64) (v 2) (.un (.conv .u64) (v 3))) (.int .u64 4294967295))) (.bin (.ar .add .u64) (.bin (.ar .mul .u64) (.int .u64 4294967296) (v 5)) (.bin (.ar .and .u64) (.bin (.ar .shl .u64) (v 1) (.un (.conv .u64) (v 3))) (.int .u64 4294967295)))))
 (.ite (cmp .geq (.bin (.ar .add .u64) (v 5) (.bin (.ar .shr .u64) (.bin (.ar .shl .u64) (v 2) (.un (.conv .u64) (v 3))) (.int .u64 32))) (.int .u64 4294967296))
  (.jump 0 [(.bin (.ar .sub .u64) (v 6) (.int .u64 1))])
  (.jump 1 [(.bin (.ar .add .u64) (v 5) (.bin (.ar .shr .u64) (.bin (.ar .shl .u64) (v 2) (.un (.conv .u64) (v 3))) (.int .u64 32))),(.bin (.ar .sub .u64) (v 6) (.int .u64 1))]))
 (.jump 0 [(v 6)])
def math_bits_Div64_l2:T:=math_bits_Div64_l2_b
@[reducible] def math_bits_Div64_j0_b:T:= .letj math_bits_Div64_j1 <|
 .loop [(.bin (.ar .sub .u64) (.bin (.ar .sub .u64) (.bin (.ar .add .u64) (.bin (.ar .mul .u64) (.bin (.ar .or .u64) (.bin (.ar .shl .u64) (v 0) (.un (.conv .u64) (v 3))) (.bin (.ar .shr .u64) (v 1) (.bin (.ar .sub .u64) (.int .u64 64) (.un (.conv .u64) (v 3))))) (.int .u64 4294967296)) (.bin (.ar .shr .u64) (.bin (.ar .shl .u64) (v 1) (.un (.conv .u64) (v 3))) (.int .u64 32))) (.bin (.ar .mul .u64) (v 4) (.bin (.ar .shl .u64) (v 2) (.un (.conv .u64) (v 3))))) (.bin (.ar .mul .u64) (.bin (.ar .quo .u64) (.bin (.ar .sub .u64) (.bin (.ar .add .u64) (.bin (.ar .mul .u64) (.bin (.ar .or .u64) (.bin (.ar .shl .u64) (v 0) (.un (.conv .u64) (v 3))) (.bin (.ar .shr .u64) (v 1) (.bin (.ar .sub .u64) (.int .u64 64) (.un (.conv .u64) (v 3))))) (.int .u64 4294967296)) (.bin (.ar .shr .u64) (.bin (.ar .shl .u64) (v 1) (.un (.conv .u64) (v 3))) (.int .u64 32))) (.bin (.ar .mul .u64) (v 4) (.bin (.ar .shl .u64) (v 2) (.un (.conv .u64) (v 3))))) (.bin (.ar .shr .u64) (.bin (.ar .shl .u64) (v 2) (.un (.conv .u64) (v 3))) (.int .u64 32))) (.bin (.ar .shr .u64) (.bin (.ar .shl .u64) (v 2) (.un (.conv .u64) (v 3))) (.int .u64 32)))),(.bin (.ar .quo .u64) (.bin (.ar .sub .u64) (.bin (.ar .add .u64) (.bin (.ar .mul .u64) (.bin (.ar .or .u64) (.bin (.ar .shl .u64) (v 0) (.un (.conv .u64) (v 3))) (.bin (.ar .shr .u64) (v 1) (.bin (.ar .sub .u64) (.int .u64 64) (.un (.conv .u64) (v 3))))) (.int .u64 4294967296)) (.bin (.ar .shr .u64) (.bin (.ar .shl .u64) (v 1) (.un (.conv .u64) (v 3))) (.int .u64 32))) (.bin (.ar .mul .u64) (v 4) (.bin (.ar .shl .u64) (v 2) (.un (.conv .u64) (v 3))))) (.bin (.ar .shr .u64) (.bin (.ar .shl .u64) (v 2) (.un (.conv .u64) (v 3))) (.int .u64 32)))] math_bits_Div64_l2
def math_bits_Div64_j0:T:=math_bits_Div64_j0_b
@[reducible] def math_bits_Div64_l3_b:T:= .ite (.bin .or (cmp .geq (v 5) (.int .u64 4294967296)) (cmp .gtr (.bin (.ar .mul .u64) (v 5) (.bin (.ar .and .u64) (.bin (.ar .shl .u64) (v 2) (.un (.conv .u64) (v 3))) (.int .u64 4294967295))) (.bin (.ar .add .u64) (.bin (.ar .mul .u64) (.int .u64 4294967296) (v 4)) (.bin (.ar .shr .u64) (.bin (.ar .shl .u64) (v 1) (.un (.conv .u64) (v 3))) (.int .u64 32)))))
 (.ite (cmp .geq (.bin (.ar .add .u64) (v 4) (.bin (.ar .shr .u64) (.bin (.ar .shl .u64) (v 2) (.un (.conv .u64) (v 3))) (.int .u64 32))) (.int .u64 4294967296))
  (.jump 0 [(.bin (.ar .sub .u64) (v 5) (.int .u64 1))])
  (.jump 1 [(.bin (.ar .add .u64) (v 4) (.bin (.ar .shr .u64) (.bin (.ar .shl .u64) (v 2) (.un (.conv .u64) (v 3))) (.int .u64 32))),(.bin (.ar .sub .u64) (v 5) (.int .u64 1))]))
 (.jump 0 [(v 5)])
def math_bits_Div64_l3:T:=math_bits_Div64_l3_b
@[reducible] def math_bits_Div64_b:T:= .ite (cmp .eql (v 2) (.int .u64 0))
 (.fail "")
 (.ite (cmp .leq (v 2) (v 0))
  (.fail "")
  (.ite (cmp .eql (v 0) (.int .u64 0))
   (ck (cmp .neq (v 2) (.int .u64 0))
    (.ret [(.bin (.ar .quo .u64) (v 1) (v 2)),(.bin (.ar .rem .u64) (v 1) (v 2))]))
   (.call c_math_bits_LeadingZeros64 [(v 2)] 1 <|
    ck (cmp .leq (.int .u64 0) (.un (.conv .u64) (v 3)))
    (ck (cmp .leq (.int .u64 0) (.bin (.ar .sub .u64) (.int .u64 64) (.un (.conv .u64) (v 3))))
     (ck (cmp .neq (.bin (.ar .shr .u64) (.bin (.ar .shl .u64) (v 2) (.un (.conv .u64) (v 3))) (.int .u64 32)) (.int .u64 0))
      (.letj math_bits_Div64_j0 <|
       .loop [(.bin (.ar .sub .u64) (.bin (.ar .or .u64) (.bin (.ar .shl .u64) (v 0) (.un (.conv .u64) (v 3))) (.bin (.ar .shr .u64) (v 1) (.bin (.ar .sub .u64) (.int .u64 64) (.un (.conv .u64) (v 3))))) (.bin (.ar .mul .u64) (.bin (.ar .quo .u64) (.bin (.ar .or .u64) (.bin (.ar .shl .u64) (v 0) (.un (.conv .u64) (v 3))) (.bin (.ar .shr .u64) (v 1) (.bin (.ar .sub .u64) (.int .u64 64) (.un (.conv .u64) (v 3))))) (.bin (.ar .shr .u64) (.bin (.ar .shl .u64) (v 2) (.un (.conv .u64) (v 3))) (.int .u64 32))) (.bin (.ar .shr .u64) (.bin (.ar .shl .u64) (v 2) (.un (.conv .u64) (v 3))) (.int .u64 32)))),(.bin (.ar .quo .u64) (.bin (.ar .or .u64) (.bin (.ar .shl .u64) (v 0) (.un (.conv .u64) (v 3))) (.bin (.ar .shr .u64) (v 1) (.bin (.ar .sub .u64) (.int .u64 64) (.un (.conv .u64) (v 3))))) (.bin (.ar .shr .u64) (.bin (.ar .shl .u64) (v 2) (.un (.conv .u64) (v 3))) (.int .u64 32)))] math_bits_Div64_l3))))))
def math_bits_Div64:T:=math_bits_Div64_b
/- parterre/fixed.MulDiv -/
abbrev c_fixed_MulDiv:Nat:=64
@[reducible] def fixed_MulDiv_b:T:= .ite (cmp .eql (v 2) (n 0))
 (.ret [(n 0),(n 2)])
 (.call c_fixed_size [(v 0)] 1 <|
  .call c_fixed_size [(v 1)] 1 <|
  .call c_math_bits_Mul64 [(v 3),(v 4)] 2 <|
  .call c_fixed_size [(v 2)] 1 <|
  .ite (cmp .geq (v 5) (v 7))
  (.ret [(n 0),(n 10)])
  (.call c_math_bits_Div64 [(v 5),(v 6),(v 7)] 2 <|
   .ite (.bin .and (.un .not (.bin .beq (.un .not (.bin .beq (cmp .lss (v 0) (n 0)) (cmp .lss (v 1) (n 0)))) (cmp .lss (v 2) (n 0)))) (cmp .gtr (v 9) (.int .u64 0)))
   (.ite (cmp .geq (v 8) (.int .u64 9223372036854775808))
    (.ret [(n 0),(n 10)])
    (.ret [(.un (.conv .i64) (.un (.neg .u64) (.bin (.ar .add .u64) (v 8) (.int .u64 1)))),(n 0)]))
   (.ite (.bin .and (.un .not (.bin .beq (.un .not (.bin .beq (cmp .lss (v 0) (n 0)) (cmp .lss (v 1) (n 0)))) (cmp .lss (v 2) (n 0)))) (cmp .leq (v 8) (.int .u64 9223372036854775808)))
    (.ret [(.un (.conv .i64) (.un (.neg .u64) (v 8))),(n 0)])
    (.ite (cmp .geq (v 8) (.int .u64 9223372036854775808))
     (.ret [(n 0),(n 10)])
     (.ret [(.un (.conv .i64) (v 8)),(n 0)])))))
def fixed_MulDiv:T:=fixed_MulDiv_b
/- parterre/fixed.Percent -/
abbrev c_fixed_Percent:Nat:=149
@[reducible] def fixed_Percent_j0_b:T:= .ite (v 5)
 (.ret [(n 0),(n 10)])
 (.ret [(v 3),(n 0)])
def fixed_Percent_j0:T:=fixed_Percent_j0_b
@[reducible] def fixed_Percent_b:T:= .call c_fixed_Is [(v 1)] 1 <|
 .ite (.bin .or (.bin .or (.un .not (v 2)) (cmp .lss (v 0) (n (-1073741824)))) (cmp .gtr (v 0) (n 1073741824)))
 (.ret [(n 0),(n 2)])
 (.call c_fixed_MulDiv [(v 1),(v 0),(n 100000)] 2 <|
  .letj fixed_Percent_j0 <|
  .ite (cmp .neq (v 4) (n 0))
  (.jump 0 [(.bool true)])
  (.call c_fixed_Is [(v 3)] 1 <|
   .jump 0 [(.un .not (v 5))]))
def fixed_Percent:T:=fixed_Percent_b
/- parterre/value.Resolve -/
abbrev c_value_Resolve:Nat:=90
@[reducible] def value_Resolve_b:T:= .ite (.bin .and (cmp .eql (v 0) (n 2)) (cmp .eql (v 1) (v 1)))
 (.ret [(v 1),(.bool true),(n 0)])
 (.ite (.bin .and (cmp .eql (v 0) (n 3)) (v 3))
  (.call c_fixed_Percent [(v 1),(v 2)] 2 <|
   .ret [(v 4),(cmp .eql (v 5) (n 0)),(v 5)])
  (.ret [(n 0),(.bool false),(n 0)]))
def value_Resolve:T:=value_Resolve_b
/- parterre/base.kind -/
abbrev c_base_kind:Nat:=91
@[reducible] def base_kind_j0_b:T:= .ret [(n 1)]
def base_kind_j0:T:=base_kind_j0_b
@[reducible] def base_kind_b:T:= .letj base_kind_j0 <|
 .ite (cmp .eql (v 0) (n 4))
 (.ret [(n 3)])
 (.ite (cmp .eql (v 0) (n 5))
  (.ret [(n 4)])
  (.ite (cmp .eql (v 0) (n 6))
   (.ret [(n 5)])
   (.ite (cmp .eql (v 0) (n 3))
    (.ite (v 2)
     (.jump 0 [])
     (.ret [(n 2)]))
    (.ite (cmp .eql (v 0) (n 2))
     (.jump 0 [])
     (.ret [(n 2)])))))
def base_kind:T:=base_kind_b
/- parterre/base.Raise -/
abbrev c_base_Raise:Nat:=61
@[reducible] def base_Raise_j0_b:T:= .ret [(v 0),(v 1),(v 2),(v 3),(v 4),(v 5),(v 7)]
def base_Raise_j0:T:=base_Raise_j0_b
@[reducible] def base_Raise_b:T:= .letj base_Raise_j0 <|
 .ite (cmp .lss (v 6) (v 5))
 (.jump 0 [(v 5)])
 (.jump 0 [(v 6)])
def base_Raise:T:=base_Raise_b
/- parterre/base.Start -/
abbrev c_base_Start:Nat:=37
@[reducible] def base_Start_j3_b:T:= .call c_base_Raise [(v 19),(v 20),(v 22),(v 23),(v 24),(v 10),(v 21)] 7 <|
 .ret [(v 25),(v 26),(v 27),(v 28),(v 29),(v 30),(v 31),(n 0)]
def base_Start_j3:T:=base_Start_j3_b
@[reducible] def base_Start_j2_b:T:= .letj base_Start_j3 <|
 .ite (.bin .and (v 4) (v 17))
 (.jump 0 [(.bool true),(v 16)])
 (.jump 0 [(.bool false),(n 0)])
def base_Start_j2:T:=base_Start_j2_b
@[reducible] def base_Start_j1_b:T:= .letj base_Start_j2 <|
 .ite (cmp .eql (v 20) (n 5))
 (.jump 0 [(v 3)])
 (.jump 0 [(n 0)])
def base_Start_j1:T:=base_Start_j1_b
@[reducible] def base_Start_j0_b:T:= .ite (v 9)
 (.ret [(n 0),(n 0),(n 0),(.bool false),(n 0),(n 0),(n 0),(n 2)])
 (.call c_value_Resolve [(v 0),(v 1),(v 7),(v 8)] 3 <|
  .ite (cmp .neq (v 12) (n 0))
  (.ret [(n 0),(n 0),(n 0),(.bool false),(n 0),(n 0),(n 0),(v 12)])
  (.call c_value_Resolve [(v 2),(v 3),(v 7),(v 8)] 3 <|
   .ite (cmp .neq (v 15) (n 0))
   (.ret [(n 0),(n 0),(n 0),(.bool false),(n 0),(n 0),(n 0),(v 15)])
   (.call c_value_Resolve [(v 5),(v 6),(v 7),(v 8)] 3 <|
    .ite (cmp .neq (v 18) (n 0))
    (.ret [(n 0),(n 0),(n 0),(.bool false),(n 0),(n 0),(n 0),(v 18)])
    (.call c_base_kind [(v 0),(v 1),(v 8)] 1 <|
     .call c_base_kind [(v 2),(v 3),(v 8)] 1 <|
     .letj base_Start_j1 <|
     .ite (v 14)
     (.jump 0 [(v 13)])
     (.jump 0 [(n 1125899906842624)])))))
def base_Start_j0:T:=base_Start_j0_b
@[reducible] def base_Start_b:T:= .letj base_Start_j0 <|
 .call c_track_Right [(v 0),(v 1),(v 2),(v 3),(v 4),(v 5),(v 6)] 1 <|
 .ite (.bin .and (.bin .and (v 9) (v 8)) (.un .not (cmp .lss (v 7) (n 0))))
 (.call c_fixed_Is [(v 7)] 1 <|
  .jump 0 [(.un .not (v 10))])
 (.jump 0 [(.bin .or (.un .not (v 9)) (.bin .and (v 8) (.bool true)))])
def base_Start:T:=base_Start_b
/- parterre/base.All -/
abbrev c_base_All:Nat:=18
@[reducible] def base_All_j1_b:T:= .call c_base_Start [(v 9),(v 10),(v 11),(v 12),(v 13),(v 14),(v 15),(v 4),(v 5)] 8 <|
 .ite (cmp .neq (v 23) (n 0))
 (.ret [.nil,(v 23)])
 (ck (cmp .lss (v 7) (.un .len (v 8)))
  (.jump 0 [(add (v 7) (n 1)),(.tri .set (v 8) (v 7) (.bin .cons (v 16) (.bin .cons (v 17) (.bin .cons (v 18) (.bin .cons (v 19) (.bin .cons (v 20) (.bin .cons (v 21) (.bin .cons (v 22) .nilc))))))))]))
def base_All_j1:T:=base_All_j1_b
@[reducible] def base_All_l0_b:T:= .ite (cmp .lss (v 7) (.un .len (v 1)))
 (ck (cmp .leq (n 0) (v 7))
  (.letj base_All_j1 <|
   ck (cmp .lss (v 7) (.un .len (v 2)))
   (.ite (.bin (.cell 0 (.bool)) (v 2) (v 7))
    (.jump 1 [(n 2),(n 0),(n 2),(n 0),(.bool false),(n 0),(n 0)])
    (.jump 1 [(at_ 0 (v 1) (v 7)),(at_ 1 (v 1) (v 7)),(at_ 2 (v 1) (v 7)),(at_ 3 (v 1) (v 7)),(.bin (.cell 4 (.bool)) (v 1) (v 7)),(at_ 5 (v 1) (v 7)),(at_ 6 (v 1) (v 7))]))))
 (.ret [(v 8),(n 0)])
def base_All_l0:T:=base_All_l0_b
@[reducible] def base_All_b:T:= .call c_implicit_Good [(v 0),(v 1),(v 2),(v 3)] 1 <|
 .ite (v 6)
 (ck (cmp .leq (.un .len (v 1)) (n 2513169434916))
  (.loop [(n 0),(.bin .make (.bin .cons (n 0) (.bin .cons (n 0) (.bin .cons (n 0) (.bin .cons (.bool false) (.bin .cons (n 0) (.bin .cons (n 0) (.bin .cons (n 0) .nilc))))))) (.un .len (v 1)))] base_All_l0))
 (.ret [.nil,(n 2)])
def base_All:T:=base_All_b
/- parterre/intrinsic.within -/
abbrev c_intrinsic_within:Nat:=95
@[reducible] def intrinsic_within_b:T:= .ite (cmp .geq (v 0) (n 0))
 (.call c_fixed_Is [(v 0)] 1 <|
  .ret [(v 1)])
 (.ret [(.bool false)])
def intrinsic_within:T:=intrinsic_within_b
/- parterre/intrinsic.Good$2 -/
abbrev c_intrinsic_Good_2:Nat:=94
@[reducible] def intrinsic_Good_2_b:T:= .call c_intrinsic_within [(v 0)] 1 <|
 .ret [(.un .not (v 1))]
def intrinsic_Good_2:T:=intrinsic_Good_2_b
/- parterre/base.Good$1 -/
abbrev c_base_Good_1:Nat:=150
@[reducible] def base_Good_1_b:T:= .ret [(.bin .and (cmp .geq (v 0) (v 1)) (cmp .leq (v 0) (v 2)))]
def base_Good_1:T:=base_Good_1_b
/- parterre/base.Good -/
abbrev c_base_Good:Nat:=93
@[reducible] def base_Good_j0_b:T:= .ite (v 7)
 (.ret [(.bool false)])
 (.call c_base_Good_1 [(v 2),(n 0),(n 1073741824)] 1 <|
  .ite (.bin .or (.un .not (v 8)) (.bin .and (cmp .neq (v 1) (n 5)) (cmp .gtr (v 2) (n 0))))
  (.ret [(.bool false)])
  (.call c_base_Good_1 [(v 4),(n 0),(n 68719476736)] 1 <|
   .ite (.bin .or (.un .not (v 9)) (.bin .and (.un .not (v 3)) (cmp .gtr (v 4) (n 0))))
   (.ret [(.bool false)])
   (.ite (.bin .and (v 3) (.un .not (.bin .and (cmp .eql (v 0) (n 2)) (.bin .and (cmp .eql (v 1) (n 4)) (.bin .and (cmp .eql (v 2) (n 0)) (.bin .and (.bin .beq (v 3) (.bool true)) (.bin .and (cmp .eql (v 4) (v 4)) (.bin .and (cmp .eql (v 5) (v 5)) (cmp .eql (v 6) (v 6))))))))))
    (.ret [(.bool false)])
    (.call c_base_Good_1 [(v 5),(n 0),(n 1125899906842623)] 1 <|
     .ite (v 10)
     (.call c_base_Good_1 [(v 6),(v 5),(n 1125899906842624)] 1 <|
      .ret [(v 11)])
     (.ret [(.bool false)])))))
def base_Good_j0:T:=base_Good_j0_b
@[reducible] def base_Good_b:T:= .letj base_Good_j0 <|
 .call c_base_Good_1 [(v 0),(n 1),(n 4)] 1 <|
 .ite (v 7)
 (.call c_base_Good_1 [(v 1),(n 1),(n 5)] 1 <|
  .jump 0 [(.un .not (v 8))])
 (.jump 0 [(.bool true)])
def base_Good:T:=base_Good_b
/- parterre/intrinsic.Good$1 -/
abbrev c_intrinsic_Good_1:Nat:=92
@[reducible] def intrinsic_Good_1_b:T:= .call c_base_Good [(v 0),(v 1),(v 2),(v 3),(v 4),(v 5),(v 6)] 1 <|
 .ret [(.un .not (v 7))]
def intrinsic_Good_1:T:=intrinsic_Good_1_b
/- parterre/intrinsic.Good -/
abbrev c_intrinsic_Good:Nat:=38
@[reducible] def intrinsic_Good_j2_b:T:= .ite (v 6)
 (.ret [(.bool false)])
 (.jump 0 [(add (v 5) (n 1))])
def intrinsic_Good_j2:T:=intrinsic_Good_j2_b
@[reducible] def intrinsic_Good_l1_b:T:= .ite (cmp .lss (v 5) (.un .len (v 2)))
 (ck (cmp .leq (n 0) (v 5))
  (.letj intrinsic_Good_j2 <|
   .ite (.bin .or (.bin .or (cmp .lss (at_ 0 (v 2) (v 5)) (n 0)) (cmp .geq (at_ 0 (v 2) (v 5)) (at_ 1 (v 2) (v 5)))) (cmp .gtr (at_ 1 (v 2) (v 5)) (.un .len (v 0))))
   (.jump 1 [(.bool true)])
   (.call c_intrinsic_within [(at_ 2 (v 2) (v 5))] 1 <|
    .ite (v 6)
    (.call c_intrinsic_within [(at_ 3 (v 2) (v 5))] 1 <|
     .ite (v 7)
     (.call c_intrinsic_within [(at_ 4 (v 2) (v 5))] 1 <|
      .jump 1 [(.un .not (v 8))])
     (.jump 1 [(.bool true)]))
    (.jump 1 [(.bool true)]))))
 (.ret [(.bool true)])
def intrinsic_Good_l1:T:=intrinsic_Good_l1_b
@[reducible] def intrinsic_Good_j0_b:T:= .ite (v 4)
 (.ret [(.bool false)])
 (.loop [(n 0)] intrinsic_Good_l1)
def intrinsic_Good_j0:T:=intrinsic_Good_j0_b
@[reducible] def intrinsic_Good_j4_b:T:= .jump 0 [(cmp .geq (v 5) (n 0))]
def intrinsic_Good_j4:T:=intrinsic_Good_j4_b
@[reducible] def intrinsic_Good_l5_b:T:= .ite (cmp .lss (v 5) (.un .len (v 1)))
 (ck (cmp .leq (n 0) (v 5))
  (.call c_intrinsic_Good_2 [(at_ 0 (v 1) (v 5))] 1 <|
   .ite (v 6)
   (.jump 1 [(v 5)])
   (.jump 2 [(add (v 5) (n 1))])))
 (.jump 1 [(n (-1))])
def intrinsic_Good_l5:T:=intrinsic_Good_l5_b
@[reducible] def intrinsic_Good_j3_b:T:= .ite (cmp .geq (v 4) (n 0))
 (.jump 0 [(.bool true)])
 (.letj intrinsic_Good_j4 <|
  .loop [(n 0)] intrinsic_Good_l5)
def intrinsic_Good_j3:T:=intrinsic_Good_j3_b
@[reducible] def intrinsic_Good_l6_b:T:= .ite (cmp .lss (v 4) (.un .len (v 0)))
 (ck (cmp .leq (n 0) (v 4))
  (.call c_intrinsic_Good_1 [(at_ 0 (v 0) (v 4)),(at_ 1 (v 0) (v 4)),(at_ 2 (v 0) (v 4)),(.bin (.cell 3 (.bool)) (v 0) (v 4)),(at_ 4 (v 0) (v 4)),(at_ 5 (v 0) (v 4)),(at_ 6 (v 0) (v 4))] 1 <|
   .ite (v 5)
   (.jump 1 [(v 4)])
   (.jump 2 [(add (v 4) (n 1))])))
 (.jump 1 [(n (-1))])
def intrinsic_Good_l6:T:=intrinsic_Good_l6_b
@[reducible] def intrinsic_Good_b:T:= .letj intrinsic_Good_j0 <|
 .ite (.bin .or (.bin .or (.bin .or (cmp .neq (.un .len (v 1)) (.un .len (v 0))) (cmp .gtr (.un .len (v 2)) (n 4096))) (cmp .lss (v 3) (n 0))) (cmp .gtr (v 3) (n 2)))
 (.jump 0 [(.bool true)])
 (.letj intrinsic_Good_j3 <|
  .loop [(n 0)] intrinsic_Good_l6)
def intrinsic_Good:T:=intrinsic_Good_b
/- slices.Clone[[]parterre/api.Sizing,parterre/api.Sizing] -/
abbrev c_slices_Clone___api_Sizing_api_Sizing_:Nat:=39
@[reducible] def slices_Clone___api_Sizing_api_Sizing__b:T:= .any <|
 .ite (.bin .and (cmp .eql (.un .len (v 0)) (n 0)) (v 1))
 (.ret [.nil])
 (ck (cmp .leq (.bin .plus (n 0) (.un .len (v 0))) (n 4294967296))
  (.ret [(.bin .cat .nil (v 0))]))
def slices_Clone___api_Sizing_api_Sizing_:T:=slices_Clone___api_Sizing_api_Sizing__b
/- parterre/intrinsic.loose -/
abbrev c_intrinsic_loose:Nat:=102
@[reducible] def intrinsic_loose_b:T:= .ret [(cmp .neq (v 1) (n 1))]
def intrinsic_loose:T:=intrinsic_loose_b
/- parterre/intrinsic.limit -/
abbrev c_intrinsic_limit:Nat:=105
@[reducible] def intrinsic_limit_b:T:= .ite (v 3)
 (.ret [(.bin (.max .i64) (v 4) (v 5))])
 (.ret [(v 6)])
def intrinsic_limit:T:=intrinsic_limit_b
/- (*parterre/intrinsic.sizer).rounds$1 -/
abbrev c_pintrinsic_sizer_rounds_1:Nat:=151
@[reducible] def pintrinsic_sizer_rounds_1_b:T:= .ret [(v 2)]
def pintrinsic_sizer_rounds_1:T:=pintrinsic_sizer_rounds_1_b
/- parterre/intrinsic.content -/
abbrev c_intrinsic_content:Nat:=97
@[reducible] def intrinsic_content_b:T:= .ret [(.bin .or (cmp .eql (v 1) (n 4)) (cmp .eql (v 1) (n 2)))]
def intrinsic_content:T:=intrinsic_content_b
/- parterre/intrinsic.Size$1 -/
abbrev c_intrinsic_Size_1:Nat:=42
@[reducible] def intrinsic_Size_1_b:T:= .ret [(cmp .eql (v 1) (n 5))]
def intrinsic_Size_1:T:=intrinsic_Size_1_b
/- (*parterre/intrinsic.sizer).bases$2 -/
abbrev c_pintrinsic_sizer_bases_2:Nat:=107
@[reducible] def pintrinsic_sizer_bases_2_b:T:= .ret [(v 5)]
def pintrinsic_sizer_bases_2:T:=pintrinsic_sizer_bases_2_b
/- (*parterre/intrinsic.sizer).rounds$7 -/
abbrev c_pintrinsic_sizer_rounds_7:Nat:=158
@[reducible] def pintrinsic_sizer_rounds_7_b:T:= .ret [(cmp .neq (v 0) (n 1))]
def pintrinsic_sizer_rounds_7:T:=pintrinsic_sizer_rounds_7_b
/- parterre/spread.right -/
abbrev c_spread_right:Nat:=115
@[reducible] def spread_right_b:T:= .ret [(.bin .and (.bin .and (cmp .geq (v 0) (n 0)) (cmp .lss (v 0) (n 1125899906842624))) (cmp .leq (v 1) (n 65536)))]
def spread_right:T:=spread_right_b
/- parterre/spread.rooms -/
abbrev c_spread_rooms:Nat:=116
@[reducible] def spread_rooms_l0_b:T:= .ite (cmp .lss (v 1) (.un .len (v 0)))
 (ck (cmp .leq (n 0) (v 1))
  (.ite (.bin .or (cmp .lss (at_ 0 (v 0) (v 1)) (n 0)) (cmp .gtr (at_ 0 (v 0) (v 1)) (n 1125899906842624)))
   (.ret [(.bool false)])
   (.jump 0 [(add (v 1) (n 1))])))
 (.ret [(.bool true)])
def spread_rooms_l0:T:=spread_rooms_l0_b
@[reducible] def spread_rooms_b:T:= .loop [(n 0)] spread_rooms_l0
def spread_rooms:T:=spread_rooms_b
/- parterre/spread.Up -/
abbrev c_spread_Up:Nat:=50
@[reducible] def spread_Up_j2_b:T:= .ite (v 5)
 (.jump 0 [(v 6),(v 7)])
 (.ret [(v 7)])
def spread_Up_j2:T:=spread_Up_j2_b
@[reducible] def spread_Up_j3_b:T:= .jump 1 [(v 7),(v 5),(v 6)]
def spread_Up_j3:T:=spread_Up_j3_b
@[reducible] def spread_Up_j5_b:T:= .jump 3 [(add (v 5) (n 1)),(v 7)]
def spread_Up_j5:T:=spread_Up_j5_b
@[reducible] def spread_Up_j6_b:T:= .jump 2 [(v 7),(v 8),(.bool true)]
def spread_Up_j6:T:=spread_Up_j6_b
@[reducible] def spread_Up_j8_b:T:= .jump 5 [(add (v 7) (n 1)),(v 10),(v 11)]
def spread_Up_j8:T:=spread_Up_j8_b
@[reducible] def spread_Up_l7_b:T:= .ite (cmp .lss (v 7) (.un .len (v 1)))
 (.letj spread_Up_j8 <|
  ck (cmp .leq (n 0) (v 7))
  (ck (cmp .lss (v 7) (.un .len (v 9)))
   (.ite (cmp .eql (.bin (.min .i64) (.bin (.max .i64) (.bin (.ar .quo .i64) (v 3) (v 6)) (n 1)) (sub (at_ 0 (v 1) (v 7)) (at_ 0 (v 9) (v 7)))) (n 0))
    (.jump 6 [(v 8),(v 9)])
    (.ite (cmp .lss (v 8) (.bin (.min .i64) (.bin (.max .i64) (.bin (.ar .quo .i64) (v 3) (v 6)) (n 1)) (sub (at_ 0 (v 1) (v 7)) (at_ 0 (v 9) (v 7)))))
     (.jump 4 [(v 8),(v 9)])
     (.jump 6 [(sub (v 8) (.bin (.min .i64) (.bin (.max .i64) (.bin (.ar .quo .i64) (v 3) (v 6)) (n 1)) (sub (at_ 0 (v 1) (v 7)) (at_ 0 (v 9) (v 7))))),(.tri .set (v 9) (v 7) (.bin .cons (add (at_ 0 (v 9) (v 7)) (.bin (.min .i64) (.bin (.max .i64) (.bin (.ar .quo .i64) (v 3) (v 6)) (n 1)) (sub (at_ 0 (v 1) (v 7)) (at_ 0 (v 9) (v 7))))) .nilc))])))))
 (.jump 4 [(v 8),(v 9)])
def spread_Up_l7:T:=spread_Up_l7_b
@[reducible] def spread_Up_l4_b:T:= .ite (cmp .lss (v 5) (.un .len (v 1)))
 (.letj spread_Up_j5 <|
  ck (cmp .leq (n 0) (v 5))
  (ck (cmp .lss (v 5) (.un .len (v 4)))
   (.ite (cmp .lss (at_ 0 (v 4) (v 5)) (at_ 0 (v 1) (v 5)))
    (.jump 4 [(add (v 6) (n 1))])
    (.jump 4 [(v 6)]))))
 (.ite (cmp .eql (v 6) (n 0))
  (.jump 2 [(v 3),(v 4),(.bool false)])
  (ck (cmp .neq (v 6) (n 0))
   (.letj spread_Up_j6 <|
    .loop [(n 0),(v 3),(v 4)] spread_Up_l7)))
def spread_Up_l4:T:=spread_Up_l4_b
@[reducible] def spread_Up_l1_b:T:= .letj spread_Up_j2 <|
 .ite (cmp .gtr (v 3) (n 0))
 (.letj spread_Up_j3 <|
  .loop [(n 0),(n 0)] spread_Up_l4)
 (.jump 1 [(.bool false),(v 3),(v 4)])
def spread_Up_l1:T:=spread_Up_l1_b
@[reducible] def spread_Up_j0_b:T:= .ite (v 2)
 (.ret [(.bin .make (.bin .cons (n 0) .nilc) (.un .len (v 1)))])
 (.loop [(v 0),(.bin .make (.bin .cons (n 0) .nilc) (.un .len (v 1)))] spread_Up_l1)
def spread_Up_j0:T:=spread_Up_j0_b
@[reducible] def spread_Up_b:T:=ck (cmp .leq (.un .len (v 1)) (n 17592186044416))
 (.letj spread_Up_j0 <|
  .call c_spread_right [(v 0),(.un .len (v 1))] 1 <|
  .ite (v 2)
  (.call c_spread_rooms [(v 1)] 1 <|
   .jump 0 [(.un .not (v 3))])
  (.jump 0 [(.bool true)]))
def spread_Up:T:=spread_Up_b
/- parterre/fixed.Split -/
abbrev c_fixed_Split:Nat:=59
@[reducible] def fixed_Split_j1_b:T:= .jump 0 [(add (v 2) (n 1)),(v 4)]
def fixed_Split_j1:T:=fixed_Split_j1_b
@[reducible] def fixed_Split_l0_b:T:= .ite (cmp .lss (v 2) (.un .len (.bin .make (.bin .cons (n 0) .nilc) (v 1))))
 (.letj fixed_Split_j1 <|
  ck (cmp .neq (v 1) (n 0))
  (ck (cmp .leq (n 0) (v 2))
   (ck (cmp .lss (v 2) (.un .len (v 3)))
    (.ite (cmp .lss (v 2) (.bin (.ar .rem .i64) (v 0) (v 1)))
     (ck (cmp .lss (v 2) (.un .len (.tri .set (v 3) (v 2) (.bin .cons (.bin (.ar .quo .i64) (v 0) (v 1)) .nilc))))
      (.jump 1 [(.tri .set (.tri .set (v 3) (v 2) (.bin .cons (.bin (.ar .quo .i64) (v 0) (v 1)) .nilc)) (v 2) (.bin .cons (add (at_ 0 (.tri .set (v 3) (v 2) (.bin .cons (.bin (.ar .quo .i64) (v 0) (v 1)) .nilc)) (v 2)) (n 1)) .nilc))]))
     (.jump 1 [(.tri .set (v 3) (v 2) (.bin .cons (.bin (.ar .quo .i64) (v 0) (v 1)) .nilc))])))))
 (.ret [(v 3)])
def fixed_Split_l0:T:=fixed_Split_l0_b
@[reducible] def fixed_Split_b:T:= .ite (.bin .or (.bin .or (cmp .lss (v 0) (n 0)) (cmp .lss (v 1) (n 1))) (cmp .gtr (v 1) (n 65536)))
 (.ret [.nil])
 (ck (cmp .leq (n 0) (v 1))
  (ck (cmp .leq (v 1) (n 17592186044416))
   (.loop [(n 0),(.bin .make (.bin .cons (n 0) .nilc) (v 1))] fixed_Split_l0)))
def fixed_Split:T:=fixed_Split_b
/- parterre/spread.Fill -/
abbrev c_spread_Fill:Nat:=178
@[reducible] def spread_Fill_j2_b:T:= .jump 0 [(add (v 5) (n 1)),(v 8),(sub (v 7) (at_ 0 (v 3) (v 5)))]
def spread_Fill_j2:T:=spread_Fill_j2_b
@[reducible] def spread_Fill_l3_b:T:= .ite (cmp .lss (v 9) (.un .len (v 8)))
 (ck (cmp .leq (n 0) (v 9))
  (ck (cmp .lss (v 9) (.un .len (v 6)))
   (ck (cmp .leq (n 0) (at_ 0 (v 6) (v 9)))
    (ck (cmp .lss (at_ 0 (v 6) (v 9)) (.un .len (v 10)))
     (.jump 1 [(add (v 9) (n 1)),(.tri .set (v 10) (at_ 0 (v 6) (v 9)) (.bin .cons (add (at_ 0 (v 10) (at_ 0 (v 6) (v 9))) (at_ 0 (v 8) (v 9))) .nilc))])))))
 (.ret [(v 10)])
def spread_Fill_l3:T:=spread_Fill_l3_b
@[reducible] def spread_Fill_l1_b:T:= .ite (cmp .lss (v 5) (.un .len (v 3)))
 (.letj spread_Fill_j2 <|
  ck (cmp .leq (n 0) (v 5))
  (ck (cmp .lss (v 5) (.un .len (v 2)))
   (.ite (.bin (.cell 0 (.bool)) (v 2) (v 5))
    (ck (cmp .leq (.bin .plus (.un .len (v 6)) (.un .len (.bin .snoc .nil (.bin .cons (v 5) .nilc)))) (n 4294967296))
     (.jump 1 [(.bin .snoc (v 6) (.bin .cons (v 5) .nilc))]))
    (.jump 1 [(v 6)]))))
 (.call c_fixed_Split [(v 7),(.un .len (v 6))] 1 <|
  .loop [(n 0),(v 3)] spread_Fill_l3)
def spread_Fill_l1:T:=spread_Fill_l1_b
@[reducible] def spread_Fill_j0_b:T:= .ite (v 4)
 (ck (cmp .leq (.un .len (v 1)) (n 17592186044416))
  (.ret [(.bin .make (.bin .cons (n 0) .nilc) (.un .len (v 1)))]))
 (.loop [(n 0),.nil,(v 0)] spread_Fill_l1)
def spread_Fill_j0:T:=spread_Fill_j0_b
@[reducible] def spread_Fill_b:T:= .call c_spread_Up [(v 0),(v 1)] 1 <|
 .letj spread_Fill_j0 <|
 .call c_spread_right [(v 0),(.un .len (v 1))] 1 <|
 .ite (v 4)
 (.call c_spread_rooms [(v 1)] 1 <|
  .jump 0 [(.bin .or (.un .not (v 5)) (cmp .neq (.un .len (v 2)) (.un .len (v 1))))])
 (.jump 0 [(.bool true)])
def spread_Fill:T:=spread_Fill_b
/- (*parterre/intrinsic.sizer).rounds$9 -/
abbrev c_pintrinsic_sizer_rounds_9:Nat:=160
@[reducible] def pintrinsic_sizer_rounds_9_b:T:= .ret [(v 3)]
def pintrinsic_sizer_rounds_9:T:=pintrinsic_sizer_rounds_9_b
/- (*parterre/intrinsic.sizer).rounds$8 -/
abbrev c_pintrinsic_sizer_rounds_8:Nat:=159
@[reducible] def pintrinsic_sizer_rounds_8_b:T:= .ret [(.bin .or (cmp .eql (v 0) (n 3)) (cmp .eql (v 0) (n 4)))]
def pintrinsic_sizer_rounds_8:T:=pintrinsic_sizer_rounds_8_b
/- (*parterre/intrinsic.sizer).rounds$3 -/
abbrev c_pintrinsic_sizer_rounds_3:Nat:=154
@[reducible] def pintrinsic_sizer_rounds_3_b:T:= .ret [(v 4)]
def pintrinsic_sizer_rounds_3:T:=pintrinsic_sizer_rounds_3_b
/- (*parterre/intrinsic.sizer).rounds$6 -/
abbrev c_pintrinsic_sizer_rounds_6:Nat:=157
@[reducible] def pintrinsic_sizer_rounds_6_b:T:= .ret [(.bin .or (cmp .eql (v 0) (n 4)) (cmp .eql (v 0) (n 2)))]
def pintrinsic_sizer_rounds_6:T:=pintrinsic_sizer_rounds_6_b
/- (*parterre/intrinsic.sizer).rounds$4 -/
abbrev c_pintrinsic_sizer_rounds_4:Nat:=155
@[reducible] def pintrinsic_sizer_rounds_4_b:T:= .ret [(cmp .eql (v 0) (n 4))]
def pintrinsic_sizer_rounds_4:T:=pintrinsic_sizer_rounds_4_b
/- (*parterre/intrinsic.sizer).several$1 -/
abbrev c_pintrinsic_sizer_several_1:Nat:=103
@[reducible] def pintrinsic_sizer_several_1_b:T:= .ret [(v 3)]
def pintrinsic_sizer_several_1:T:=pintrinsic_sizer_several_1_b
/- (*parterre/intrinsic.sizer).limits$1 -/
abbrev c_pintrinsic_sizer_limits_1:Nat:=172
@[reducible] def pintrinsic_sizer_limits_1_b:T:= .ite (cmp .lss (v 6) (n 1125899906842624))
 (.ret [(v 6)])
 (.ret [(v 5)])
def pintrinsic_sizer_limits_1:T:=pintrinsic_sizer_limits_1_b
/- (*parterre/intrinsic.sizer).limits$2 -/
abbrev c_pintrinsic_sizer_limits_2:Nat:=173
@[reducible] def pintrinsic_sizer_limits_2_b:T:= .ret [(.bool true)]
def pintrinsic_sizer_limits_2:T:=pintrinsic_sizer_limits_2_b
/- (*parterre/intrinsic.sizer).several$2 -/
abbrev c_pintrinsic_sizer_several_2:Nat:=104
@[reducible] def pintrinsic_sizer_several_2_b:T:= .ret [(v 4)]
def pintrinsic_sizer_several_2:T:=pintrinsic_sizer_several_2_b
/- parterre/fixed.Share -/
abbrev c_fixed_Share:Nat:=57
@[reducible] def fixed_Share_l1_b:T:= .ite (cmp .lss (v 4) (.un .len (v 1)))
 (ck (cmp .leq (n 0) (v 4))
  (.call c_fixed_MulDiv [(v 0),(add (v 6) (at_ 0 (v 1) (v 4))),(v 3)] 2 <|
   ck (cmp .leq (.bin .plus (.un .len (v 7)) (.un .len (.bin .snoc .nil (.bin .cons (sub (v 8) (v 5)) .nilc)))) (n 4294967296))
   (.jump 1 [(add (v 4) (n 1)),(v 8),(add (v 6) (at_ 0 (v 1) (v 4))),(.bin .snoc (v 7) (.bin .cons (sub (v 8) (v 5)) .nilc))])))
 (.ret [(v 7)])
def fixed_Share_l1:T:=fixed_Share_l1_b
@[reducible] def fixed_Share_l0_b:T:= .ite (cmp .lss (v 2) (.un .len (v 1)))
 (ck (cmp .leq (n 0) (v 2))
  (.ite (.bin .or (cmp .lss (at_ 0 (v 1) (v 2)) (n 0)) (cmp .gtr (at_ 0 (v 1) (v 2)) (n 1073741824)))
   (.ret [.nil])
   (.jump 0 [(add (v 2) (n 1)),(add (v 3) (at_ 0 (v 1) (v 2)))])))
 (.ite (cmp .eql (v 3) (n 0))
  (.ret [.nil])
  (.loop [(n 0),(n 0),(n 0),.nil] fixed_Share_l1))
def fixed_Share_l0:T:=fixed_Share_l0_b
@[reducible] def fixed_Share_b:T:= .ite (.bin .or (.bin .or (cmp .lss (v 0) (n 0)) (cmp .gtr (v 0) (n 68719476736))) (cmp .gtr (.un .len (v 1)) (n 65536)))
 (.ret [.nil])
 (.loop [(n 0),(n 0)] fixed_Share_l0)
def fixed_Share:T:=fixed_Share_b
/- parterre/spread.By -/
abbrev c_spread_By:Nat:=112
@[reducible] def spread_By_b:T:= .call c_spread_right [(v 0),(.un .len (v 1))] 1 <|
 .ite (v 2)
 (.call c_fixed_Share [(.bin (.min .i64) (v 0) (n 68719476736)),(v 1)] 1 <|
  .ite (cmp .gtr (.un .len (v 3)) (n 0))
  (.ret [(v 3)])
  (.call c_fixed_Split [(v 0),(.un .len (v 1))] 1 <|
   .ite (cmp .gtr (.un .len (v 4)) (n 0))
   (.ret [(v 4)])
   (ck (cmp .leq (.un .len (v 1)) (n 17592186044416))
    (.ret [(.bin .make (.bin .cons (n 0) .nilc) (.un .len (v 1)))]))))
 (ck (cmp .leq (.un .len (v 1)) (n 17592186044416))
  (.ret [(.bin .make (.bin .cons (n 0) .nilc) (.un .len (v 1)))]))
def spread_By:T:=spread_By_b
/- parterre/intrinsic.Size -/
abbrev c_intrinsic_Size:Nat:=19
@[reducible] def cells7 (S i:Ex):List Ex:= [at_ 0 S i,at_ 1 S i,at_ 2 S i,.bin (.cell 3 .bool) S i,at_ 4 S i,at_ 5 S i,at_ 6 S i]
@[reducible] def cells5 (S i:Ex):List Ex:= [at_ 0 S i,at_ 1 S i,at_ 2 S i,at_ 3 S i,at_ 4 S i]
@[reducible] def asr (c : Ex) (k : T) : T := .ite c k (.fail "")
@[reducible] def mkI (k:Ex):Ex:= .bin .make (.bin .cons (n 0) .nilc) k
@[reducible] def mkB (k:Ex):Ex:= .bin .make (.bin .cons (.bool false) .nilc) k
@[reducible] def len (k:Ex):Ex:= .un .len k
@[reducible] def le (a b:Ex):Ex:=cmp .leq a b
@[reducible] def lt (a b:Ex):Ex:=cmp .lss a b
@[reducible] def set1 (r i x:Ex):Ex:= .tri .set r i (.bin .cons x .nilc)
@[reducible] def gapsL_b (b:Nat) (fr to A:Ex):T:=
 .ite (lt (v b) (len (.tri .slice A (add fr (n 1)) (.bin .minus to (add fr (n 1))))))
  (asr (le (n 0) (v b)) (.jump 0 [add (v b) (n 1),add (v (b+1)) (at_ 0 (.tri .slice A (add fr (n 1)) (.bin .minus to (add fr (n 1)))) (v b))]))
  (.ret [v (b+1)])
def gapsL (b:Nat) (fr to A:Ex):T:=gapsL_b b fr to A
theorem u_gapsL {b:Nat} {fr to A:Ex}:U (gapsL b fr to A) (gapsL_b b fr to A):=Iff.rfl
def gapsT (b:Nat) (fr to A:Ex):T:=
 asr (le (n 0) (add fr (n 1))) (asr (le (add fr (n 1)) to) (asr (le to (len A)) (.loop [n 0,n 0] (gapsL b fr to A))))
@[reducible] def W0:Ex:=at_ 0 (v 0) (v 6)
@[reducible] def W1:Ex:=at_ 1 (v 0) (v 6)
@[reducible] def outL_b:T:=
 .ite (lt (v 21) (len (v 20)))
  (asr (le (n 0) (v 21)) (asr (lt (v 21) (len (v 13))) (asr (le (n 0) (at_ 0 (v 13) (v 21))) (asr (lt (at_ 0 (v 13) (v 21)) (len (v 22)))
   (.jump 6 [add (v 21) (n 1),set1 (v 22) (at_ 0 (v 13) (v 21)) (.bin (.max .i64) (at_ 0 (v 22) (at_ 0 (v 13) (v 21))) (at_ 0 (v 20) (v 21)))])))))
  (.jump 1 [v 22])
def outL:T:=outL_b 
theorem u_outL:U (outL) (outL_b):=Iff.rfl
@[reducible] def beyL_b:T:=
 .ite (lt (v 18) (len (v 17)))
  (asr (le (n 0) (v 18)) (asr (lt (v 18) (len (v 19))) (.jump 5 [add (v 18) (n 1),set1 (v 19) (v 18) (.bin .or (.bin (.cell 0 .bool) (v 19) (v 18)) (.un .not (v 15)))])))
  (.call c_spread_Fill [v 11,v 16,v 19] 1 (.loop [n 0,v 7] outL))
def beyL:T:=beyL_b 
theorem u_beyL:U (beyL) (beyL_b):=Iff.rfl
@[reducible] def who_:Ex:=at_ 0 (v 13) (v 14)
@[reducible] def setb_:Ex:=set1 (v 17) (v 14) (v 19)
@[reducible] def roomsL_b (roomT:T) (farF:Nat):T:=
 .ite (lt (v 14) (len (v 13)))
  (asr (le (n 0) (v 14)) (.seq roomT 1 (asr (le (n 0) who_) (asr (lt who_ (len (v 1))) (.call farF (cells7 (v 1) who_) 1
   (asr (lt (v 14) (len (v 16))) (asr (lt (v 14) (len (v 17))) (asr (.bin .or (v 15) (lt (v 14) (len setb_)))
    (.jump 4 [add (v 14) (n 1),.bin .or (v 15) (.bin (.cell 0 .bool) setb_ (v 14)),set1 (v 16) (v 14) (v 18),setb_])))))))))
  (.loop [n 0,v 17] beyL)
def roomsL (roomT:T) (farF:Nat):T:=roomsL_b roomT farF
theorem u_roomsL {roomT:T} {farF:Nat}:U (roomsL roomT farF) (roomsL_b roomT farF):=Iff.rfl
def fillT (roomT:T) (farF:Nat):T:=
 asr (le (len (v 13)) (n 17592186044416)) (asr (le (len (v 13)) (n 140737488355328)) (.loop [n 0,.bool false,mkI (len (v 13)),mkB (len (v 13))] (roomsL roomT farF)))
@[reducible] def pushT:T:=asr (le (.bin .plus (len (v 13)) (len (.bin .snoc .nil (.bin .cons (v 12) .nilc)))) (n 4294967296)) (.jump 4 [.bin .snoc (v 13) (.bin .cons (v 12) .nilc)])
def those1 (ofF:Nat):T:=asr (le (n 0) (v 12)) (asr (lt (v 12) (len (v 1))) (.call ofF (cells7 (v 1) (v 12)) 1 (.ite (v 14) pushT (.jump 4 [v 13]))))
@[reducible] def pushJ_b:T:= .ite (v 14) pushT (.jump 4 [v 13])
def pushJ:T:=pushJ_b 
theorem u_pushJ:U (pushJ) (pushJ_b):=Iff.rfl
def those2 (ofF ofG:Nat):T:=
 .letj pushJ (asr (le (n 0) (v 12)) (asr (lt (v 12) (len (v 1))) (.ite (v 4) (.call ofF (cells7 (v 1) (v 12)) 1 (.jump 5 [v 14])) (.call ofG (cells7 (v 1) (v 12)) 1 (.jump 5 [v 14])))))
@[reducible] def thoseL_b (those fill:T):T:=
 .ite (lt (v 12) W1) (.letj (.jump 3 [add (v 12) (n 1),v 14]) those) (.ite (.bin .or (le (v 11) (n 0)) (cmp .eql (len (v 13)) (n 0))) (.jump 1 [v 7]) fill)
def thoseL (those fill:T):T:=thoseL_b those fill
theorem u_thoseL {those fill:T}:U (thoseL those fill) (thoseL_b those fill):=Iff.rfl
@[reducible] def spaceL_b (szF:Nat) (those fill:T):T:=
 .ite (lt (v 10) (.bin .minus W1 W0)) (asr (le (n 0) (v 10)) (.call szF (cells7 (v 1) (.bin .plus W0 (v 10))) 1 (.jump 2 [add (v 10) (n 1),sub (v 11) (v 12)]))) (.loop [W0,.nil] (thoseL those fill))
def spaceL (szF:Nat) (those fill:T):T:=spaceL_b szF those fill
theorem u_spaceL {szF:Nat} {those fill:T}:U (spaceL szF those fill) (spaceL_b szF those fill):=Iff.rfl
@[reducible] def giveL_b (wk:T→T) (szF:Nat) (those fill:T):T:=
 .ite (lt (v 6) (len (v 0)))
  (.letj (.jump 0 [add (v 6) (n 1),v 8]) (asr (le (n 0) (v 6)) (wk (.seq (gapsT 9 W0 W1 (v 2)) 1 (asr (le (n 0) W0) (asr (le W0 W1) (asr (le W1 (len (v 1))) (.loop [n 0,sub (v 8) (v 9)] (spaceL szF those fill)))))))))
  (.ret [v 7])
def giveL (wk:T→T) (szF:Nat) (those fill:T):T:=giveL_b wk szF those fill
theorem u_giveL {wk:T→T} {szF:Nat} {those fill:T}:U (giveL wk szF those fill) (giveL_b wk szF those fill):=Iff.rfl
def giveT (wk:T→T) (szF:Nat) (those fill:T):T:=asr (le (len (v 1)) (n 17592186044416)) (.loop [n 0,mkI (len (v 1))] (giveL wk szF those fill))
def those1F (ofF:Nat):T:=asr (le (n 0) (v 12)) (asr (lt (v 12) (len (v 1))) (.call ofF (cells7 (v 1) (v 12)) 1 (.ite (.bin .and (v 14) (cmp .eql (at_ 1 (v 1) (v 12)) (n 5))) pushT (.jump 4 [v 13]))))
def those2F (ofF ofG:Nat):T:=
 asr (le (n 0) (v 12)) (asr (lt (v 12) (len (v 1))) (.letj pushJ (.ite (v 4) (.call ofF (cells7 (v 1) (v 12)) 1 (.jump 5 [.bin .and (v 14) (cmp .eql (at_ 1 (v 1) (v 12)) (n 5))])) (.call ofG (cells7 (v 1) (v 12)) 1 (.jump 5 [.bin .and (v 14) (cmp .eql (at_ 1 (v 1) (v 12)) (n 5))])))))
@[reducible] def outFL_b:T:=
 .ite (lt (v 17) (len (v 16)))
  (asr (le (n 0) (v 17)) (asr (lt (v 17) (len (v 13))) (asr (le (n 0) (at_ 0 (v 13) (v 17))) (asr (lt (at_ 0 (v 13) (v 17)) (len (v 18)))
   (.jump 5 [add (v 17) (n 1),set1 (v 18) (at_ 0 (v 13) (v 17)) (.bin (.max .i64) (at_ 0 (v 18) (at_ 0 (v 13) (v 17))) (at_ 0 (v 16) (v 17)))])))))
  (.jump 1 [v 18])
def outFL:T:=outFL_b 
theorem u_outFL:U (outFL) (outFL_b):=Iff.rfl
@[reducible] def wgtL_b:T:=
 .ite (lt (v 14) (len (v 13)))
  (asr (le (n 0) (v 14)) (asr (le (n 0) who_) (asr (lt who_ (len (v 1))) (asr (lt (v 14) (len (v 15))) (.jump 4 [add (v 14) (n 1),set1 (v 15) (v 14) (at_ 2 (v 1) who_)])))))
  (.call c_spread_By [v 11,v 15] 1 (.loop [n 0,v 7] outFL))
def wgtL:T:=wgtL_b 
theorem u_wgtL:U (wgtL) (wgtL_b):=Iff.rfl
def fillTF:T:=asr (le (len (v 13)) (n 17592186044416)) (.loop [n 0,mkI (len (v 13))] wgtL)
@[reducible] def SL:Ex:= .tri .slice (v 1) W0 (.bin .minus W1 W0)
@[reducible] def AL:Ex:= .tri .slice (v 2) (add W0 (n 1)) (.bin .minus W1 (add W0 (n 1)))
@[reducible] def limJ_b:T:= .ret [v 8]
def limJ:T:=limJ_b 
theorem u_limJ:U (limJ) (limJ_b):=Iff.rfl
@[reducible] def limL2_b (ni:Nat):T:=
 .ite (lt (v 10) (len SL)) (asr (le (n 0) (v 10)) (.call c_intrinsic_loose (cells7 SL (v 10)) 1
  (.ite (.bin .and (v 12) (.un .not (.bin (.cell 3 .bool) SL (v 10)))) (.jump 0 [.bin (.max .i64) (at_ ni (v 0) (v 6)) (at_ 2 (v 0) (v 6))])
   (.call c_intrinsic_limit (cells7 SL (v 10)) 1 (.jump 2 [add (v 10) (n 1),add (v 11) (v 13)])))))
  (.jump 0 [.bin (.max .i64) (.bin (.min .i64) (at_ ni (v 0) (v 6)) (v 11)) (at_ 2 (v 0) (v 6))])
def limL2 (ni:Nat):T:=limL2_b ni
theorem u_limL2 {ni:Nat}:U (limL2 ni) (limL2_b ni):=Iff.rfl
@[reducible] def limL1_b (ni:Nat):T:=
 .ite (lt (v 8) (len AL)) (asr (le (n 0) (v 8)) (.jump 1 [add (v 8) (n 1),add (v 9) (at_ 0 AL (v 8))]))
  (asr (le (n 0) W0) (asr (le W0 W1) (asr (le W1 (len (v 1))) (.loop [n 0,v 9] (limL2 ni)))))
def limL1 (ni:Nat):T:=limL1_b ni
theorem u_limL1 {ni:Nat}:U (limL1 ni) (limL1_b ni):=Iff.rfl
def limT (ni fb:Nat):T:=
 .ite (v 3) (.letj limJ (asr (le (n 0) (add W0 (n 1))) (asr (le (add W0 (n 1)) W1) (asr (le W1 (len (v 2))) (.loop [n 0,n 0] (limL1 ni)))))) (.call fb (cells5 (v 0) (v 6)) 1 (.ret [v 8]))
def wkL (ni fb:Nat):T→T:=fun K=> .seq (limT ni fb) 1 K
def wkC (fb:Nat):T→T:=fun K=> .call fb (cells5 (v 0) (v 6)) 1 K
def roomBT:T:=asr (le (n 0) who_) (asr (lt who_ (len (v 1))) (.call c_intrinsic_limit (cells7 (v 1) who_) 1 (.ret [.bin (.max .i64) (n 0) (sub (v 18) (at_ 5 (v 1) who_))])))
@[reducible] def roomLJ_b:T:= .ret [v 18]
def roomLJ:T:=roomLJ_b 
theorem u_roomLJ:U (roomLJ) (roomLJ_b):=Iff.rfl
@[reducible] def gw_:Ex:= .bin (.cell 0 .bool) (v 5) who_
def roomLT:T:=
 .letj roomLJ (asr (le (n 0) who_) (asr (lt who_ (len (v 5))) (asr (.bin .or gw_ (lt who_ (len (v 1))))
  (.ite (.bin .or gw_ (cmp .eql (at_ 6 (v 1) who_) (n 1125899906842624))) (.jump 0 [n 1125899906842624]) (.jump 0 [n 0])))))
@[reducible] def addL_b:T:=
 .ite (lt (v 2) (len (v 1))) (asr (le (n 0) (v 2)) (asr (lt (v 2) (len (v 3))) (.jump 0 [add (v 2) (n 1),.tri (.put 5) (v 3) (v 2) (add (at_ 5 (v 3) (v 2)) (at_ 0 (v 1) (v 2)))]))) (.ret [v 3])
def addL:T:=addL_b 
theorem u_addL:U (addL) (addL_b):=Iff.rfl
def addT:T:= .loop [n 0,v 0] addL
@[reducible] def raiseL_b:T:=
 .ite (lt (v 1) (len (v 0))) (asr (le (n 0) (v 1)) (asr (lt (v 1) (len (v 2))) (.call c_base_Raise (cells7 (v 2) (v 1)) 7
  (.jump 0 [add (v 1) (n 1),.tri .set (v 2) (v 1) (.bin .cons (v 3) (.bin .cons (v 4) (.bin .cons (v 5) (.bin .cons (v 6) (.bin .cons (v 7) (.bin .cons (v 8) (.bin .cons (v 9) .nilc)))))))])))) (.ret [v 2])
def raiseL:T:=raiseL_b 
theorem u_raiseL:U (raiseL) (raiseL_b):=Iff.rfl
def raiseT:T:= .loop [n 0,v 0] raiseL
@[reducible] def H0:Ex:=at_ 0 (v 0) (v 2)
@[reducible] def H1:Ex:=at_ 1 (v 0) (v 2)
@[reducible] def hwho:Ex:=at_ 0 (v 5) (v 6)
@[reducible] def markJ_b:T:= .jump 2 [add (v 6) (n 1),v 8]
def markJ:T:=markJ_b 
theorem u_markJ:U (markJ) (markJ_b):=Iff.rfl
@[reducible] def markL_b:T:=
 .ite (lt (v 6) (len (v 5))) (.letj markJ (asr (le (n 0) (v 6)) (asr (le (n 0) hwho) (asr (lt hwho (len (v 1)))
  (.ite (cmp .eql (at_ 6 (v 1) hwho) (n 1125899906842624)) (asr (lt hwho (len (v 7))) (.jump 3 [set1 (v 7) hwho (.bool true)])) (.jump 3 [v 7])))))) (.jump 0 [add (v 2) (n 1),v 7])
def markL:T:=markL_b 
theorem u_markL:U (markL) (markL_b):=Iff.rfl
@[reducible] def whoHJ_b:T:= .jump 1 [add (v 4) (n 1),v 6]
def whoHJ:T:=whoHJ_b 
theorem u_whoHJ:U (whoHJ) (whoHJ_b):=Iff.rfl
@[reducible] def whoHL_b (ofF:Nat):T:=
 .ite (lt (v 4) H1) (.letj whoHJ (asr (le (n 0) (v 4)) (asr (lt (v 4) (len (v 1))) (.call ofF (cells7 (v 1) (v 4)) 1
  (.ite (v 6) (asr (le (.bin .plus (len (v 5)) (len (.bin .snoc .nil (.bin .cons (v 4) .nilc)))) (n 4294967296)) (.jump 2 [.bin .snoc (v 5) (.bin .cons (v 4) .nilc)])) (.jump 2 [v 5])))))) (.loop [n 0,v 3] markL)
def whoHL (ofF:Nat):T:=whoHL_b ofF
theorem u_whoHL {ofF:Nat}:U (whoHL ofF) (whoHL_b ofF):=Iff.rfl
@[reducible] def hadL_b (ofF:Nat):T:= .ite (lt (v 2) (len (v 0))) (asr (le (n 0) (v 2)) (.loop [H0,.nil] (whoHL ofF))) (.ret [v 3])
def hadL (ofF:Nat):T:=hadL_b ofF
theorem u_hadL {ofF:Nat}:U (hadL ofF) (hadL_b ofF):=Iff.rfl
def hadT (ofF:Nat):T:= .loop [n 0,mkB (len (v 1))] (hadL ofF)
@[reducible] def limAJ_b:T:= .jump 0 [add (v 3) (n 1),v 5]
def limAJ:T:=limAJ_b 
theorem u_limAJ:U (limAJ) (limAJ_b):=Iff.rfl
@[reducible] def limAL_b:T:=
 .ite (lt (v 3) (len (v 2))) (.letj limAJ (asr (le (n 0) (v 3)) (asr (lt (v 3) (len (v 1))) (asr (.bin .or (.bin (.cell 0 .bool) (v 1) (v 3)) (lt (v 3) (len (v 4))))
  (.ite (.bin .or (.bin (.cell 0 .bool) (v 1) (v 3)) (lt (at_ 6 (v 4) (v 3)) (n 1125899906842624)))
   (asr (lt (v 3) (len (v 4))) (.call c_pintrinsic_sizer_limits_1 (cells7 (v 4) (v 3)) 1 (.jump 1 [.tri (.put 6) (v 4) (v 3) (add (v 5) (at_ 0 (v 2) (v 3)))]))) (.jump 1 [v 4])))))) (.ret [v 4])
def limAL:T:=limAL_b 
theorem u_limAL:U (limAL) (limAL_b):=Iff.rfl
def limAT:T:= .loop [n 0,v 0] limAL
@[reducible] def fitJ_b:T:= .jump 0 [add (v 1) (n 1),v 3]
def fitJ:T:=fitJ_b 
theorem u_fitJ:U (fitJ) (fitJ_b):=Iff.rfl
@[reducible] def fitL_b:T:=
 .ite (lt (v 1) (len (v 0))) (.letj fitJ (asr (le (n 0) (v 1)) (asr (lt (v 1) (len (v 2)))
  (.ite (.bin (.cell 3 .bool) (v 2) (v 1)) (.call c_intrinsic_limit (cells7 (v 2) (v 1)) 1 (.jump 1 [.tri (.put 6) (v 2) (v 1) (.bin (.min .i64) (at_ 6 (v 2) (v 1)) (v 3))])) (.jump 1 [v 2]))))) (.ret [v 2])
def fitL:T:=fitL_b 
theorem u_fitL:U (fitL) (fitL_b):=Iff.rfl
def fitT:T:= .loop [n 0,v 0] fitL
@[reducible] def endJ_b:T:= .jump 0 [add (v 1) (n 1),v 3]
def endJ:T:=endJ_b 
theorem u_endJ:U (endJ) (endJ_b):=Iff.rfl
@[reducible] def endL_b:T:=
 .ite (lt (v 1) (len (v 0))) (.letj endJ (asr (le (n 0) (v 1)) (asr (lt (v 1) (len (v 2)))
  (.ite (cmp .eql (at_ 6 (v 2) (v 1)) (n 1125899906842624)) (.jump 1 [.tri (.put 6) (v 2) (v 1) (at_ 5 (v 2) (v 1))]) (.jump 1 [v 2]))))) (.ret [v 2])
def endL:T:=endL_b 
theorem u_endL:U (endL) (endL_b):=Iff.rfl
def endT:T:= .loop [n 0,v 0] endL
@[reducible] def Wsp:Ex:= .bin .rget (v 17) (at_ 0 (.un .sort (v 15)) (v 18))
def gv1:T:=giveT (wkL 3 c_pintrinsic_sizer_rounds_1) c_pintrinsic_sizer_bases_2 (those1 c_pintrinsic_sizer_rounds_7) (fillT roomBT c_intrinsic_loose)
def gv2:T:=giveT (wkC c_pintrinsic_sizer_rounds_9) c_pintrinsic_sizer_bases_2 (those1 c_pintrinsic_sizer_rounds_8) (fillT roomBT c_intrinsic_loose)
def gv3:T:=giveT (wkL 4 c_pintrinsic_sizer_rounds_3) c_pintrinsic_sizer_bases_2 (those2 c_pintrinsic_sizer_rounds_6 c_pintrinsic_sizer_rounds_4) (fillT roomBT c_intrinsic_content)
def gv4:T:=giveT (wkC c_pintrinsic_sizer_several_1) c_pintrinsic_sizer_limits_1 (those1 c_intrinsic_loose) (fillT roomLT c_pintrinsic_sizer_limits_2)
def gv5:T:=giveT (wkC c_pintrinsic_sizer_several_2) c_pintrinsic_sizer_limits_1 (those1 c_intrinsic_content) (fillT roomLT c_pintrinsic_sizer_limits_2)
def gf1:T:=giveT (wkL 3 c_pintrinsic_sizer_rounds_1) c_pintrinsic_sizer_bases_2 (those1F c_pintrinsic_sizer_rounds_7) fillTF
def gf2:T:=giveT (wkC c_pintrinsic_sizer_rounds_9) c_pintrinsic_sizer_bases_2 (those1F c_pintrinsic_sizer_rounds_8) fillTF
def gf3:T:=giveT (wkL 4 c_pintrinsic_sizer_rounds_3) c_pintrinsic_sizer_bases_2 (those2F c_pintrinsic_sizer_rounds_6 c_pintrinsic_sizer_rounds_4) fillTF
def At (t:T) (σ:List Ex) (nv jl:Nat) (K:T):T:=T.inst σ σ.length nv t jl (fun _ _ _=>K) (some 0) []
def k12:T:= .jump 3 [add (v 18) (n 1),v 50]
def k11:T:=At fitT [v 48] 49 17 k12
def k10:T:=At limAT [v 42,v 46,v 44] 47 16 k11
def k9:T:=asr (le (len (v 42)) (n 140737488355328)) (At (hadT c_intrinsic_content) [Wsp,v 42] 45 15 k10)
def k8:T:=At gv5 [Wsp,v 42,v 1,v 20,v 21,v 40] 43 14 k9
def k7:T:=At limAT [v 36,v 40,v 38] 41 13 k8
def k6:T:=At (hadT c_intrinsic_loose) [Wsp,v 36] 39 12 k7
def k5:T:=asr (le (len (v 36)) (n 140737488355328)) (At gv4 [Wsp,v 36,v 1,v 20,v 21,mkB (len (v 36))] 37 11 k6)
def k4:T:=At raiseT [v 34] 35 10 k5
def k3:T:=At addT [v 30,v 32] 33 9 k4
def k2:T:=At gv3 [Wsp,v 30,v 1,v 22,v 21,.nil] 31 8 k3
def k1:T:=At addT [v 26,v 28] 29 7 k2
def k0:T:=At gv2 [Wsp,v 26,v 1,v 20,v 21,.nil] 27 6 k1
def kb:T:=At addT [v 19,v 24] 25 5 k0
def ka:T:=At gv1 [Wsp,v 19,v 1,v 20,v 21,.nil] 23 4 kb
def e7:T:= .ret [v 38,n 0]
def e6:T:=At endT [v 36] 37 11 e7
def e5:T:=At raiseT [v 34] 35 10 e6
def e4:T:=At addT [v 30,v 32] 33 9 e5
def e3:T:=At gf3 [v 16,v 30,v 1,v 22,v 21,.nil] 31 8 e4
def e2:T:=At addT [v 26,v 28] 29 7 e3
def e1:T:=At gf2 [v 16,v 26,v 1,v 20,v 21,.nil] 27 6 e2
def eb:T:=At addT [v 19,v 24] 25 5 e1
def ea:T:=At gf1 [v 16,v 19,v 1,v 20,v 21,.nil] 23 4 eb
@[reducible] def intrinsic_Size_j3_b:T:= .jump 0 [(add (v 9) (n 1)),(v 12),(v 13)]
def intrinsic_Size_j3:T:=intrinsic_Size_j3_b
@[reducible] def intrinsic_Size_j5_b:T:= .ret [(v 12)]
def intrinsic_Size_j5:T:=intrinsic_Size_j5_b
@[reducible] def intrinsic_Size_l7_b:T:= .ite (cmp .lss (v 14) (.un .len (.tri .slice (v 5) (at_ 0 (v 2) (v 9)) (.bin .minus (at_ 1 (v 2) (v 9)) (at_ 0 (v 2) (v 9))))))
 (ck (cmp .leq (n 0) (v 14))
  (.call c_intrinsic_loose [(at_ 0 (.tri .slice (v 5) (at_ 0 (v 2) (v 9)) (.bin .minus (at_ 1 (v 2) (v 9)) (at_ 0 (v 2) (v 9)))) (v 14)),(at_ 1 (.tri .slice (v 5) (at_ 0 (v 2) (v 9)) (.bin .minus (at_ 1 (v 2) (v 9)) (at_ 0 (v 2) (v 9)))) (v 14)),(at_ 2 (.tri .slice (v 5) (at_ 0 (v 2) (v 9)) (.bin .minus (at_ 1 (v 2) (v 9)) (at_ 0 (v 2) (v 9)))) (v 14)),(.bin (.cell 3 (.bool)) (.tri .slice (v 5) (at_ 0 (v 2) (v 9)) (.bin .minus (at_ 1 (v 2) (v 9)) (at_ 0 (v 2) (v 9)))) (v 14)),(at_ 4 (.tri .slice (v 5) (at_ 0 (v 2) (v 9)) (.bin .minus (at_ 1 (v 2) (v 9)) (at_ 0 (v 2) (v 9)))) (v 14)),(at_ 5 (.tri .slice (v 5) (at_ 0 (v 2) (v 9)) (.bin .minus (at_ 1 (v 2) (v 9)) (at_ 0 (v 2) (v 9)))) (v 14)),(at_ 6 (.tri .slice (v 5) (at_ 0 (v 2) (v 9)) (.bin .minus (at_ 1 (v 2) (v 9)) (at_ 0 (v 2) (v 9)))) (v 14))] 1 <|
   .ite (.bin .and (v 16) (.un .not (.bin (.cell 3 (.bool)) (.tri .slice (v 5) (at_ 0 (v 2) (v 9)) (.bin .minus (at_ 1 (v 2) (v 9)) (at_ 0 (v 2) (v 9)))) (v 14))))
   (.jump 0 [(.bin (.max .i64) (at_ 3 (v 2) (v 9)) (at_ 2 (v 2) (v 9)))])
   (.call c_intrinsic_limit [(at_ 0 (.tri .slice (v 5) (at_ 0 (v 2) (v 9)) (.bin .minus (at_ 1 (v 2) (v 9)) (at_ 0 (v 2) (v 9)))) (v 14)),(at_ 1 (.tri .slice (v 5) (at_ 0 (v 2) (v 9)) (.bin .minus (at_ 1 (v 2) (v 9)) (at_ 0 (v 2) (v 9)))) (v 14)),(at_ 2 (.tri .slice (v 5) (at_ 0 (v 2) (v 9)) (.bin .minus (at_ 1 (v 2) (v 9)) (at_ 0 (v 2) (v 9)))) (v 14)),(.bin (.cell 3 (.bool)) (.tri .slice (v 5) (at_ 0 (v 2) (v 9)) (.bin .minus (at_ 1 (v 2) (v 9)) (at_ 0 (v 2) (v 9)))) (v 14)),(at_ 4 (.tri .slice (v 5) (at_ 0 (v 2) (v 9)) (.bin .minus (at_ 1 (v 2) (v 9)) (at_ 0 (v 2) (v 9)))) (v 14)),(at_ 5 (.tri .slice (v 5) (at_ 0 (v 2) (v 9)) (.bin .minus (at_ 1 (v 2) (v 9)) (at_ 0 (v 2) (v 9)))) (v 14)),(at_ 6 (.tri .slice (v 5) (at_ 0 (v 2) (v 9)) (.bin .minus (at_ 1 (v 2) (v 9)) (at_ 0 (v 2) (v 9)))) (v 14))] 1 <|
    .jump 2 [(add (v 14) (n 1)),(add (v 15) (v 17))])))
 (.jump 0 [(.bin (.max .i64) (.bin (.min .i64) (at_ 3 (v 2) (v 9)) (v 15)) (at_ 2 (v 2) (v 9)))])
def intrinsic_Size_l7:T:=intrinsic_Size_l7_b
@[reducible] def intrinsic_Size_l6_b:T:= .ite (cmp .lss (v 12) (.un .len (.tri .slice (v 1) (add (at_ 0 (v 2) (v 9)) (n 1)) (.bin .minus (at_ 1 (v 2) (v 9)) (add (at_ 0 (v 2) (v 9)) (n 1))))))
 (ck (cmp .leq (n 0) (v 12))
  (.jump 1 [(add (v 12) (n 1)),(add (v 13) (at_ 0 (.tri .slice (v 1) (add (at_ 0 (v 2) (v 9)) (n 1)) (.bin .minus (at_ 1 (v 2) (v 9)) (add (at_ 0 (v 2) (v 9)) (n 1)))) (v 12)))]))
 (ck (cmp .leq (at_ 0 (v 2) (v 9)) (at_ 1 (v 2) (v 9)))
  (ck (cmp .leq (at_ 1 (v 2) (v 9)) (.un .len (v 5)))
   (.loop [(n 0),(v 13)] intrinsic_Size_l7)))
def intrinsic_Size_l6:T:=intrinsic_Size_l6_b
@[reducible] def intrinsic_Size_s4_b:T:= .ite (v 6)
 (.letj intrinsic_Size_j5 <|
  ck (cmp .leq (n 0) (add (at_ 0 (v 2) (v 9)) (n 1)))
  (ck (cmp .leq (add (at_ 0 (v 2) (v 9)) (n 1)) (at_ 1 (v 2) (v 9)))
   (ck (cmp .leq (at_ 1 (v 2) (v 9)) (.un .len (v 1)))
    (.loop [(n 0),(n 0)] intrinsic_Size_l6))))
 (.call c_pintrinsic_sizer_rounds_1 [(at_ 0 (v 2) (v 9)),(at_ 1 (v 2) (v 9)),(at_ 2 (v 2) (v 9)),(at_ 3 (v 2) (v 9)),(at_ 4 (v 2) (v 9))] 1 <|
  .ret [(v 12)])
def intrinsic_Size_s4:T:=intrinsic_Size_s4_b
@[reducible] def intrinsic_Size_j9_b:T:= .jump 1 [(add (v 12) (n 1)),(v 14)]
def intrinsic_Size_j9:T:=intrinsic_Size_j9_b
@[reducible] def intrinsic_Size_j11_b:T:= .call c_base_Raise [(at_ 0 (v 13) (v 12)),(at_ 1 (v 13) (v 12)),(at_ 2 (v 13) (v 12)),(.bin (.cell 3 (.bool)) (v 13) (v 12)),(at_ 4 (v 13) (v 12)),(v 14),(v 15)] 7 <|
 .jump 2 [(.tri .set (v 13) (v 12) (.bin .cons (v 16) (.bin .cons (v 17) (.bin .cons (v 18) (.bin .cons (v 19) (.bin .cons (v 20) (.bin .cons (v 21) (.bin .cons (v 22) .nilc))))))))]
def intrinsic_Size_j11:T:=intrinsic_Size_j11_b
@[reducible] def intrinsic_Size_j10_b:T:= .letj intrinsic_Size_j11 <|
 .ite (.bin (.cell 3 (.bool)) (v 13) (v 12))
 (ck (cmp .lss (v 12) (.un .len (v 10)))
  (.jump 3 [(.bin (.min .i64) (at_ 2 (v 10) (v 12)) (at_ 4 (v 13) (v 12)))]))
 (.ite (cmp .eql (at_ 1 (v 13) (v 12)) (n 3))
  (ck (cmp .lss (v 12) (.un .len (v 10)))
   (.jump 3 [(at_ 1 (v 10) (v 12))]))
  (.call c_intrinsic_content [(at_ 0 (v 13) (v 12)),(at_ 1 (v 13) (v 12)),(at_ 2 (v 13) (v 12)),(.bin (.cell 3 (.bool)) (v 13) (v 12)),(at_ 4 (v 13) (v 12)),(v 14),(at_ 6 (v 13) (v 12))] 1 <|
   .ite (v 15)
   (ck (cmp .lss (v 12) (.un .len (v 10)))
    (.jump 3 [(at_ 2 (v 10) (v 12))]))
   (.jump 3 [(at_ 6 (v 13) (v 12))])))
def intrinsic_Size_j10:T:=intrinsic_Size_j10_b
@[reducible] def intrinsic_Size_j13_b:T:= .jump 2 [(add (v 14) (n 1)),(v 19),(v 20),(v 18)]
def intrinsic_Size_j13:T:=intrinsic_Size_j13_b
@[reducible] def intrinsic_Size_j15_b:T:=ck (cmp .leq (n (-9223372036854775808)) (sub (at_ 1 (v 2) (v 14)) (at_ 0 (v 2) (v 14))))
 (ck (cmp .leq (sub (at_ 1 (v 2) (v 14)) (at_ 0 (v 2) (v 14))) (n 9223372036854775807))
  (ck (cmp .leq (.bin .plus (.un .len (.bin .rget (v 17) (sub (at_ 1 (v 2) (v 14)) (at_ 0 (v 2) (v 14))))) (.un .len (.bin .snoc .nil (.bin .cons (at_ 0 (v 2) (v 14)) (.bin .cons (at_ 1 (v 2) (v 14)) (.bin .cons (at_ 2 (v 2) (v 14)) (.bin .cons (at_ 3 (v 2) (v 14)) (.bin .cons (at_ 4 (v 2) (v 14)) .nilc)))))))) (n 4294967296))
   (ck (cmp .leq (.un .len (v 17)) (n 4294967296))
    (.jump 3 [(.bin .mput (v 17) (.bin .cons (sub (at_ 1 (v 2) (v 14)) (at_ 0 (v 2) (v 14))) (.bin .cons (.bin .snoc (.bin .rget (v 17) (sub (at_ 1 (v 2) (v 14)) (at_ 0 (v 2) (v 14)))) (.bin .cons (at_ 0 (v 2) (v 14)) (.bin .cons (at_ 1 (v 2) (v 14)) (.bin .cons (at_ 2 (v 2) (v 14)) (.bin .cons (at_ 3 (v 2) (v 14)) (.bin .cons (at_ 4 (v 2) (v 14)) .nilc)))))) .nilc))),(v 19),(v 16)]))))
def intrinsic_Size_j15:T:=intrinsic_Size_j15_b
@[reducible] def intrinsic_Size_j14_b:T:= .ite (cmp .geq (v 18) (n 0))
 (ck (cmp .leq (.bin .plus (.un .len (v 16)) (.un .len (.bin .snoc .nil (.bin .cons (at_ 0 (v 2) (v 14)) (.bin .cons (at_ 1 (v 2) (v 14)) (.bin .cons (at_ 2 (v 2) (v 14)) (.bin .cons (at_ 3 (v 2) (v 14)) (.bin .cons (at_ 4 (v 2) (v 14)) .nilc)))))))) (n 4294967296))
  (.jump 3 [(v 17),(v 15),(.bin .snoc (v 16) (.bin .cons (at_ 0 (v 2) (v 14)) (.bin .cons (at_ 1 (v 2) (v 14)) (.bin .cons (at_ 2 (v 2) (v 14)) (.bin .cons (at_ 3 (v 2) (v 14)) (.bin .cons (at_ 4 (v 2) (v 14)) .nilc))))))]))
 (.ite (cmp .gtr (sub (at_ 1 (v 2) (v 14)) (at_ 0 (v 2) (v 14))) (n 1))
  (.letj intrinsic_Size_j15 <|
   ck (cmp .leq (n (-9223372036854775808)) (sub (at_ 1 (v 2) (v 14)) (at_ 0 (v 2) (v 14))))
   (ck (cmp .leq (sub (at_ 1 (v 2) (v 14)) (at_ 0 (v 2) (v 14))) (n 9223372036854775807))
    (.ite (cmp .eql (.un .len (.bin .rget (v 17) (sub (at_ 1 (v 2) (v 14)) (at_ 0 (v 2) (v 14))))) (n 0))
     (ck (cmp .leq (.bin .plus (.un .len (v 15)) (.un .len (.bin .snoc .nil (.bin .cons (sub (at_ 1 (v 2) (v 14)) (at_ 0 (v 2) (v 14))) .nilc)))) (n 4294967296))
      (.jump 4 [(.bin .snoc (v 15) (.bin .cons (sub (at_ 1 (v 2) (v 14)) (at_ 0 (v 2) (v 14))) .nilc))]))
     (.jump 4 [(v 15)]))))
  (.jump 3 [(v 17),(v 15),(v 16)]))
def intrinsic_Size_j14:T:=intrinsic_Size_j14_b
@[reducible] def intrinsic_Size_l16_b:T:= .ite (cmp .lss (v 18) (.un .len (.tri .slice (v 0) (at_ 0 (v 2) (v 14)) (.bin .minus (at_ 1 (v 2) (v 14)) (at_ 0 (v 2) (v 14))))))
 (ck (cmp .leq (n 0) (v 18))
  (.call c_intrinsic_Size_1 [(at_ 0 (.tri .slice (v 0) (at_ 0 (v 2) (v 14)) (.bin .minus (at_ 1 (v 2) (v 14)) (at_ 0 (v 2) (v 14)))) (v 18)),(at_ 1 (.tri .slice (v 0) (at_ 0 (v 2) (v 14)) (.bin .minus (at_ 1 (v 2) (v 14)) (at_ 0 (v 2) (v 14)))) (v 18)),(at_ 2 (.tri .slice (v 0) (at_ 0 (v 2) (v 14)) (.bin .minus (at_ 1 (v 2) (v 14)) (at_ 0 (v 2) (v 14)))) (v 18)),(.bin (.cell 3 (.bool)) (.tri .slice (v 0) (at_ 0 (v 2) (v 14)) (.bin .minus (at_ 1 (v 2) (v 14)) (at_ 0 (v 2) (v 14)))) (v 18)),(at_ 4 (.tri .slice (v 0) (at_ 0 (v 2) (v 14)) (.bin .minus (at_ 1 (v 2) (v 14)) (at_ 0 (v 2) (v 14)))) (v 18)),(at_ 5 (.tri .slice (v 0) (at_ 0 (v 2) (v 14)) (.bin .minus (at_ 1 (v 2) (v 14)) (at_ 0 (v 2) (v 14)))) (v 18)),(at_ 6 (.tri .slice (v 0) (at_ 0 (v 2) (v 14)) (.bin .minus (at_ 1 (v 2) (v 14)) (at_ 0 (v 2) (v 14)))) (v 18))] 1 <|
   .ite (v 19)
   (.jump 4 [(v 18)])
   (.jump 5 [(add (v 18) (n 1))])))
 (.jump 4 [(n (-1))])
def intrinsic_Size_l16:T:=intrinsic_Size_l16_b
@[reducible] def intrinsic_Size_j19_b:T:=ka
def intrinsic_Size_j19:T:=intrinsic_Size_j19_b
@[reducible] def intrinsic_Size_j18_b:T:= .letj intrinsic_Size_j19 <|
 .ite (cmp .eql (v 3) (n 2))
 (.jump 4 [(.bool true),(.bool true)])
 (.jump 4 [(.bool false),(.bool false)])
def intrinsic_Size_j18:T:=intrinsic_Size_j18_b
@[reducible] def intrinsic_Size_j107_b:T:=ea
def intrinsic_Size_j107:T:=intrinsic_Size_j107_b
@[reducible] def intrinsic_Size_j106_b:T:= .letj intrinsic_Size_j107 <|
 .ite (cmp .eql (v 3) (n 2))
 (.jump 4 [(.bool true),(.bool true)])
 (.jump 4 [(.bool false),(.bool false)])
def intrinsic_Size_j106:T:=intrinsic_Size_j106_b
@[reducible] def intrinsic_Size_l17_b:T:= .ite (cmp .lss (v 18) (.un .len (.un .sort (v 15))))
 (ck (cmp .leq (n 0) (v 18))
  (ck (cmp .leq (n (-9223372036854775808)) (at_ 0 (.un .sort (v 15)) (v 18)))
   (ck (cmp .leq (at_ 0 (.un .sort (v 15)) (v 18)) (n 9223372036854775807))
    (.letj intrinsic_Size_j18 <|
     .ite (cmp .neq (v 3) (n 0))
     (.jump 4 [(.bool true)])
     (.jump 4 [(.bool false)])))))
 (.letj intrinsic_Size_j106 <|
  .ite (cmp .neq (v 3) (n 0))
  (.jump 4 [(.bool true)])
  (.jump 4 [(.bool false)]))
def intrinsic_Size_l17:T:=intrinsic_Size_l17_b
@[reducible] def intrinsic_Size_l12_b:T:= .ite (cmp .lss (v 14) (.un .len (v 2)))
 (.letj intrinsic_Size_j13 <|
  ck (cmp .leq (n 0) (v 14))
  (ck (cmp .leq (n 0) (at_ 0 (v 2) (v 14)))
   (ck (cmp .leq (at_ 0 (v 2) (v 14)) (at_ 1 (v 2) (v 14)))
    (ck (cmp .leq (at_ 1 (v 2) (v 14)) (.un .len (v 0)))
     (.letj intrinsic_Size_j14 <|
      .loop [(n 0)] intrinsic_Size_l16)))))
 (ck (cmp .leq (.un .len (v 15)) (n 4294967296))
  (.loop [(n 0),(v 13)] intrinsic_Size_l17))
def intrinsic_Size_l12:T:=intrinsic_Size_l12_b
@[reducible] def intrinsic_Size_l8_b:T:= .ite (cmp .lss (v 12) (.un .len (v 5)))
 (.letj intrinsic_Size_j9 <|
  ck (cmp .leq (n 0) (v 12))
  (ck (cmp .lss (v 12) (.un .len (v 13)))
   (ck (.bin .or (cmp .eql (at_ 1 (v 13) (v 12)) (n 5)) (cmp .lss (v 12) (.un .len (v 11))))
    (.ite (.bin .or (cmp .eql (at_ 1 (v 13) (v 12)) (n 5)) (.un .not (.bin (.cell 0 (.bool)) (v 11) (v 12))))
     (.jump 2 [(v 13)])
     (.letj intrinsic_Size_j10 <|
      .ite (cmp .eql (at_ 0 (v 13) (v 12)) (n 2))
      (ck (cmp .lss (v 12) (.un .len (v 10)))
       (.jump 3 [(.bin (.max .i64) (at_ 5 (v 13) (v 12)) (at_ 0 (v 10) (v 12)))]))
      (.ite (cmp .eql (at_ 0 (v 13) (v 12)) (n 3))
       (ck (cmp .lss (v 12) (.un .len (v 10)))
        (.jump 3 [(.bin (.max .i64) (at_ 5 (v 13) (v 12)) (at_ 1 (v 10) (v 12)))]))
       (.ite (cmp .eql (at_ 0 (v 13) (v 12)) (n 4))
        (ck (cmp .lss (v 12) (.un .len (v 10)))
         (.jump 3 [(.bin (.max .i64) (at_ 5 (v 13) (v 12)) (at_ 2 (v 10) (v 12)))]))
        (.jump 3 [(at_ 5 (v 13) (v 12))]))))))))
 (.loop [(n 0),.nil,.nil,.nil] intrinsic_Size_l12)
def intrinsic_Size_l8:T:=intrinsic_Size_l8_b
@[reducible] def intrinsic_Size_l2_b:T:= .ite (cmp .lss (v 9) (.un .len (v 2)))
 (.letj intrinsic_Size_j3 <|
  ck (cmp .leq (n 0) (v 9))
  (.ite (cmp .eql (at_ 1 (v 2) (v 9)) (add (at_ 0 (v 2) (v 9)) (n 1)))
   (ck (cmp .leq (n 0) (at_ 0 (v 2) (v 9)))
    (ck (cmp .lss (at_ 0 (v 2) (v 9)) (.un .len (v 10)))
     (ck (cmp .lss (at_ 0 (v 2) (v 9)) (.un .len (v 11)))
      (.seq intrinsic_Size_s4 1 <|
       .jump 1 [(.tri (.put 2) (.tri (.put 1) (.tri (.put 0) (v 10) (at_ 0 (v 2) (v 9)) (.bin (.max .i64) (at_ 0 (v 10) (at_ 0 (v 2) (v 9))) (v 12))) (at_ 0 (v 2) (v 9)) (.bin (.max .i64) (at_ 1 (.tri (.put 0) (v 10) (at_ 0 (v 2) (v 9)) (.bin (.max .i64) (at_ 0 (v 10) (at_ 0 (v 2) (v 9))) (v 12))) (at_ 0 (v 2) (v 9))) (at_ 3 (v 2) (v 9)))) (at_ 0 (v 2) (v 9)) (.bin (.max .i64) (at_ 2 (.tri (.put 1) (.tri (.put 0) (v 10) (at_ 0 (v 2) (v 9)) (.bin (.max .i64) (at_ 0 (v 10) (at_ 0 (v 2) (v 9))) (v 12))) (at_ 0 (v 2) (v 9)) (.bin (.max .i64) (at_ 1 (.tri (.put 0) (v 10) (at_ 0 (v 2) (v 9)) (.bin (.max .i64) (at_ 0 (v 10) (at_ 0 (v 2) (v 9))) (v 12))) (at_ 0 (v 2) (v 9))) (at_ 3 (v 2) (v 9)))) (at_ 0 (v 2) (v 9))) (at_ 4 (v 2) (v 9)))),(.tri .set (v 11) (at_ 0 (v 2) (v 9)) (.bin .cons (.bool true) .nilc))]))))
   (.jump 1 [(v 10),(v 11)])))
 (.loop [(n 0),(v 5)] intrinsic_Size_l8)
def intrinsic_Size_l2:T:=intrinsic_Size_l2_b
@[reducible] def intrinsic_Size_j1_b:T:= .loop [(n 0),(.bin .make (.bin .cons (n 0) (.bin .cons (n 0) (.bin .cons (n 0) .nilc))) (.un .len (v 5))),(.bin .make (.bin .cons (.bool false) .nilc) (.un .len (v 5)))] intrinsic_Size_l2
def intrinsic_Size_j1:T:=intrinsic_Size_j1_b
@[reducible] def intrinsic_Size_j0_b:T:= .letj intrinsic_Size_j1 <|
 .ite (cmp .eql (v 3) (n 2))
 (.jump 0 [(.bool true),(.bool true)])
 (.jump 0 [(.bool false),(.bool false)])
def intrinsic_Size_j0:T:=intrinsic_Size_j0_b
@[reducible] def intrinsic_Size_b:T:= .call c_intrinsic_Good [(v 0),(v 1),(v 2),(v 3)] 1 <|
 .ite (v 4)
 (.call c_slices_Clone___api_Sizing_api_Sizing_ [(v 0)] 1 <|
  ck (cmp .leq (.un .len (v 5)) (n 5864062014805))
  (ck (cmp .leq (.un .len (v 5)) (n 140737488355328))
   (.letj intrinsic_Size_j0 <|
    .ite (cmp .neq (v 3) (n 0))
    (.jump 0 [(.bool true)])
    (.jump 0 [(.bool false)]))))
 (.ret [.nil,(n 2)])
def intrinsic_Size:T:=intrinsic_Size_b
/- parterre/maximise.good$1 -/
abbrev c_maximise_good_1:Nat:=113
@[reducible] def maximise_good_1_b:T:= .call c_base_Good [(v 0),(v 1),(v 2),(v 3),(v 4),(v 5),(v 6)] 1 <|
 .ret [(.un .not (v 7))]
def maximise_good_1:T:=maximise_good_1_b
/- parterre/maximise.good -/
abbrev c_maximise_good:Nat:=46
@[reducible] def maximise_good_j0_b:T:= .ret [(.un .not (cmp .geq (v 1) (n 0)))]
def maximise_good_j0:T:=maximise_good_j0_b
@[reducible] def maximise_good_l1_b:T:= .ite (cmp .lss (v 1) (.un .len (v 0)))
 (ck (cmp .leq (n 0) (v 1))
  (.call c_maximise_good_1 [(at_ 0 (v 0) (v 1)),(at_ 1 (v 0) (v 1)),(at_ 2 (v 0) (v 1)),(.bin (.cell 3 (.bool)) (v 0) (v 1)),(at_ 4 (v 0) (v 1)),(at_ 5 (v 0) (v 1)),(at_ 6 (v 0) (v 1))] 1 <|
   .ite (v 2)
   (.jump 0 [(v 1)])
   (.jump 1 [(add (v 1) (n 1))])))
 (.jump 0 [(n (-1))])
def maximise_good_l1:T:=maximise_good_l1_b
@[reducible] def maximise_good_b:T:= .letj maximise_good_j0 <|
 .loop [(n 0)] maximise_good_l1
def maximise_good:T:=maximise_good_b
/- parterre/maximise.within -/
abbrev c_maximise_within:Nat:=49
@[reducible] def maximise_within_b:T:= .ite (cmp .geq (v 0) (n 0))
 (.call c_fixed_Is [(v 0)] 1 <|
  .ret [(v 1)])
 (.ret [(.bool false)])
def maximise_within:T:=maximise_within_b
/- parterre/maximise.Total$1 -/
abbrev c_maximise_Total_1:Nat:=48
@[reducible] def maximise_Total_1_b:T:= .call c_maximise_within [(v 0)] 1 <|
 .ret [(.un .not (v 1))]
def maximise_Total_1:T:=maximise_Total_1_b
/- parterre/maximise.Total -/
abbrev c_maximise_Total:Nat:=21
@[reducible] def maximise_Total_l1_b:T:= .ite (cmp .lss (v 3) (.un .len (v 0)))
 (ck (cmp .leq (n 0) (v 3))
  (ck (cmp .lss (v 3) (.un .len (v 1)))
   (.call c_fixed_Is [(add (v 4) (add (at_ 5 (v 0) (v 3)) (at_ 0 (v 1) (v 3))))] 1 <|
    .ite (v 5)
    (.jump 0 [(add (v 3) (n 1)),(add (v 4) (add (at_ 5 (v 0) (v 3)) (at_ 0 (v 1) (v 3))))])
    (.ret [(n 0),(n 10)]))))
 (.ret [(v 4),(n 0)])
def maximise_Total_l1:T:=maximise_Total_l1_b
@[reducible] def maximise_Total_j0_b:T:= .ite (v 2)
 (.ret [(n 0),(n 2)])
 (.loop [(n 0),(n 0)] maximise_Total_l1)
def maximise_Total_j0:T:=maximise_Total_j0_b
@[reducible] def maximise_Total_j2_b:T:= .jump 0 [(cmp .geq (v 3) (n 0))]
def maximise_Total_j2:T:=maximise_Total_j2_b
@[reducible] def maximise_Total_l3_b:T:= .ite (cmp .lss (v 3) (.un .len (v 1)))
 (ck (cmp .leq (n 0) (v 3))
  (.call c_maximise_Total_1 [(at_ 0 (v 1) (v 3))] 1 <|
   .ite (v 4)
   (.jump 1 [(v 3)])
   (.jump 2 [(add (v 3) (n 1))])))
 (.jump 1 [(n (-1))])
def maximise_Total_l3:T:=maximise_Total_l3_b
@[reducible] def maximise_Total_b:T:= .letj maximise_Total_j0 <|
 .call c_maximise_good [(v 0)] 1 <|
 .ite (.bin .or (.un .not (v 2)) (cmp .neq (.un .len (v 1)) (.un .len (v 0))))
 (.jump 0 [(.bool true)])
 (.letj maximise_Total_j2 <|
  .loop [(n 0)] maximise_Total_l3)
def maximise_Total:T:=maximise_Total_b
/- parterre/flex.less -/
abbrev c_flex_less:Nat:=55
@[reducible] def flex_less_l0_b:T:= .ite (cmp .lss (v 2) (.un .len (v 1)))
 (ck (cmp .leq (n 0) (v 2))
  (.jump 0 [(add (v 2) (n 1)),(.bin (.max .i64) (n 0) (sub (v 3) (at_ 0 (v 1) (v 2))))]))
 (.ret [(v 3)])
def flex_less_l0:T:=flex_less_l0_b
@[reducible] def flex_less_b:T:= .loop [(n 0),(v 0)] flex_less_l0
def flex_less:T:=flex_less_b
/- (parterre/flex.share).part -/
abbrev c_flex_share_part:Nat:=56
@[reducible] def flex_share_part_b:T:= .call c_fixed_MulDiv [(v 0),(v 3),(.bin (.max .i64) (v 1) (n 1000))] 2 <|
 .ret [(v 4)]
def flex_share_part:T:=flex_share_part_b
/- parterre/flex.shared -/
abbrev c_flex_shared:Nat:=54
@[reducible] def flex_shared_j2_b:T:= .jump 1 [(add (v 6) (n 1)),(v 10),(v 11),(v 12)]
def flex_shared_j2:T:=flex_shared_j2_b
@[reducible] def flex_shared_j4_b:T:= .jump 2 [(add (v 10) (n 1)),(v 13),(v 14)]
def flex_shared_j4:T:=flex_shared_j4_b
@[reducible] def flex_shared_l3_b:T:= .ite (cmp .lss (v 10) (.un .len (v 9)))
 (.letj flex_shared_j4 <|
  ck (cmp .leq (n 0) (v 10))
  (ck (cmp .leq (n 0) (at_ 0 (v 9) (v 10)))
   (ck (cmp .lss (at_ 0 (v 9) (v 10)) (.un .len (v 0)))
    (.call c_flex_share_part [(v 7),(v 8),(v 9),(at_ 2 (v 0) (at_ 0 (v 9) (v 10)))] 1 <|
     .ite (cmp .gtr (at_ 5 (v 0) (at_ 0 (v 9) (v 10))) (v 13))
     (ck (cmp .lss (at_ 0 (v 9) (v 10)) (.un .len (v 12)))
      (.jump 3 [(sub (v 11) (n 1)),(.tri .set (v 12) (at_ 0 (v 9) (v 10)) (.bin .cons (.bool true) .nilc))]))
     (.jump 3 [(v 11),(v 12)])))))
 (.ite (cmp .eql (v 11) (.un .len (v 9)))
  (.ret [(v 7),(v 8),(v 9)])
  (.jump 0 [(v 7),(v 8),(v 9),(v 12)]))
def flex_shared_l3:T:=flex_shared_l3_b
@[reducible] def flex_shared_l1_b:T:= .ite (cmp .lss (v 6) (.un .len (v 0)))
 (.letj flex_shared_j2 <|
  ck (cmp .leq (n 0) (v 6))
  (ck (.bin .or (cmp .neq (at_ 1 (v 0) (v 6)) (n 5)) (cmp .lss (v 6) (.un .len (v 5))))
   (.ite (.bin .or (cmp .neq (at_ 1 (v 0) (v 6)) (n 5)) (.bin (.cell 0 (.bool)) (v 5) (v 6)))
    (.jump 2 [(.bin (.max .i64) (n 0) (sub (v 7) (at_ 5 (v 0) (v 6)))),(v 8),(v 9)])
    (ck (cmp .leq (.bin .plus (.un .len (v 9)) (.un .len (.bin .snoc .nil (.bin .cons (v 6) .nilc)))) (n 4294967296))
     (.jump 2 [(v 7),(add (v 8) (at_ 2 (v 0) (v 6))),(.bin .snoc (v 9) (.bin .cons (v 6) .nilc))])))))
 (.loop [(n 0),(.un .len (v 9)),(v 5)] flex_shared_l3)
def flex_shared_l1:T:=flex_shared_l1_b
@[reducible] def flex_shared_l0_b:T:= .loop [(n 0),(v 1),(n 0),.nil] flex_shared_l1
def flex_shared_l0:T:=flex_shared_l0_b
@[reducible] def flex_shared_b:T:=ck (cmp .leq (.un .len (v 0)) (n 140737488355328))
 (.loop [(n 0),(n 0),.nil,(.bin .make (.bin .cons (.bool false) .nilc) (.un .len (v 0)))] flex_shared_l0)
def flex_shared:T:=flex_shared_b
/- parterre/flex.right$1 -/
abbrev c_flex_right_1:Nat:=118
@[reducible] def flex_right_1_b:T:= .call c_base_Good [(v 0),(v 1),(v 2),(v 3),(v 4),(v 5),(v 6)] 1 <|
 .ite (v 7)
 (.call c_fixed_Is [(v 5)] 1 <|
  .ret [(.un .not (v 8))])
 (.ret [(.bool true)])
def flex_right_1:T:=flex_right_1_b
/- parterre/flex.right -/
abbrev c_flex_right:Nat:=53
@[reducible] def flex_right_j0_b:T:= .ret [(.un .not (cmp .geq (v 3) (n 0)))]
def flex_right_j0:T:=flex_right_j0_b
@[reducible] def flex_right_l1_b:T:= .ite (cmp .lss (v 3) (.un .len (v 0)))
 (ck (cmp .leq (n 0) (v 3))
  (.call c_flex_right_1 [(at_ 0 (v 0) (v 3)),(at_ 1 (v 0) (v 3)),(at_ 2 (v 0) (v 3)),(.bin (.cell 3 (.bool)) (v 0) (v 3)),(at_ 4 (v 0) (v 3)),(at_ 5 (v 0) (v 3)),(at_ 6 (v 0) (v 3))] 1 <|
   .ite (v 4)
   (.jump 0 [(v 3)])
   (.jump 1 [(add (v 3) (n 1))])))
 (.jump 0 [(n (-1))])
def flex_right_l1:T:=flex_right_l1_b
@[reducible] def flex_right_b:T:= .ite (cmp .geq (v 1) (n 0))
 (.call c_fixed_Is [(v 1)] 1 <|
  .ite (v 2)
  (.letj flex_right_j0 <|
   .loop [(n 0)] flex_right_l1)
  (.ret [(.bool false)]))
 (.ret [(.bool false)])
def flex_right:T:=flex_right_b
/- parterre/flex.Fill -/
abbrev c_flex_Fill:Nat:=23
@[reducible] def flex_Fill_j4_b:T:= .jump 1 [(add (v 12) (n 1)),(v 14)]
def flex_Fill_j4:T:=flex_Fill_j4_b
@[reducible] def flex_Fill_l3_b:T:= .ite (cmp .lss (v 12) (.un .len (.bin .copy (.bin .make (.bin .cons (n 0) (.bin .cons (n 0) (.bin .cons (n 0) (.bin .cons (.bool false) (.bin .cons (n 0) (.bin .cons (n 0) (.bin .cons (n 0) .nilc))))))) (.un .len (v 0))) (v 0))))
 (.letj flex_Fill_j4 <|
  ck (cmp .leq (n 0) (v 12))
  (ck (cmp .lss (v 12) (.un .len (v 13)))
   (ck (cmp .leq (n (-9223372036854775808)) (v 12))
    (ck (cmp .leq (v 12) (n 9223372036854775807))
     (ck (cmp .lss (v 12) (.un .len (.tri (.put 5) (v 13) (v 12) (.bin (.max .i64) (at_ 5 (v 13) (v 12)) (.bin .mget (v 11) (v 12))))))
      (.call c_base_Raise [(at_ 0 (.tri (.put 5) (v 13) (v 12) (.bin (.max .i64) (at_ 5 (v 13) (v 12)) (.bin .mget (v 11) (v 12)))) (v 12)),(at_ 1 (.tri (.put 5) (v 13) (v 12) (.bin (.max .i64) (at_ 5 (v 13) (v 12)) (.bin .mget (v 11) (v 12)))) (v 12)),(at_ 2 (.tri (.put 5) (v 13) (v 12) (.bin (.max .i64) (at_ 5 (v 13) (v 12)) (.bin .mget (v 11) (v 12)))) (v 12)),(.bin (.cell 3 (.bool)) (.tri (.put 5) (v 13) (v 12) (.bin (.max .i64) (at_ 5 (v 13) (v 12)) (.bin .mget (v 11) (v 12)))) (v 12)),(at_ 4 (.tri (.put 5) (v 13) (v 12) (.bin (.max .i64) (at_ 5 (v 13) (v 12)) (.bin .mget (v 11) (v 12)))) (v 12)),(at_ 5 (.tri (.put 5) (v 13) (v 12) (.bin (.max .i64) (at_ 5 (v 13) (v 12)) (.bin .mget (v 11) (v 12)))) (v 12)),(at_ 6 (.tri (.put 5) (v 13) (v 12) (.bin (.max .i64) (at_ 5 (v 13) (v 12)) (.bin .mget (v 11) (v 12)))) (v 12))] 7 <|
       .ite (.bin .and (cmp .eql (v 14) (at_ 0 (.tri (.put 5) (v 13) (v 12) (.bin (.max .i64) (at_ 5 (v 13) (v 12)) (.bin .mget (v 11) (v 12)))) (v 12))) (.bin .and (cmp .eql (v 15) (at_ 1 (.tri (.put 5) (v 13) (v 12) (.bin (.max .i64) (at_ 5 (v 13) (v 12)) (.bin .mget (v 11) (v 12)))) (v 12))) (.bin .and (cmp .eql (v 16) (at_ 2 (.tri (.put 5) (v 13) (v 12) (.bin (.max .i64) (at_ 5 (v 13) (v 12)) (.bin .mget (v 11) (v 12)))) (v 12))) (.bin .and (.bin .beq (v 17) (.bin (.cell 3 (.bool)) (.tri (.put 5) (v 13) (v 12) (.bin (.max .i64) (at_ 5 (v 13) (v 12)) (.bin .mget (v 11) (v 12)))) (v 12))) (.bin .and (cmp .eql (v 18) (at_ 4 (.tri (.put 5) (v 13) (v 12) (.bin (.max .i64) (at_ 5 (v 13) (v 12)) (.bin .mget (v 11) (v 12)))) (v 12))) (.bin .and (cmp .eql (v 19) (at_ 5 (.tri (.put 5) (v 13) (v 12) (.bin (.max .i64) (at_ 5 (v 13) (v 12)) (.bin .mget (v 11) (v 12)))) (v 12))) (cmp .eql (v 20) (at_ 6 (.tri (.put 5) (v 13) (v 12) (.bin (.max .i64) (at_ 5 (v 13) (v 12)) (.bin .mget (v 11) (v 12)))) (v 12)))))))))
       (.jump 2 [(.tri (.put 5) (v 13) (v 12) (.bin (.max .i64) (at_ 5 (v 13) (v 12)) (.bin .mget (v 11) (v 12))))])
       (.jump 2 [(.tri .set (.tri (.put 5) (v 13) (v 12) (.bin (.max .i64) (at_ 5 (v 13) (v 12)) (.bin .mget (v 11) (v 12)))) (v 12) (.bin .cons (v 14) (.bin .cons (v 15) (.bin .cons (v 16) (.bin .cons (v 17) (.bin .cons (v 18) (.bin .cons (v 19) (.bin .cons (v 20) .nilc))))))))])))))))
 (.ret [(v 13)])
def flex_Fill_l3:T:=flex_Fill_l3_b
@[reducible] def flex_Fill_j2_b:T:=ck (cmp .leq (.un .len (v 0)) (n 2513169434916))
 (.loop [(n 0),(.bin .copy (.bin .make (.bin .cons (n 0) (.bin .cons (n 0) (.bin .cons (n 0) (.bin .cons (.bool false) (.bin .cons (n 0) (.bin .cons (n 0) (.bin .cons (n 0) .nilc))))))) (.un .len (v 0))) (v 0))] flex_Fill_l3)
def flex_Fill_j2:T:=flex_Fill_j2_b
@[reducible] def flex_Fill_l5_b:T:= .ite (cmp .lss (v 12) (.un .len (v 11)))
 (ck (cmp .leq (n 0) (v 12))
  (ck (cmp .lss (v 12) (.un .len (v 7)))
   (ck (cmp .leq (n (-9223372036854775808)) (at_ 0 (v 7) (v 12)))
    (ck (cmp .leq (at_ 0 (v 7) (v 12)) (n 9223372036854775807))
     (ck (cmp .leq (n (-9223372036854775808)) (at_ 0 (v 11) (v 12)))
      (ck (cmp .leq (at_ 0 (v 11) (v 12)) (n 9223372036854775807))
       (ck (cmp .leq (.un .len (v 13)) (n 4294967296))
        (.jump 2 [(add (v 12) (n 1)),(.bin .mput (v 13) (.bin .cons (at_ 0 (v 7) (v 12)) (.bin .cons (at_ 0 (v 11) (v 12)) .nilc)))]))))))))
 (.jump 1 [(v 13)])
def flex_Fill_l5:T:=flex_Fill_l5_b
@[reducible] def flex_Fill_l1_b:T:= .ite (cmp .lss (v 8) (.un .len (v 7)))
 (ck (cmp .leq (n 0) (v 8))
  (ck (cmp .leq (n 0) (at_ 0 (v 7) (v 8)))
   (ck (cmp .lss (at_ 0 (v 7) (v 8)) (.un .len (v 0)))
    (ck (cmp .lss (v 8) (.un .len (v 9)))
     (.call c_flex_share_part [(v 5),(v 6),(v 7),(at_ 2 (v 0) (at_ 0 (v 7) (v 8)))] 1 <|
      ck (cmp .leq (n (-9223372036854775808)) (at_ 0 (v 7) (v 8)))
      (ck (cmp .leq (at_ 0 (v 7) (v 8)) (n 9223372036854775807))
       (ck (cmp .leq (n (-9223372036854775808)) (v 11))
        (ck (cmp .leq (v 11) (n 9223372036854775807))
         (ck (cmp .leq (.un .len (v 10)) (n 4294967296))
          (.jump 0 [(add (v 8) (n 1)),(.tri .set (v 9) (v 8) (.bin .cons (at_ 2 (v 0) (at_ 0 (v 7) (v 8))) .nilc)),(.bin .mput (v 10) (.bin .cons (at_ 0 (v 7) (v 8)) (.bin .cons (v 11) .nilc)))]))))))))))
 (.letj flex_Fill_j2 <|
  .ite (cmp .geq (v 6) (n 1000))
  (.call c_fixed_Share [(v 5),(v 9)] 1 <|
   .loop [(n 0),(v 10)] flex_Fill_l5)
  (.jump 1 [(v 10)]))
def flex_Fill_l1:T:=flex_Fill_l1_b
@[reducible] def flex_Fill_j0_b:T:= .ite (v 3)
 (.ret [(v 0)])
 (.call c_flex_less [(v 2),(v 1)] 1 <|
  .call c_flex_shared [(v 0),(v 4)] 3 <|
  ck (cmp .leq (.un .len (v 7)) (n 17592186044416))
  (.loop [(n 0),(.bin .make (.bin .cons (n 0) .nilc) (.un .len (v 7))),.nil] flex_Fill_l1))
def flex_Fill_j0:T:=flex_Fill_j0_b
@[reducible] def flex_Fill_b:T:= .letj flex_Fill_j0 <|
 .call c_flex_right [(v 0),(v 2)] 1 <|
 .ite (v 3)
 (.call c_intrinsic_Good [(v 0),(v 1),.nil,(n 0)] 1 <|
  .jump 0 [(.un .not (v 4))])
 (.jump 0 [(.bool true)])
def flex_Fill:T:=flex_Fill_b
/- parterre/maximise.Stretch -/
abbrev c_maximise_Stretch:Nat:=24
@[reducible] def maximise_Stretch_j2_b:T:= .jump 0 [(add (v 3) (n 1)),(v 5)]
def maximise_Stretch_j2:T:=maximise_Stretch_j2_b
@[reducible] def maximise_Stretch_l4_b:T:= .ite (cmp .lss (v 8) (.un .len (.bin .copy (.bin .make (.bin .cons (n 0) (.bin .cons (n 0) (.bin .cons (n 0) (.bin .cons (.bool false) (.bin .cons (n 0) (.bin .cons (n 0) (.bin .cons (n 0) .nilc))))))) (.un .len (v 0))) (v 0))))
 (ck (cmp .leq (n 0) (v 8))
  (ck (cmp .lss (v 8) (.un .len (v 9)))
   (ck (cmp .lss (v 8) (.un .len (v 7)))
    (.call c_base_Raise [(at_ 0 (.tri (.put 5) (v 9) (v 8) (add (at_ 5 (v 9) (v 8)) (at_ 0 (v 7) (v 8)))) (v 8)),(at_ 1 (.tri (.put 5) (v 9) (v 8) (add (at_ 5 (v 9) (v 8)) (at_ 0 (v 7) (v 8)))) (v 8)),(at_ 2 (.tri (.put 5) (v 9) (v 8) (add (at_ 5 (v 9) (v 8)) (at_ 0 (v 7) (v 8)))) (v 8)),(.bin (.cell 3 (.bool)) (.tri (.put 5) (v 9) (v 8) (add (at_ 5 (v 9) (v 8)) (at_ 0 (v 7) (v 8)))) (v 8)),(at_ 4 (.tri (.put 5) (v 9) (v 8) (add (at_ 5 (v 9) (v 8)) (at_ 0 (v 7) (v 8)))) (v 8)),(at_ 5 (.tri (.put 5) (v 9) (v 8) (add (at_ 5 (v 9) (v 8)) (at_ 0 (v 7) (v 8)))) (v 8)),(at_ 6 (.tri (.put 5) (v 9) (v 8) (add (at_ 5 (v 9) (v 8)) (at_ 0 (v 7) (v 8)))) (v 8))] 7 <|
     .jump 2 [(add (v 8) (n 1)),(.tri .set (.tri (.put 5) (v 9) (v 8) (add (at_ 5 (v 9) (v 8)) (at_ 0 (v 7) (v 8)))) (v 8) (.bin .cons (v 10) (.bin .cons (v 11) (.bin .cons (v 12) (.bin .cons (v 13) (.bin .cons (v 14) (.bin .cons (v 15) (.bin .cons (v 16) .nilc))))))))]))))
 (.ret [(v 9)])
def maximise_Stretch_l4:T:=maximise_Stretch_l4_b
@[reducible] def maximise_Stretch_l3_b:T:= .ite (cmp .lss (v 6) (.un .len (v 5)))
 (ck (cmp .leq (n 0) (v 6))
  (ck (cmp .lss (v 6) (.un .len (v 4)))
   (ck (cmp .leq (n 0) (at_ 0 (v 4) (v 6)))
    (ck (cmp .lss (at_ 0 (v 4) (v 6)) (.un .len (v 7)))
     (.jump 1 [(add (v 6) (n 1)),(.tri .set (v 7) (at_ 0 (v 4) (v 6)) (.bin .cons (at_ 0 (v 5) (v 6)) .nilc))])))))
 (ck (cmp .leq (.un .len (v 0)) (n 2513169434916))
  (.loop [(n 0),(.bin .copy (.bin .make (.bin .cons (n 0) (.bin .cons (n 0) (.bin .cons (n 0) (.bin .cons (.bool false) (.bin .cons (n 0) (.bin .cons (n 0) (.bin .cons (n 0) .nilc))))))) (.un .len (v 0))) (v 0))] maximise_Stretch_l4))
def maximise_Stretch_l3:T:=maximise_Stretch_l3_b
@[reducible] def maximise_Stretch_l1_b:T:= .ite (cmp .lss (v 3) (.un .len (v 0)))
 (.letj maximise_Stretch_j2 <|
  ck (cmp .leq (n 0) (v 3))
  (.ite (cmp .eql (at_ 1 (v 0) (v 3)) (n 2))
   (ck (cmp .leq (.bin .plus (.un .len (v 4)) (.un .len (.bin .snoc .nil (.bin .cons (v 3) .nilc)))) (n 4294967296))
    (.jump 1 [(.bin .snoc (v 4) (.bin .cons (v 3) .nilc))]))
   (.jump 1 [(v 4)])))
 (ck (cmp .leq (.un .len (v 0)) (n 17592186044416))
  (.call c_fixed_Split [(v 1),(.un .len (v 4))] 1 <|
   .loop [(n 0),(.bin .make (.bin .cons (n 0) .nilc) (.un .len (v 0)))] maximise_Stretch_l3))
def maximise_Stretch_l1:T:=maximise_Stretch_l1_b
@[reducible] def maximise_Stretch_j0_b:T:= .ite (v 2)
 (.ret [(v 0)])
 (.loop [(n 0),.nil] maximise_Stretch_l1)
def maximise_Stretch_j0:T:=maximise_Stretch_j0_b
@[reducible] def maximise_Stretch_b:T:= .letj maximise_Stretch_j0 <|
 .call c_maximise_good [(v 0)] 1 <|
 .ite (v 2)
 (.call c_maximise_within [(v 1)] 1 <|
  .jump 0 [(.un .not (v 3))])
 (.jump 0 [(.bool true)])
def maximise_Stretch:T:=maximise_Stretch_b
/- parterre/maximise.Grow -/
abbrev c_maximise_Grow:Nat:=22
@[reducible] def maximise_Grow_l2_b:T:= .ite (cmp .lss (v 6) (.un .len (.bin .copy (.bin .make (.bin .cons (n 0) (.bin .cons (n 0) (.bin .cons (n 0) (.bin .cons (.bool false) (.bin .cons (n 0) (.bin .cons (n 0) (.bin .cons (n 0) .nilc))))))) (.un .len (v 0))) (v 0))))
 (ck (cmp .leq (n 0) (v 6))
  (ck (cmp .lss (v 6) (.un .len (v 7)))
   (ck (cmp .lss (v 6) (.un .len (v 5)))
    (.jump 1 [(add (v 6) (n 1)),(.tri (.put 5) (v 7) (v 6) (add (at_ 5 (v 7) (v 6)) (at_ 0 (v 5) (v 6))))]))))
 (.ret [(v 7)])
def maximise_Grow_l2:T:=maximise_Grow_l2_b
@[reducible] def maximise_Grow_l1_b:T:= .ite (cmp .lss (v 3) (.un .len (v 0)))
 (ck (cmp .leq (n 0) (v 3))
  (ck (cmp .lss (v 3) (.un .len (v 4)))
   (.jump 0 [(add (v 3) (n 1)),(.tri .set (v 4) (v 3) (.bin .cons (sub (at_ 6 (v 0) (v 3)) (at_ 5 (v 0) (v 3))) .nilc))])))
 (.call c_spread_Up [(v 1),(v 4)] 1 <|
  ck (cmp .leq (.un .len (v 0)) (n 2513169434916))
  (.loop [(n 0),(.bin .copy (.bin .make (.bin .cons (n 0) (.bin .cons (n 0) (.bin .cons (n 0) (.bin .cons (.bool false) (.bin .cons (n 0) (.bin .cons (n 0) (.bin .cons (n 0) .nilc))))))) (.un .len (v 0))) (v 0))] maximise_Grow_l2))
def maximise_Grow_l1:T:=maximise_Grow_l1_b
@[reducible] def maximise_Grow_j0_b:T:= .ite (v 2)
 (.ret [(v 0)])
 (ck (cmp .leq (.un .len (v 0)) (n 17592186044416))
  (.loop [(n 0),(.bin .make (.bin .cons (n 0) .nilc) (.un .len (v 0)))] maximise_Grow_l1))
def maximise_Grow_j0:T:=maximise_Grow_j0_b
@[reducible] def maximise_Grow_b:T:= .letj maximise_Grow_j0 <|
 .call c_maximise_good [(v 0)] 1 <|
 .ite (v 2)
 (.call c_maximise_within [(v 1)] 1 <|
  .jump 0 [(.un .not (v 3))])
 (.jump 0 [(.bool true)])
def maximise_Grow:T:=maximise_Grow_b
/- parterre/maximise.Full -/
abbrev c_maximise_Full:Nat:=26
@[reducible] def maximise_Full_j1_b:T:= .jump 0 [(add (v 2) (n 1)),(v 4)]
def maximise_Full_j1:T:=maximise_Full_j1_b
@[reducible] def maximise_Full_l0_b:T:= .ite (cmp .lss (v 2) (.un .len (.bin .copy (.bin .make (.bin .cons (n 0) (.bin .cons (n 0) (.bin .cons (n 0) (.bin .cons (.bool false) (.bin .cons (n 0) (.bin .cons (n 0) (.bin .cons (n 0) .nilc))))))) (.un .len (v 0))) (v 0))))
 (ck (cmp .leq (n 0) (v 2))
  (ck (cmp .lss (v 2) (.un .len (v 3)))
   (.letj maximise_Full_j1 <|
    .ite (cmp .neq (at_ 6 (v 3) (v 2)) (n 1125899906842624))
    (.jump 1 [(.tri (.put 5) (v 3) (v 2) (at_ 6 (v 3) (v 2)))])
    (.jump 1 [(v 3)]))))
 (.ret [(v 3)])
def maximise_Full_l0:T:=maximise_Full_l0_b
@[reducible] def maximise_Full_b:T:= .call c_maximise_good [(v 0)] 1 <|
 .ite (v 1)
 (ck (cmp .leq (.un .len (v 0)) (n 2513169434916))
  (.loop [(n 0),(.bin .copy (.bin .make (.bin .cons (n 0) (.bin .cons (n 0) (.bin .cons (n 0) (.bin .cons (.bool false) (.bin .cons (n 0) (.bin .cons (n 0) (.bin .cons (n 0) .nilc))))))) (.un .len (v 0))) (v 0))] maximise_Full_l0))
 (.ret [(v 0)])
def maximise_Full:T:=maximise_Full_b
/- parterre/flex.up -/
abbrev c_flex_up:Nat:=62
@[reducible] def flex_up_b:T:= .call c_fixed_MulDiv [(.un (.neg .i64) (v 0)),(v 1),(v 2)] 2 <|
 .ret [(.un (.neg .i64) (v 3))]
def flex_up:T:=flex_up_b
/- parterre/flex.Unit -/
abbrev c_flex_Unit:Nat:=63
@[reducible] def flex_Unit_b:T:= .call c_flex_right [(v 0),(v 1)] 1 <|
 .ite (v 2)
 (.call c_flex_shared [(v 0),(v 1)] 3 <|
  .ite (cmp .eql (.un .len (v 5)) (n 0))
  (.ret [(n 0)])
  (.call c_flex_up [(v 3),(n 1000),(.bin (.max .i64) (v 4) (n 1000))] 1 <|
   .ret [(v 6)]))
 (.ret [(n 0)])
def flex_Unit:T:=flex_Unit_b
/- parterre/flex.Grow -/
abbrev c_flex_Grow:Nat:=25
@[reducible] def flex_Grow_j2_b:T:= .jump 0 [(add (v 4) (n 1)),(v 6)]
def flex_Grow_j2:T:=flex_Grow_j2_b
@[reducible] def flex_Grow_j5_b:T:= .jump 2 [(add (v 8) (n 1)),(v 10)]
def flex_Grow_j5:T:=flex_Grow_j5_b
@[reducible] def flex_Grow_j7_b:T:= .jump 3 [(add (v 10) (n 1)),(v 12)]
def flex_Grow_j7:T:=flex_Grow_j7_b
@[reducible] def flex_Grow_l6_b:T:= .ite (cmp .lss (v 10) (.un .len (.bin .copy (.bin .make (.bin .cons (n 0) (.bin .cons (n 0) (.bin .cons (n 0) (.bin .cons (.bool false) (.bin .cons (n 0) (.bin .cons (n 0) (.bin .cons (n 0) .nilc))))))) (.un .len (v 0))) (v 0))))
 (.letj flex_Grow_j7 <|
  ck (cmp .leq (n 0) (v 10))
  (ck (cmp .lss (v 10) (.un .len (v 11)))
   (ck (cmp .leq (n (-9223372036854775808)) (v 10))
    (ck (cmp .leq (v 10) (n 9223372036854775807))
     (ck (cmp .lss (v 10) (.un .len (.tri (.put 5) (v 11) (v 10) (.bin (.max .i64) (at_ 5 (v 11) (v 10)) (.bin .mget (v 9) (v 10))))))
      (.call c_base_Raise [(at_ 0 (.tri (.put 5) (v 11) (v 10) (.bin (.max .i64) (at_ 5 (v 11) (v 10)) (.bin .mget (v 9) (v 10)))) (v 10)),(at_ 1 (.tri (.put 5) (v 11) (v 10) (.bin (.max .i64) (at_ 5 (v 11) (v 10)) (.bin .mget (v 9) (v 10)))) (v 10)),(at_ 2 (.tri (.put 5) (v 11) (v 10) (.bin (.max .i64) (at_ 5 (v 11) (v 10)) (.bin .mget (v 9) (v 10)))) (v 10)),(.bin (.cell 3 (.bool)) (.tri (.put 5) (v 11) (v 10) (.bin (.max .i64) (at_ 5 (v 11) (v 10)) (.bin .mget (v 9) (v 10)))) (v 10)),(at_ 4 (.tri (.put 5) (v 11) (v 10) (.bin (.max .i64) (at_ 5 (v 11) (v 10)) (.bin .mget (v 9) (v 10)))) (v 10)),(at_ 5 (.tri (.put 5) (v 11) (v 10) (.bin (.max .i64) (at_ 5 (v 11) (v 10)) (.bin .mget (v 9) (v 10)))) (v 10)),(at_ 6 (.tri (.put 5) (v 11) (v 10) (.bin (.max .i64) (at_ 5 (v 11) (v 10)) (.bin .mget (v 9) (v 10)))) (v 10))] 7 <|
       .ite (.bin .and (cmp .eql (v 12) (at_ 0 (.tri (.put 5) (v 11) (v 10) (.bin (.max .i64) (at_ 5 (v 11) (v 10)) (.bin .mget (v 9) (v 10)))) (v 10))) (.bin .and (cmp .eql (v 13) (at_ 1 (.tri (.put 5) (v 11) (v 10) (.bin (.max .i64) (at_ 5 (v 11) (v 10)) (.bin .mget (v 9) (v 10)))) (v 10))) (.bin .and (cmp .eql (v 14) (at_ 2 (.tri (.put 5) (v 11) (v 10) (.bin (.max .i64) (at_ 5 (v 11) (v 10)) (.bin .mget (v 9) (v 10)))) (v 10))) (.bin .and (.bin .beq (v 15) (.bin (.cell 3 (.bool)) (.tri (.put 5) (v 11) (v 10) (.bin (.max .i64) (at_ 5 (v 11) (v 10)) (.bin .mget (v 9) (v 10)))) (v 10))) (.bin .and (cmp .eql (v 16) (at_ 4 (.tri (.put 5) (v 11) (v 10) (.bin (.max .i64) (at_ 5 (v 11) (v 10)) (.bin .mget (v 9) (v 10)))) (v 10))) (.bin .and (cmp .eql (v 17) (at_ 5 (.tri (.put 5) (v 11) (v 10) (.bin (.max .i64) (at_ 5 (v 11) (v 10)) (.bin .mget (v 9) (v 10)))) (v 10))) (cmp .eql (v 18) (at_ 6 (.tri (.put 5) (v 11) (v 10) (.bin (.max .i64) (at_ 5 (v 11) (v 10)) (.bin .mget (v 9) (v 10)))) (v 10)))))))))
       (.jump 4 [(.tri (.put 5) (v 11) (v 10) (.bin (.max .i64) (at_ 5 (v 11) (v 10)) (.bin .mget (v 9) (v 10))))])
       (.jump 4 [(.tri .set (.tri (.put 5) (v 11) (v 10) (.bin (.max .i64) (at_ 5 (v 11) (v 10)) (.bin .mget (v 9) (v 10)))) (v 10) (.bin .cons (v 12) (.bin .cons (v 13) (.bin .cons (v 14) (.bin .cons (v 15) (.bin .cons (v 16) (.bin .cons (v 17) (.bin .cons (v 18) .nilc))))))))])))))))
 (.ret [(v 11)])
def flex_Grow_l6:T:=flex_Grow_l6_b
@[reducible] def flex_Grow_l4_b:T:= .ite (cmp .lss (v 8) (.un .len (v 0)))
 (.letj flex_Grow_j5 <|
  ck (cmp .leq (n 0) (v 8))
  (.ite (cmp .eql (at_ 1 (v 0) (v 8)) (n 5))
   (.call c_fixed_MulDiv [(v 7),(at_ 2 (v 0) (v 8)),(n 1000)] 2 <|
    ck (cmp .leq (n (-9223372036854775808)) (v 8))
    (ck (cmp .leq (v 8) (n 9223372036854775807))
     (ck (cmp .leq (n (-9223372036854775808)) (.bin (.min .i64) (v 10) (n 68719476736)))
      (ck (cmp .leq (.bin (.min .i64) (v 10) (n 68719476736)) (n 9223372036854775807))
       (ck (cmp .leq (.un .len (v 9)) (n 4294967296))
        (.jump 3 [(.bin .mput (v 9) (.bin .cons (v 8) (.bin .cons (.bin (.min .i64) (v 10) (n 68719476736)) .nilc)))]))))))
   (.jump 3 [(v 9)])))
 (ck (cmp .leq (.un .len (v 0)) (n 2513169434916))
  (.loop [(n 0),(.bin .copy (.bin .make (.bin .cons (n 0) (.bin .cons (n 0) (.bin .cons (n 0) (.bin .cons (.bool false) (.bin .cons (n 0) (.bin .cons (n 0) (.bin .cons (n 0) .nilc))))))) (.un .len (v 0))) (v 0))] flex_Grow_l6))
def flex_Grow_l4:T:=flex_Grow_l4_b
@[reducible] def flex_Grow_l3_b:T:= .ite (cmp .lss (v 6) (.un .len (v 2)))
 (ck (cmp .leq (n 0) (v 6))
  (ck (cmp .leq (n 0) (at_ 0 (v 2) (v 6)))
   (ck (cmp .leq (at_ 0 (v 2) (v 6)) (at_ 1 (v 2) (v 6)))
    (ck (cmp .leq (at_ 1 (v 2) (v 6)) (.un .len (v 0)))
     (ck (cmp .leq (n 0) (add (at_ 0 (v 2) (v 6)) (n 1)))
      (ck (cmp .leq (add (at_ 0 (v 2) (v 6)) (n 1)) (at_ 1 (v 2) (v 6)))
       (ck (cmp .leq (at_ 1 (v 2) (v 6)) (.un .len (v 1)))
        (.call c_flex_less [(at_ 4 (v 2) (v 6)),(.tri .slice (v 1) (add (at_ 0 (v 2) (v 6)) (n 1)) (.bin .minus (at_ 1 (v 2) (v 6)) (add (at_ 0 (v 2) (v 6)) (n 1))))] 1 <|
         .call c_flex_Unit [(.tri .slice (v 0) (at_ 0 (v 2) (v 6)) (.bin .minus (at_ 1 (v 2) (v 6)) (at_ 0 (v 2) (v 6)))),(v 8)] 1 <|
         .jump 1 [(add (v 6) (n 1)),(.bin (.max .i64) (v 7) (v 9))]))))))))
 (.loop [(n 0),.nil] flex_Grow_l4)
def flex_Grow_l3:T:=flex_Grow_l3_b
@[reducible] def flex_Grow_l1_b:T:= .ite (cmp .lss (v 4) (.un .len (v 0)))
 (.letj flex_Grow_j2 <|
  ck (cmp .leq (n 0) (v 4))
  (.ite (cmp .eql (at_ 1 (v 0) (v 4)) (n 5))
   (.call c_flex_up [(at_ 5 (v 0) (v 4)),(n 1000),(.bin (.max .i64) (at_ 2 (v 0) (v 4)) (n 1000))] 1 <|
    .jump 1 [(.bin (.max .i64) (v 5) (v 6))])
   (.jump 1 [(v 5)])))
 (.loop [(n 0),(v 5)] flex_Grow_l3)
def flex_Grow_l1:T:=flex_Grow_l1_b
@[reducible] def flex_Grow_j0_b:T:= .ite (v 3)
 (.ret [(v 0)])
 (.loop [(n 0),(n 0)] flex_Grow_l1)
def flex_Grow_j0:T:=flex_Grow_j0_b
@[reducible] def flex_Grow_b:T:= .letj flex_Grow_j0 <|
 .call c_flex_right [(v 0),(n 0)] 1 <|
 .ite (v 3)
 (.call c_intrinsic_Good [(v 0),(v 1),(v 2),(n 0)] 1 <|
  .jump 0 [(.un .not (v 4))])
 (.jump 0 [(.bool true)])
def flex_Grow:T:=flex_Grow_b
/- parterre/tracks.within -/
abbrev c_tracks_within:Nat:=17
@[reducible] def tracks_within_b:T:= .ite (cmp .geq (v 0) (n 0))
 (.call c_fixed_Is [(v 0)] 1 <|
  .ret [(v 1)])
 (.ret [(.bool false)])
def tracks_within:T:=tracks_within_b
/- parterre/tracks.Size -/
abbrev c_tracks_Size:Nat:=10
@[reducible] def tracks_Size_j0_b:T:= .ret [.nil,(n 2)]
def tracks_Size_j0:T:=tracks_Size_j0_b
@[reducible] def tracks_Size_l3_b:T:= .ite (cmp .lss (v 16) (.un .len (v 13)))
 (ck (cmp .leq (n 0) (v 16))
  (ck (cmp .lss (v 16) (.un .len (v 17)))
   (.jump 1 [(add (v 16) (n 1)),(.tri .set (v 17) (v 16) (.bin .cons (at_ 5 (v 13) (v 16)) .nilc))])))
 (.ret [(v 17),(n 0)])
def tracks_Size_l3:T:=tracks_Size_l3_b
@[reducible] def tracks_Size_j2_b:T:= .call c_maximise_Total [(v 13),(v 3)] 2 <|
 .ite (cmp .neq (v 15) (n 0))
 (.ret [.nil,(v 15)])
 (ck (cmp .leq (.un .len (v 13)) (n 17592186044416))
  (.loop [(n 0),(.bin .make (.bin .cons (n 0) .nilc) (.un .len (v 13)))] tracks_Size_l3))
def tracks_Size_j2:T:=tracks_Size_j2_b
@[reducible] def tracks_Size_j5_b:T:= .ite (cmp .neq (v 18) (n 0))
 (.ret [.nil,(v 18)])
 (.jump 1 [(v 19)])
def tracks_Size_j5:T:=tracks_Size_j5_b
@[reducible] def tracks_Size_j4_b:T:= .ite (cmp .neq (v 14) (n 0))
 (.ret [.nil,(v 14)])
 (.call c_flex_Fill [(v 15),(v 3),(v 4)] 1 <|
  .ite (v 7)
  (.call c_maximise_Total [(v 16),(v 3)] 2 <|
   .letj tracks_Size_j5 <|
   .ite (.bin .and (cmp .eql (v 18) (n 0)) (cmp .gtr (v 4) (v 17)))
   (.call c_maximise_Stretch [(v 16),(sub (v 4) (v 17))] 1 <|
    .jump 2 [(v 19)])
   (.jump 2 [(v 16)]))
  (.jump 1 [(v 16)]))
def tracks_Size_j4:T:=tracks_Size_j4_b
@[reducible] def tracks_Size_j1_b:T:= .ite (v 8)
 (.jump 0 [])
 (.call c_base_All [(v 0),(v 1),(v 2),(v 3),(v 4),(cmp .eql (v 5) (n 0))] 2 <|
  .ite (cmp .neq (v 10) (n 0))
  (.ret [.nil,(v 10)])
  (.call c_intrinsic_Size [(v 9),(v 3),(v 6),(v 5)] 2 <|
   .ite (cmp .neq (v 12) (n 0))
   (.ret [.nil,(v 12)])
   (.letj tracks_Size_j2 <|
    .ite (cmp .eql (v 5) (n 0))
    (.call c_maximise_Total [(v 11),(v 3)] 2 <|
     .letj tracks_Size_j4 <|
     .ite (.bin .and (cmp .eql (v 14) (n 0)) (cmp .gtr (v 4) (v 13)))
     (.call c_maximise_Grow [(v 11),(sub (v 4) (v 13))] 1 <|
      .jump 2 [(v 15)])
     (.jump 2 [(v 11)]))
    (.ite (cmp .eql (v 5) (n 2))
     (.call c_maximise_Full [(v 11)] 1 <|
      .call c_flex_Grow [(v 13),(v 3),(v 6)] 1 <|
      .jump 1 [(v 14)])
     (.jump 1 [(v 11)])))))
def tracks_Size_j1:T:=tracks_Size_j1_b
@[reducible] def tracks_Size_b:T:= .letj tracks_Size_j0 <|
 .ite (.bin .or (cmp .lss (v 5) (n 0)) (cmp .gtr (v 5) (n 2)))
 (.jump 0 [])
 (.letj tracks_Size_j1 <|
  .call c_implicit_Good [(v 0),(v 1),(v 2),(v 3)] 1 <|
  .ite (.bin .and (v 8) (cmp .eql (v 5) (n 0)))
  (.call c_tracks_within [(v 4)] 1 <|
   .jump 1 [(.un .not (v 9))])
  (.jump 1 [(.bin .and (.un .not (v 8)) (.bool true))]))
def tracks_Size:T:=tracks_Size_b
/- parterre/parterrelaw27.px -/
abbrev c_law27_px:Nat:=15
@[reducible] def law27_px_b:T:= .ret [(n 2),(v 0)]
def law27_px:T:=law27_px_b
/- parterre/tracks.Sum -/
abbrev c_tracks_Sum:Nat:=13
@[reducible] def tracks_Sum_l1_b:T:= .ite (cmp .lss (v 7) (.un .len (v 4)))
 (ck (cmp .leq (n 0) (v 7))
  (ck (cmp .lss (v 7) (.un .len (v 3)))
   (.call c_fixed_Is [(add (v 8) (add (at_ 0 (v 4) (v 7)) (at_ 0 (v 3) (v 7))))] 1 <|
    .ite (v 9)
    (.jump 1 [(add (v 7) (n 1)),(add (v 8) (add (at_ 0 (v 4) (v 7)) (at_ 0 (v 3) (v 7))))])
    (.ret [(n 0),(n 10)]))))
 (.ret [(v 8),(n 0)])
def tracks_Sum_l1:T:=tracks_Sum_l1_b
@[reducible] def tracks_Sum_l0_b:T:= .ite (cmp .lss (v 6) (.un .len (v 4)))
 (ck (cmp .leq (n 0) (v 6))
  (.call c_tracks_within [(at_ 0 (v 4) (v 6))] 1 <|
   .ite (v 7)
   (.jump 0 [(add (v 6) (n 1))])
   (.ret [(n 0),(n 2)])))
 (.loop [(n 0),(n 0)] tracks_Sum_l1)
def tracks_Sum_l0:T:=tracks_Sum_l0_b
@[reducible] def tracks_Sum_b:T:= .call c_implicit_Good [(v 0),(v 1),(v 2),(v 3)] 1 <|
 .ite (.bin .or (.un .not (v 5)) (cmp .neq (.un .len (v 4)) (.un .len (v 1))))
 (.ret [(n 0),(n 2)])
 (.loop [(n 0)] tracks_Sum_l0)
def tracks_Sum:T:=tracks_Sum_b
/- parterre/parterreref01.Ints -/
abbrev c_ref01_Ints:Nat:=12
@[reducible] def ref01_Ints_l0_b:T:= .ite (cmp .lss (v 2) (.un .len (v 0)))
 (ck (cmp .leq (n 0) (v 2))
  (ck (cmp .lss (v 2) (.un .len (v 1)))
   (.ite (cmp .neq (at_ 0 (v 0) (v 2)) (at_ 0 (v 1) (v 2)))
    (.ret [(.bool false)])
    (.jump 0 [(add (v 2) (n 1))]))))
 (.ret [(.bool true)])
def ref01_Ints_l0:T:=ref01_Ints_l0_b
@[reducible] def ref01_Ints_b:T:= .ite (cmp .neq (.un .len (v 0)) (.un .len (v 1)))
 (.ret [(.bool false)])
 (.loop [(n 0)] ref01_Ints_l0)
def ref01_Ints:T:=ref01_Ints_b
/- parterre/parterrelaw27.lives -/
abbrev c_law27_lives:Nat:=9
@[reducible] def law27_lives_b:T:= .call c_law27_px [(n 6400)] 2 <|
 .call c_law27_px [(n 6400)] 2 <|
 .call c_tracks_Size [(n 0),(.bin .snoc (.bin .snoc (.bin .snoc .nil (.bin .cons (v 0) (.bin .cons (v 1) (.bin .cons (v 2) (.bin .cons (v 3) (.bin .cons (.bool false) (.bin .cons (n 0) (.bin .cons (n 0) .nilc)))))))) (.bin .cons (n 1) (.bin .cons (n 0) (.bin .cons (n 6) (.bin .cons (n 1000) (.bin .cons (.bool false) (.bin .cons (n 0) (.bin .cons (n 0) .nilc)))))))) (.bin .cons (n 1) (.bin .cons (n 0) (.bin .cons (n 1) (.bin .cons (n 0) (.bin .cons (.bool false) (.bin .cons (n 0) (.bin .cons (n 0) .nilc)))))))),(.bin .make (.bin .cons (.bool false) .nilc) (n 3)),(.bin .make (.bin .cons (n 0) .nilc) (n 3)),(n 25600),(n 0),(.bin .snoc .nil (.bin .cons (n 2) (.bin .cons (n 3) (.bin .cons (n 3200) (.bin .cons (n 3200) (.bin .cons (n 3200) .nilc)))))),(.bool false)] 2 <|
 .call c_tracks_Sum [(n 0),(.bin .snoc (.bin .snoc (.bin .snoc .nil (.bin .cons (v 0) (.bin .cons (v 1) (.bin .cons (v 2) (.bin .cons (v 3) (.bin .cons (.bool false) (.bin .cons (n 0) (.bin .cons (n 0) .nilc)))))))) (.bin .cons (n 1) (.bin .cons (n 0) (.bin .cons (n 6) (.bin .cons (n 1000) (.bin .cons (.bool false) (.bin .cons (n 0) (.bin .cons (n 0) .nilc)))))))) (.bin .cons (n 1) (.bin .cons (n 0) (.bin .cons (n 1) (.bin .cons (n 0) (.bin .cons (.bool false) (.bin .cons (n 0) (.bin .cons (n 0) .nilc)))))))),(.bin .make (.bin .cons (.bool false) .nilc) (n 3)),(.bin .make (.bin .cons (n 0) .nilc) (n 3)),(v 4)] 2 <|
 .ite (cmp .eql (v 5) (n 0))
 (.call c_ref01_Ints [(v 4),(.bin .snoc (.bin .snoc (.bin .snoc .nil (.bin .cons (n 6400) .nilc)) (.bin .cons (n 16000) .nilc)) (.bin .cons (n 3200) .nilc))] 1 <|
  .ret [(.bin .and (.bin .and (v 8) (cmp .eql (v 7) (n 0))) (cmp .eql (v 6) (n 25600)))])
 (.ret [(.bool false)])
def law27_lives:T:=law27_lives_b
@[reducible] def law27_TracksFixed_j1_b:T:= .jump 0 [(add (v 11) (n 1))]
def law27_TracksFixed_j1:T:=law27_TracksFixed_j1_b
@[reducible] def law27_TracksFixed_l0_b:T:= .ite (cmp .lss (v 11) (.un .len (v 1)))
 (.letj law27_TracksFixed_j1 <|
  ck (cmp .leq (n 0) (v 11))
  (ck (cmp .lss (v 11) (.un .len (v 2)))
   (.ite (.bin (.cell 0 (.bool)) (v 2) (v 11))
    (ck (cmp .lss (v 11) (.un .len (v 9)))
     (.ite (cmp .neq (at_ 0 (v 9) (v 11)) (n 0))
      (.ret [(.bool false)])
      (.jump 1 [])))
    (ck (.bin .or (.un .not (.bin .and (cmp .eql (at_ 0 (v 1) (v 11)) (n 2)) (.bin .and (cmp .eql (at_ 2 (v 1) (v 11)) (at_ 0 (v 1) (v 11))) (cmp .eql (at_ 3 (v 1) (v 11)) (at_ 1 (v 1) (v 11)))))) (cmp .lss (v 11) (.un .len (v 9))))
     (ck (.bin .or (.bin .and (.bin .and (cmp .eql (at_ 0 (v 1) (v 11)) (n 2)) (.bin .and (cmp .eql (at_ 2 (v 1) (v 11)) (at_ 0 (v 1) (v 11))) (cmp .eql (at_ 3 (v 1) (v 11)) (at_ 1 (v 1) (v 11))))) (cmp .neq (at_ 0 (v 9) (v 11)) (at_ 1 (v 1) (v 11)))) (cmp .lss (v 11) (.un .len (v 9))))
      (ck (.bin .or (.un .not (.bin .and (.un .not (.bin .or (.bin .and (.bin .and (cmp .eql (at_ 0 (v 1) (v 11)) (n 2)) (.bin .and (cmp .eql (at_ 2 (v 1) (v 11)) (at_ 0 (v 1) (v 11))) (cmp .eql (at_ 3 (v 1) (v 11)) (at_ 1 (v 1) (v 11))))) (cmp .neq (at_ 0 (v 9) (v 11)) (at_ 1 (v 1) (v 11)))) (cmp .lss (at_ 0 (v 9) (v 11)) (n 0)))) (cmp .eql (at_ 0 (v 1) (v 11)) (n 2)))) (cmp .lss (v 11) (.un .len (v 9))))
       (.ite (.bin .or (.bin .or (.bin .and (.bin .and (cmp .eql (at_ 0 (v 1) (v 11)) (n 2)) (.bin .and (cmp .eql (at_ 2 (v 1) (v 11)) (at_ 0 (v 1) (v 11))) (cmp .eql (at_ 3 (v 1) (v 11)) (at_ 1 (v 1) (v 11))))) (cmp .neq (at_ 0 (v 9) (v 11)) (at_ 1 (v 1) (v 11)))) (cmp .lss (at_ 0 (v 9) (v 11)) (n 0))) (.bin .and (cmp .eql (at_ 0 (v 1) (v 11)) (n 2)) (cmp .lss (at_ 0 (v 9) (v 11)) (at_ 1 (v 1) (v 11)))))
        (.ret [(.bool false)])
        (.jump 1 []))))))))
 (.call c_law27_lives [] 1 <|
  .ret [(v 12)])
def law27_TracksFixed_l0:T:=law27_TracksFixed_l0_b
@[reducible] def law27_TracksFixed_b:T:= .call c_law27_light [(v 0),(v 1),(v 2),(v 3),(v 6)] 1 <|
 .ite (v 8)
 (.call c_tracks_Size [(v 0),(v 1),(v 2),(v 3),(v 4),(v 5),(v 6),(v 7)] 2 <|
  .ite (cmp .neq (v 10) (n 0))
  (.ite (cmp .eql (.un .len (v 9)) (n 0))
   (.call c_law27_lives [] 1 <|
    .ret [(v 11)])
   (.ret [(.bool false)]))
  (.ite (cmp .neq (.un .len (v 9)) (.un .len (v 1)))
   (.ret [(.bool false)])
   (.loop [(n 0)] law27_TracksFixed_l0)))
 (.call c_law27_lives [] 1 <|
  .ret [(v 9)])
def law27_TracksFixed:T:=law27_TracksFixed_b
/- parterre/parterrelaw27.TracksFull -/
abbrev c_law27_TracksFull:Nat:=6
@[reducible] def law27_TracksFull_j1_b:T:= .jump 0 [(add (v 12) (n 1)),(v 18),(v 16),(v 17)]
def law27_TracksFull_j1:T:=law27_TracksFull_j1_b
@[reducible] def law27_TracksFull_j2_b:T:= .jump 1 [(v 16),(v 17),(.bin .or (v 13) (.bin .and (v 6) (cmp .eql (at_ 2 (v 1) (v 12)) (n 1))))]
def law27_TracksFull_j2:T:=law27_TracksFull_j2_b
@[reducible] def law27_TracksFull_l0_b:T:= .ite (cmp .lss (v 12) (.un .len (v 1)))
 (.letj law27_TracksFull_j1 <|
  ck (cmp .leq (n 0) (v 12))
  (ck (cmp .lss (v 12) (.un .len (v 2)))
   (.ite (.bin (.cell 0 (.bool)) (v 2) (v 12))
    (.jump 1 [(v 14),(v 15),(v 13)])
    (.letj law27_TracksFull_j2 <|
     .ite (cmp .eql (at_ 2 (v 1) (v 12)) (n 6))
     (.jump 2 [(.bin .or (v 14) (cmp .lss (at_ 3 (v 1) (v 12)) (n 1000))),(.bool true)])
     (.jump 2 [(v 14),(v 15)])))))
 (.ite (.bin .or (cmp .geq (v 10) (v 4)) (.bin .and (.un .not (v 13)) (.bin .or (.un .not (v 15)) (v 14))))
  (.call c_law27_lives [] 1 <|
   .ret [(v 16)])
  (.ret [(.bool false)]))
def law27_TracksFull_l0:T:=law27_TracksFull_l0_b
@[reducible] def law27_TracksFull_b:T:= .call c_law27_light [(v 0),(v 1),(v 2),(v 3),(v 5)] 1 <|
 .ite (v 7)
 (.call c_tracks_Size [(v 0),(v 1),(v 2),(v 3),(v 4),(n 0),(v 5),(v 6)] 2 <|
  .ite (cmp .neq (v 9) (n 0))
  (.ite (cmp .eql (.un .len (v 8)) (n 0))
   (.call c_law27_lives [] 1 <|
    .ret [(v 10)])
   (.ret [(.bool false)]))
  (.call c_tracks_Sum [(v 0),(v 1),(v 2),(v 3),(v 8)] 2 <|
   .ite (cmp .neq (v 11) (n 0))
   (.ret [(.bool false)])
   (.loop [(n 0),(.bool false),(.bool false),(.bool false)] law27_TracksFull_l0)))
 (.call c_law27_lives [] 1 <|
  .ret [(v 8)])
def law27_TracksFull:T:=law27_TracksFull_b
@[reducible] def law27_TracksEnough_j2_b:T:= .jump 1 [(add (v 12) (n 1)),(v 17),(v 18),(v 16)]
def law27_TracksEnough_j2:T:=law27_TracksEnough_j2_b
@[reducible] def law27_TracksEnough_j3_b:T:=ck (cmp .lss (v 12) (.un .len (v 2)))
 (.ite (.bin (.cell 0 (.bool)) (v 2) (v 12))
  (.jump 2 [(v 16),(v 13),(v 14)])
  (.jump 2 [(v 16),(.bin .or (v 13) (cmp .eql (at_ 2 (v 1) (v 12)) (n 6))),(.bin .or (v 14) (.bin .and (cmp .neq (at_ 0 (v 1) (v 12)) (n 2)) (cmp .neq (at_ 0 (v 1) (v 12)) (n 3))))]))
def law27_TracksEnough_j3:T:=law27_TracksEnough_j3_b
@[reducible] def law27_TracksEnough_l1_b:T:= .ite (cmp .lss (v 12) (at_ 1 (v 6) (v 11)))
 (.letj law27_TracksEnough_j2 <|
  ck (cmp .leq (n 0) (v 12))
  (ck (cmp .lss (v 12) (.un .len (v 1)))
   (ck (cmp .lss (v 12) (.un .len (v 9)))
    (.letj law27_TracksEnough_j3 <|
     .ite (cmp .gtr (v 12) (at_ 0 (v 6) (v 11)))
     (ck (cmp .lss (v 12) (.un .len (v 3)))
      (.jump 3 [(add (add (v 15) (at_ 0 (v 9) (v 12))) (at_ 0 (v 3) (v 12)))]))
     (.jump 3 [(add (v 15) (at_ 0 (v 9) (v 12)))])))))
 (.ite (.bin .and (.bin .and (.bin .and (.bin .and (v 14) (.un .not (v 13))) (cmp .leq (at_ 2 (v 6) (v 11)) (at_ 3 (v 6) (v 11)))) (cmp .leq (at_ 3 (v 6) (v 11)) (at_ 4 (v 6) (v 11)))) (cmp .lss (v 15) (at_ 2 (v 6) (v 11))))
  (.ret [(.bool false)])
  (.jump 0 [(add (v 11) (n 1))]))
def law27_TracksEnough_l1:T:=law27_TracksEnough_l1_b
@[reducible] def law27_TracksEnough_l0_b:T:= .ite (cmp .lss (v 11) (.un .len (v 6)))
 (ck (cmp .leq (n 0) (v 11))
  (.loop [(at_ 0 (v 6) (v 11)),(.bool false),(.bool false),(n 0)] law27_TracksEnough_l1))
 (.call c_law27_lives [] 1 <|
  .ret [(v 12)])
def law27_TracksEnough_l0:T:=law27_TracksEnough_l0_b
@[reducible] def law27_TracksEnough_b:T:= .call c_law27_light [(v 0),(v 1),(v 2),(v 3),(v 6)] 1 <|
 .ite (v 8)
 (.call c_tracks_Size [(v 0),(v 1),(v 2),(v 3),(v 4),(v 5),(v 6),(v 7)] 2 <|
  .ite (.bin .or (cmp .neq (v 10) (n 0)) (cmp .neq (.un .len (v 9)) (.un .len (v 1))))
  (.ite (.bin .and (cmp .neq (v 10) (n 0)) (cmp .eql (.un .len (v 9)) (n 0)))
   (.call c_law27_lives [] 1 <|
    .ret [(v 11)])
   (.ret [(.bool false)]))
  (.loop [(n 0)] law27_TracksEnough_l0))
 (.call c_law27_lives [] 1 <|
  .ret [(v 9)])
def law27_TracksEnough:T:=law27_TracksEnough_b
def sigL:List (Nat×Sig):= [
 (8,⟨[.agg [.int .i64,.row [.int .i64,.int .i64,.int .i64,.int .i64,.bool,.int .i64,.int .i64],.row [.bool],.row [.int .i64]],.leaf (.row [.int .i64,.int .i64,.int .i64,.int .i64,.int .i64])],[.leaf (.bool)]⟩) -- law27_light
 ,(146,⟨[],[.agg [.int .i64,.int .i64]]⟩) -- track_auto
 ,(87,⟨[.agg [.int .i64,.int .i64]],[.agg [.int .i64,.int .i64,.int .i64,.int .i64,.bool,.int .i64,.int .i64]]⟩) -- track_fit
 ,(88,⟨[.agg [.int .i64,.int .i64]],[.leaf (.bool)]⟩) -- track_isLen
 ,(148,⟨[.leaf (.int .i64)],[.leaf (.int .i64)]⟩) -- value_keyBit
 ,(89,⟨[.agg [.int .i64,.int .i64],.leaf (.int .i64)],[.leaf (.bool)]⟩) -- value_Good
 ,(35,⟨[.agg [.int .i64,.int .i64,.int .i64,.int .i64,.bool,.int .i64,.int .i64]],[.leaf (.bool)]⟩) -- track_Right
 ,(34,⟨[.leaf (.int .i64)],[.leaf (.bool)]⟩) -- fixed_Is
 ,(36,⟨[.leaf (.int .i64)],[.leaf (.bool)]⟩) -- implicit_within
 ,(16,⟨[.agg [.int .i64,.row [.int .i64,.int .i64,.int .i64,.int .i64,.bool,.int .i64,.int .i64],.row [.bool],.row [.int .i64]]],[.leaf (.bool)]⟩) -- implicit_Good
 ,(121,⟨[.leaf (.int .i64)],[.leaf (.int .u64)]⟩) -- fixed_size
 ,(120,⟨[.leaf (.int .u64),.leaf (.int .u64)],[.leaf (.int .u64),.leaf (.int .u64)]⟩) -- math_bits_Mul64
 ,(171,⟨[.leaf (.int .u64)],[.leaf (.int .i64)]⟩) -- math_bits_Len64
 ,(180,⟨[.leaf (.int .u64)],[.leaf (.int .i64)]⟩) -- math_bits_LeadingZeros64
 ,(122,⟨[.leaf (.int .u64),.leaf (.int .u64),.leaf (.int .u64)],[.leaf (.int .u64),.leaf (.int .u64)]⟩) -- math_bits_Div64
 ,(64,⟨[.leaf (.int .i64),.leaf (.int .i64),.leaf (.int .i64)],[.leaf (.int .i64),.leaf (.int .i64)]⟩) -- fixed_MulDiv
 ,(149,⟨[.leaf (.int .i64),.leaf (.int .i64)],[.leaf (.int .i64),.leaf (.int .i64)]⟩) -- fixed_Percent
 ,(90,⟨[.agg [.int .i64,.int .i64],.leaf (.int .i64),.leaf (.bool)],[.leaf (.int .i64),.leaf (.bool),.leaf (.int .i64)]⟩) -- value_Resolve
 ,(91,⟨[.agg [.int .i64,.int .i64],.leaf (.bool)],[.leaf (.int .i64)]⟩) -- base_kind
 ,(61,⟨[.agg [.int .i64,.int .i64,.int .i64,.bool,.int .i64,.int .i64,.int .i64]],[.agg [.int .i64,.int .i64,.int .i64,.bool,.int .i64,.int .i64,.int .i64]]⟩) -- base_Raise
 ,(37,⟨[.agg [.int .i64,.int .i64,.int .i64,.int .i64,.bool,.int .i64,.int .i64],.leaf (.int .i64),.leaf (.bool)],[.agg [.int .i64,.int .i64,.int .i64,.bool,.int .i64,.int .i64,.int .i64],.leaf (.int .i64)]⟩) -- base_Start
 ,(18,⟨[.agg [.int .i64,.row [.int .i64,.int .i64,.int .i64,.int .i64,.bool,.int .i64,.int .i64],.row [.bool],.row [.int .i64]],.leaf (.int .i64),.leaf (.bool)],[.own [.int .i64,.int .i64,.int .i64,.bool,.int .i64,.int .i64,.int .i64],.leaf (.int .i64)]⟩) -- base_All
 ,(95,⟨[.leaf (.int .i64)],[.leaf (.bool)]⟩) -- intrinsic_within
 ,(94,⟨[.leaf (.int .i64)],[.leaf (.bool)]⟩) -- intrinsic_Good_2
 ,(150,⟨[.leaf (.int .i64),.leaf (.int .i64),.leaf (.int .i64)],[.leaf (.bool)]⟩) -- base_Good_1
 ,(93,⟨[.agg [.int .i64,.int .i64,.int .i64,.bool,.int .i64,.int .i64,.int .i64]],[.leaf (.bool)]⟩) -- base_Good
 ,(92,⟨[.agg [.int .i64,.int .i64,.int .i64,.bool,.int .i64,.int .i64,.int .i64]],[.leaf (.bool)]⟩) -- intrinsic_Good_1
 ,(38,⟨[.leaf (.row [.int .i64,.int .i64,.int .i64,.bool,.int .i64,.int .i64,.int .i64]),.leaf (.row [.int .i64]),.leaf (.row [.int .i64,.int .i64,.int .i64,.int .i64,.int .i64]),.leaf (.int .i64)],[.leaf (.bool)]⟩) -- intrinsic_Good
 ,(39,⟨[.leaf (.row [.int .i64,.int .i64,.int .i64,.bool,.int .i64,.int .i64,.int .i64])],[.own [.int .i64,.int .i64,.int .i64,.bool,.int .i64,.int .i64,.int .i64]]⟩) -- slices_Clone___api_Sizing_api_Sizing_
 ,(102,⟨[.agg [.int .i64,.int .i64,.int .i64,.bool,.int .i64,.int .i64,.int .i64]],[.leaf (.bool)]⟩) -- intrinsic_loose
 ,(105,⟨[.agg [.int .i64,.int .i64,.int .i64,.bool,.int .i64,.int .i64,.int .i64]],[.leaf (.int .i64)]⟩) -- intrinsic_limit
 ,(151,⟨[.agg [.int .i64,.int .i64,.int .i64,.int .i64,.int .i64]],[.leaf (.int .i64)]⟩) -- pintrinsic_sizer_rounds_1
 ,(97,⟨[.agg [.int .i64,.int .i64,.int .i64,.bool,.int .i64,.int .i64,.int .i64]],[.leaf (.bool)]⟩) -- intrinsic_content
 ,(42,⟨[.agg [.int .i64,.int .i64,.int .i64,.bool,.int .i64,.int .i64,.int .i64]],[.leaf (.bool)]⟩) -- intrinsic_Size_1
 ,(107,⟨[.agg [.int .i64,.int .i64,.int .i64,.bool,.int .i64,.int .i64,.int .i64]],[.leaf (.int .i64)]⟩) -- pintrinsic_sizer_bases_2
 ,(158,⟨[.agg [.int .i64,.int .i64,.int .i64,.bool,.int .i64,.int .i64,.int .i64]],[.leaf (.bool)]⟩) -- pintrinsic_sizer_rounds_7
 ,(115,⟨[.leaf (.int .i64),.leaf (.int .i64)],[.leaf (.bool)]⟩) -- spread_right
 ,(116,⟨[.leaf (.row [.int .i64])],[.leaf (.bool)]⟩) -- spread_rooms
 ,(50,⟨[.leaf (.int .i64),.leaf (.row [.int .i64])],[.own [.int .i64]]⟩) -- spread_Up
 ,(59,⟨[.leaf (.int .i64),.leaf (.int .i64)],[.own [.int .i64]]⟩) -- fixed_Split
 ,(178,⟨[.leaf (.int .i64),.leaf (.row [.int .i64]),.leaf (.row [.bool])],[.own [.int .i64]]⟩) -- spread_Fill
 ,(160,⟨[.agg [.int .i64,.int .i64,.int .i64,.int .i64,.int .i64]],[.leaf (.int .i64)]⟩) -- pintrinsic_sizer_rounds_9
 ,(159,⟨[.agg [.int .i64,.int .i64,.int .i64,.bool,.int .i64,.int .i64,.int .i64]],[.leaf (.bool)]⟩) -- pintrinsic_sizer_rounds_8
 ,(154,⟨[.agg [.int .i64,.int .i64,.int .i64,.int .i64,.int .i64]],[.leaf (.int .i64)]⟩) -- pintrinsic_sizer_rounds_3
 ,(157,⟨[.agg [.int .i64,.int .i64,.int .i64,.bool,.int .i64,.int .i64,.int .i64]],[.leaf (.bool)]⟩) -- pintrinsic_sizer_rounds_6
 ,(155,⟨[.agg [.int .i64,.int .i64,.int .i64,.bool,.int .i64,.int .i64,.int .i64]],[.leaf (.bool)]⟩) -- pintrinsic_sizer_rounds_4
 ,(103,⟨[.agg [.int .i64,.int .i64,.int .i64,.int .i64,.int .i64]],[.leaf (.int .i64)]⟩) -- pintrinsic_sizer_several_1
 ,(172,⟨[.agg [.int .i64,.int .i64,.int .i64,.bool,.int .i64,.int .i64,.int .i64]],[.leaf (.int .i64)]⟩) -- pintrinsic_sizer_limits_1
 ,(173,⟨[.agg [.int .i64,.int .i64,.int .i64,.bool,.int .i64,.int .i64,.int .i64]],[.leaf (.bool)]⟩) -- pintrinsic_sizer_limits_2
 ,(104,⟨[.agg [.int .i64,.int .i64,.int .i64,.int .i64,.int .i64]],[.leaf (.int .i64)]⟩) -- pintrinsic_sizer_several_2
 ,(57,⟨[.leaf (.int .i64),.leaf (.row [.int .i64])],[.own [.int .i64]]⟩) -- fixed_Share
 ,(112,⟨[.leaf (.int .i64),.leaf (.row [.int .i64])],[.own [.int .i64]]⟩) -- spread_By
 ,(19,⟨[.leaf (.row [.int .i64,.int .i64,.int .i64,.bool,.int .i64,.int .i64,.int .i64]),.leaf (.row [.int .i64]),.leaf (.row [.int .i64,.int .i64,.int .i64,.int .i64,.int .i64]),.leaf (.int .i64)],[.own [.int .i64,.int .i64,.int .i64,.bool,.int .i64,.int .i64,.int .i64],.leaf (.int .i64)]⟩) -- intrinsic_Size
 ,(113,⟨[.agg [.int .i64,.int .i64,.int .i64,.bool,.int .i64,.int .i64,.int .i64]],[.leaf (.bool)]⟩) -- maximise_good_1
 ,(46,⟨[.leaf (.row [.int .i64,.int .i64,.int .i64,.bool,.int .i64,.int .i64,.int .i64])],[.leaf (.bool)]⟩) -- maximise_good
 ,(49,⟨[.leaf (.int .i64)],[.leaf (.bool)]⟩) -- maximise_within
 ,(48,⟨[.leaf (.int .i64)],[.leaf (.bool)]⟩) -- maximise_Total_1
 ,(21,⟨[.leaf (.row [.int .i64,.int .i64,.int .i64,.bool,.int .i64,.int .i64,.int .i64]),.leaf (.row [.int .i64])],[.leaf (.int .i64),.leaf (.int .i64)]⟩) -- maximise_Total
 ,(55,⟨[.leaf (.int .i64),.leaf (.row [.int .i64])],[.leaf (.int .i64)]⟩) -- flex_less
 ,(56,⟨[.agg [.int .i64,.int .i64,.row [.int .i64]],.leaf (.int .i64)],[.leaf (.int .i64)]⟩) -- flex_share_part
 ,(54,⟨[.leaf (.row [.int .i64,.int .i64,.int .i64,.bool,.int .i64,.int .i64,.int .i64]),.leaf (.int .i64)],[.agg [.int .i64,.int .i64,.row [.int .i64]]]⟩) -- flex_shared
 ,(118,⟨[.agg [.int .i64,.int .i64,.int .i64,.bool,.int .i64,.int .i64,.int .i64]],[.leaf (.bool)]⟩) -- flex_right_1
 ,(53,⟨[.leaf (.row [.int .i64,.int .i64,.int .i64,.bool,.int .i64,.int .i64,.int .i64]),.leaf (.int .i64)],[.leaf (.bool)]⟩) -- flex_right
 ,(23,⟨[.leaf (.row [.int .i64,.int .i64,.int .i64,.bool,.int .i64,.int .i64,.int .i64]),.leaf (.row [.int .i64]),.leaf (.int .i64)],[.leaf (.row [.int .i64,.int .i64,.int .i64,.bool,.int .i64,.int .i64,.int .i64])]⟩) -- flex_Fill
 ,(24,⟨[.leaf (.row [.int .i64,.int .i64,.int .i64,.bool,.int .i64,.int .i64,.int .i64]),.leaf (.int .i64)],[.leaf (.row [.int .i64,.int .i64,.int .i64,.bool,.int .i64,.int .i64,.int .i64])]⟩) -- maximise_Stretch
 ,(22,⟨[.leaf (.row [.int .i64,.int .i64,.int .i64,.bool,.int .i64,.int .i64,.int .i64]),.leaf (.int .i64)],[.leaf (.row [.int .i64,.int .i64,.int .i64,.bool,.int .i64,.int .i64,.int .i64])]⟩) -- maximise_Grow
 ,(26,⟨[.leaf (.row [.int .i64,.int .i64,.int .i64,.bool,.int .i64,.int .i64,.int .i64])],[.leaf (.row [.int .i64,.int .i64,.int .i64,.bool,.int .i64,.int .i64,.int .i64])]⟩) -- maximise_Full
 ,(62,⟨[.leaf (.int .i64),.leaf (.int .i64),.leaf (.int .i64)],[.leaf (.int .i64)]⟩) -- flex_up
 ,(63,⟨[.leaf (.row [.int .i64,.int .i64,.int .i64,.bool,.int .i64,.int .i64,.int .i64]),.leaf (.int .i64)],[.leaf (.int .i64)]⟩) -- flex_Unit
 ,(25,⟨[.leaf (.row [.int .i64,.int .i64,.int .i64,.bool,.int .i64,.int .i64,.int .i64]),.leaf (.row [.int .i64]),.leaf (.row [.int .i64,.int .i64,.int .i64,.int .i64,.int .i64])],[.leaf (.row [.int .i64,.int .i64,.int .i64,.bool,.int .i64,.int .i64,.int .i64])]⟩) -- flex_Grow
 ,(17,⟨[.leaf (.int .i64)],[.leaf (.bool)]⟩) -- tracks_within
 ,(10,⟨[.agg [.int .i64,.row [.int .i64,.int .i64,.int .i64,.int .i64,.bool,.int .i64,.int .i64],.row [.bool],.row [.int .i64]],.leaf (.int .i64),.leaf (.int .i64),.leaf (.row [.int .i64,.int .i64,.int .i64,.int .i64,.int .i64]),.leaf (.bool)],[.own [.int .i64],.leaf (.int .i64)]⟩) -- tracks_Size
 ,(15,⟨[.leaf (.int .i64)],[.agg [.int .i64,.int .i64]]⟩) -- law27_px
 ,(13,⟨[.agg [.int .i64,.row [.int .i64,.int .i64,.int .i64,.int .i64,.bool,.int .i64,.int .i64],.row [.bool],.row [.int .i64]],.leaf (.row [.int .i64])],[.leaf (.int .i64),.leaf (.int .i64)]⟩) -- tracks_Sum
 ,(12,⟨[.leaf (.row [.int .i64]),.leaf (.row [.int .i64])],[.leaf (.bool)]⟩) -- ref01_Ints
 ,(9,⟨[],[.leaf (.bool)]⟩) -- law27_lives
 ,(5,⟨[.agg [.int .i64,.row [.int .i64,.int .i64,.int .i64,.int .i64,.bool,.int .i64,.int .i64],.row [.bool],.row [.int .i64]],.leaf (.int .i64),.leaf (.int .i64),.leaf (.row [.int .i64,.int .i64,.int .i64,.int .i64,.int .i64]),.leaf (.bool)],[.leaf (.bool)]⟩) -- law27_TracksFixed
 ,(6,⟨[.agg [.int .i64,.row [.int .i64,.int .i64,.int .i64,.int .i64,.bool,.int .i64,.int .i64],.row [.bool],.row [.int .i64]],.leaf (.int .i64),.leaf (.row [.int .i64,.int .i64,.int .i64,.int .i64,.int .i64]),.leaf (.bool)],[.leaf (.bool)]⟩) -- law27_TracksFull
 ,(7,⟨[.agg [.int .i64,.row [.int .i64,.int .i64,.int .i64,.int .i64,.bool,.int .i64,.int .i64],.row [.bool],.row [.int .i64]],.leaf (.int .i64),.leaf (.int .i64),.leaf (.row [.int .i64,.int .i64,.int .i64,.int .i64,.int .i64]),.leaf (.bool)],[.leaf (.bool)]⟩) -- law27_TracksEnough
 ]
def trL:List (Nat×T):= [(8,law27_light),(146,track_auto),(87,track_fit),(88,track_isLen),(148,value_keyBit),(89,value_Good),(35,track_Right),(34,fixed_Is),(36,implicit_within),(16,implicit_Good),(121,fixed_size),(120,math_bits_Mul64),(171,math_bits_Len64),(180,math_bits_LeadingZeros64),(122,math_bits_Div64),(64,fixed_MulDiv),(149,fixed_Percent),(90,value_Resolve),(91,base_kind),(61,base_Raise),(37,base_Start),(18,base_All),(95,intrinsic_within),(94,intrinsic_Good_2),(150,base_Good_1),(93,base_Good),(92,intrinsic_Good_1),(38,intrinsic_Good),(39,slices_Clone___api_Sizing_api_Sizing_),(102,intrinsic_loose),(105,intrinsic_limit),(151,pintrinsic_sizer_rounds_1),(97,intrinsic_content),(42,intrinsic_Size_1),(107,pintrinsic_sizer_bases_2),(158,pintrinsic_sizer_rounds_7),(115,spread_right),(116,spread_rooms),(50,spread_Up),(59,fixed_Split),(178,spread_Fill),(160,pintrinsic_sizer_rounds_9),(159,pintrinsic_sizer_rounds_8),(154,pintrinsic_sizer_rounds_3),(157,pintrinsic_sizer_rounds_6),(155,pintrinsic_sizer_rounds_4),(103,pintrinsic_sizer_several_1),(172,pintrinsic_sizer_limits_1),(173,pintrinsic_sizer_limits_2),(104,pintrinsic_sizer_several_2),(57,fixed_Share),(112,spread_By),(19,intrinsic_Size),(113,maximise_good_1),(46,maximise_good),(49,maximise_within),(48,maximise_Total_1),(21,maximise_Total),(55,flex_less),(56,flex_share_part),(54,flex_shared),(118,flex_right_1),(53,flex_right),(23,flex_Fill),(24,maximise_Stretch),(22,maximise_Grow),(26,maximise_Full),(62,flex_up),(63,flex_Unit),(25,flex_Grow),(17,tracks_within),(10,tracks_Size),(15,law27_px),(13,tracks_Sum),(12,ref01_Ints),(9,law27_lives),(5,law27_TracksFixed),(6,law27_TracksFull),(7,law27_TracksEnough)]
def sg (f:Nat):Option Sig:=Go.Proofs.YtckjdlmfibjpaaaGreat.Sx.look sigL f
def tr (f:Nat):Option T:=Go.Proofs.YtckjdlmfibjpaaaGreat.Sx.look trL f
def says (k:Nat):Nat→List PV→Option (List PV):=told tr k k
def Pure_TracksFull:Prop:=∀ (q0:List PV),∀ (p1:PV),∀ (p2:PV),∀ (p3:PV),LK.oks [.int .i64,.row [.int .i64,.int .i64,.int .i64,.int .i64,.bool,.int .i64,.int .i64],.row [.bool],.row [.int .i64]] q0→LK.wfs [.int .i64,.row [.int .i64,.int .i64,.int .i64,.int .i64,.bool,.int .i64,.int .i64],.row [.bool],.row [.int .i64]] q0→((.int .i64):LK).ok p1→((.int .i64):LK).wf p1→((.row [.int .i64,.int .i64,.int .i64,.int .i64,.int .i64]):LK).ok p2→((.row [.int .i64,.int .i64,.int .i64,.int .i64,.int .i64]):LK).wf p2→p2.r.length*40≤140737488351232→((.bool):LK).ok p3→((.bool):LK).wf p3→∃k,says k c_law27_TracksFull ((q0++(p1::(p2::(p3:: [])))))=some [.bool true]
theorem u_law27_light:U law27_light law27_light_b:=Iff.rfl
theorem u_track_auto:U track_auto track_auto_b:=Iff.rfl
theorem u_track_fit:U track_fit track_fit_b:=Iff.rfl
theorem u_track_isLen:U track_isLen track_isLen_b:=Iff.rfl
theorem u_value_keyBit_j0:U value_keyBit_j0 value_keyBit_j0_b:=Iff.rfl
theorem u_value_keyBit:U value_keyBit value_keyBit_b:=Iff.rfl
theorem u_value_Good_j0:U value_Good_j0 value_Good_j0_b:=Iff.rfl
theorem u_value_Good_j1:U value_Good_j1 value_Good_j1_b:=Iff.rfl
theorem u_value_Good:U value_Good value_Good_b:=Iff.rfl
theorem u_track_Right:U track_Right track_Right_b:=Iff.rfl
theorem u_fixed_Is:U fixed_Is fixed_Is_b:=Iff.rfl
theorem u_implicit_within:U implicit_within implicit_within_b:=Iff.rfl
theorem u_implicit_Good_j1:U implicit_Good_j1 implicit_Good_j1_b:=Iff.rfl
theorem u_implicit_Good_l0:U implicit_Good_l0 implicit_Good_l0_b:=Iff.rfl
theorem u_implicit_Good:U implicit_Good implicit_Good_b:=Iff.rfl
theorem u_fixed_size:U fixed_size fixed_size_b:=Iff.rfl
theorem u_math_bits_Mul64:U math_bits_Mul64 math_bits_Mul64_b:=Iff.rfl
theorem u_math_bits_Len64_j2:U math_bits_Len64_j2 math_bits_Len64_j2_b:=Iff.rfl
theorem u_math_bits_Len64_j1:U math_bits_Len64_j1 math_bits_Len64_j1_b:=Iff.rfl
theorem u_math_bits_Len64_j0:U math_bits_Len64_j0 math_bits_Len64_j0_b:=Iff.rfl
theorem u_math_bits_Len64:U math_bits_Len64 math_bits_Len64_b:=Iff.rfl
theorem u_math_bits_LeadingZeros64:U math_bits_LeadingZeros64 math_bits_LeadingZeros64_b:=Iff.rfl
theorem u_math_bits_Div64_j1:U math_bits_Div64_j1 math_bits_Div64_j1_b:=Iff.rfl
theorem u_math_bits_Div64_l2:U math_bits_Div64_l2 math_bits_Div64_l2_b:=Iff.rfl
theorem u_math_bits_Div64_j0:U math_bits_Div64_j0 math_bits_Div64_j0_b:=Iff.rfl
theorem u_math_bits_Div64_l3:U math_bits_Div64_l3 math_bits_Div64_l3_b:=Iff.rfl
theorem u_math_bits_Div64:U math_bits_Div64 math_bits_Div64_b:=Iff.rfl
theorem u_fixed_MulDiv:U fixed_MulDiv fixed_MulDiv_b:=Iff.rfl
theorem u_fixed_Percent_j0:U fixed_Percent_j0 fixed_Percent_j0_b:=Iff.rfl
theorem u_fixed_Percent:U fixed_Percent fixed_Percent_b:=Iff.rfl
theorem u_value_Resolve:U value_Resolve value_Resolve_b:=Iff.rfl
theorem u_base_kind_j0:U base_kind_j0 base_kind_j0_b:=Iff.rfl
theorem u_base_kind:U base_kind base_kind_b:=Iff.rfl
theorem u_base_Raise:U base_Raise base_Raise_b:=Iff.rfl
theorem u_base_Start_j3:U base_Start_j3 base_Start_j3_b:=Iff.rfl
theorem u_base_Start_j2:U base_Start_j2 base_Start_j2_b:=Iff.rfl
theorem u_base_Start_j1:U base_Start_j1 base_Start_j1_b:=Iff.rfl
theorem u_base_Start_j0:U base_Start_j0 base_Start_j0_b:=Iff.rfl
theorem u_base_Start:U base_Start base_Start_b:=Iff.rfl
theorem u_base_All_j1:U base_All_j1 base_All_j1_b:=Iff.rfl
theorem u_base_All_l0:U base_All_l0 base_All_l0_b:=Iff.rfl
theorem u_base_All:U base_All base_All_b:=Iff.rfl
theorem u_intrinsic_within:U intrinsic_within intrinsic_within_b:=Iff.rfl
theorem u_intrinsic_Good_2:U intrinsic_Good_2 intrinsic_Good_2_b:=Iff.rfl
theorem u_base_Good_1:U base_Good_1 base_Good_1_b:=Iff.rfl
theorem u_base_Good:U base_Good base_Good_b:=Iff.rfl
theorem u_intrinsic_Good_1:U intrinsic_Good_1 intrinsic_Good_1_b:=Iff.rfl
theorem u_intrinsic_Good_j2:U intrinsic_Good_j2 intrinsic_Good_j2_b:=Iff.rfl
theorem u_intrinsic_Good_l1:U intrinsic_Good_l1 intrinsic_Good_l1_b:=Iff.rfl
theorem u_intrinsic_Good_j0:U intrinsic_Good_j0 intrinsic_Good_j0_b:=Iff.rfl
theorem u_intrinsic_Good_j4:U intrinsic_Good_j4 intrinsic_Good_j4_b:=Iff.rfl
theorem u_intrinsic_Good_l5:U intrinsic_Good_l5 intrinsic_Good_l5_b:=Iff.rfl
theorem u_intrinsic_Good_j3:U intrinsic_Good_j3 intrinsic_Good_j3_b:=Iff.rfl
theorem u_intrinsic_Good_l6:U intrinsic_Good_l6 intrinsic_Good_l6_b:=Iff.rfl
theorem u_intrinsic_Good:U intrinsic_Good intrinsic_Good_b:=Iff.rfl
theorem u_slices_Clone___api_Sizing_api_Sizing_:U slices_Clone___api_Sizing_api_Sizing_ slices_Clone___api_Sizing_api_Sizing__b:=Iff.rfl
theorem u_intrinsic_loose:U intrinsic_loose intrinsic_loose_b:=Iff.rfl
theorem u_intrinsic_limit:U intrinsic_limit intrinsic_limit_b:=Iff.rfl
theorem u_pintrinsic_sizer_rounds_1:U pintrinsic_sizer_rounds_1 pintrinsic_sizer_rounds_1_b:=Iff.rfl
theorem u_intrinsic_content:U intrinsic_content intrinsic_content_b:=Iff.rfl
theorem u_intrinsic_Size_1:U intrinsic_Size_1 intrinsic_Size_1_b:=Iff.rfl
theorem u_pintrinsic_sizer_bases_2:U pintrinsic_sizer_bases_2 pintrinsic_sizer_bases_2_b:=Iff.rfl
theorem u_pintrinsic_sizer_rounds_7:U pintrinsic_sizer_rounds_7 pintrinsic_sizer_rounds_7_b:=Iff.rfl
theorem u_spread_right:U spread_right spread_right_b:=Iff.rfl
theorem u_spread_rooms_l0:U spread_rooms_l0 spread_rooms_l0_b:=Iff.rfl
theorem u_spread_rooms:U spread_rooms spread_rooms_b:=Iff.rfl
theorem u_spread_Up_l7:U spread_Up_l7 spread_Up_l7_b:=Iff.rfl
theorem u_spread_Up_l4:U spread_Up_l4 spread_Up_l4_b:=Iff.rfl
theorem u_spread_Up_l1:U spread_Up_l1 spread_Up_l1_b:=Iff.rfl
theorem u_spread_Up:U spread_Up spread_Up_b:=Iff.rfl
theorem u_fixed_Split_l0:U fixed_Split_l0 fixed_Split_l0_b:=Iff.rfl
theorem u_fixed_Split:U fixed_Split fixed_Split_b:=Iff.rfl
theorem u_spread_Fill_j2:U spread_Fill_j2 spread_Fill_j2_b:=Iff.rfl
theorem u_spread_Fill_l3:U spread_Fill_l3 spread_Fill_l3_b:=Iff.rfl
theorem u_spread_Fill_l1:U spread_Fill_l1 spread_Fill_l1_b:=Iff.rfl
theorem u_spread_Fill_j0:U spread_Fill_j0 spread_Fill_j0_b:=Iff.rfl
theorem u_spread_Fill:U spread_Fill spread_Fill_b:=Iff.rfl
theorem u_pintrinsic_sizer_rounds_9:U pintrinsic_sizer_rounds_9 pintrinsic_sizer_rounds_9_b:=Iff.rfl
theorem u_pintrinsic_sizer_rounds_8:U pintrinsic_sizer_rounds_8 pintrinsic_sizer_rounds_8_b:=Iff.rfl
theorem u_pintrinsic_sizer_rounds_3:U pintrinsic_sizer_rounds_3 pintrinsic_sizer_rounds_3_b:=Iff.rfl
theorem u_pintrinsic_sizer_rounds_6:U pintrinsic_sizer_rounds_6 pintrinsic_sizer_rounds_6_b:=Iff.rfl
theorem u_pintrinsic_sizer_rounds_4:U pintrinsic_sizer_rounds_4 pintrinsic_sizer_rounds_4_b:=Iff.rfl
theorem u_pintrinsic_sizer_several_1:U pintrinsic_sizer_several_1 pintrinsic_sizer_several_1_b:=Iff.rfl
theorem u_pintrinsic_sizer_limits_1:U pintrinsic_sizer_limits_1 pintrinsic_sizer_limits_1_b:=Iff.rfl
theorem u_pintrinsic_sizer_limits_2:U pintrinsic_sizer_limits_2 pintrinsic_sizer_limits_2_b:=Iff.rfl
theorem u_pintrinsic_sizer_several_2:U pintrinsic_sizer_several_2 pintrinsic_sizer_several_2_b:=Iff.rfl
theorem u_fixed_Share_l1:U fixed_Share_l1 fixed_Share_l1_b:=Iff.rfl
theorem u_fixed_Share_l0:U fixed_Share_l0 fixed_Share_l0_b:=Iff.rfl
theorem u_fixed_Share:U fixed_Share fixed_Share_b:=Iff.rfl
theorem u_spread_By:U spread_By spread_By_b:=Iff.rfl
theorem u_intrinsic_Size_j3:U intrinsic_Size_j3 intrinsic_Size_j3_b:=Iff.rfl
theorem u_intrinsic_Size_j5:U intrinsic_Size_j5 intrinsic_Size_j5_b:=Iff.rfl
theorem u_intrinsic_Size_l7:U intrinsic_Size_l7 intrinsic_Size_l7_b:=Iff.rfl
theorem u_intrinsic_Size_l6:U intrinsic_Size_l6 intrinsic_Size_l6_b:=Iff.rfl
theorem u_intrinsic_Size_s4:U intrinsic_Size_s4 intrinsic_Size_s4_b:=Iff.rfl
theorem u_intrinsic_Size_j9:U intrinsic_Size_j9 intrinsic_Size_j9_b:=Iff.rfl
theorem u_intrinsic_Size_j11:U intrinsic_Size_j11 intrinsic_Size_j11_b:=Iff.rfl
theorem u_intrinsic_Size_j10:U intrinsic_Size_j10 intrinsic_Size_j10_b:=Iff.rfl
theorem u_intrinsic_Size_j13:U intrinsic_Size_j13 intrinsic_Size_j13_b:=Iff.rfl
theorem u_intrinsic_Size_j15:U intrinsic_Size_j15 intrinsic_Size_j15_b:=Iff.rfl
theorem u_intrinsic_Size_j14:U intrinsic_Size_j14 intrinsic_Size_j14_b:=Iff.rfl
theorem u_intrinsic_Size_l16:U intrinsic_Size_l16 intrinsic_Size_l16_b:=Iff.rfl
theorem u_intrinsic_Size_j18:U intrinsic_Size_j18 intrinsic_Size_j18_b:=Iff.rfl
theorem u_intrinsic_Size_j106:U intrinsic_Size_j106 intrinsic_Size_j106_b:=Iff.rfl
theorem u_intrinsic_Size_l17:U intrinsic_Size_l17 intrinsic_Size_l17_b:=Iff.rfl
theorem u_intrinsic_Size_l12:U intrinsic_Size_l12 intrinsic_Size_l12_b:=Iff.rfl
theorem u_intrinsic_Size_l8:U intrinsic_Size_l8 intrinsic_Size_l8_b:=Iff.rfl
theorem u_intrinsic_Size_l2:U intrinsic_Size_l2 intrinsic_Size_l2_b:=Iff.rfl
theorem u_intrinsic_Size_j1:U intrinsic_Size_j1 intrinsic_Size_j1_b:=Iff.rfl
theorem u_intrinsic_Size_j0:U intrinsic_Size_j0 intrinsic_Size_j0_b:=Iff.rfl
theorem u_intrinsic_Size:U intrinsic_Size intrinsic_Size_b:=Iff.rfl
theorem u_maximise_good_1:U maximise_good_1 maximise_good_1_b:=Iff.rfl
theorem u_maximise_good_l1:U maximise_good_l1 maximise_good_l1_b:=Iff.rfl
theorem u_maximise_good:U maximise_good maximise_good_b:=Iff.rfl
theorem u_maximise_within:U maximise_within maximise_within_b:=Iff.rfl
theorem u_maximise_Total_1:U maximise_Total_1 maximise_Total_1_b:=Iff.rfl
theorem u_maximise_Total_l1:U maximise_Total_l1 maximise_Total_l1_b:=Iff.rfl
theorem u_maximise_Total_j0:U maximise_Total_j0 maximise_Total_j0_b:=Iff.rfl
theorem u_maximise_Total_j2:U maximise_Total_j2 maximise_Total_j2_b:=Iff.rfl
theorem u_maximise_Total_l3:U maximise_Total_l3 maximise_Total_l3_b:=Iff.rfl
theorem u_maximise_Total:U maximise_Total maximise_Total_b:=Iff.rfl
theorem u_flex_less_l0:U flex_less_l0 flex_less_l0_b:=Iff.rfl
theorem u_flex_less:U flex_less flex_less_b:=Iff.rfl
theorem u_flex_share_part:U flex_share_part flex_share_part_b:=Iff.rfl
theorem u_flex_shared_j2:U flex_shared_j2 flex_shared_j2_b:=Iff.rfl
theorem u_flex_shared_j4:U flex_shared_j4 flex_shared_j4_b:=Iff.rfl
theorem u_flex_shared_l3:U flex_shared_l3 flex_shared_l3_b:=Iff.rfl
theorem u_flex_shared_l1:U flex_shared_l1 flex_shared_l1_b:=Iff.rfl
theorem u_flex_shared_l0:U flex_shared_l0 flex_shared_l0_b:=Iff.rfl
theorem u_flex_shared:U flex_shared flex_shared_b:=Iff.rfl
theorem u_flex_right_1:U flex_right_1 flex_right_1_b:=Iff.rfl
theorem u_flex_right_j0:U flex_right_j0 flex_right_j0_b:=Iff.rfl
theorem u_flex_right_l1:U flex_right_l1 flex_right_l1_b:=Iff.rfl
theorem u_flex_right:U flex_right flex_right_b:=Iff.rfl
theorem u_flex_Fill_j4:U flex_Fill_j4 flex_Fill_j4_b:=Iff.rfl
theorem u_flex_Fill_l3:U flex_Fill_l3 flex_Fill_l3_b:=Iff.rfl
theorem u_flex_Fill_j2:U flex_Fill_j2 flex_Fill_j2_b:=Iff.rfl
theorem u_flex_Fill_l5:U flex_Fill_l5 flex_Fill_l5_b:=Iff.rfl
theorem u_flex_Fill_l1:U flex_Fill_l1 flex_Fill_l1_b:=Iff.rfl
theorem u_flex_Fill_j0:U flex_Fill_j0 flex_Fill_j0_b:=Iff.rfl
theorem u_flex_Fill:U flex_Fill flex_Fill_b:=Iff.rfl
theorem u_maximise_Stretch_j2:U maximise_Stretch_j2 maximise_Stretch_j2_b:=Iff.rfl
theorem u_maximise_Stretch_l4:U maximise_Stretch_l4 maximise_Stretch_l4_b:=Iff.rfl
theorem u_maximise_Stretch_l3:U maximise_Stretch_l3 maximise_Stretch_l3_b:=Iff.rfl
theorem u_maximise_Stretch_l1:U maximise_Stretch_l1 maximise_Stretch_l1_b:=Iff.rfl
theorem u_maximise_Stretch_j0:U maximise_Stretch_j0 maximise_Stretch_j0_b:=Iff.rfl
theorem u_maximise_Stretch:U maximise_Stretch maximise_Stretch_b:=Iff.rfl
theorem u_maximise_Grow_l2:U maximise_Grow_l2 maximise_Grow_l2_b:=Iff.rfl
theorem u_maximise_Grow_l1:U maximise_Grow_l1 maximise_Grow_l1_b:=Iff.rfl
theorem u_maximise_Grow_j0:U maximise_Grow_j0 maximise_Grow_j0_b:=Iff.rfl
theorem u_maximise_Grow:U maximise_Grow maximise_Grow_b:=Iff.rfl
theorem u_maximise_Full_j1:U maximise_Full_j1 maximise_Full_j1_b:=Iff.rfl
theorem u_maximise_Full_l0:U maximise_Full_l0 maximise_Full_l0_b:=Iff.rfl
theorem u_maximise_Full:U maximise_Full maximise_Full_b:=Iff.rfl
theorem u_flex_up:U flex_up flex_up_b:=Iff.rfl
theorem u_flex_Unit:U flex_Unit flex_Unit_b:=Iff.rfl
theorem u_flex_Grow_j2:U flex_Grow_j2 flex_Grow_j2_b:=Iff.rfl
theorem u_flex_Grow_j5:U flex_Grow_j5 flex_Grow_j5_b:=Iff.rfl
theorem u_flex_Grow_j7:U flex_Grow_j7 flex_Grow_j7_b:=Iff.rfl
theorem u_flex_Grow_l6:U flex_Grow_l6 flex_Grow_l6_b:=Iff.rfl
theorem u_flex_Grow_l4:U flex_Grow_l4 flex_Grow_l4_b:=Iff.rfl
theorem u_flex_Grow_l3:U flex_Grow_l3 flex_Grow_l3_b:=Iff.rfl
theorem u_flex_Grow_l1:U flex_Grow_l1 flex_Grow_l1_b:=Iff.rfl
theorem u_flex_Grow_j0:U flex_Grow_j0 flex_Grow_j0_b:=Iff.rfl
theorem u_flex_Grow:U flex_Grow flex_Grow_b:=Iff.rfl
theorem u_tracks_within:U tracks_within tracks_within_b:=Iff.rfl
theorem u_tracks_Size_j0:U tracks_Size_j0 tracks_Size_j0_b:=Iff.rfl
theorem u_tracks_Size_l3:U tracks_Size_l3 tracks_Size_l3_b:=Iff.rfl
theorem u_tracks_Size_j2:U tracks_Size_j2 tracks_Size_j2_b:=Iff.rfl
theorem u_tracks_Size_j5:U tracks_Size_j5 tracks_Size_j5_b:=Iff.rfl
theorem u_tracks_Size_j4:U tracks_Size_j4 tracks_Size_j4_b:=Iff.rfl
theorem u_tracks_Size_j1:U tracks_Size_j1 tracks_Size_j1_b:=Iff.rfl
theorem u_tracks_Size:U tracks_Size tracks_Size_b:=Iff.rfl
theorem u_tracks_Sum_l1:U tracks_Sum_l1 tracks_Sum_l1_b:=Iff.rfl
theorem u_tracks_Sum_l0:U tracks_Sum_l0 tracks_Sum_l0_b:=Iff.rfl
theorem u_tracks_Sum:U tracks_Sum tracks_Sum_b:=Iff.rfl
theorem u_law27_TracksFull_j1:U law27_TracksFull_j1 law27_TracksFull_j1_b:=Iff.rfl
theorem u_law27_TracksFull_j2:U law27_TracksFull_j2 law27_TracksFull_j2_b:=Iff.rfl
theorem u_law27_TracksFull_l0:U law27_TracksFull_l0 law27_TracksFull_l0_b:=Iff.rfl
theorem u_law27_TracksFull:U law27_TracksFull law27_TracksFull_b:=Iff.rfl
end Go.Proofs.YtckjdlmfibjpaaaGreat.T
