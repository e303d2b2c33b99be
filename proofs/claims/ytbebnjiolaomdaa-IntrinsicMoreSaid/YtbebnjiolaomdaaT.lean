/- The trees of the laws and of what they call, written down; the laws' pure statements. No condition. -/
import Derived.Test.YtbebnjiolaomdaaSx6
set_option maxRecDepth 100000
set_option linter.unusedVariables false
namespace Go.Proofs.Ytbebnjiolaomdaa.T
open Go Go.Proofs.Ytbebnjiolaomdaa.Sx Go.Proofs.Ytbebnjiolaomdaa.Sx.T Go.Proofs.Ytbebnjiolaomdaa.Sx.Ex
abbrev v (i : Nat) : Ex := .var i
abbrev n (x : Int) : Ex := .int .i64 x
abbrev add (a b : Ex) : Ex := .bin (.ar .add .i64) a b
abbrev sub (a b : Ex) : Ex := .bin (.ar .sub .i64) a b
abbrev cmp (o : BinOp) (a b : Ex) : Ex := .bin (.cmp o) a b
abbrev at_ (j : Nat) (a b : Ex) : Ex := .bin (.cell j (.int .i64)) a b
/- parterre/parterrelaw24.light -/
abbrev c_law24_light : Nat := 7
@[reducible] def law24_light_b : T := .ret [(.bin .and (.bin .and (cmp .leq (.un .len (v 0)) (n 60)) (cmp .leq (.un .len (v 1)) (n 60))) (cmp .leq (.un .len (v 2)) (n 60)))]
def law24_light : T := law24_light_b
/- parterre/fixed.Is -/
abbrev c_fixed_Is : Nat := 49
@[reducible] def fixed_Is_b : T := .ret [(.bin .and (cmp .geq (v 0) (n (-68719476736))) (cmp .leq (v 0) (n 68719476736)))]
def fixed_Is : T := fixed_Is_b
/- parterre/intrinsic.within -/
abbrev c_intrinsic_within : Nat := 22
@[reducible] def intrinsic_within_b : T := .ite (cmp .geq (v 0) (n 0))
 (.call c_fixed_Is [(v 0)] 1 <|
  .ret [(v 1)])
 (.ret [(.bool false)])
def intrinsic_within : T := intrinsic_within_b
/- parterre/intrinsic.Good$2 -/
abbrev c_intrinsic_Good_2 : Nat := 28
@[reducible] def intrinsic_Good_2_b : T := .call c_intrinsic_within [(v 0)] 1 <|
 .ret [(.un .not (v 1))]
def intrinsic_Good_2 : T := intrinsic_Good_2_b
/- parterre/base.Good$1 -/
abbrev c_base_Good_1 : Nat := 53
@[reducible] def base_Good_1_b : T := .ret [(.bin .and (cmp .geq (v 0) (v 1)) (cmp .leq (v 0) (v 2)))]
def base_Good_1 : T := base_Good_1_b
/- parterre/base.Good -/
abbrev c_base_Good : Nat := 27
@[reducible] def base_Good_j0_b : T := .ite (v 7)
 (.ret [(.bool false)])
 (.call c_base_Good_1 [(v 2), (n 0), (n 1073741824)] 1 <|
  .ite (.bin .or (.un .not (v 8)) (.bin .and (cmp .neq (v 1) (n 5)) (cmp .gtr (v 2) (n 0))))
  (.ret [(.bool false)])
  (.call c_base_Good_1 [(v 4), (n 0), (n 68719476736)] 1 <|
   .ite (.bin .or (.un .not (v 9)) (.bin .and (.un .not (v 3)) (cmp .gtr (v 4) (n 0))))
   (.ret [(.bool false)])
   (.ite (.bin .and (v 3) (.un .not (.bin .and (cmp .eql (v 0) (n 2)) (.bin .and (cmp .eql (v 1) (n 4)) (.bin .and (cmp .eql (v 2) (n 0)) (.bin .and (.bin .beq (v 3) (.bool true)) (.bin .and (cmp .eql (v 4) (v 4)) (.bin .and (cmp .eql (v 5) (v 5)) (cmp .eql (v 6) (v 6))))))))))
    (.ret [(.bool false)])
    (.call c_base_Good_1 [(v 5), (n 0), (n 1125899906842623)] 1 <|
     .ite (v 10)
     (.call c_base_Good_1 [(v 6), (v 5), (n 1125899906842624)] 1 <|
      .ret [(v 11)])
     (.ret [(.bool false)])))))
def base_Good_j0 : T := base_Good_j0_b
@[reducible] def base_Good_b : T := .letj base_Good_j0 <|
 .call c_base_Good_1 [(v 0), (n 1), (n 4)] 1 <|
 .ite (v 7)
 (.call c_base_Good_1 [(v 1), (n 1), (n 5)] 1 <|
  .jump 0 [(.un .not (v 8))])
 (.jump 0 [(.bool true)])
def base_Good : T := base_Good_b
/- parterre/intrinsic.Good$1 -/
abbrev c_intrinsic_Good_1 : Nat := 26
@[reducible] def intrinsic_Good_1_b : T := .call c_base_Good [(v 0), (v 1), (v 2), (v 3), (v 4), (v 5), (v 6)] 1 <|
 .ret [(.un .not (v 7))]
def intrinsic_Good_1 : T := intrinsic_Good_1_b
/- parterre/intrinsic.Good -/
abbrev c_intrinsic_Good : Nat := 13
@[reducible] def intrinsic_Good_j2_b : T := .ite (v 6)
 (.ret [(.bool false)])
 (.jump 0 [(add (v 5) (n 1))])
def intrinsic_Good_j2 : T := intrinsic_Good_j2_b
@[reducible] def intrinsic_Good_l1_b : T := .ite (cmp .lss (v 5) (.un .len (v 2)))
 (.ite (cmp .leq (n 0) (v 5))
  (.letj intrinsic_Good_j2 <|
   .ite (.bin .or (.bin .or (cmp .lss (at_ 0 (v 2) (v 5)) (n 0)) (cmp .geq (at_ 0 (v 2) (v 5)) (at_ 1 (v 2) (v 5)))) (cmp .gtr (at_ 1 (v 2) (v 5)) (.un .len (v 0))))
   (.jump 1 [(.bool true)])
   (.call c_intrinsic_within [(at_ 2 (v 2) (v 5))] 1 <|
    .ite (v 6)
    (.call c_intrinsic_within [(at_ 3 (v 2) (v 5))] 1 <|
     .ite (v 7)
     (.call c_intrinsic_within [(at_ 4 (v 2) (v 5))] 1 <|
      .jump 1 [(.un .not (v 8))])
     (.jump 1 [(.bool true)]))
    (.jump 1 [(.bool true)])))
  (.fail ""))
 (.ret [(.bool true)])
def intrinsic_Good_l1 : T := intrinsic_Good_l1_b
@[reducible] def intrinsic_Good_j0_b : T := .ite (v 4)
 (.ret [(.bool false)])
 (.loop [(n 0)] intrinsic_Good_l1)
def intrinsic_Good_j0 : T := intrinsic_Good_j0_b
@[reducible] def intrinsic_Good_j4_b : T := .jump 0 [(cmp .geq (v 5) (n 0))]
def intrinsic_Good_j4 : T := intrinsic_Good_j4_b
@[reducible] def intrinsic_Good_l5_b : T := .ite (cmp .lss (v 5) (.un .len (v 1)))
 (.ite (cmp .leq (n 0) (v 5))
  (.call c_intrinsic_Good_2 [(at_ 0 (v 1) (v 5))] 1 <|
   .ite (v 6)
   (.jump 1 [(v 5)])
   (.jump 2 [(add (v 5) (n 1))]))
  (.fail ""))
 (.jump 1 [(n (-1))])
def intrinsic_Good_l5 : T := intrinsic_Good_l5_b
@[reducible] def intrinsic_Good_j3_b : T := .ite (cmp .geq (v 4) (n 0))
 (.jump 0 [(.bool true)])
 (.letj intrinsic_Good_j4 <|
  .loop [(n 0)] intrinsic_Good_l5)
def intrinsic_Good_j3 : T := intrinsic_Good_j3_b
@[reducible] def intrinsic_Good_l6_b : T := .ite (cmp .lss (v 4) (.un .len (v 0)))
 (.ite (cmp .leq (n 0) (v 4))
  (.call c_intrinsic_Good_1 [(at_ 0 (v 0) (v 4)), (at_ 1 (v 0) (v 4)), (at_ 2 (v 0) (v 4)), (.bin (.cell 3 (.bool)) (v 0) (v 4)), (at_ 4 (v 0) (v 4)), (at_ 5 (v 0) (v 4)), (at_ 6 (v 0) (v 4))] 1 <|
   .ite (v 5)
   (.jump 1 [(v 4)])
   (.jump 2 [(add (v 4) (n 1))]))
  (.fail ""))
 (.jump 1 [(n (-1))])
def intrinsic_Good_l6 : T := intrinsic_Good_l6_b
@[reducible] def intrinsic_Good_b : T := .letj intrinsic_Good_j0 <|
 .ite (.bin .or (.bin .or (.bin .or (cmp .neq (.un .len (v 1)) (.un .len (v 0))) (cmp .gtr (.un .len (v 2)) (n 4096))) (cmp .lss (v 3) (n 0))) (cmp .gtr (v 3) (n 2)))
 (.jump 0 [(.bool true)])
 (.letj intrinsic_Good_j3 <|
  .loop [(n 0)] intrinsic_Good_l6)
def intrinsic_Good : T := intrinsic_Good_b
/- slices.Clone[[]parterre/api.Sizing,parterre/api.Sizing] -/
abbrev c_slices_Clone___api_Sizing_api_Sizing_ : Nat := 15
@[reducible] def slices_Clone___api_Sizing_api_Sizing__b : T := .any <|
 .ite (.bin .and (cmp .eql (.un .len (v 0)) (n 0)) (v 1))
 (.ret [.nil])
 (.ite (cmp .leq (.bin .plus (n 0) (.un .len (v 0))) (n 4294967296))
  (.ret [(.bin .cat .nil (v 0))])
  (.fail ""))
def slices_Clone___api_Sizing_api_Sizing_ : T := slices_Clone___api_Sizing_api_Sizing__b
/- parterre/intrinsic.loose -/
abbrev c_intrinsic_loose : Nat := 38
@[reducible] def intrinsic_loose_b : T := .ret [(cmp .neq (v 1) (n 1))]
def intrinsic_loose : T := intrinsic_loose_b
/- parterre/intrinsic.limit -/
abbrev c_intrinsic_limit : Nat := 41
@[reducible] def intrinsic_limit_b : T := .ite (v 3)
 (.ret [(.bin (.max .i64) (v 4) (v 5))])
 (.ret [(v 6)])
def intrinsic_limit : T := intrinsic_limit_b
/- (*parterre/intrinsic.sizer).rounds$1 -/
abbrev c_pintrinsic_sizer_rounds_1 : Nat := 55
@[reducible] def pintrinsic_sizer_rounds_1_b : T := .ret [(v 2)]
def pintrinsic_sizer_rounds_1 : T := pintrinsic_sizer_rounds_1_b
/- parterre/base.Raise -/
abbrev c_base_Raise : Nat := 33
@[reducible] def base_Raise_j0_b : T := .ret [(v 0), (v 1), (v 2), (v 3), (v 4), (v 5), (v 7)]
def base_Raise_j0 : T := base_Raise_j0_b
@[reducible] def base_Raise_b : T := .letj base_Raise_j0 <|
 .ite (cmp .lss (v 6) (v 5))
 (.jump 0 [(v 5)])
 (.jump 0 [(v 6)])
def base_Raise : T := base_Raise_b
/- parterre/intrinsic.content -/
abbrev c_intrinsic_content : Nat := 32
@[reducible] def intrinsic_content_b : T := .ret [(.bin .or (cmp .eql (v 1) (n 4)) (cmp .eql (v 1) (n 2)))]
def intrinsic_content : T := intrinsic_content_b
/- parterre/intrinsic.Size$1 -/
abbrev c_intrinsic_Size_1 : Nat := 18
@[reducible] def intrinsic_Size_1_b : T := .ret [(cmp .eql (v 1) (n 5))]
def intrinsic_Size_1 : T := intrinsic_Size_1_b
/- (*parterre/intrinsic.sizer).bases$2 -/
abbrev c_pintrinsic_sizer_bases_2 : Nat := 43
@[reducible] def pintrinsic_sizer_bases_2_b : T := .ret [(v 5)]
def pintrinsic_sizer_bases_2 : T := pintrinsic_sizer_bases_2_b
/- (*parterre/intrinsic.sizer).rounds$7 -/
abbrev c_pintrinsic_sizer_rounds_7 : Nat := 61
@[reducible] def pintrinsic_sizer_rounds_7_b : T := .ret [(cmp .neq (v 0) (n 1))]
def pintrinsic_sizer_rounds_7 : T := pintrinsic_sizer_rounds_7_b
/- parterre/spread.right -/
abbrev c_spread_right : Nat := 81
@[reducible] def spread_right_b : T := .ret [(.bin .and (.bin .and (cmp .geq (v 0) (n 0)) (cmp .lss (v 0) (n 1125899906842624))) (cmp .leq (v 1) (n 65536)))]
def spread_right : T := spread_right_b
/- parterre/spread.rooms -/
abbrev c_spread_rooms : Nat := 91
@[reducible] def spread_rooms_l0_b : T := .ite (cmp .lss (v 1) (.un .len (v 0)))
 (.ite (cmp .leq (n 0) (v 1))
  (.ite (.bin .or (cmp .lss (at_ 0 (v 0) (v 1)) (n 0)) (cmp .gtr (at_ 0 (v 0) (v 1)) (n 1125899906842624)))
   (.ret [(.bool false)])
   (.jump 0 [(add (v 1) (n 1))]))
  (.fail ""))
 (.ret [(.bool true)])
def spread_rooms_l0 : T := spread_rooms_l0_b
@[reducible] def spread_rooms_b : T := .loop [(n 0)] spread_rooms_l0
def spread_rooms : T := spread_rooms_b
/- parterre/spread.Up -/
abbrev c_spread_Up : Nat := 90
@[reducible] def spread_Up_j2_b : T := .ite (v 5)
 (.jump 0 [(v 6), (v 7)])
 (.ret [(v 7)])
def spread_Up_j2 : T := spread_Up_j2_b
@[reducible] def spread_Up_j3_b : T := .jump 1 [(v 7), (v 5), (v 6)]
def spread_Up_j3 : T := spread_Up_j3_b
@[reducible] def spread_Up_j5_b : T := .jump 3 [(add (v 5) (n 1)), (v 7)]
def spread_Up_j5 : T := spread_Up_j5_b
@[reducible] def spread_Up_j6_b : T := .jump 2 [(v 7), (v 8), (.bool true)]
def spread_Up_j6 : T := spread_Up_j6_b
@[reducible] def spread_Up_j8_b : T := .jump 5 [(add (v 7) (n 1)), (v 10), (v 11)]
def spread_Up_j8 : T := spread_Up_j8_b
@[reducible] def spread_Up_l7_b : T := .ite (cmp .lss (v 7) (.un .len (v 1)))
 (.letj spread_Up_j8 <|
  .ite (cmp .leq (n 0) (v 7))
  (.ite (cmp .lss (v 7) (.un .len (v 9)))
   (.ite (cmp .eql (.bin (.min .i64) (.bin (.max .i64) (.bin (.ar .quo .i64) (v 3) (v 6)) (n 1)) (sub (at_ 0 (v 1) (v 7)) (at_ 0 (v 9) (v 7)))) (n 0))
    (.jump 6 [(v 8), (v 9)])
    (.ite (cmp .lss (v 8) (.bin (.min .i64) (.bin (.max .i64) (.bin (.ar .quo .i64) (v 3) (v 6)) (n 1)) (sub (at_ 0 (v 1) (v 7)) (at_ 0 (v 9) (v 7)))))
     (.jump 4 [(v 8), (v 9)])
     (.jump 6 [(sub (v 8) (.bin (.min .i64) (.bin (.max .i64) (.bin (.ar .quo .i64) (v 3) (v 6)) (n 1)) (sub (at_ 0 (v 1) (v 7)) (at_ 0 (v 9) (v 7))))), (.tri .set (v 9) (v 7) (.bin .cons (add (at_ 0 (v 9) (v 7)) (.bin (.min .i64) (.bin (.max .i64) (.bin (.ar .quo .i64) (v 3) (v 6)) (n 1)) (sub (at_ 0 (v 1) (v 7)) (at_ 0 (v 9) (v 7))))) .nilc))])))
   (.fail ""))
  (.fail ""))
 (.jump 4 [(v 8), (v 9)])
def spread_Up_l7 : T := spread_Up_l7_b
@[reducible] def spread_Up_l4_b : T := .ite (cmp .lss (v 5) (.un .len (v 1)))
 (.letj spread_Up_j5 <|
  .ite (cmp .leq (n 0) (v 5))
  (.ite (cmp .lss (v 5) (.un .len (v 4)))
   (.ite (cmp .lss (at_ 0 (v 4) (v 5)) (at_ 0 (v 1) (v 5)))
    (.jump 4 [(add (v 6) (n 1))])
    (.jump 4 [(v 6)]))
   (.fail ""))
  (.fail ""))
 (.ite (cmp .eql (v 6) (n 0))
  (.jump 2 [(v 3), (v 4), (.bool false)])
  (.ite (cmp .neq (v 6) (n 0))
   (.letj spread_Up_j6 <|
    .loop [(n 0), (v 3), (v 4)] spread_Up_l7)
   (.fail "")))
def spread_Up_l4 : T := spread_Up_l4_b
@[reducible] def spread_Up_l1_b : T := .letj spread_Up_j2 <|
 .ite (cmp .gtr (v 3) (n 0))
 (.letj spread_Up_j3 <|
  .loop [(n 0), (n 0)] spread_Up_l4)
 (.jump 1 [(.bool false), (v 3), (v 4)])
def spread_Up_l1 : T := spread_Up_l1_b
@[reducible] def spread_Up_j0_b : T := .ite (v 2)
 (.ret [(.bin .make (.bin .cons (n 0) .nilc) (.un .len (v 1)))])
 (.loop [(v 0), (.bin .make (.bin .cons (n 0) .nilc) (.un .len (v 1)))] spread_Up_l1)
def spread_Up_j0 : T := spread_Up_j0_b
@[reducible] def spread_Up_b : T := .ite (cmp .leq (.un .len (v 1)) (n 17592186044416))
 (.letj spread_Up_j0 <|
  .call c_spread_right [(v 0), (.un .len (v 1))] 1 <|
  .ite (v 2)
  (.call c_spread_rooms [(v 1)] 1 <|
   .jump 0 [(.un .not (v 3))])
  (.jump 0 [(.bool true)]))
 (.fail "")
def spread_Up : T := spread_Up_b
/- parterre/fixed.Split -/
abbrev c_fixed_Split : Nat := 83
@[reducible] def fixed_Split_j1_b : T := .jump 0 [(add (v 2) (n 1)), (v 4)]
def fixed_Split_j1 : T := fixed_Split_j1_b
@[reducible] def fixed_Split_l0_b : T := .ite (cmp .lss (v 2) (.un .len (.bin .make (.bin .cons (n 0) .nilc) (v 1))))
 (.letj fixed_Split_j1 <|
  .ite (cmp .neq (v 1) (n 0))
  (.ite (cmp .leq (n 0) (v 2))
   (.ite (cmp .lss (v 2) (.un .len (v 3)))
    (.ite (cmp .lss (v 2) (.bin (.ar .rem .i64) (v 0) (v 1)))
     (.ite (cmp .lss (v 2) (.un .len (.tri .set (v 3) (v 2) (.bin .cons (.bin (.ar .quo .i64) (v 0) (v 1)) .nilc))))
      (.jump 1 [(.tri .set (.tri .set (v 3) (v 2) (.bin .cons (.bin (.ar .quo .i64) (v 0) (v 1)) .nilc)) (v 2) (.bin .cons (add (at_ 0 (.tri .set (v 3) (v 2) (.bin .cons (.bin (.ar .quo .i64) (v 0) (v 1)) .nilc)) (v 2)) (n 1)) .nilc))])
      (.fail ""))
     (.jump 1 [(.tri .set (v 3) (v 2) (.bin .cons (.bin (.ar .quo .i64) (v 0) (v 1)) .nilc))]))
    (.fail ""))
   (.fail ""))
  (.fail ""))
 (.ret [(v 3)])
def fixed_Split_l0 : T := fixed_Split_l0_b
@[reducible] def fixed_Split_b : T := .ite (.bin .or (.bin .or (cmp .lss (v 0) (n 0)) (cmp .lss (v 1) (n 1))) (cmp .gtr (v 1) (n 65536)))
 (.ret [.nil])
 (.ite (cmp .leq (n 0) (v 1))
  (.ite (cmp .leq (v 1) (n 17592186044416))
   (.loop [(n 0), (.bin .make (.bin .cons (n 0) .nilc) (v 1))] fixed_Split_l0)
   (.fail ""))
  (.fail ""))
def fixed_Split : T := fixed_Split_b
/- parterre/spread.Fill -/
abbrev c_spread_Fill : Nat := 80
@[reducible] def spread_Fill_j2_b : T := .jump 0 [(add (v 5) (n 1)), (v 8), (sub (v 7) (at_ 0 (v 3) (v 5)))]
def spread_Fill_j2 : T := spread_Fill_j2_b
@[reducible] def spread_Fill_l3_b : T := .ite (cmp .lss (v 9) (.un .len (v 8)))
 (.ite (cmp .leq (n 0) (v 9))
  (.ite (cmp .lss (v 9) (.un .len (v 6)))
   (.ite (cmp .leq (n 0) (at_ 0 (v 6) (v 9)))
    (.ite (cmp .lss (at_ 0 (v 6) (v 9)) (.un .len (v 10)))
     (.jump 1 [(add (v 9) (n 1)), (.tri .set (v 10) (at_ 0 (v 6) (v 9)) (.bin .cons (add (at_ 0 (v 10) (at_ 0 (v 6) (v 9))) (at_ 0 (v 8) (v 9))) .nilc))])
     (.fail ""))
    (.fail ""))
   (.fail ""))
  (.fail ""))
 (.ret [(v 10)])
def spread_Fill_l3 : T := spread_Fill_l3_b
@[reducible] def spread_Fill_l1_b : T := .ite (cmp .lss (v 5) (.un .len (v 3)))
 (.letj spread_Fill_j2 <|
  .ite (cmp .leq (n 0) (v 5))
  (.ite (cmp .lss (v 5) (.un .len (v 2)))
   (.ite (.bin (.cell 0 (.bool)) (v 2) (v 5))
    (.ite (cmp .leq (.bin .plus (.un .len (v 6)) (.un .len (.bin .snoc .nil (.bin .cons (v 5) .nilc)))) (n 4294967296))
     (.jump 1 [(.bin .snoc (v 6) (.bin .cons (v 5) .nilc))])
     (.fail ""))
    (.jump 1 [(v 6)]))
   (.fail ""))
  (.fail ""))
 (.call c_fixed_Split [(v 7), (.un .len (v 6))] 1 <|
  .loop [(n 0), (v 3)] spread_Fill_l3)
def spread_Fill_l1 : T := spread_Fill_l1_b
@[reducible] def spread_Fill_j0_b : T := .ite (v 4)
 (.ite (cmp .leq (.un .len (v 1)) (n 17592186044416))
  (.ret [(.bin .make (.bin .cons (n 0) .nilc) (.un .len (v 1)))])
  (.fail ""))
 (.loop [(n 0), .nil, (v 0)] spread_Fill_l1)
def spread_Fill_j0 : T := spread_Fill_j0_b
@[reducible] def spread_Fill_b : T := .call c_spread_Up [(v 0), (v 1)] 1 <|
 .letj spread_Fill_j0 <|
 .call c_spread_right [(v 0), (.un .len (v 1))] 1 <|
 .ite (v 4)
 (.call c_spread_rooms [(v 1)] 1 <|
  .jump 0 [(.bin .or (.un .not (v 5)) (cmp .neq (.un .len (v 2)) (.un .len (v 1))))])
 (.jump 0 [(.bool true)])
def spread_Fill : T := spread_Fill_b
/- (*parterre/intrinsic.sizer).rounds$9 -/
abbrev c_pintrinsic_sizer_rounds_9 : Nat := 63
@[reducible] def pintrinsic_sizer_rounds_9_b : T := .ret [(v 3)]
def pintrinsic_sizer_rounds_9 : T := pintrinsic_sizer_rounds_9_b
/- (*parterre/intrinsic.sizer).rounds$8 -/
abbrev c_pintrinsic_sizer_rounds_8 : Nat := 62
@[reducible] def pintrinsic_sizer_rounds_8_b : T := .ret [(.bin .or (cmp .eql (v 0) (n 3)) (cmp .eql (v 0) (n 4)))]
def pintrinsic_sizer_rounds_8 : T := pintrinsic_sizer_rounds_8_b
/- (*parterre/intrinsic.sizer).rounds$3 -/
abbrev c_pintrinsic_sizer_rounds_3 : Nat := 57
@[reducible] def pintrinsic_sizer_rounds_3_b : T := .ret [(v 4)]
def pintrinsic_sizer_rounds_3 : T := pintrinsic_sizer_rounds_3_b
/- (*parterre/intrinsic.sizer).rounds$6 -/
abbrev c_pintrinsic_sizer_rounds_6 : Nat := 60
@[reducible] def pintrinsic_sizer_rounds_6_b : T := .ret [(.bin .or (cmp .eql (v 0) (n 4)) (cmp .eql (v 0) (n 2)))]
def pintrinsic_sizer_rounds_6 : T := pintrinsic_sizer_rounds_6_b
/- (*parterre/intrinsic.sizer).rounds$4 -/
abbrev c_pintrinsic_sizer_rounds_4 : Nat := 58
@[reducible] def pintrinsic_sizer_rounds_4_b : T := .ret [(cmp .eql (v 0) (n 4))]
def pintrinsic_sizer_rounds_4 : T := pintrinsic_sizer_rounds_4_b
/- (*parterre/intrinsic.sizer).several$1 -/
abbrev c_pintrinsic_sizer_several_1 : Nat := 39
@[reducible] def pintrinsic_sizer_several_1_b : T := .ret [(v 3)]
def pintrinsic_sizer_several_1 : T := pintrinsic_sizer_several_1_b
/- (*parterre/intrinsic.sizer).limits$1 -/
abbrev c_pintrinsic_sizer_limits_1 : Nat := 75
@[reducible] def pintrinsic_sizer_limits_1_b : T := .ite (cmp .lss (v 6) (n 1125899906842624))
 (.ret [(v 6)])
 (.ret [(v 5)])
def pintrinsic_sizer_limits_1 : T := pintrinsic_sizer_limits_1_b
/- (*parterre/intrinsic.sizer).limits$2 -/
abbrev c_pintrinsic_sizer_limits_2 : Nat := 76
@[reducible] def pintrinsic_sizer_limits_2_b : T := .ret [(.bool true)]
def pintrinsic_sizer_limits_2 : T := pintrinsic_sizer_limits_2_b
/- (*parterre/intrinsic.sizer).several$2 -/
abbrev c_pintrinsic_sizer_several_2 : Nat := 40
@[reducible] def pintrinsic_sizer_several_2_b : T := .ret [(v 4)]
def pintrinsic_sizer_several_2 : T := pintrinsic_sizer_several_2_b
/- parterre/fixed.size -/
abbrev c_fixed_size : Nat := 98
@[reducible] def fixed_size_b : T := .ite (cmp .lss (v 0) (n 0))
 (.ret [(.un (.neg .u64) (.un (.conv .u64) (v 0)))])
 (.ret [(.un (.conv .u64) (v 0))])
def fixed_size : T := fixed_size_b
/- math/bits.Mul64 -/
abbrev c_math_bits_Mul64 : Nat := 97
@[reducible] def math_bits_Mul64_b : T := .ret [(.bin (.ar .add .u64) (.bin (.ar .add .u64) (.bin (.ar .mul .u64) (.bin (.ar .shr .u64) (v 0) (.int .u64 32)) (.bin (.ar .shr .u64) (v 1) (.int .u64 32))) (.bin (.ar .shr .u64) (.bin (.ar .add .u64) (.bin (.ar .mul .u64) (.bin (.ar .shr .u64) (v 0) (.int .u64 32)) (.bin (.ar .and .u64) (v 1) (.int .u64 4294967295))) (.bin (.ar .shr .u64) (.bin (.ar .mul .u64) (.bin (.ar .and .u64) (v 0) (.int .u64 4294967295)) (.bin (.ar .and .u64) (v 1) (.int .u64 4294967295))) (.int .u64 32))) (.int .u64 32))) (.bin (.ar .shr .u64) (.bin (.ar .add .u64) (.bin (.ar .and .u64) (.bin (.ar .add .u64) (.bin (.ar .mul .u64) (.bin (.ar .shr .u64) (v 0) (.int .u64 32)) (.bin (.ar .and .u64) (v 1) (.int .u64 4294967295))) (.bin (.ar .shr .u64) (.bin (.ar .mul .u64) (.bin (.ar .and .u64) (v 0) (.int .u64 4294967295)) (.bin (.ar .and .u64) (v 1) (.int .u64 4294967295))) (.int .u64 32))) (.int .u64 4294967295)) (.bin (.ar .mul .u64) (.bin (.ar .and .u64) (v 0) (.int .u64 4294967295)) (.bin (.ar .shr .u64) (v 1) (.int .u64 32)))) (.int .u64 32))), (.bin (.ar .mul .u64) (v 0) (v 1))]
def math_bits_Mul64 : T := math_bits_Mul64_b
/- math/bits.Len64 -/
abbrev c_math_bits_Len64 : Nat := 74
@[reducible] def math_bits_Len64_j2_b : T := .ite (cmp .leq (n 0) (.un (.conv .u8) (v 6)))
 (.ite (cmp .lss (.un (.conv .u8) (v 6)) (n 256))
  (.ret [(add (v 5) (.un (.conv .i64) (.bin .byte (.str ⟨#[0, 1, 2, 2, 3, 3, 3, 3, 4, 4, 4, 4, 4, 4, 4, 4, 5, 5, 5, 5, 5, 5, 5, 5, 5, 5, 5, 5, 5, 5, 5, 5, 6, 6, 6, 6, 6, 6, 6, 6, 6, 6, 6, 6, 6, 6, 6, 6, 6, 6, 6, 6, 6, 6, 6, 6, 6, 6, 6, 6, 6, 6, 6, 6, 7, 7, 7, 7, 7, 7, 7, 7, 7, 7, 7, 7, 7, 7, 7, 7, 7, 7, 7, 7, 7, 7, 7, 7, 7, 7, 7, 7, 7, 7, 7, 7, 7, 7, 7, 7, 7, 7, 7, 7, 7, 7, 7, 7, 7, 7, 7, 7, 7, 7, 7, 7, 7, 7, 7, 7, 7, 7, 7, 7, 7, 7, 7, 7, 8, 8, 8, 8, 8, 8, 8, 8, 8, 8, 8, 8, 8, 8, 8, 8, 8, 8, 8, 8, 8, 8, 8, 8, 8, 8, 8, 8, 8, 8, 8, 8, 8, 8, 8, 8, 8, 8, 8, 8, 8, 8, 8, 8, 8, 8, 8, 8, 8, 8, 8, 8, 8, 8, 8, 8, 8, 8, 8, 8, 8, 8, 8, 8, 8, 8, 8, 8, 8, 8, 8, 8, 8, 8, 8, 8, 8, 8, 8, 8, 8, 8, 8, 8, 8, 8, 8, 8, 8, 8, 8, 8, 8, 8, 8, 8, 8, 8, 8, 8, 8, 8, 8, 8, 8, 8, 8, 8, 8, 8, 8, 8, 8, 8, 8, 8, 8, 8, 8, 8, 8, 8, 8, 8, 8, 8, 8, 8]⟩) (.un (.conv .u8) (v 6)))))])
  (.fail ""))
 (.fail "")
def math_bits_Len64_j2 : T := math_bits_Len64_j2_b
@[reducible] def math_bits_Len64_j1_b : T := .letj math_bits_Len64_j2 <|
 .ite (cmp .geq (v 4) (.int .u64 256))
 (.jump 0 [(add (v 3) (n 8)), (.bin (.ar .shr .u64) (v 4) (.int .u64 8))])
 (.jump 0 [(v 3), (v 4)])
def math_bits_Len64_j1 : T := math_bits_Len64_j1_b
@[reducible] def math_bits_Len64_j0_b : T := .letj math_bits_Len64_j1 <|
 .ite (cmp .geq (v 2) (.int .u64 65536))
 (.jump 0 [(add (v 1) (n 16)), (.bin (.ar .shr .u64) (v 2) (.int .u64 16))])
 (.jump 0 [(v 1), (v 2)])
def math_bits_Len64_j0 : T := math_bits_Len64_j0_b
@[reducible] def math_bits_Len64_b : T := .letj math_bits_Len64_j0 <|
 .ite (cmp .geq (v 0) (.int .u64 4294967296))
 (.jump 0 [(n 32), (.bin (.ar .shr .u64) (v 0) (.int .u64 32))])
 (.jump 0 [(n 0), (v 0)])
def math_bits_Len64 : T := math_bits_Len64_b
/- math/bits.LeadingZeros64 -/
abbrev c_math_bits_LeadingZeros64 : Nat := 100
@[reducible] def math_bits_LeadingZeros64_b : T := .call c_math_bits_Len64 [(v 0)] 1 <|
 .ret [(sub (n 64) (v 1))]
def math_bits_LeadingZeros64 : T := math_bits_LeadingZeros64_b
/- math/bits.Div64 -/
abbrev c_math_bits_Div64 : Nat := 99
@[reducible] def math_bits_Div64_j1_b : T := .ret [(.bin (.ar .add .u64) (.bin (.ar .mul .u64) (v 4) (.int .u64 4294967296)) (v 5)), (.bin (.ar .shr .u64) (.bin (.ar .sub .u64) (.bin (.ar .add .u64) (.bin (.ar .mul .u64) (.bin (.ar .sub .u64) (.bin (.ar .add .u64) (.bin (.ar .mul .u64) (.bin (.ar .or .u64) (.bin (.ar .shl .u64) (v 0) (.un (.conv .u64) (v 3))) (.bin (.ar .shr .u64) (v 1) (.bin (.ar .sub .u64) (.int .u64 64) (.un (.conv .u64) (v 3))))) (.int .u64 4294967296)) (.bin (.ar .shr .u64) (.bin (.ar .shl .u64) (v 1) (.un (.conv .u64) (v 3))) (.int .u64 32))) (.bin (.ar .mul .u64) (v 4) (.bin (.ar .shl .u64) (v 2) (.un (.conv .u64) (v 3))))) (.int .u64 4294967296)) (.bin (.ar .and .u64) (.bin (.ar .shl .u64) (v 1) (.un (.conv .u64) (v 3))) (.int .u64 4294967295))) (.bin (.ar .mul .u64) (v 5) (.bin (.ar .shl .u64) (v 2) (.un (.conv .u64) (v 3))))) (.un (.conv .u64) (v 3)))]
def math_bits_Div64_j1 : T := math_bits_Div64_j1_b
@[reducible] def math_bits_Div64_l2_b : T := .ite (.bin .or (cmp .geq (v 6) (.int .u64 4294967296)) (cmp .gtr (.bin (.ar .mul .u64) (v 6) (.bin (.ar .and .u64) (.bin (.ar .shl .u64) (v 2) (.un (.conv .u64) (v 3))) (.int .u64 4294967295))) (.bin (.ar .add .u64) (.bin (.ar .mul .u64) (.int .u64 4294967296) (v 5)) (.bin (.ar .and .u64) (.bin (.ar .shl .u64) (v 1) (.un (.conv .u64) (v 3))) (.int .u64 4294967295)))))
 (.ite (cmp .geq (.bin (.ar .add .u64) (v 5) (.bin (.ar .shr .u64) (.bin (.ar .shl .u64) (v 2) (.un (.conv .u64) (v 3))) (.int .u64 32))) (.int .u64 4294967296))
  (.jump 0 [(.bin (.ar .sub .u64) (v 6) (.int .u64 1))])
  (.jump 1 [(.bin (.ar .add .u64) (v 5) (.bin (.ar .shr .u64) (.bin (.ar .shl .u64) (v 2) (.un (.conv .u64) (v 3))) (.int .u64 32))), (.bin (.ar .sub .u64) (v 6) (.int .u64 1))]))
 (.jump 0 [(v 6)])
def math_bits_Div64_l2 : T := math_bits_Div64_l2_b
@[reducible] def math_bits_Div64_j0_b : T := .letj math_bits_Div64_j1 <|
 .loop [(.bin (.ar .sub .u64) (.bin (.ar .sub .u64) (.bin (.ar .add .u64) (.bin (.ar .mul .u64) (.bin (.ar .or .u64) (.bin (.ar .shl .u64) (v 0) (.un (.conv .u64) (v 3))) (.bin (.ar .shr .u64) (v 1) (.bin (.ar .sub .u64) (.int .u64 64) (.un (.conv .u64) (v 3))))) (.int .u64 4294967296)) (.bin (.ar .shr .u64) (.bin (.ar .shl .u64) (v 1) (.un (.conv .u64) (v 3))) (.int .u64 32))) (.bin (.ar .mul .u64) (v 4) (.bin (.ar .shl .u64) (v 2) (.un (.conv .u64) (v 3))))) (.bin (.ar .mul .u64) (.bin (.ar .quo .u64) (.bin (.ar .sub .u64) (.bin (.ar .add .u64) (.bin (.ar .mul .u64) (.bin (.ar .or .u64) (.bin (.ar .shl .u64) (v 0) (.un (.conv .u64) (v 3))) (.bin (.ar .shr .u64) (v 1) (.bin (.ar .sub .u64) (.int .u64 64) (.un (.conv .u64) (v 3))))) (.int .u64 4294967296)) (.bin (.ar .shr .u64) (.bin (.ar .shl .u64) (v 1) (.un (.conv .u64) (v 3))) (.int .u64 32))) (.bin (.ar .mul .u64) (v 4) (.bin (.ar .shl .u64) (v 2) (.un (.conv .u64) (v 3))))) (.bin (.ar .shr .u64) (.bin (.ar .shl .u64) (v 2) (.un (.conv .u64) (v 3))) (.int .u64 32))) (.bin (.ar .shr .u64) (.bin (.ar .shl .u64) (v 2) (.un (.conv .u64) (v 3))) (.int .u64 32)))), (.bin (.ar .quo .u64) (.bin (.ar .sub .u64) (.bin (.ar .add .u64) (.bin (.ar .mul .u64) (.bin (.ar .or .u64) (.bin (.ar .shl .u64) (v 0) (.un (.conv .u64) (v 3))) (.bin (.ar .shr .u64) (v 1) (.bin (.ar .sub .u64) (.int .u64 64) (.un (.conv .u64) (v 3))))) (.int .u64 4294967296)) (.bin (.ar .shr .u64) (.bin (.ar .shl .u64) (v 1) (.un (.conv .u64) (v 3))) (.int .u64 32))) (.bin (.ar .mul .u64) (v 4) (.bin (.ar .shl .u64) (v 2) (.un (.conv .u64) (v 3))))) (.bin (.ar .shr .u64) (.bin (.ar .shl .u64) (v 2) (.un (.conv .u64) (v 3))) (.int .u64 32)))] math_bits_Div64_l2
def math_bits_Div64_j0 : T := math_bits_Div64_j0_b
@[reducible] def math_bits_Div64_l3_b : T := .ite (.bin .or (cmp .geq (v 5) (.int .u64 4294967296)) (cmp .gtr (.bin (.ar .mul .u64) (v 5) (.bin (.ar .and .u64) (.bin (.ar .shl .u64) (v 2) (.un (.conv .u64) (v 3))) (.int .u64 4294967295))) (.bin (.ar .add .u64) (.bin (.ar .mul .u64) (.int .u64 4294967296) (v 4)) (.bin (.ar .shr .u64) (.bin (.ar .shl .u64) (v 1) (.un (.conv .u64) (v 3))) (.int .u64 32)))))
 (.ite (cmp .geq (.bin (.ar .add .u64) (v 4) (.bin (.ar .shr .u64) (.bin (.ar .shl .u64) (v 2) (.un (.conv .u64) (v 3))) (.int .u64 32))) (.int .u64 4294967296))
  (.jump 0 [(.bin (.ar .sub .u64) (v 5) (.int .u64 1))])
  (.jump 1 [(.bin (.ar .add .u64) (v 4) (.bin (.ar .shr .u64) (.bin (.ar .shl .u64) (v 2) (.un (.conv .u64) (v 3))) (.int .u64 32))), (.bin (.ar .sub .u64) (v 5) (.int .u64 1))]))
 (.jump 0 [(v 5)])
def math_bits_Div64_l3 : T := math_bits_Div64_l3_b
@[reducible] def math_bits_Div64_b : T := .ite (cmp .eql (v 2) (.int .u64 0))
 (.fail "")
 (.ite (cmp .leq (v 2) (v 0))
  (.fail "")
  (.ite (cmp .eql (v 0) (.int .u64 0))
   (.ite (cmp .neq (v 2) (.int .u64 0))
    (.ret [(.bin (.ar .quo .u64) (v 1) (v 2)), (.bin (.ar .rem .u64) (v 1) (v 2))])
    (.fail ""))
   (.call c_math_bits_LeadingZeros64 [(v 2)] 1 <|
    .ite (cmp .leq (.int .u64 0) (.un (.conv .u64) (v 3)))
    (.ite (cmp .leq (.int .u64 0) (.bin (.ar .sub .u64) (.int .u64 64) (.un (.conv .u64) (v 3))))
     (.ite (cmp .neq (.bin (.ar .shr .u64) (.bin (.ar .shl .u64) (v 2) (.un (.conv .u64) (v 3))) (.int .u64 32)) (.int .u64 0))
      (.letj math_bits_Div64_j0 <|
       .loop [(.bin (.ar .sub .u64) (.bin (.ar .or .u64) (.bin (.ar .shl .u64) (v 0) (.un (.conv .u64) (v 3))) (.bin (.ar .shr .u64) (v 1) (.bin (.ar .sub .u64) (.int .u64 64) (.un (.conv .u64) (v 3))))) (.bin (.ar .mul .u64) (.bin (.ar .quo .u64) (.bin (.ar .or .u64) (.bin (.ar .shl .u64) (v 0) (.un (.conv .u64) (v 3))) (.bin (.ar .shr .u64) (v 1) (.bin (.ar .sub .u64) (.int .u64 64) (.un (.conv .u64) (v 3))))) (.bin (.ar .shr .u64) (.bin (.ar .shl .u64) (v 2) (.un (.conv .u64) (v 3))) (.int .u64 32))) (.bin (.ar .shr .u64) (.bin (.ar .shl .u64) (v 2) (.un (.conv .u64) (v 3))) (.int .u64 32)))), (.bin (.ar .quo .u64) (.bin (.ar .or .u64) (.bin (.ar .shl .u64) (v 0) (.un (.conv .u64) (v 3))) (.bin (.ar .shr .u64) (v 1) (.bin (.ar .sub .u64) (.int .u64 64) (.un (.conv .u64) (v 3))))) (.bin (.ar .shr .u64) (.bin (.ar .shl .u64) (v 2) (.un (.conv .u64) (v 3))) (.int .u64 32)))] math_bits_Div64_l3)
      (.fail ""))
     (.fail ""))
    (.fail ""))))
def math_bits_Div64 : T := math_bits_Div64_b
/- parterre/fixed.MulDiv -/
abbrev c_fixed_MulDiv : Nat := 96
@[reducible] def fixed_MulDiv_b : T := .ite (cmp .eql (v 2) (n 0))
 (.ret [(n 0), (n 2)])
 (.call c_fixed_size [(v 0)] 1 <|
  .call c_fixed_size [(v 1)] 1 <|
  .call c_math_bits_Mul64 [(v 3), (v 4)] 2 <|
  .call c_fixed_size [(v 2)] 1 <|
  .ite (cmp .geq (v 5) (v 7))
  (.ret [(n 0), (n 10)])
  (.call c_math_bits_Div64 [(v 5), (v 6), (v 7)] 2 <|
   .ite (.bin .and (.un .not (.bin .beq (.un .not (.bin .beq (cmp .lss (v 0) (n 0)) (cmp .lss (v 1) (n 0)))) (cmp .lss (v 2) (n 0)))) (cmp .gtr (v 9) (.int .u64 0)))
   (.ite (cmp .geq (v 8) (.int .u64 9223372036854775808))
    (.ret [(n 0), (n 10)])
    (.ret [(.un (.conv .i64) (.un (.neg .u64) (.bin (.ar .add .u64) (v 8) (.int .u64 1)))), (n 0)]))
   (.ite (.bin .and (.un .not (.bin .beq (.un .not (.bin .beq (cmp .lss (v 0) (n 0)) (cmp .lss (v 1) (n 0)))) (cmp .lss (v 2) (n 0)))) (cmp .leq (v 8) (.int .u64 9223372036854775808)))
    (.ret [(.un (.conv .i64) (.un (.neg .u64) (v 8))), (n 0)])
    (.ite (cmp .geq (v 8) (.int .u64 9223372036854775808))
     (.ret [(n 0), (n 10)])
     (.ret [(.un (.conv .i64) (v 8)), (n 0)])))))
def fixed_MulDiv : T := fixed_MulDiv_b
/- parterre/fixed.Share -/
abbrev c_fixed_Share : Nat := 82
@[reducible] def fixed_Share_l1_b : T := .ite (cmp .lss (v 4) (.un .len (v 1)))
 (.ite (cmp .leq (n 0) (v 4))
  (.call c_fixed_MulDiv [(v 0), (add (v 6) (at_ 0 (v 1) (v 4))), (v 3)] 2 <|
   .ite (cmp .leq (.bin .plus (.un .len (v 7)) (.un .len (.bin .snoc .nil (.bin .cons (sub (v 8) (v 5)) .nilc)))) (n 4294967296))
   (.jump 1 [(add (v 4) (n 1)), (v 8), (add (v 6) (at_ 0 (v 1) (v 4))), (.bin .snoc (v 7) (.bin .cons (sub (v 8) (v 5)) .nilc))])
   (.fail ""))
  (.fail ""))
 (.ret [(v 7)])
def fixed_Share_l1 : T := fixed_Share_l1_b
@[reducible] def fixed_Share_l0_b : T := .ite (cmp .lss (v 2) (.un .len (v 1)))
 (.ite (cmp .leq (n 0) (v 2))
  (.ite (.bin .or (cmp .lss (at_ 0 (v 1) (v 2)) (n 0)) (cmp .gtr (at_ 0 (v 1) (v 2)) (n 1073741824)))
   (.ret [.nil])
   (.jump 0 [(add (v 2) (n 1)), (add (v 3) (at_ 0 (v 1) (v 2)))]))
  (.fail ""))
 (.ite (cmp .eql (v 3) (n 0))
  (.ret [.nil])
  (.loop [(n 0), (n 0), (n 0), .nil] fixed_Share_l1))
def fixed_Share_l0 : T := fixed_Share_l0_b
@[reducible] def fixed_Share_b : T := .ite (.bin .or (.bin .or (cmp .lss (v 0) (n 0)) (cmp .gtr (v 0) (n 68719476736))) (cmp .gtr (.un .len (v 1)) (n 65536)))
 (.ret [.nil])
 (.loop [(n 0), (n 0)] fixed_Share_l0)
def fixed_Share : T := fixed_Share_b
/- parterre/spread.By -/
abbrev c_spread_By : Nat := 48
@[reducible] def spread_By_b : T := .call c_spread_right [(v 0), (.un .len (v 1))] 1 <|
 .ite (v 2)
 (.call c_fixed_Share [(.bin (.min .i64) (v 0) (n 68719476736)), (v 1)] 1 <|
  .ite (cmp .gtr (.un .len (v 3)) (n 0))
  (.ret [(v 3)])
  (.call c_fixed_Split [(v 0), (.un .len (v 1))] 1 <|
   .ite (cmp .gtr (.un .len (v 4)) (n 0))
   (.ret [(v 4)])
   (.ite (cmp .leq (.un .len (v 1)) (n 17592186044416))
    (.ret [(.bin .make (.bin .cons (n 0) .nilc) (.un .len (v 1)))])
    (.fail ""))))
 (.ite (cmp .leq (.un .len (v 1)) (n 17592186044416))
  (.ret [(.bin .make (.bin .cons (n 0) .nilc) (.un .len (v 1)))])
  (.fail ""))
def spread_By : T := spread_By_b
/- parterre/intrinsic.Size -/
abbrev c_intrinsic_Size : Nat := 9
@[reducible] def intrinsic_Size_j3_b : T := .jump 0 [(add (v 9) (n 1)), (v 12), (v 13)]
def intrinsic_Size_j3 : T := intrinsic_Size_j3_b
@[reducible] def intrinsic_Size_j5_b : T := .ret [(v 12)]
def intrinsic_Size_j5 : T := intrinsic_Size_j5_b
@[reducible] def intrinsic_Size_l7_b : T := .ite (cmp .lss (v 14) (.un .len (.tri .slice (v 5) (at_ 0 (v 2) (v 9)) (.bin .minus (at_ 1 (v 2) (v 9)) (at_ 0 (v 2) (v 9))))))
 (.ite (cmp .leq (n 0) (v 14))
  (.call c_intrinsic_loose [(at_ 0 (.tri .slice (v 5) (at_ 0 (v 2) (v 9)) (.bin .minus (at_ 1 (v 2) (v 9)) (at_ 0 (v 2) (v 9)))) (v 14)), (at_ 1 (.tri .slice (v 5) (at_ 0 (v 2) (v 9)) (.bin .minus (at_ 1 (v 2) (v 9)) (at_ 0 (v 2) (v 9)))) (v 14)), (at_ 2 (.tri .slice (v 5) (at_ 0 (v 2) (v 9)) (.bin .minus (at_ 1 (v 2) (v 9)) (at_ 0 (v 2) (v 9)))) (v 14)), (.bin (.cell 3 (.bool)) (.tri .slice (v 5) (at_ 0 (v 2) (v 9)) (.bin .minus (at_ 1 (v 2) (v 9)) (at_ 0 (v 2) (v 9)))) (v 14)), (at_ 4 (.tri .slice (v 5) (at_ 0 (v 2) (v 9)) (.bin .minus (at_ 1 (v 2) (v 9)) (at_ 0 (v 2) (v 9)))) (v 14)), (at_ 5 (.tri .slice (v 5) (at_ 0 (v 2) (v 9)) (.bin .minus (at_ 1 (v 2) (v 9)) (at_ 0 (v 2) (v 9)))) (v 14)), (at_ 6 (.tri .slice (v 5) (at_ 0 (v 2) (v 9)) (.bin .minus (at_ 1 (v 2) (v 9)) (at_ 0 (v 2) (v 9)))) (v 14))] 1 <|
   .ite (.bin .and (v 16) (.un .not (.bin (.cell 3 (.bool)) (.tri .slice (v 5) (at_ 0 (v 2) (v 9)) (.bin .minus (at_ 1 (v 2) (v 9)) (at_ 0 (v 2) (v 9)))) (v 14))))
   (.jump 0 [(.bin (.max .i64) (at_ 3 (v 2) (v 9)) (at_ 2 (v 2) (v 9)))])
   (.call c_intrinsic_limit [(at_ 0 (.tri .slice (v 5) (at_ 0 (v 2) (v 9)) (.bin .minus (at_ 1 (v 2) (v 9)) (at_ 0 (v 2) (v 9)))) (v 14)), (at_ 1 (.tri .slice (v 5) (at_ 0 (v 2) (v 9)) (.bin .minus (at_ 1 (v 2) (v 9)) (at_ 0 (v 2) (v 9)))) (v 14)), (at_ 2 (.tri .slice (v 5) (at_ 0 (v 2) (v 9)) (.bin .minus (at_ 1 (v 2) (v 9)) (at_ 0 (v 2) (v 9)))) (v 14)), (.bin (.cell 3 (.bool)) (.tri .slice (v 5) (at_ 0 (v 2) (v 9)) (.bin .minus (at_ 1 (v 2) (v 9)) (at_ 0 (v 2) (v 9)))) (v 14)), (at_ 4 (.tri .slice (v 5) (at_ 0 (v 2) (v 9)) (.bin .minus (at_ 1 (v 2) (v 9)) (at_ 0 (v 2) (v 9)))) (v 14)), (at_ 5 (.tri .slice (v 5) (at_ 0 (v 2) (v 9)) (.bin .minus (at_ 1 (v 2) (v 9)) (at_ 0 (v 2) (v 9)))) (v 14)), (at_ 6 (.tri .slice (v 5) (at_ 0 (v 2) (v 9)) (.bin .minus (at_ 1 (v 2) (v 9)) (at_ 0 (v 2) (v 9)))) (v 14))] 1 <|
    .jump 2 [(add (v 14) (n 1)), (add (v 15) (v 17))]))
  (.fail ""))
 (.jump 0 [(.bin (.max .i64) (.bin (.min .i64) (at_ 3 (v 2) (v 9)) (v 15)) (at_ 2 (v 2) (v 9)))])
def intrinsic_Size_l7 : T := intrinsic_Size_l7_b
@[reducible] def intrinsic_Size_l6_b : T := .ite (cmp .lss (v 12) (.un .len (.tri .slice (v 1) (add (at_ 0 (v 2) (v 9)) (n 1)) (.bin .minus (at_ 1 (v 2) (v 9)) (add (at_ 0 (v 2) (v 9)) (n 1))))))
 (.ite (cmp .leq (n 0) (v 12))
  (.jump 1 [(add (v 12) (n 1)), (add (v 13) (at_ 0 (.tri .slice (v 1) (add (at_ 0 (v 2) (v 9)) (n 1)) (.bin .minus (at_ 1 (v 2) (v 9)) (add (at_ 0 (v 2) (v 9)) (n 1)))) (v 12)))])
  (.fail ""))
 (.ite (cmp .leq (at_ 0 (v 2) (v 9)) (at_ 1 (v 2) (v 9)))
  (.ite (cmp .leq (at_ 1 (v 2) (v 9)) (.un .len (v 5)))
   (.loop [(n 0), (v 13)] intrinsic_Size_l7)
   (.fail ""))
  (.fail ""))
def intrinsic_Size_l6 : T := intrinsic_Size_l6_b
@[reducible] def intrinsic_Size_s4_b : T := .ite (v 6)
 (.letj intrinsic_Size_j5 <|
  .ite (cmp .leq (n 0) (add (at_ 0 (v 2) (v 9)) (n 1)))
  (.ite (cmp .leq (add (at_ 0 (v 2) (v 9)) (n 1)) (at_ 1 (v 2) (v 9)))
   (.ite (cmp .leq (at_ 1 (v 2) (v 9)) (.un .len (v 1)))
    (.loop [(n 0), (n 0)] intrinsic_Size_l6)
    (.fail ""))
   (.fail ""))
  (.fail ""))
 (.call c_pintrinsic_sizer_rounds_1 [(at_ 0 (v 2) (v 9)), (at_ 1 (v 2) (v 9)), (at_ 2 (v 2) (v 9)), (at_ 3 (v 2) (v 9)), (at_ 4 (v 2) (v 9))] 1 <|
  .ret [(v 12)])
def intrinsic_Size_s4 : T := intrinsic_Size_s4_b
@[reducible] def intrinsic_Size_j9_b : T := .jump 1 [(add (v 12) (n 1)), (v 14)]
def intrinsic_Size_j9 : T := intrinsic_Size_j9_b
@[reducible] def intrinsic_Size_j11_b : T := .call c_base_Raise [(at_ 0 (v 13) (v 12)), (at_ 1 (v 13) (v 12)), (at_ 2 (v 13) (v 12)), (.bin (.cell 3 (.bool)) (v 13) (v 12)), (at_ 4 (v 13) (v 12)), (v 14), (v 15)] 7 <|
 .jump 2 [(.tri .set (v 13) (v 12) (.bin .cons (v 16) (.bin .cons (v 17) (.bin .cons (v 18) (.bin .cons (v 19) (.bin .cons (v 20) (.bin .cons (v 21) (.bin .cons (v 22) .nilc))))))))]
def intrinsic_Size_j11 : T := intrinsic_Size_j11_b
@[reducible] def intrinsic_Size_j10_b : T := .letj intrinsic_Size_j11 <|
 .ite (.bin (.cell 3 (.bool)) (v 13) (v 12))
 (.ite (cmp .lss (v 12) (.un .len (v 10)))
  (.jump 3 [(.bin (.min .i64) (at_ 2 (v 10) (v 12)) (at_ 4 (v 13) (v 12)))])
  (.fail ""))
 (.ite (cmp .eql (at_ 1 (v 13) (v 12)) (n 3))
  (.ite (cmp .lss (v 12) (.un .len (v 10)))
   (.jump 3 [(at_ 1 (v 10) (v 12))])
   (.fail ""))
  (.call c_intrinsic_content [(at_ 0 (v 13) (v 12)), (at_ 1 (v 13) (v 12)), (at_ 2 (v 13) (v 12)), (.bin (.cell 3 (.bool)) (v 13) (v 12)), (at_ 4 (v 13) (v 12)), (v 14), (at_ 6 (v 13) (v 12))] 1 <|
   .ite (v 15)
   (.ite (cmp .lss (v 12) (.un .len (v 10)))
    (.jump 3 [(at_ 2 (v 10) (v 12))])
    (.fail ""))
   (.jump 3 [(at_ 6 (v 13) (v 12))])))
def intrinsic_Size_j10 : T := intrinsic_Size_j10_b
@[reducible] def intrinsic_Size_j13_b : T := .jump 2 [(add (v 14) (n 1)), (v 19), (v 20), (v 18)]
def intrinsic_Size_j13 : T := intrinsic_Size_j13_b
@[reducible] def intrinsic_Size_j15_b : T := .ite (cmp .leq (n (-9223372036854775808)) (sub (at_ 1 (v 2) (v 14)) (at_ 0 (v 2) (v 14))))
 (.ite (cmp .leq (sub (at_ 1 (v 2) (v 14)) (at_ 0 (v 2) (v 14))) (n 9223372036854775807))
  (.ite (cmp .leq (.bin .plus (.un .len (.bin .rget (v 17) (sub (at_ 1 (v 2) (v 14)) (at_ 0 (v 2) (v 14))))) (.un .len (.bin .snoc .nil (.bin .cons (at_ 0 (v 2) (v 14)) (.bin .cons (at_ 1 (v 2) (v 14)) (.bin .cons (at_ 2 (v 2) (v 14)) (.bin .cons (at_ 3 (v 2) (v 14)) (.bin .cons (at_ 4 (v 2) (v 14)) .nilc)))))))) (n 4294967296))
   (.ite (cmp .leq (.un .len (v 17)) (n 4294967296))
    (.jump 3 [(.bin .mput (v 17) (.bin .cons (sub (at_ 1 (v 2) (v 14)) (at_ 0 (v 2) (v 14))) (.bin .cons (.bin .snoc (.bin .rget (v 17) (sub (at_ 1 (v 2) (v 14)) (at_ 0 (v 2) (v 14)))) (.bin .cons (at_ 0 (v 2) (v 14)) (.bin .cons (at_ 1 (v 2) (v 14)) (.bin .cons (at_ 2 (v 2) (v 14)) (.bin .cons (at_ 3 (v 2) (v 14)) (.bin .cons (at_ 4 (v 2) (v 14)) .nilc)))))) .nilc))), (v 19), (v 16)])
    (.fail ""))
   (.fail ""))
  (.fail ""))
 (.fail "")
def intrinsic_Size_j15 : T := intrinsic_Size_j15_b
@[reducible] def intrinsic_Size_j14_b : T := .ite (cmp .geq (v 18) (n 0))
 (.ite (cmp .leq (.bin .plus (.un .len (v 16)) (.un .len (.bin .snoc .nil (.bin .cons (at_ 0 (v 2) (v 14)) (.bin .cons (at_ 1 (v 2) (v 14)) (.bin .cons (at_ 2 (v 2) (v 14)) (.bin .cons (at_ 3 (v 2) (v 14)) (.bin .cons (at_ 4 (v 2) (v 14)) .nilc)))))))) (n 4294967296))
  (.jump 3 [(v 17), (v 15), (.bin .snoc (v 16) (.bin .cons (at_ 0 (v 2) (v 14)) (.bin .cons (at_ 1 (v 2) (v 14)) (.bin .cons (at_ 2 (v 2) (v 14)) (.bin .cons (at_ 3 (v 2) (v 14)) (.bin .cons (at_ 4 (v 2) (v 14)) .nilc))))))])
  (.fail ""))
 (.ite (cmp .gtr (sub (at_ 1 (v 2) (v 14)) (at_ 0 (v 2) (v 14))) (n 1))
  (.letj intrinsic_Size_j15 <|
   .ite (cmp .leq (n (-9223372036854775808)) (sub (at_ 1 (v 2) (v 14)) (at_ 0 (v 2) (v 14))))
   (.ite (cmp .leq (sub (at_ 1 (v 2) (v 14)) (at_ 0 (v 2) (v 14))) (n 9223372036854775807))
    (.ite (cmp .eql (.un .len (.bin .rget (v 17) (sub (at_ 1 (v 2) (v 14)) (at_ 0 (v 2) (v 14))))) (n 0))
     (.ite (cmp .leq (.bin .plus (.un .len (v 15)) (.un .len (.bin .snoc .nil (.bin .cons (sub (at_ 1 (v 2) (v 14)) (at_ 0 (v 2) (v 14))) .nilc)))) (n 4294967296))
      (.jump 4 [(.bin .snoc (v 15) (.bin .cons (sub (at_ 1 (v 2) (v 14)) (at_ 0 (v 2) (v 14))) .nilc))])
      (.fail ""))
     (.jump 4 [(v 15)]))
    (.fail ""))
   (.fail ""))
  (.jump 3 [(v 17), (v 15), (v 16)]))
def intrinsic_Size_j14 : T := intrinsic_Size_j14_b
@[reducible] def intrinsic_Size_l16_b : T := .ite (cmp .lss (v 18) (.un .len (.tri .slice (v 0) (at_ 0 (v 2) (v 14)) (.bin .minus (at_ 1 (v 2) (v 14)) (at_ 0 (v 2) (v 14))))))
 (.ite (cmp .leq (n 0) (v 18))
  (.call c_intrinsic_Size_1 [(at_ 0 (.tri .slice (v 0) (at_ 0 (v 2) (v 14)) (.bin .minus (at_ 1 (v 2) (v 14)) (at_ 0 (v 2) (v 14)))) (v 18)), (at_ 1 (.tri .slice (v 0) (at_ 0 (v 2) (v 14)) (.bin .minus (at_ 1 (v 2) (v 14)) (at_ 0 (v 2) (v 14)))) (v 18)), (at_ 2 (.tri .slice (v 0) (at_ 0 (v 2) (v 14)) (.bin .minus (at_ 1 (v 2) (v 14)) (at_ 0 (v 2) (v 14)))) (v 18)), (.bin (.cell 3 (.bool)) (.tri .slice (v 0) (at_ 0 (v 2) (v 14)) (.bin .minus (at_ 1 (v 2) (v 14)) (at_ 0 (v 2) (v 14)))) (v 18)), (at_ 4 (.tri .slice (v 0) (at_ 0 (v 2) (v 14)) (.bin .minus (at_ 1 (v 2) (v 14)) (at_ 0 (v 2) (v 14)))) (v 18)), (at_ 5 (.tri .slice (v 0) (at_ 0 (v 2) (v 14)) (.bin .minus (at_ 1 (v 2) (v 14)) (at_ 0 (v 2) (v 14)))) (v 18)), (at_ 6 (.tri .slice (v 0) (at_ 0 (v 2) (v 14)) (.bin .minus (at_ 1 (v 2) (v 14)) (at_ 0 (v 2) (v 14)))) (v 18))] 1 <|
   .ite (v 19)
   (.jump 4 [(v 18)])
   (.jump 5 [(add (v 18) (n 1))]))
  (.fail ""))
 (.jump 4 [(n (-1))])
def intrinsic_Size_l16 : T := intrinsic_Size_l16_b
@[reducible] def intrinsic_Size_j21_b : T := .jump 4 [(add (v 23) (n 1)), (v 25)]
def intrinsic_Size_j21 : T := intrinsic_Size_j21_b
@[reducible] def intrinsic_Size_j23_b : T := .ret [(v 25)]
def intrinsic_Size_j23 : T := intrinsic_Size_j23_b
@[reducible] def intrinsic_Size_l25_b : T := .ite (cmp .lss (v 27) (.un .len (.tri .slice (v 19) (at_ 0 (.bin .rget (v 17) (at_ 0 (.un .sort (v 15)) (v 18))) (v 23)) (.bin .minus (at_ 1 (.bin .rget (v 17) (at_ 0 (.un .sort (v 15)) (v 18))) (v 23)) (at_ 0 (.bin .rget (v 17) (at_ 0 (.un .sort (v 15)) (v 18))) (v 23))))))
 (.ite (cmp .leq (n 0) (v 27))
  (.call c_intrinsic_loose [(at_ 0 (.tri .slice (v 19) (at_ 0 (.bin .rget (v 17) (at_ 0 (.un .sort (v 15)) (v 18))) (v 23)) (.bin .minus (at_ 1 (.bin .rget (v 17) (at_ 0 (.un .sort (v 15)) (v 18))) (v 23)) (at_ 0 (.bin .rget (v 17) (at_ 0 (.un .sort (v 15)) (v 18))) (v 23)))) (v 27)), (at_ 1 (.tri .slice (v 19) (at_ 0 (.bin .rget (v 17) (at_ 0 (.un .sort (v 15)) (v 18))) (v 23)) (.bin .minus (at_ 1 (.bin .rget (v 17) (at_ 0 (.un .sort (v 15)) (v 18))) (v 23)) (at_ 0 (.bin .rget (v 17) (at_ 0 (.un .sort (v 15)) (v 18))) (v 23)))) (v 27)), (at_ 2 (.tri .slice (v 19) (at_ 0 (.bin .rget (v 17) (at_ 0 (.un .sort (v 15)) (v 18))) (v 23)) (.bin .minus (at_ 1 (.bin .rget (v 17) (at_ 0 (.un .sort (v 15)) (v 18))) (v 23)) (at_ 0 (.bin .rget (v 17) (at_ 0 (.un .sort (v 15)) (v 18))) (v 23)))) (v 27)), (.bin (.cell 3 (.bool)) (.tri .slice (v 19) (at_ 0 (.bin .rget (v 17) (at_ 0 (.un .sort (v 15)) (v 18))) (v 23)) (.bin .minus (at_ 1 (.bin .rget (v 17) (at_ 0 (.un .sort (v 15)) (v 18))) (v 23)) (at_ 0 (.bin .rget (v 17) (at_ 0 (.un .sort (v 15)) (v 18))) (v 23)))) (v 27)), (at_ 4 (.tri .slice (v 19) (at_ 0 (.bin .rget (v 17) (at_ 0 (.un .sort (v 15)) (v 18))) (v 23)) (.bin .minus (at_ 1 (.bin .rget (v 17) (at_ 0 (.un .sort (v 15)) (v 18))) (v 23)) (at_ 0 (.bin .rget (v 17) (at_ 0 (.un .sort (v 15)) (v 18))) (v 23)))) (v 27)), (at_ 5 (.tri .slice (v 19) (at_ 0 (.bin .rget (v 17) (at_ 0 (.un .sort (v 15)) (v 18))) (v 23)) (.bin .minus (at_ 1 (.bin .rget (v 17) (at_ 0 (.un .sort (v 15)) (v 18))) (v 23)) (at_ 0 (.bin .rget (v 17) (at_ 0 (.un .sort (v 15)) (v 18))) (v 23)))) (v 27)), (at_ 6 (.tri .slice (v 19) (at_ 0 (.bin .rget (v 17) (at_ 0 (.un .sort (v 15)) (v 18))) (v 23)) (.bin .minus (at_ 1 (.bin .rget (v 17) (at_ 0 (.un .sort (v 15)) (v 18))) (v 23)) (at_ 0 (.bin .rget (v 17) (at_ 0 (.un .sort (v 15)) (v 18))) (v 23)))) (v 27))] 1 <|
   .ite (.bin .and (v 29) (.un .not (.bin (.cell 3 (.bool)) (.tri .slice (v 19) (at_ 0 (.bin .rget (v 17) (at_ 0 (.un .sort (v 15)) (v 18))) (v 23)) (.bin .minus (at_ 1 (.bin .rget (v 17) (at_ 0 (.un .sort (v 15)) (v 18))) (v 23)) (at_ 0 (.bin .rget (v 17) (at_ 0 (.un .sort (v 15)) (v 18))) (v 23)))) (v 27))))
   (.jump 0 [(.bin (.max .i64) (at_ 3 (.bin .rget (v 17) (at_ 0 (.un .sort (v 15)) (v 18))) (v 23)) (at_ 2 (.bin .rget (v 17) (at_ 0 (.un .sort (v 15)) (v 18))) (v 23)))])
   (.call c_intrinsic_limit [(at_ 0 (.tri .slice (v 19) (at_ 0 (.bin .rget (v 17) (at_ 0 (.un .sort (v 15)) (v 18))) (v 23)) (.bin .minus (at_ 1 (.bin .rget (v 17) (at_ 0 (.un .sort (v 15)) (v 18))) (v 23)) (at_ 0 (.bin .rget (v 17) (at_ 0 (.un .sort (v 15)) (v 18))) (v 23)))) (v 27)), (at_ 1 (.tri .slice (v 19) (at_ 0 (.bin .rget (v 17) (at_ 0 (.un .sort (v 15)) (v 18))) (v 23)) (.bin .minus (at_ 1 (.bin .rget (v 17) (at_ 0 (.un .sort (v 15)) (v 18))) (v 23)) (at_ 0 (.bin .rget (v 17) (at_ 0 (.un .sort (v 15)) (v 18))) (v 23)))) (v 27)), (at_ 2 (.tri .slice (v 19) (at_ 0 (.bin .rget (v 17) (at_ 0 (.un .sort (v 15)) (v 18))) (v 23)) (.bin .minus (at_ 1 (.bin .rget (v 17) (at_ 0 (.un .sort (v 15)) (v 18))) (v 23)) (at_ 0 (.bin .rget (v 17) (at_ 0 (.un .sort (v 15)) (v 18))) (v 23)))) (v 27)), (.bin (.cell 3 (.bool)) (.tri .slice (v 19) (at_ 0 (.bin .rget (v 17) (at_ 0 (.un .sort (v 15)) (v 18))) (v 23)) (.bin .minus (at_ 1 (.bin .rget (v 17) (at_ 0 (.un .sort (v 15)) (v 18))) (v 23)) (at_ 0 (.bin .rget (v 17) (at_ 0 (.un .sort (v 15)) (v 18))) (v 23)))) (v 27)), (at_ 4 (.tri .slice (v 19) (at_ 0 (.bin .rget (v 17) (at_ 0 (.un .sort (v 15)) (v 18))) (v 23)) (.bin .minus (at_ 1 (.bin .rget (v 17) (at_ 0 (.un .sort (v 15)) (v 18))) (v 23)) (at_ 0 (.bin .rget (v 17) (at_ 0 (.un .sort (v 15)) (v 18))) (v 23)))) (v 27)), (at_ 5 (.tri .slice (v 19) (at_ 0 (.bin .rget (v 17) (at_ 0 (.un .sort (v 15)) (v 18))) (v 23)) (.bin .minus (at_ 1 (.bin .rget (v 17) (at_ 0 (.un .sort (v 15)) (v 18))) (v 23)) (at_ 0 (.bin .rget (v 17) (at_ 0 (.un .sort (v 15)) (v 18))) (v 23)))) (v 27)), (at_ 6 (.tri .slice (v 19) (at_ 0 (.bin .rget (v 17) (at_ 0 (.un .sort (v 15)) (v 18))) (v 23)) (.bin .minus (at_ 1 (.bin .rget (v 17) (at_ 0 (.un .sort (v 15)) (v 18))) (v 23)) (at_ 0 (.bin .rget (v 17) (at_ 0 (.un .sort (v 15)) (v 18))) (v 23)))) (v 27))] 1 <|
    .jump 2 [(add (v 27) (n 1)), (add (v 28) (v 30))]))
  (.fail ""))
 (.jump 0 [(.bin (.max .i64) (.bin (.min .i64) (at_ 3 (.bin .rget (v 17) (at_ 0 (.un .sort (v 15)) (v 18))) (v 23)) (v 28)) (at_ 2 (.bin .rget (v 17) (at_ 0 (.un .sort (v 15)) (v 18))) (v 23)))])
def intrinsic_Size_l25 : T := intrinsic_Size_l25_b
@[reducible] def intrinsic_Size_l24_b : T := .ite (cmp .lss (v 25) (.un .len (.tri .slice (v 1) (add (at_ 0 (.bin .rget (v 17) (at_ 0 (.un .sort (v 15)) (v 18))) (v 23)) (n 1)) (.bin .minus (at_ 1 (.bin .rget (v 17) (at_ 0 (.un .sort (v 15)) (v 18))) (v 23)) (add (at_ 0 (.bin .rget (v 17) (at_ 0 (.un .sort (v 15)) (v 18))) (v 23)) (n 1))))))
 (.ite (cmp .leq (n 0) (v 25))
  (.jump 1 [(add (v 25) (n 1)), (add (v 26) (at_ 0 (.tri .slice (v 1) (add (at_ 0 (.bin .rget (v 17) (at_ 0 (.un .sort (v 15)) (v 18))) (v 23)) (n 1)) (.bin .minus (at_ 1 (.bin .rget (v 17) (at_ 0 (.un .sort (v 15)) (v 18))) (v 23)) (add (at_ 0 (.bin .rget (v 17) (at_ 0 (.un .sort (v 15)) (v 18))) (v 23)) (n 1)))) (v 25)))])
  (.fail ""))
 (.ite (cmp .leq (n 0) (at_ 0 (.bin .rget (v 17) (at_ 0 (.un .sort (v 15)) (v 18))) (v 23)))
  (.ite (cmp .leq (at_ 0 (.bin .rget (v 17) (at_ 0 (.un .sort (v 15)) (v 18))) (v 23)) (at_ 1 (.bin .rget (v 17) (at_ 0 (.un .sort (v 15)) (v 18))) (v 23)))
   (.ite (cmp .leq (at_ 1 (.bin .rget (v 17) (at_ 0 (.un .sort (v 15)) (v 18))) (v 23)) (.un .len (v 19)))
    (.loop [(n 0), (v 26)] intrinsic_Size_l25)
    (.fail ""))
   (.fail ""))
  (.fail ""))
def intrinsic_Size_l24 : T := intrinsic_Size_l24_b
@[reducible] def intrinsic_Size_s22_b : T := .ite (v 20)
 (.letj intrinsic_Size_j23 <|
  .ite (cmp .leq (n 0) (add (at_ 0 (.bin .rget (v 17) (at_ 0 (.un .sort (v 15)) (v 18))) (v 23)) (n 1)))
  (.ite (cmp .leq (add (at_ 0 (.bin .rget (v 17) (at_ 0 (.un .sort (v 15)) (v 18))) (v 23)) (n 1)) (at_ 1 (.bin .rget (v 17) (at_ 0 (.un .sort (v 15)) (v 18))) (v 23)))
   (.ite (cmp .leq (at_ 1 (.bin .rget (v 17) (at_ 0 (.un .sort (v 15)) (v 18))) (v 23)) (.un .len (v 1)))
    (.loop [(n 0), (n 0)] intrinsic_Size_l24)
    (.fail ""))
   (.fail ""))
  (.fail ""))
 (.call c_pintrinsic_sizer_rounds_1 [(at_ 0 (.bin .rget (v 17) (at_ 0 (.un .sort (v 15)) (v 18))) (v 23)), (at_ 1 (.bin .rget (v 17) (at_ 0 (.un .sort (v 15)) (v 18))) (v 23)), (at_ 2 (.bin .rget (v 17) (at_ 0 (.un .sort (v 15)) (v 18))) (v 23)), (at_ 3 (.bin .rget (v 17) (at_ 0 (.un .sort (v 15)) (v 18))) (v 23)), (at_ 4 (.bin .rget (v 17) (at_ 0 (.un .sort (v 15)) (v 18))) (v 23))] 1 <|
  .ret [(v 25)])
def intrinsic_Size_s22 : T := intrinsic_Size_s22_b
@[reducible] def intrinsic_Size_l27_b : T := .ite (cmp .lss (v 26) (.un .len (.tri .slice (v 1) (add (at_ 0 (.bin .rget (v 17) (at_ 0 (.un .sort (v 15)) (v 18))) (v 23)) (n 1)) (.bin .minus (at_ 1 (.bin .rget (v 17) (at_ 0 (.un .sort (v 15)) (v 18))) (v 23)) (add (at_ 0 (.bin .rget (v 17) (at_ 0 (.un .sort (v 15)) (v 18))) (v 23)) (n 1))))))
 (.ite (cmp .leq (n 0) (v 26))
  (.jump 0 [(add (v 26) (n 1)), (add (v 27) (at_ 0 (.tri .slice (v 1) (add (at_ 0 (.bin .rget (v 17) (at_ 0 (.un .sort (v 15)) (v 18))) (v 23)) (n 1)) (.bin .minus (at_ 1 (.bin .rget (v 17) (at_ 0 (.un .sort (v 15)) (v 18))) (v 23)) (add (at_ 0 (.bin .rget (v 17) (at_ 0 (.un .sort (v 15)) (v 18))) (v 23)) (n 1)))) (v 26)))])
  (.fail ""))
 (.ret [(v 27)])
def intrinsic_Size_l27 : T := intrinsic_Size_l27_b
@[reducible] def intrinsic_Size_s26_b : T := .ite (cmp .leq (n 0) (add (at_ 0 (.bin .rget (v 17) (at_ 0 (.un .sort (v 15)) (v 18))) (v 23)) (n 1)))
 (.ite (cmp .leq (add (at_ 0 (.bin .rget (v 17) (at_ 0 (.un .sort (v 15)) (v 18))) (v 23)) (n 1)) (at_ 1 (.bin .rget (v 17) (at_ 0 (.un .sort (v 15)) (v 18))) (v 23)))
  (.ite (cmp .leq (at_ 1 (.bin .rget (v 17) (at_ 0 (.un .sort (v 15)) (v 18))) (v 23)) (.un .len (v 1)))
   (.loop [(n 0), (n 0)] intrinsic_Size_l27)
   (.fail ""))
  (.fail ""))
 (.fail "")
def intrinsic_Size_s26 : T := intrinsic_Size_s26_b
@[reducible] def intrinsic_Size_j30_b : T := .jump 7 [(add (v 29) (n 1)), (v 31)]
def intrinsic_Size_j30 : T := intrinsic_Size_j30_b
@[reducible] def intrinsic_Size_s32_b : T := .ite (cmp .leq (n 0) (at_ 0 (v 30) (v 31)))
 (.ite (cmp .lss (at_ 0 (v 30) (v 31)) (.un .len (v 19)))
  (.call c_intrinsic_limit [(at_ 0 (v 19) (at_ 0 (v 30) (v 31))), (at_ 1 (v 19) (at_ 0 (v 30) (v 31))), (at_ 2 (v 19) (at_ 0 (v 30) (v 31))), (.bin (.cell 3 (.bool)) (v 19) (at_ 0 (v 30) (v 31))), (at_ 4 (v 19) (at_ 0 (v 30) (v 31))), (at_ 5 (v 19) (at_ 0 (v 30) (v 31))), (at_ 6 (v 19) (at_ 0 (v 30) (v 31)))] 1 <|
   .ret [(.bin (.max .i64) (n 0) (sub (v 35) (at_ 5 (v 19) (at_ 0 (v 30) (v 31)))))])
  (.fail ""))
 (.fail "")
def intrinsic_Size_s32 : T := intrinsic_Size_s32_b
@[reducible] def intrinsic_Size_l34_b : T := .ite (cmp .lss (v 38) (.un .len (v 37)))
 (.ite (cmp .leq (n 0) (v 38))
  (.ite (cmp .lss (v 38) (.un .len (v 30)))
   (.ite (cmp .leq (n 0) (at_ 0 (v 30) (v 38)))
    (.ite (cmp .lss (at_ 0 (v 30) (v 38)) (.un .len (v 39)))
     (.jump 10 [(add (v 38) (n 1)), (.tri .set (v 39) (at_ 0 (v 30) (v 38)) (.bin .cons (.bin (.max .i64) (at_ 0 (v 39) (at_ 0 (v 30) (v 38))) (at_ 0 (v 37) (v 38))) .nilc))])
     (.fail ""))
    (.fail ""))
   (.fail ""))
  (.fail ""))
 (.jump 5 [(v 39)])
def intrinsic_Size_l34 : T := intrinsic_Size_l34_b
@[reducible] def intrinsic_Size_l33_b : T := .ite (cmp .lss (v 35) (.un .len (v 34)))
 (.ite (cmp .leq (n 0) (v 35))
  (.ite (cmp .lss (v 35) (.un .len (v 36)))
   (.jump 9 [(add (v 35) (n 1)), (.tri .set (v 36) (v 35) (.bin .cons (.bin .or (.bin (.cell 0 (.bool)) (v 36) (v 35)) (.un .not (v 32))) .nilc))])
   (.fail ""))
  (.fail ""))
 (.call c_spread_Fill [(v 28), (v 33), (v 36)] 1 <|
  .loop [(n 0), (v 24)] intrinsic_Size_l34)
def intrinsic_Size_l33 : T := intrinsic_Size_l33_b
@[reducible] def intrinsic_Size_l31_b : T := .ite (cmp .lss (v 31) (.un .len (v 30)))
 (.ite (cmp .leq (n 0) (v 31))
  (.seq intrinsic_Size_s32 1 <|
   .ite (cmp .leq (n 0) (at_ 0 (v 30) (v 31)))
   (.ite (cmp .lss (at_ 0 (v 30) (v 31)) (.un .len (v 19)))
    (.call c_intrinsic_loose [(at_ 0 (v 19) (at_ 0 (v 30) (v 31))), (at_ 1 (v 19) (at_ 0 (v 30) (v 31))), (at_ 2 (v 19) (at_ 0 (v 30) (v 31))), (.bin (.cell 3 (.bool)) (v 19) (at_ 0 (v 30) (v 31))), (at_ 4 (v 19) (at_ 0 (v 30) (v 31))), (at_ 5 (v 19) (at_ 0 (v 30) (v 31))), (at_ 6 (v 19) (at_ 0 (v 30) (v 31)))] 1 <|
     .ite (cmp .lss (v 31) (.un .len (v 33)))
     (.ite (cmp .lss (v 31) (.un .len (v 34)))
      (.ite (.bin .or (v 32) (cmp .lss (v 31) (.un .len (.tri .set (v 34) (v 31) (.bin .cons (v 36) .nilc)))))
       (.jump 8 [(add (v 31) (n 1)), (.bin .or (v 32) (.bin (.cell 0 (.bool)) (.tri .set (v 34) (v 31) (.bin .cons (v 36) .nilc)) (v 31))), (.tri .set (v 33) (v 31) (.bin .cons (v 35) .nilc)), (.tri .set (v 34) (v 31) (.bin .cons (v 36) .nilc))])
       (.fail ""))
      (.fail ""))
     (.fail ""))
    (.fail ""))
   (.fail ""))
  (.fail ""))
 (.loop [(n 0), (v 34)] intrinsic_Size_l33)
def intrinsic_Size_l31 : T := intrinsic_Size_l31_b
@[reducible] def intrinsic_Size_l29_b : T := .ite (cmp .lss (v 29) (at_ 1 (.bin .rget (v 17) (at_ 0 (.un .sort (v 15)) (v 18))) (v 23)))
 (.letj intrinsic_Size_j30 <|
  .ite (cmp .leq (n 0) (v 29))
  (.ite (cmp .lss (v 29) (.un .len (v 19)))
   (.call c_pintrinsic_sizer_rounds_7 [(at_ 0 (v 19) (v 29)), (at_ 1 (v 19) (v 29)), (at_ 2 (v 19) (v 29)), (.bin (.cell 3 (.bool)) (v 19) (v 29)), (at_ 4 (v 19) (v 29)), (at_ 5 (v 19) (v 29)), (at_ 6 (v 19) (v 29))] 1 <|
    .ite (v 31)
    (.ite (cmp .leq (.bin .plus (.un .len (v 30)) (.un .len (.bin .snoc .nil (.bin .cons (v 29) .nilc)))) (n 4294967296))
     (.jump 8 [(.bin .snoc (v 30) (.bin .cons (v 29) .nilc))])
     (.fail ""))
    (.jump 8 [(v 30)]))
   (.fail ""))
  (.fail ""))
 (.ite (.bin .or (cmp .leq (v 28) (n 0)) (cmp .eql (.un .len (v 30)) (n 0)))
  (.jump 5 [(v 24)])
  (.ite (cmp .leq (.un .len (v 30)) (n 17592186044416))
   (.ite (cmp .leq (.un .len (v 30)) (n 140737488355328))
    (.loop [(n 0), (.bool false), (.bin .make (.bin .cons (n 0) .nilc) (.un .len (v 30))), (.bin .make (.bin .cons (.bool false) .nilc) (.un .len (v 30)))] intrinsic_Size_l31)
    (.fail ""))
   (.fail "")))
def intrinsic_Size_l29 : T := intrinsic_Size_l29_b
@[reducible] def intrinsic_Size_l28_b : T := .ite (cmp .lss (v 27) (.bin .minus (at_ 1 (.bin .rget (v 17) (at_ 0 (.un .sort (v 15)) (v 18))) (v 23)) (at_ 0 (.bin .rget (v 17) (at_ 0 (.un .sort (v 15)) (v 18))) (v 23))))
 (.ite (cmp .leq (n 0) (v 27))
  (.call c_pintrinsic_sizer_bases_2 [(at_ 0 (v 19) (.bin .plus (at_ 0 (.bin .rget (v 17) (at_ 0 (.un .sort (v 15)) (v 18))) (v 23)) (v 27))), (at_ 1 (v 19) (.bin .plus (at_ 0 (.bin .rget (v 17) (at_ 0 (.un .sort (v 15)) (v 18))) (v 23)) (v 27))), (at_ 2 (v 19) (.bin .plus (at_ 0 (.bin .rget (v 17) (at_ 0 (.un .sort (v 15)) (v 18))) (v 23)) (v 27))), (.bin (.cell 3 (.bool)) (v 19) (.bin .plus (at_ 0 (.bin .rget (v 17) (at_ 0 (.un .sort (v 15)) (v 18))) (v 23)) (v 27))), (at_ 4 (v 19) (.bin .plus (at_ 0 (.bin .rget (v 17) (at_ 0 (.un .sort (v 15)) (v 18))) (v 23)) (v 27))), (at_ 5 (v 19) (.bin .plus (at_ 0 (.bin .rget (v 17) (at_ 0 (.un .sort (v 15)) (v 18))) (v 23)) (v 27))), (at_ 6 (v 19) (.bin .plus (at_ 0 (.bin .rget (v 17) (at_ 0 (.un .sort (v 15)) (v 18))) (v 23)) (v 27)))] 1 <|
   .jump 6 [(add (v 27) (n 1)), (sub (v 28) (v 29))])
  (.fail ""))
 (.loop [(at_ 0 (.bin .rget (v 17) (at_ 0 (.un .sort (v 15)) (v 18))) (v 23)), .nil] intrinsic_Size_l29)
def intrinsic_Size_l28 : T := intrinsic_Size_l28_b
@[reducible] def intrinsic_Size_j37_b : T := .jump 6 [(add (v 27) (n 1)), (v 29)]
def intrinsic_Size_j37 : T := intrinsic_Size_j37_b
@[reducible] def intrinsic_Size_l39_b : T := .ite (cmp .lss (v 30) (.un .len (.tri .slice (v 1) (add (at_ 0 (.bin .rget (v 17) (at_ 0 (.un .sort (v 15)) (v 18))) (v 27)) (n 1)) (.bin .minus (at_ 1 (.bin .rget (v 17) (at_ 0 (.un .sort (v 15)) (v 18))) (v 27)) (add (at_ 0 (.bin .rget (v 17) (at_ 0 (.un .sort (v 15)) (v 18))) (v 27)) (n 1))))))
 (.ite (cmp .leq (n 0) (v 30))
  (.jump 0 [(add (v 30) (n 1)), (add (v 31) (at_ 0 (.tri .slice (v 1) (add (at_ 0 (.bin .rget (v 17) (at_ 0 (.un .sort (v 15)) (v 18))) (v 27)) (n 1)) (.bin .minus (at_ 1 (.bin .rget (v 17) (at_ 0 (.un .sort (v 15)) (v 18))) (v 27)) (add (at_ 0 (.bin .rget (v 17) (at_ 0 (.un .sort (v 15)) (v 18))) (v 27)) (n 1)))) (v 30)))])
  (.fail ""))
 (.ret [(v 31)])
def intrinsic_Size_l39 : T := intrinsic_Size_l39_b
@[reducible] def intrinsic_Size_s38_b : T := .ite (cmp .leq (n 0) (add (at_ 0 (.bin .rget (v 17) (at_ 0 (.un .sort (v 15)) (v 18))) (v 27)) (n 1)))
 (.ite (cmp .leq (add (at_ 0 (.bin .rget (v 17) (at_ 0 (.un .sort (v 15)) (v 18))) (v 27)) (n 1)) (at_ 1 (.bin .rget (v 17) (at_ 0 (.un .sort (v 15)) (v 18))) (v 27)))
  (.ite (cmp .leq (at_ 1 (.bin .rget (v 17) (at_ 0 (.un .sort (v 15)) (v 18))) (v 27)) (.un .len (v 1)))
   (.loop [(n 0), (n 0)] intrinsic_Size_l39)
   (.fail ""))
  (.fail ""))
 (.fail "")
def intrinsic_Size_s38 : T := intrinsic_Size_s38_b
@[reducible] def intrinsic_Size_j42_b : T := .jump 9 [(add (v 33) (n 1)), (v 35)]
def intrinsic_Size_j42 : T := intrinsic_Size_j42_b
@[reducible] def intrinsic_Size_s44_b : T := .ite (cmp .leq (n 0) (at_ 0 (v 34) (v 35)))
 (.ite (cmp .lss (at_ 0 (v 34) (v 35)) (.un .len (v 26)))
  (.call c_intrinsic_limit [(at_ 0 (v 26) (at_ 0 (v 34) (v 35))), (at_ 1 (v 26) (at_ 0 (v 34) (v 35))), (at_ 2 (v 26) (at_ 0 (v 34) (v 35))), (.bin (.cell 3 (.bool)) (v 26) (at_ 0 (v 34) (v 35))), (at_ 4 (v 26) (at_ 0 (v 34) (v 35))), (at_ 5 (v 26) (at_ 0 (v 34) (v 35))), (at_ 6 (v 26) (at_ 0 (v 34) (v 35)))] 1 <|
   .ret [(.bin (.max .i64) (n 0) (sub (v 39) (at_ 5 (v 26) (at_ 0 (v 34) (v 35)))))])
  (.fail ""))
 (.fail "")
def intrinsic_Size_s44 : T := intrinsic_Size_s44_b
@[reducible] def intrinsic_Size_l46_b : T := .ite (cmp .lss (v 42) (.un .len (v 41)))
 (.ite (cmp .leq (n 0) (v 42))
  (.ite (cmp .lss (v 42) (.un .len (v 34)))
   (.ite (cmp .leq (n 0) (at_ 0 (v 34) (v 42)))
    (.ite (cmp .lss (at_ 0 (v 34) (v 42)) (.un .len (v 43)))
     (.jump 12 [(add (v 42) (n 1)), (.tri .set (v 43) (at_ 0 (v 34) (v 42)) (.bin .cons (.bin (.max .i64) (at_ 0 (v 43) (at_ 0 (v 34) (v 42))) (at_ 0 (v 41) (v 42))) .nilc))])
     (.fail ""))
    (.fail ""))
   (.fail ""))
  (.fail ""))
 (.jump 7 [(v 43)])
def intrinsic_Size_l46 : T := intrinsic_Size_l46_b
@[reducible] def intrinsic_Size_l45_b : T := .ite (cmp .lss (v 39) (.un .len (v 38)))
 (.ite (cmp .leq (n 0) (v 39))
  (.ite (cmp .lss (v 39) (.un .len (v 40)))
   (.jump 11 [(add (v 39) (n 1)), (.tri .set (v 40) (v 39) (.bin .cons (.bin .or (.bin (.cell 0 (.bool)) (v 40) (v 39)) (.un .not (v 36))) .nilc))])
   (.fail ""))
  (.fail ""))
 (.call c_spread_Fill [(v 32), (v 37), (v 40)] 1 <|
  .loop [(n 0), (v 28)] intrinsic_Size_l46)
def intrinsic_Size_l45 : T := intrinsic_Size_l45_b
@[reducible] def intrinsic_Size_l43_b : T := .ite (cmp .lss (v 35) (.un .len (v 34)))
 (.ite (cmp .leq (n 0) (v 35))
  (.seq intrinsic_Size_s44 1 <|
   .ite (cmp .leq (n 0) (at_ 0 (v 34) (v 35)))
   (.ite (cmp .lss (at_ 0 (v 34) (v 35)) (.un .len (v 26)))
    (.call c_intrinsic_loose [(at_ 0 (v 26) (at_ 0 (v 34) (v 35))), (at_ 1 (v 26) (at_ 0 (v 34) (v 35))), (at_ 2 (v 26) (at_ 0 (v 34) (v 35))), (.bin (.cell 3 (.bool)) (v 26) (at_ 0 (v 34) (v 35))), (at_ 4 (v 26) (at_ 0 (v 34) (v 35))), (at_ 5 (v 26) (at_ 0 (v 34) (v 35))), (at_ 6 (v 26) (at_ 0 (v 34) (v 35)))] 1 <|
     .ite (cmp .lss (v 35) (.un .len (v 37)))
     (.ite (cmp .lss (v 35) (.un .len (v 38)))
      (.ite (.bin .or (v 36) (cmp .lss (v 35) (.un .len (.tri .set (v 38) (v 35) (.bin .cons (v 40) .nilc)))))
       (.jump 10 [(add (v 35) (n 1)), (.bin .or (v 36) (.bin (.cell 0 (.bool)) (.tri .set (v 38) (v 35) (.bin .cons (v 40) .nilc)) (v 35))), (.tri .set (v 37) (v 35) (.bin .cons (v 39) .nilc)), (.tri .set (v 38) (v 35) (.bin .cons (v 40) .nilc))])
       (.fail ""))
      (.fail ""))
     (.fail ""))
    (.fail ""))
   (.fail ""))
  (.fail ""))
 (.loop [(n 0), (v 38)] intrinsic_Size_l45)
def intrinsic_Size_l43 : T := intrinsic_Size_l43_b
@[reducible] def intrinsic_Size_l41_b : T := .ite (cmp .lss (v 33) (at_ 1 (.bin .rget (v 17) (at_ 0 (.un .sort (v 15)) (v 18))) (v 27)))
 (.letj intrinsic_Size_j42 <|
  .ite (cmp .leq (n 0) (v 33))
  (.ite (cmp .lss (v 33) (.un .len (v 26)))
   (.call c_pintrinsic_sizer_rounds_8 [(at_ 0 (v 26) (v 33)), (at_ 1 (v 26) (v 33)), (at_ 2 (v 26) (v 33)), (.bin (.cell 3 (.bool)) (v 26) (v 33)), (at_ 4 (v 26) (v 33)), (at_ 5 (v 26) (v 33)), (at_ 6 (v 26) (v 33))] 1 <|
    .ite (v 35)
    (.ite (cmp .leq (.bin .plus (.un .len (v 34)) (.un .len (.bin .snoc .nil (.bin .cons (v 33) .nilc)))) (n 4294967296))
     (.jump 10 [(.bin .snoc (v 34) (.bin .cons (v 33) .nilc))])
     (.fail ""))
    (.jump 10 [(v 34)]))
   (.fail ""))
  (.fail ""))
 (.ite (.bin .or (cmp .leq (v 32) (n 0)) (cmp .eql (.un .len (v 34)) (n 0)))
  (.jump 7 [(v 28)])
  (.ite (cmp .leq (.un .len (v 34)) (n 17592186044416))
   (.ite (cmp .leq (.un .len (v 34)) (n 140737488355328))
    (.loop [(n 0), (.bool false), (.bin .make (.bin .cons (n 0) .nilc) (.un .len (v 34))), (.bin .make (.bin .cons (.bool false) .nilc) (.un .len (v 34)))] intrinsic_Size_l43)
    (.fail ""))
   (.fail "")))
def intrinsic_Size_l41 : T := intrinsic_Size_l41_b
@[reducible] def intrinsic_Size_l40_b : T := .ite (cmp .lss (v 31) (.bin .minus (at_ 1 (.bin .rget (v 17) (at_ 0 (.un .sort (v 15)) (v 18))) (v 27)) (at_ 0 (.bin .rget (v 17) (at_ 0 (.un .sort (v 15)) (v 18))) (v 27))))
 (.ite (cmp .leq (n 0) (v 31))
  (.call c_pintrinsic_sizer_bases_2 [(at_ 0 (v 26) (.bin .plus (at_ 0 (.bin .rget (v 17) (at_ 0 (.un .sort (v 15)) (v 18))) (v 27)) (v 31))), (at_ 1 (v 26) (.bin .plus (at_ 0 (.bin .rget (v 17) (at_ 0 (.un .sort (v 15)) (v 18))) (v 27)) (v 31))), (at_ 2 (v 26) (.bin .plus (at_ 0 (.bin .rget (v 17) (at_ 0 (.un .sort (v 15)) (v 18))) (v 27)) (v 31))), (.bin (.cell 3 (.bool)) (v 26) (.bin .plus (at_ 0 (.bin .rget (v 17) (at_ 0 (.un .sort (v 15)) (v 18))) (v 27)) (v 31))), (at_ 4 (v 26) (.bin .plus (at_ 0 (.bin .rget (v 17) (at_ 0 (.un .sort (v 15)) (v 18))) (v 27)) (v 31))), (at_ 5 (v 26) (.bin .plus (at_ 0 (.bin .rget (v 17) (at_ 0 (.un .sort (v 15)) (v 18))) (v 27)) (v 31))), (at_ 6 (v 26) (.bin .plus (at_ 0 (.bin .rget (v 17) (at_ 0 (.un .sort (v 15)) (v 18))) (v 27)) (v 31)))] 1 <|
   .jump 8 [(add (v 31) (n 1)), (sub (v 32) (v 33))])
  (.fail ""))
 (.loop [(at_ 0 (.bin .rget (v 17) (at_ 0 (.un .sort (v 15)) (v 18))) (v 27)), .nil] intrinsic_Size_l41)
def intrinsic_Size_l40 : T := intrinsic_Size_l40_b
@[reducible] def intrinsic_Size_j49_b : T := .jump 8 [(add (v 31) (n 1)), (v 33)]
def intrinsic_Size_j49 : T := intrinsic_Size_j49_b
@[reducible] def intrinsic_Size_j51_b : T := .ret [(v 33)]
def intrinsic_Size_j51 : T := intrinsic_Size_j51_b
@[reducible] def intrinsic_Size_l53_b : T := .ite (cmp .lss (v 35) (.un .len (.tri .slice (v 30) (at_ 0 (.bin .rget (v 17) (at_ 0 (.un .sort (v 15)) (v 18))) (v 31)) (.bin .minus (at_ 1 (.bin .rget (v 17) (at_ 0 (.un .sort (v 15)) (v 18))) (v 31)) (at_ 0 (.bin .rget (v 17) (at_ 0 (.un .sort (v 15)) (v 18))) (v 31))))))
 (.ite (cmp .leq (n 0) (v 35))
  (.call c_intrinsic_loose [(at_ 0 (.tri .slice (v 30) (at_ 0 (.bin .rget (v 17) (at_ 0 (.un .sort (v 15)) (v 18))) (v 31)) (.bin .minus (at_ 1 (.bin .rget (v 17) (at_ 0 (.un .sort (v 15)) (v 18))) (v 31)) (at_ 0 (.bin .rget (v 17) (at_ 0 (.un .sort (v 15)) (v 18))) (v 31)))) (v 35)), (at_ 1 (.tri .slice (v 30) (at_ 0 (.bin .rget (v 17) (at_ 0 (.un .sort (v 15)) (v 18))) (v 31)) (.bin .minus (at_ 1 (.bin .rget (v 17) (at_ 0 (.un .sort (v 15)) (v 18))) (v 31)) (at_ 0 (.bin .rget (v 17) (at_ 0 (.un .sort (v 15)) (v 18))) (v 31)))) (v 35)), (at_ 2 (.tri .slice (v 30) (at_ 0 (.bin .rget (v 17) (at_ 0 (.un .sort (v 15)) (v 18))) (v 31)) (.bin .minus (at_ 1 (.bin .rget (v 17) (at_ 0 (.un .sort (v 15)) (v 18))) (v 31)) (at_ 0 (.bin .rget (v 17) (at_ 0 (.un .sort (v 15)) (v 18))) (v 31)))) (v 35)), (.bin (.cell 3 (.bool)) (.tri .slice (v 30) (at_ 0 (.bin .rget (v 17) (at_ 0 (.un .sort (v 15)) (v 18))) (v 31)) (.bin .minus (at_ 1 (.bin .rget (v 17) (at_ 0 (.un .sort (v 15)) (v 18))) (v 31)) (at_ 0 (.bin .rget (v 17) (at_ 0 (.un .sort (v 15)) (v 18))) (v 31)))) (v 35)), (at_ 4 (.tri .slice (v 30) (at_ 0 (.bin .rget (v 17) (at_ 0 (.un .sort (v 15)) (v 18))) (v 31)) (.bin .minus (at_ 1 (.bin .rget (v 17) (at_ 0 (.un .sort (v 15)) (v 18))) (v 31)) (at_ 0 (.bin .rget (v 17) (at_ 0 (.un .sort (v 15)) (v 18))) (v 31)))) (v 35)), (at_ 5 (.tri .slice (v 30) (at_ 0 (.bin .rget (v 17) (at_ 0 (.un .sort (v 15)) (v 18))) (v 31)) (.bin .minus (at_ 1 (.bin .rget (v 17) (at_ 0 (.un .sort (v 15)) (v 18))) (v 31)) (at_ 0 (.bin .rget (v 17) (at_ 0 (.un .sort (v 15)) (v 18))) (v 31)))) (v 35)), (at_ 6 (.tri .slice (v 30) (at_ 0 (.bin .rget (v 17) (at_ 0 (.un .sort (v 15)) (v 18))) (v 31)) (.bin .minus (at_ 1 (.bin .rget (v 17) (at_ 0 (.un .sort (v 15)) (v 18))) (v 31)) (at_ 0 (.bin .rget (v 17) (at_ 0 (.un .sort (v 15)) (v 18))) (v 31)))) (v 35))] 1 <|
   .ite (.bin .and (v 37) (.un .not (.bin (.cell 3 (.bool)) (.tri .slice (v 30) (at_ 0 (.bin .rget (v 17) (at_ 0 (.un .sort (v 15)) (v 18))) (v 31)) (.bin .minus (at_ 1 (.bin .rget (v 17) (at_ 0 (.un .sort (v 15)) (v 18))) (v 31)) (at_ 0 (.bin .rget (v 17) (at_ 0 (.un .sort (v 15)) (v 18))) (v 31)))) (v 35))))
   (.jump 0 [(.bin (.max .i64) (at_ 4 (.bin .rget (v 17) (at_ 0 (.un .sort (v 15)) (v 18))) (v 31)) (at_ 2 (.bin .rget (v 17) (at_ 0 (.un .sort (v 15)) (v 18))) (v 31)))])
   (.call c_intrinsic_limit [(at_ 0 (.tri .slice (v 30) (at_ 0 (.bin .rget (v 17) (at_ 0 (.un .sort (v 15)) (v 18))) (v 31)) (.bin .minus (at_ 1 (.bin .rget (v 17) (at_ 0 (.un .sort (v 15)) (v 18))) (v 31)) (at_ 0 (.bin .rget (v 17) (at_ 0 (.un .sort (v 15)) (v 18))) (v 31)))) (v 35)), (at_ 1 (.tri .slice (v 30) (at_ 0 (.bin .rget (v 17) (at_ 0 (.un .sort (v 15)) (v 18))) (v 31)) (.bin .minus (at_ 1 (.bin .rget (v 17) (at_ 0 (.un .sort (v 15)) (v 18))) (v 31)) (at_ 0 (.bin .rget (v 17) (at_ 0 (.un .sort (v 15)) (v 18))) (v 31)))) (v 35)), (at_ 2 (.tri .slice (v 30) (at_ 0 (.bin .rget (v 17) (at_ 0 (.un .sort (v 15)) (v 18))) (v 31)) (.bin .minus (at_ 1 (.bin .rget (v 17) (at_ 0 (.un .sort (v 15)) (v 18))) (v 31)) (at_ 0 (.bin .rget (v 17) (at_ 0 (.un .sort (v 15)) (v 18))) (v 31)))) (v 35)), (.bin (.cell 3 (.bool)) (.tri .slice (v 30) (at_ 0 (.bin .rget (v 17) (at_ 0 (.un .sort (v 15)) (v 18))) (v 31)) (.bin .minus (at_ 1 (.bin .rget (v 17) (at_ 0 (.un .sort (v 15)) (v 18))) (v 31)) (at_ 0 (.bin .rget (v 17) (at_ 0 (.un .sort (v 15)) (v 18))) (v 31)))) (v 35)), (at_ 4 (.tri .slice (v 30) (at_ 0 (.bin .rget (v 17) (at_ 0 (.un .sort (v 15)) (v 18))) (v 31)) (.bin .minus (at_ 1 (.bin .rget (v 17) (at_ 0 (.un .sort (v 15)) (v 18))) (v 31)) (at_ 0 (.bin .rget (v 17) (at_ 0 (.un .sort (v 15)) (v 18))) (v 31)))) (v 35)), (at_ 5 (.tri .slice (v 30) (at_ 0 (.bin .rget (v 17) (at_ 0 (.un .sort (v 15)) (v 18))) (v 31)) (.bin .minus (at_ 1 (.bin .rget (v 17) (at_ 0 (.un .sort (v 15)) (v 18))) (v 31)) (at_ 0 (.bin .rget (v 17) (at_ 0 (.un .sort (v 15)) (v 18))) (v 31)))) (v 35)), (at_ 6 (.tri .slice (v 30) (at_ 0 (.bin .rget (v 17) (at_ 0 (.un .sort (v 15)) (v 18))) (v 31)) (.bin .minus (at_ 1 (.bin .rget (v 17) (at_ 0 (.un .sort (v 15)) (v 18))) (v 31)) (at_ 0 (.bin .rget (v 17) (at_ 0 (.un .sort (v 15)) (v 18))) (v 31)))) (v 35))] 1 <|
    .jump 2 [(add (v 35) (n 1)), (add (v 36) (v 38))]))
  (.fail ""))
 (.jump 0 [(.bin (.max .i64) (.bin (.min .i64) (at_ 4 (.bin .rget (v 17) (at_ 0 (.un .sort (v 15)) (v 18))) (v 31)) (v 36)) (at_ 2 (.bin .rget (v 17) (at_ 0 (.un .sort (v 15)) (v 18))) (v 31)))])
def intrinsic_Size_l53 : T := intrinsic_Size_l53_b
@[reducible] def intrinsic_Size_l52_b : T := .ite (cmp .lss (v 33) (.un .len (.tri .slice (v 1) (add (at_ 0 (.bin .rget (v 17) (at_ 0 (.un .sort (v 15)) (v 18))) (v 31)) (n 1)) (.bin .minus (at_ 1 (.bin .rget (v 17) (at_ 0 (.un .sort (v 15)) (v 18))) (v 31)) (add (at_ 0 (.bin .rget (v 17) (at_ 0 (.un .sort (v 15)) (v 18))) (v 31)) (n 1))))))
 (.ite (cmp .leq (n 0) (v 33))
  (.jump 1 [(add (v 33) (n 1)), (add (v 34) (at_ 0 (.tri .slice (v 1) (add (at_ 0 (.bin .rget (v 17) (at_ 0 (.un .sort (v 15)) (v 18))) (v 31)) (n 1)) (.bin .minus (at_ 1 (.bin .rget (v 17) (at_ 0 (.un .sort (v 15)) (v 18))) (v 31)) (add (at_ 0 (.bin .rget (v 17) (at_ 0 (.un .sort (v 15)) (v 18))) (v 31)) (n 1)))) (v 33)))])
  (.fail ""))
 (.ite (cmp .leq (n 0) (at_ 0 (.bin .rget (v 17) (at_ 0 (.un .sort (v 15)) (v 18))) (v 31)))
  (.ite (cmp .leq (at_ 0 (.bin .rget (v 17) (at_ 0 (.un .sort (v 15)) (v 18))) (v 31)) (at_ 1 (.bin .rget (v 17) (at_ 0 (.un .sort (v 15)) (v 18))) (v 31)))
   (.ite (cmp .leq (at_ 1 (.bin .rget (v 17) (at_ 0 (.un .sort (v 15)) (v 18))) (v 31)) (.un .len (v 30)))
    (.loop [(n 0), (v 34)] intrinsic_Size_l53)
    (.fail ""))
   (.fail ""))
  (.fail ""))
def intrinsic_Size_l52 : T := intrinsic_Size_l52_b
@[reducible] def intrinsic_Size_s50_b : T := .ite (v 22)
 (.letj intrinsic_Size_j51 <|
  .ite (cmp .leq (n 0) (add (at_ 0 (.bin .rget (v 17) (at_ 0 (.un .sort (v 15)) (v 18))) (v 31)) (n 1)))
  (.ite (cmp .leq (add (at_ 0 (.bin .rget (v 17) (at_ 0 (.un .sort (v 15)) (v 18))) (v 31)) (n 1)) (at_ 1 (.bin .rget (v 17) (at_ 0 (.un .sort (v 15)) (v 18))) (v 31)))
   (.ite (cmp .leq (at_ 1 (.bin .rget (v 17) (at_ 0 (.un .sort (v 15)) (v 18))) (v 31)) (.un .len (v 1)))
    (.loop [(n 0), (n 0)] intrinsic_Size_l52)
    (.fail ""))
   (.fail ""))
  (.fail ""))
 (.call c_pintrinsic_sizer_rounds_3 [(at_ 0 (.bin .rget (v 17) (at_ 0 (.un .sort (v 15)) (v 18))) (v 31)), (at_ 1 (.bin .rget (v 17) (at_ 0 (.un .sort (v 15)) (v 18))) (v 31)), (at_ 2 (.bin .rget (v 17) (at_ 0 (.un .sort (v 15)) (v 18))) (v 31)), (at_ 3 (.bin .rget (v 17) (at_ 0 (.un .sort (v 15)) (v 18))) (v 31)), (at_ 4 (.bin .rget (v 17) (at_ 0 (.un .sort (v 15)) (v 18))) (v 31))] 1 <|
  .ret [(v 33)])
def intrinsic_Size_s50 : T := intrinsic_Size_s50_b
@[reducible] def intrinsic_Size_l55_b : T := .ite (cmp .lss (v 34) (.un .len (.tri .slice (v 1) (add (at_ 0 (.bin .rget (v 17) (at_ 0 (.un .sort (v 15)) (v 18))) (v 31)) (n 1)) (.bin .minus (at_ 1 (.bin .rget (v 17) (at_ 0 (.un .sort (v 15)) (v 18))) (v 31)) (add (at_ 0 (.bin .rget (v 17) (at_ 0 (.un .sort (v 15)) (v 18))) (v 31)) (n 1))))))
 (.ite (cmp .leq (n 0) (v 34))
  (.jump 0 [(add (v 34) (n 1)), (add (v 35) (at_ 0 (.tri .slice (v 1) (add (at_ 0 (.bin .rget (v 17) (at_ 0 (.un .sort (v 15)) (v 18))) (v 31)) (n 1)) (.bin .minus (at_ 1 (.bin .rget (v 17) (at_ 0 (.un .sort (v 15)) (v 18))) (v 31)) (add (at_ 0 (.bin .rget (v 17) (at_ 0 (.un .sort (v 15)) (v 18))) (v 31)) (n 1)))) (v 34)))])
  (.fail ""))
 (.ret [(v 35)])
def intrinsic_Size_l55 : T := intrinsic_Size_l55_b
@[reducible] def intrinsic_Size_s54_b : T := .ite (cmp .leq (n 0) (add (at_ 0 (.bin .rget (v 17) (at_ 0 (.un .sort (v 15)) (v 18))) (v 31)) (n 1)))
 (.ite (cmp .leq (add (at_ 0 (.bin .rget (v 17) (at_ 0 (.un .sort (v 15)) (v 18))) (v 31)) (n 1)) (at_ 1 (.bin .rget (v 17) (at_ 0 (.un .sort (v 15)) (v 18))) (v 31)))
  (.ite (cmp .leq (at_ 1 (.bin .rget (v 17) (at_ 0 (.un .sort (v 15)) (v 18))) (v 31)) (.un .len (v 1)))
   (.loop [(n 0), (n 0)] intrinsic_Size_l55)
   (.fail ""))
  (.fail ""))
 (.fail "")
def intrinsic_Size_s54 : T := intrinsic_Size_s54_b
@[reducible] def intrinsic_Size_j58_b : T := .jump 11 [(add (v 37) (n 1)), (v 39)]
def intrinsic_Size_j58 : T := intrinsic_Size_j58_b
@[reducible] def intrinsic_Size_j59_b : T := .ite (v 39)
 (.ite (cmp .leq (.bin .plus (.un .len (v 38)) (.un .len (.bin .snoc .nil (.bin .cons (v 37) .nilc)))) (n 4294967296))
  (.jump 12 [(.bin .snoc (v 38) (.bin .cons (v 37) .nilc))])
  (.fail ""))
 (.jump 12 [(v 38)])
def intrinsic_Size_j59 : T := intrinsic_Size_j59_b
@[reducible] def intrinsic_Size_s61_b : T := .ite (cmp .leq (n 0) (at_ 0 (v 38) (v 39)))
 (.ite (cmp .lss (at_ 0 (v 38) (v 39)) (.un .len (v 30)))
  (.call c_intrinsic_limit [(at_ 0 (v 30) (at_ 0 (v 38) (v 39))), (at_ 1 (v 30) (at_ 0 (v 38) (v 39))), (at_ 2 (v 30) (at_ 0 (v 38) (v 39))), (.bin (.cell 3 (.bool)) (v 30) (at_ 0 (v 38) (v 39))), (at_ 4 (v 30) (at_ 0 (v 38) (v 39))), (at_ 5 (v 30) (at_ 0 (v 38) (v 39))), (at_ 6 (v 30) (at_ 0 (v 38) (v 39)))] 1 <|
   .ret [(.bin (.max .i64) (n 0) (sub (v 43) (at_ 5 (v 30) (at_ 0 (v 38) (v 39)))))])
  (.fail ""))
 (.fail "")
def intrinsic_Size_s61 : T := intrinsic_Size_s61_b
@[reducible] def intrinsic_Size_l63_b : T := .ite (cmp .lss (v 46) (.un .len (v 45)))
 (.ite (cmp .leq (n 0) (v 46))
  (.ite (cmp .lss (v 46) (.un .len (v 38)))
   (.ite (cmp .leq (n 0) (at_ 0 (v 38) (v 46)))
    (.ite (cmp .lss (at_ 0 (v 38) (v 46)) (.un .len (v 47)))
     (.jump 14 [(add (v 46) (n 1)), (.tri .set (v 47) (at_ 0 (v 38) (v 46)) (.bin .cons (.bin (.max .i64) (at_ 0 (v 47) (at_ 0 (v 38) (v 46))) (at_ 0 (v 45) (v 46))) .nilc))])
     (.fail ""))
    (.fail ""))
   (.fail ""))
  (.fail ""))
 (.jump 9 [(v 47)])
def intrinsic_Size_l63 : T := intrinsic_Size_l63_b
@[reducible] def intrinsic_Size_l62_b : T := .ite (cmp .lss (v 43) (.un .len (v 42)))
 (.ite (cmp .leq (n 0) (v 43))
  (.ite (cmp .lss (v 43) (.un .len (v 44)))
   (.jump 13 [(add (v 43) (n 1)), (.tri .set (v 44) (v 43) (.bin .cons (.bin .or (.bin (.cell 0 (.bool)) (v 44) (v 43)) (.un .not (v 40))) .nilc))])
   (.fail ""))
  (.fail ""))
 (.call c_spread_Fill [(v 36), (v 41), (v 44)] 1 <|
  .loop [(n 0), (v 32)] intrinsic_Size_l63)
def intrinsic_Size_l62 : T := intrinsic_Size_l62_b
@[reducible] def intrinsic_Size_l60_b : T := .ite (cmp .lss (v 39) (.un .len (v 38)))
 (.ite (cmp .leq (n 0) (v 39))
  (.seq intrinsic_Size_s61 1 <|
   .ite (cmp .leq (n 0) (at_ 0 (v 38) (v 39)))
   (.ite (cmp .lss (at_ 0 (v 38) (v 39)) (.un .len (v 30)))
    (.call c_intrinsic_content [(at_ 0 (v 30) (at_ 0 (v 38) (v 39))), (at_ 1 (v 30) (at_ 0 (v 38) (v 39))), (at_ 2 (v 30) (at_ 0 (v 38) (v 39))), (.bin (.cell 3 (.bool)) (v 30) (at_ 0 (v 38) (v 39))), (at_ 4 (v 30) (at_ 0 (v 38) (v 39))), (at_ 5 (v 30) (at_ 0 (v 38) (v 39))), (at_ 6 (v 30) (at_ 0 (v 38) (v 39)))] 1 <|
     .ite (cmp .lss (v 39) (.un .len (v 41)))
     (.ite (cmp .lss (v 39) (.un .len (v 42)))
      (.ite (.bin .or (v 40) (cmp .lss (v 39) (.un .len (.tri .set (v 42) (v 39) (.bin .cons (v 44) .nilc)))))
       (.jump 12 [(add (v 39) (n 1)), (.bin .or (v 40) (.bin (.cell 0 (.bool)) (.tri .set (v 42) (v 39) (.bin .cons (v 44) .nilc)) (v 39))), (.tri .set (v 41) (v 39) (.bin .cons (v 43) .nilc)), (.tri .set (v 42) (v 39) (.bin .cons (v 44) .nilc))])
       (.fail ""))
      (.fail ""))
     (.fail ""))
    (.fail ""))
   (.fail ""))
  (.fail ""))
 (.loop [(n 0), (v 42)] intrinsic_Size_l62)
def intrinsic_Size_l60 : T := intrinsic_Size_l60_b
@[reducible] def intrinsic_Size_l57_b : T := .ite (cmp .lss (v 37) (at_ 1 (.bin .rget (v 17) (at_ 0 (.un .sort (v 15)) (v 18))) (v 31)))
 (.letj intrinsic_Size_j58 <|
  .letj intrinsic_Size_j59 <|
  .ite (cmp .leq (n 0) (v 37))
  (.ite (cmp .lss (v 37) (.un .len (v 30)))
   (.ite (v 21)
    (.call c_pintrinsic_sizer_rounds_6 [(at_ 0 (v 30) (v 37)), (at_ 1 (v 30) (v 37)), (at_ 2 (v 30) (v 37)), (.bin (.cell 3 (.bool)) (v 30) (v 37)), (at_ 4 (v 30) (v 37)), (at_ 5 (v 30) (v 37)), (at_ 6 (v 30) (v 37))] 1 <|
     .jump 13 [(v 39)])
    (.call c_pintrinsic_sizer_rounds_4 [(at_ 0 (v 30) (v 37)), (at_ 1 (v 30) (v 37)), (at_ 2 (v 30) (v 37)), (.bin (.cell 3 (.bool)) (v 30) (v 37)), (at_ 4 (v 30) (v 37)), (at_ 5 (v 30) (v 37)), (at_ 6 (v 30) (v 37))] 1 <|
     .jump 13 [(v 39)]))
   (.fail ""))
  (.fail ""))
 (.ite (.bin .or (cmp .leq (v 36) (n 0)) (cmp .eql (.un .len (v 38)) (n 0)))
  (.jump 9 [(v 32)])
  (.ite (cmp .leq (.un .len (v 38)) (n 17592186044416))
   (.ite (cmp .leq (.un .len (v 38)) (n 140737488355328))
    (.loop [(n 0), (.bool false), (.bin .make (.bin .cons (n 0) .nilc) (.un .len (v 38))), (.bin .make (.bin .cons (.bool false) .nilc) (.un .len (v 38)))] intrinsic_Size_l60)
    (.fail ""))
   (.fail "")))
def intrinsic_Size_l57 : T := intrinsic_Size_l57_b
@[reducible] def intrinsic_Size_l56_b : T := .ite (cmp .lss (v 35) (.bin .minus (at_ 1 (.bin .rget (v 17) (at_ 0 (.un .sort (v 15)) (v 18))) (v 31)) (at_ 0 (.bin .rget (v 17) (at_ 0 (.un .sort (v 15)) (v 18))) (v 31))))
 (.ite (cmp .leq (n 0) (v 35))
  (.call c_pintrinsic_sizer_bases_2 [(at_ 0 (v 30) (.bin .plus (at_ 0 (.bin .rget (v 17) (at_ 0 (.un .sort (v 15)) (v 18))) (v 31)) (v 35))), (at_ 1 (v 30) (.bin .plus (at_ 0 (.bin .rget (v 17) (at_ 0 (.un .sort (v 15)) (v 18))) (v 31)) (v 35))), (at_ 2 (v 30) (.bin .plus (at_ 0 (.bin .rget (v 17) (at_ 0 (.un .sort (v 15)) (v 18))) (v 31)) (v 35))), (.bin (.cell 3 (.bool)) (v 30) (.bin .plus (at_ 0 (.bin .rget (v 17) (at_ 0 (.un .sort (v 15)) (v 18))) (v 31)) (v 35))), (at_ 4 (v 30) (.bin .plus (at_ 0 (.bin .rget (v 17) (at_ 0 (.un .sort (v 15)) (v 18))) (v 31)) (v 35))), (at_ 5 (v 30) (.bin .plus (at_ 0 (.bin .rget (v 17) (at_ 0 (.un .sort (v 15)) (v 18))) (v 31)) (v 35))), (at_ 6 (v 30) (.bin .plus (at_ 0 (.bin .rget (v 17) (at_ 0 (.un .sort (v 15)) (v 18))) (v 31)) (v 35)))] 1 <|
   .jump 10 [(add (v 35) (n 1)), (sub (v 36) (v 37))])
  (.fail ""))
 (.loop [(at_ 0 (.bin .rget (v 17) (at_ 0 (.un .sort (v 15)) (v 18))) (v 31)), .nil] intrinsic_Size_l57)
def intrinsic_Size_l56 : T := intrinsic_Size_l56_b
@[reducible] def intrinsic_Size_j67_b : T := .jump 11 [(add (v 37) (n 1)), (v 39)]
def intrinsic_Size_j67 : T := intrinsic_Size_j67_b
@[reducible] def intrinsic_Size_l69_b : T := .ite (cmp .lss (v 40) (.un .len (.tri .slice (v 1) (add (at_ 0 (.bin .rget (v 17) (at_ 0 (.un .sort (v 15)) (v 18))) (v 37)) (n 1)) (.bin .minus (at_ 1 (.bin .rget (v 17) (at_ 0 (.un .sort (v 15)) (v 18))) (v 37)) (add (at_ 0 (.bin .rget (v 17) (at_ 0 (.un .sort (v 15)) (v 18))) (v 37)) (n 1))))))
 (.ite (cmp .leq (n 0) (v 40))
  (.jump 0 [(add (v 40) (n 1)), (add (v 41) (at_ 0 (.tri .slice (v 1) (add (at_ 0 (.bin .rget (v 17) (at_ 0 (.un .sort (v 15)) (v 18))) (v 37)) (n 1)) (.bin .minus (at_ 1 (.bin .rget (v 17) (at_ 0 (.un .sort (v 15)) (v 18))) (v 37)) (add (at_ 0 (.bin .rget (v 17) (at_ 0 (.un .sort (v 15)) (v 18))) (v 37)) (n 1)))) (v 40)))])
  (.fail ""))
 (.ret [(v 41)])
def intrinsic_Size_l69 : T := intrinsic_Size_l69_b
@[reducible] def intrinsic_Size_s68_b : T := .ite (cmp .leq (n 0) (add (at_ 0 (.bin .rget (v 17) (at_ 0 (.un .sort (v 15)) (v 18))) (v 37)) (n 1)))
 (.ite (cmp .leq (add (at_ 0 (.bin .rget (v 17) (at_ 0 (.un .sort (v 15)) (v 18))) (v 37)) (n 1)) (at_ 1 (.bin .rget (v 17) (at_ 0 (.un .sort (v 15)) (v 18))) (v 37)))
  (.ite (cmp .leq (at_ 1 (.bin .rget (v 17) (at_ 0 (.un .sort (v 15)) (v 18))) (v 37)) (.un .len (v 1)))
   (.loop [(n 0), (n 0)] intrinsic_Size_l69)
   (.fail ""))
  (.fail ""))
 (.fail "")
def intrinsic_Size_s68 : T := intrinsic_Size_s68_b
@[reducible] def intrinsic_Size_j72_b : T := .jump 14 [(add (v 43) (n 1)), (v 45)]
def intrinsic_Size_j72 : T := intrinsic_Size_j72_b
@[reducible] def intrinsic_Size_j75_b : T := .ret [(v 49)]
def intrinsic_Size_j75 : T := intrinsic_Size_j75_b
@[reducible] def intrinsic_Size_s74_b : T := .letj intrinsic_Size_j75 <|
 .ite (cmp .leq (n 0) (at_ 0 (v 44) (v 45)))
 (.ite (cmp .lss (at_ 0 (v 44) (v 45)) (.un .len (.bin .make (.bin .cons (.bool false) .nilc) (.un .len (v 36)))))
  (.ite (.bin .or (.bin (.cell 0 (.bool)) (.bin .make (.bin .cons (.bool false) .nilc) (.un .len (v 36))) (at_ 0 (v 44) (v 45))) (cmp .lss (at_ 0 (v 44) (v 45)) (.un .len (v 36))))
   (.ite (.bin .or (.bin (.cell 0 (.bool)) (.bin .make (.bin .cons (.bool false) .nilc) (.un .len (v 36))) (at_ 0 (v 44) (v 45))) (cmp .eql (at_ 6 (v 36) (at_ 0 (v 44) (v 45))) (n 1125899906842624)))
    (.jump 0 [(n 1125899906842624)])
    (.jump 0 [(n 0)]))
   (.fail ""))
  (.fail ""))
 (.fail "")
def intrinsic_Size_s74 : T := intrinsic_Size_s74_b
@[reducible] def intrinsic_Size_l77_b : T := .ite (cmp .lss (v 52) (.un .len (v 51)))
 (.ite (cmp .leq (n 0) (v 52))
  (.ite (cmp .lss (v 52) (.un .len (v 44)))
   (.ite (cmp .leq (n 0) (at_ 0 (v 44) (v 52)))
    (.ite (cmp .lss (at_ 0 (v 44) (v 52)) (.un .len (v 53)))
     (.jump 17 [(add (v 52) (n 1)), (.tri .set (v 53) (at_ 0 (v 44) (v 52)) (.bin .cons (.bin (.max .i64) (at_ 0 (v 53) (at_ 0 (v 44) (v 52))) (at_ 0 (v 51) (v 52))) .nilc))])
     (.fail ""))
    (.fail ""))
   (.fail ""))
  (.fail ""))
 (.jump 12 [(v 53)])
def intrinsic_Size_l77 : T := intrinsic_Size_l77_b
@[reducible] def intrinsic_Size_l76_b : T := .ite (cmp .lss (v 49) (.un .len (v 48)))
 (.ite (cmp .leq (n 0) (v 49))
  (.ite (cmp .lss (v 49) (.un .len (v 50)))
   (.jump 16 [(add (v 49) (n 1)), (.tri .set (v 50) (v 49) (.bin .cons (.bin .or (.bin (.cell 0 (.bool)) (v 50) (v 49)) (.un .not (v 46))) .nilc))])
   (.fail ""))
  (.fail ""))
 (.call c_spread_Fill [(v 42), (v 47), (v 50)] 1 <|
  .loop [(n 0), (v 38)] intrinsic_Size_l77)
def intrinsic_Size_l76 : T := intrinsic_Size_l76_b
@[reducible] def intrinsic_Size_l73_b : T := .ite (cmp .lss (v 45) (.un .len (v 44)))
 (.ite (cmp .leq (n 0) (v 45))
  (.seq intrinsic_Size_s74 1 <|
   .ite (cmp .leq (n 0) (at_ 0 (v 44) (v 45)))
   (.ite (cmp .lss (at_ 0 (v 44) (v 45)) (.un .len (v 36)))
    (.call c_pintrinsic_sizer_limits_2 [(at_ 0 (v 36) (at_ 0 (v 44) (v 45))), (at_ 1 (v 36) (at_ 0 (v 44) (v 45))), (at_ 2 (v 36) (at_ 0 (v 44) (v 45))), (.bin (.cell 3 (.bool)) (v 36) (at_ 0 (v 44) (v 45))), (at_ 4 (v 36) (at_ 0 (v 44) (v 45))), (at_ 5 (v 36) (at_ 0 (v 44) (v 45))), (at_ 6 (v 36) (at_ 0 (v 44) (v 45)))] 1 <|
     .ite (cmp .lss (v 45) (.un .len (v 47)))
     (.ite (cmp .lss (v 45) (.un .len (v 48)))
      (.ite (.bin .or (v 46) (cmp .lss (v 45) (.un .len (.tri .set (v 48) (v 45) (.bin .cons (v 50) .nilc)))))
       (.jump 15 [(add (v 45) (n 1)), (.bin .or (v 46) (.bin (.cell 0 (.bool)) (.tri .set (v 48) (v 45) (.bin .cons (v 50) .nilc)) (v 45))), (.tri .set (v 47) (v 45) (.bin .cons (v 49) .nilc)), (.tri .set (v 48) (v 45) (.bin .cons (v 50) .nilc))])
       (.fail ""))
      (.fail ""))
     (.fail ""))
    (.fail ""))
   (.fail ""))
  (.fail ""))
 (.loop [(n 0), (v 48)] intrinsic_Size_l76)
def intrinsic_Size_l73 : T := intrinsic_Size_l73_b
@[reducible] def intrinsic_Size_l71_b : T := .ite (cmp .lss (v 43) (at_ 1 (.bin .rget (v 17) (at_ 0 (.un .sort (v 15)) (v 18))) (v 37)))
 (.letj intrinsic_Size_j72 <|
  .ite (cmp .leq (n 0) (v 43))
  (.ite (cmp .lss (v 43) (.un .len (v 36)))
   (.call c_intrinsic_loose [(at_ 0 (v 36) (v 43)), (at_ 1 (v 36) (v 43)), (at_ 2 (v 36) (v 43)), (.bin (.cell 3 (.bool)) (v 36) (v 43)), (at_ 4 (v 36) (v 43)), (at_ 5 (v 36) (v 43)), (at_ 6 (v 36) (v 43))] 1 <|
    .ite (v 45)
    (.ite (cmp .leq (.bin .plus (.un .len (v 44)) (.un .len (.bin .snoc .nil (.bin .cons (v 43) .nilc)))) (n 4294967296))
     (.jump 15 [(.bin .snoc (v 44) (.bin .cons (v 43) .nilc))])
     (.fail ""))
    (.jump 15 [(v 44)]))
   (.fail ""))
  (.fail ""))
 (.ite (.bin .or (cmp .leq (v 42) (n 0)) (cmp .eql (.un .len (v 44)) (n 0)))
  (.jump 12 [(v 38)])
  (.ite (cmp .leq (.un .len (v 44)) (n 17592186044416))
   (.ite (cmp .leq (.un .len (v 44)) (n 140737488355328))
    (.loop [(n 0), (.bool false), (.bin .make (.bin .cons (n 0) .nilc) (.un .len (v 44))), (.bin .make (.bin .cons (.bool false) .nilc) (.un .len (v 44)))] intrinsic_Size_l73)
    (.fail ""))
   (.fail "")))
def intrinsic_Size_l71 : T := intrinsic_Size_l71_b
@[reducible] def intrinsic_Size_l70_b : T := .ite (cmp .lss (v 41) (.bin .minus (at_ 1 (.bin .rget (v 17) (at_ 0 (.un .sort (v 15)) (v 18))) (v 37)) (at_ 0 (.bin .rget (v 17) (at_ 0 (.un .sort (v 15)) (v 18))) (v 37))))
 (.ite (cmp .leq (n 0) (v 41))
  (.call c_pintrinsic_sizer_limits_1 [(at_ 0 (v 36) (.bin .plus (at_ 0 (.bin .rget (v 17) (at_ 0 (.un .sort (v 15)) (v 18))) (v 37)) (v 41))), (at_ 1 (v 36) (.bin .plus (at_ 0 (.bin .rget (v 17) (at_ 0 (.un .sort (v 15)) (v 18))) (v 37)) (v 41))), (at_ 2 (v 36) (.bin .plus (at_ 0 (.bin .rget (v 17) (at_ 0 (.un .sort (v 15)) (v 18))) (v 37)) (v 41))), (.bin (.cell 3 (.bool)) (v 36) (.bin .plus (at_ 0 (.bin .rget (v 17) (at_ 0 (.un .sort (v 15)) (v 18))) (v 37)) (v 41))), (at_ 4 (v 36) (.bin .plus (at_ 0 (.bin .rget (v 17) (at_ 0 (.un .sort (v 15)) (v 18))) (v 37)) (v 41))), (at_ 5 (v 36) (.bin .plus (at_ 0 (.bin .rget (v 17) (at_ 0 (.un .sort (v 15)) (v 18))) (v 37)) (v 41))), (at_ 6 (v 36) (.bin .plus (at_ 0 (.bin .rget (v 17) (at_ 0 (.un .sort (v 15)) (v 18))) (v 37)) (v 41)))] 1 <|
   .jump 13 [(add (v 41) (n 1)), (sub (v 42) (v 43))])
  (.fail ""))
 (.loop [(at_ 0 (.bin .rget (v 17) (at_ 0 (.un .sort (v 15)) (v 18))) (v 37)), .nil] intrinsic_Size_l71)
def intrinsic_Size_l70 : T := intrinsic_Size_l70_b
@[reducible] def intrinsic_Size_j80_b : T := .jump 13 [(add (v 41) (n 1)), (v 43)]
def intrinsic_Size_j80 : T := intrinsic_Size_j80_b
@[reducible] def intrinsic_Size_j82_b : T := .jump 14 [(add (v 43) (n 1)), (v 45)]
def intrinsic_Size_j82 : T := intrinsic_Size_j82_b
@[reducible] def intrinsic_Size_l81_b : T := .ite (cmp .lss (v 43) (.un .len (v 42)))
 (.letj intrinsic_Size_j82 <|
  .ite (cmp .leq (n 0) (v 43))
  (.ite (cmp .leq (n 0) (at_ 0 (v 42) (v 43)))
   (.ite (cmp .lss (at_ 0 (v 42) (v 43)) (.un .len (v 36)))
    (.ite (cmp .eql (at_ 6 (v 36) (at_ 0 (v 42) (v 43))) (n 1125899906842624))
     (.ite (cmp .lss (at_ 0 (v 42) (v 43)) (.un .len (v 44)))
      (.jump 15 [(.tri .set (v 44) (at_ 0 (v 42) (v 43)) (.bin .cons (.bool true) .nilc))])
      (.fail ""))
     (.jump 15 [(v 44)]))
    (.fail ""))
   (.fail ""))
  (.fail ""))
 (.jump 12 [(add (v 39) (n 1)), (v 44)])
def intrinsic_Size_l81 : T := intrinsic_Size_l81_b
@[reducible] def intrinsic_Size_l79_b : T := .ite (cmp .lss (v 41) (at_ 1 (.bin .rget (v 17) (at_ 0 (.un .sort (v 15)) (v 18))) (v 39)))
 (.letj intrinsic_Size_j80 <|
  .ite (cmp .leq (n 0) (v 41))
  (.ite (cmp .lss (v 41) (.un .len (v 36)))
   (.call c_intrinsic_loose [(at_ 0 (v 36) (v 41)), (at_ 1 (v 36) (v 41)), (at_ 2 (v 36) (v 41)), (.bin (.cell 3 (.bool)) (v 36) (v 41)), (at_ 4 (v 36) (v 41)), (at_ 5 (v 36) (v 41)), (at_ 6 (v 36) (v 41))] 1 <|
    .ite (v 43)
    (.ite (cmp .leq (.bin .plus (.un .len (v 42)) (.un .len (.bin .snoc .nil (.bin .cons (v 41) .nilc)))) (n 4294967296))
     (.jump 14 [(.bin .snoc (v 42) (.bin .cons (v 41) .nilc))])
     (.fail ""))
    (.jump 14 [(v 42)]))
   (.fail ""))
  (.fail ""))
 (.loop [(n 0), (v 40)] intrinsic_Size_l81)
def intrinsic_Size_l79 : T := intrinsic_Size_l79_b
@[reducible] def intrinsic_Size_j84_b : T := .jump 13 [(add (v 41) (n 1)), (v 43)]
def intrinsic_Size_j84 : T := intrinsic_Size_j84_b
@[reducible] def intrinsic_Size_j86_b : T := .jump 14 [(add (v 43) (n 1)), (v 45)]
def intrinsic_Size_j86 : T := intrinsic_Size_j86_b
@[reducible] def intrinsic_Size_l88_b : T := .ite (cmp .lss (v 46) (.un .len (.tri .slice (v 1) (add (at_ 0 (.bin .rget (v 17) (at_ 0 (.un .sort (v 15)) (v 18))) (v 43)) (n 1)) (.bin .minus (at_ 1 (.bin .rget (v 17) (at_ 0 (.un .sort (v 15)) (v 18))) (v 43)) (add (at_ 0 (.bin .rget (v 17) (at_ 0 (.un .sort (v 15)) (v 18))) (v 43)) (n 1))))))
 (.ite (cmp .leq (n 0) (v 46))
  (.jump 0 [(add (v 46) (n 1)), (add (v 47) (at_ 0 (.tri .slice (v 1) (add (at_ 0 (.bin .rget (v 17) (at_ 0 (.un .sort (v 15)) (v 18))) (v 43)) (n 1)) (.bin .minus (at_ 1 (.bin .rget (v 17) (at_ 0 (.un .sort (v 15)) (v 18))) (v 43)) (add (at_ 0 (.bin .rget (v 17) (at_ 0 (.un .sort (v 15)) (v 18))) (v 43)) (n 1)))) (v 46)))])
  (.fail ""))
 (.ret [(v 47)])
def intrinsic_Size_l88 : T := intrinsic_Size_l88_b
@[reducible] def intrinsic_Size_s87_b : T := .ite (cmp .leq (n 0) (add (at_ 0 (.bin .rget (v 17) (at_ 0 (.un .sort (v 15)) (v 18))) (v 43)) (n 1)))
 (.ite (cmp .leq (add (at_ 0 (.bin .rget (v 17) (at_ 0 (.un .sort (v 15)) (v 18))) (v 43)) (n 1)) (at_ 1 (.bin .rget (v 17) (at_ 0 (.un .sort (v 15)) (v 18))) (v 43)))
  (.ite (cmp .leq (at_ 1 (.bin .rget (v 17) (at_ 0 (.un .sort (v 15)) (v 18))) (v 43)) (.un .len (v 1)))
   (.loop [(n 0), (n 0)] intrinsic_Size_l88)
   (.fail ""))
  (.fail ""))
 (.fail "")
def intrinsic_Size_s87 : T := intrinsic_Size_s87_b
@[reducible] def intrinsic_Size_j91_b : T := .jump 17 [(add (v 49) (n 1)), (v 51)]
def intrinsic_Size_j91 : T := intrinsic_Size_j91_b
@[reducible] def intrinsic_Size_j94_b : T := .ret [(v 55)]
def intrinsic_Size_j94 : T := intrinsic_Size_j94_b
@[reducible] def intrinsic_Size_s93_b : T := .letj intrinsic_Size_j94 <|
 .ite (cmp .leq (n 0) (at_ 0 (v 50) (v 51)))
 (.ite (cmp .lss (at_ 0 (v 50) (v 51)) (.un .len (v 40)))
  (.ite (.bin .or (.bin (.cell 0 (.bool)) (v 40) (at_ 0 (v 50) (v 51))) (cmp .lss (at_ 0 (v 50) (v 51)) (.un .len (v 42))))
   (.ite (.bin .or (.bin (.cell 0 (.bool)) (v 40) (at_ 0 (v 50) (v 51))) (cmp .eql (at_ 6 (v 42) (at_ 0 (v 50) (v 51))) (n 1125899906842624)))
    (.jump 0 [(n 1125899906842624)])
    (.jump 0 [(n 0)]))
   (.fail ""))
  (.fail ""))
 (.fail "")
def intrinsic_Size_s93 : T := intrinsic_Size_s93_b
@[reducible] def intrinsic_Size_l96_b : T := .ite (cmp .lss (v 58) (.un .len (v 57)))
 (.ite (cmp .leq (n 0) (v 58))
  (.ite (cmp .lss (v 58) (.un .len (v 50)))
   (.ite (cmp .leq (n 0) (at_ 0 (v 50) (v 58)))
    (.ite (cmp .lss (at_ 0 (v 50) (v 58)) (.un .len (v 59)))
     (.jump 20 [(add (v 58) (n 1)), (.tri .set (v 59) (at_ 0 (v 50) (v 58)) (.bin .cons (.bin (.max .i64) (at_ 0 (v 59) (at_ 0 (v 50) (v 58))) (at_ 0 (v 57) (v 58))) .nilc))])
     (.fail ""))
    (.fail ""))
   (.fail ""))
  (.fail ""))
 (.jump 15 [(v 59)])
def intrinsic_Size_l96 : T := intrinsic_Size_l96_b
@[reducible] def intrinsic_Size_l95_b : T := .ite (cmp .lss (v 55) (.un .len (v 54)))
 (.ite (cmp .leq (n 0) (v 55))
  (.ite (cmp .lss (v 55) (.un .len (v 56)))
   (.jump 19 [(add (v 55) (n 1)), (.tri .set (v 56) (v 55) (.bin .cons (.bin .or (.bin (.cell 0 (.bool)) (v 56) (v 55)) (.un .not (v 52))) .nilc))])
   (.fail ""))
  (.fail ""))
 (.call c_spread_Fill [(v 48), (v 53), (v 56)] 1 <|
  .loop [(n 0), (v 44)] intrinsic_Size_l96)
def intrinsic_Size_l95 : T := intrinsic_Size_l95_b
@[reducible] def intrinsic_Size_l92_b : T := .ite (cmp .lss (v 51) (.un .len (v 50)))
 (.ite (cmp .leq (n 0) (v 51))
  (.seq intrinsic_Size_s93 1 <|
   .ite (cmp .leq (n 0) (at_ 0 (v 50) (v 51)))
   (.ite (cmp .lss (at_ 0 (v 50) (v 51)) (.un .len (v 42)))
    (.call c_pintrinsic_sizer_limits_2 [(at_ 0 (v 42) (at_ 0 (v 50) (v 51))), (at_ 1 (v 42) (at_ 0 (v 50) (v 51))), (at_ 2 (v 42) (at_ 0 (v 50) (v 51))), (.bin (.cell 3 (.bool)) (v 42) (at_ 0 (v 50) (v 51))), (at_ 4 (v 42) (at_ 0 (v 50) (v 51))), (at_ 5 (v 42) (at_ 0 (v 50) (v 51))), (at_ 6 (v 42) (at_ 0 (v 50) (v 51)))] 1 <|
     .ite (cmp .lss (v 51) (.un .len (v 53)))
     (.ite (cmp .lss (v 51) (.un .len (v 54)))
      (.ite (.bin .or (v 52) (cmp .lss (v 51) (.un .len (.tri .set (v 54) (v 51) (.bin .cons (v 56) .nilc)))))
       (.jump 18 [(add (v 51) (n 1)), (.bin .or (v 52) (.bin (.cell 0 (.bool)) (.tri .set (v 54) (v 51) (.bin .cons (v 56) .nilc)) (v 51))), (.tri .set (v 53) (v 51) (.bin .cons (v 55) .nilc)), (.tri .set (v 54) (v 51) (.bin .cons (v 56) .nilc))])
       (.fail ""))
      (.fail ""))
     (.fail ""))
    (.fail ""))
   (.fail ""))
  (.fail ""))
 (.loop [(n 0), (v 54)] intrinsic_Size_l95)
def intrinsic_Size_l92 : T := intrinsic_Size_l92_b
@[reducible] def intrinsic_Size_l90_b : T := .ite (cmp .lss (v 49) (at_ 1 (.bin .rget (v 17) (at_ 0 (.un .sort (v 15)) (v 18))) (v 43)))
 (.letj intrinsic_Size_j91 <|
  .ite (cmp .leq (n 0) (v 49))
  (.ite (cmp .lss (v 49) (.un .len (v 42)))
   (.call c_intrinsic_content [(at_ 0 (v 42) (v 49)), (at_ 1 (v 42) (v 49)), (at_ 2 (v 42) (v 49)), (.bin (.cell 3 (.bool)) (v 42) (v 49)), (at_ 4 (v 42) (v 49)), (at_ 5 (v 42) (v 49)), (at_ 6 (v 42) (v 49))] 1 <|
    .ite (v 51)
    (.ite (cmp .leq (.bin .plus (.un .len (v 50)) (.un .len (.bin .snoc .nil (.bin .cons (v 49) .nilc)))) (n 4294967296))
     (.jump 18 [(.bin .snoc (v 50) (.bin .cons (v 49) .nilc))])
     (.fail ""))
    (.jump 18 [(v 50)]))
   (.fail ""))
  (.fail ""))
 (.ite (.bin .or (cmp .leq (v 48) (n 0)) (cmp .eql (.un .len (v 50)) (n 0)))
  (.jump 15 [(v 44)])
  (.ite (cmp .leq (.un .len (v 50)) (n 17592186044416))
   (.ite (cmp .leq (.un .len (v 50)) (n 140737488355328))
    (.loop [(n 0), (.bool false), (.bin .make (.bin .cons (n 0) .nilc) (.un .len (v 50))), (.bin .make (.bin .cons (.bool false) .nilc) (.un .len (v 50)))] intrinsic_Size_l92)
    (.fail ""))
   (.fail "")))
def intrinsic_Size_l90 : T := intrinsic_Size_l90_b
@[reducible] def intrinsic_Size_l89_b : T := .ite (cmp .lss (v 47) (.bin .minus (at_ 1 (.bin .rget (v 17) (at_ 0 (.un .sort (v 15)) (v 18))) (v 43)) (at_ 0 (.bin .rget (v 17) (at_ 0 (.un .sort (v 15)) (v 18))) (v 43))))
 (.ite (cmp .leq (n 0) (v 47))
  (.call c_pintrinsic_sizer_limits_1 [(at_ 0 (v 42) (.bin .plus (at_ 0 (.bin .rget (v 17) (at_ 0 (.un .sort (v 15)) (v 18))) (v 43)) (v 47))), (at_ 1 (v 42) (.bin .plus (at_ 0 (.bin .rget (v 17) (at_ 0 (.un .sort (v 15)) (v 18))) (v 43)) (v 47))), (at_ 2 (v 42) (.bin .plus (at_ 0 (.bin .rget (v 17) (at_ 0 (.un .sort (v 15)) (v 18))) (v 43)) (v 47))), (.bin (.cell 3 (.bool)) (v 42) (.bin .plus (at_ 0 (.bin .rget (v 17) (at_ 0 (.un .sort (v 15)) (v 18))) (v 43)) (v 47))), (at_ 4 (v 42) (.bin .plus (at_ 0 (.bin .rget (v 17) (at_ 0 (.un .sort (v 15)) (v 18))) (v 43)) (v 47))), (at_ 5 (v 42) (.bin .plus (at_ 0 (.bin .rget (v 17) (at_ 0 (.un .sort (v 15)) (v 18))) (v 43)) (v 47))), (at_ 6 (v 42) (.bin .plus (at_ 0 (.bin .rget (v 17) (at_ 0 (.un .sort (v 15)) (v 18))) (v 43)) (v 47)))] 1 <|
   .jump 16 [(add (v 47) (n 1)), (sub (v 48) (v 49))])
  (.fail ""))
 (.loop [(at_ 0 (.bin .rget (v 17) (at_ 0 (.un .sort (v 15)) (v 18))) (v 43)), .nil] intrinsic_Size_l90)
def intrinsic_Size_l89 : T := intrinsic_Size_l89_b
@[reducible] def intrinsic_Size_j99_b : T := .jump 16 [(add (v 47) (n 1)), (v 49)]
def intrinsic_Size_j99 : T := intrinsic_Size_j99_b
@[reducible] def intrinsic_Size_j101_b : T := .jump 17 [(add (v 49) (n 1)), (v 51)]
def intrinsic_Size_j101 : T := intrinsic_Size_j101_b
@[reducible] def intrinsic_Size_l100_b : T := .ite (cmp .lss (v 49) (.un .len (v 48)))
 (.letj intrinsic_Size_j101 <|
  .ite (cmp .leq (n 0) (v 49))
  (.ite (cmp .leq (n 0) (at_ 0 (v 48) (v 49)))
   (.ite (cmp .lss (at_ 0 (v 48) (v 49)) (.un .len (v 42)))
    (.ite (cmp .eql (at_ 6 (v 42) (at_ 0 (v 48) (v 49))) (n 1125899906842624))
     (.ite (cmp .lss (at_ 0 (v 48) (v 49)) (.un .len (v 50)))
      (.jump 18 [(.tri .set (v 50) (at_ 0 (v 48) (v 49)) (.bin .cons (.bool true) .nilc))])
      (.fail ""))
     (.jump 18 [(v 50)]))
    (.fail ""))
   (.fail ""))
  (.fail ""))
 (.jump 15 [(add (v 45) (n 1)), (v 50)])
def intrinsic_Size_l100 : T := intrinsic_Size_l100_b
@[reducible] def intrinsic_Size_l98_b : T := .ite (cmp .lss (v 47) (at_ 1 (.bin .rget (v 17) (at_ 0 (.un .sort (v 15)) (v 18))) (v 45)))
 (.letj intrinsic_Size_j99 <|
  .ite (cmp .leq (n 0) (v 47))
  (.ite (cmp .lss (v 47) (.un .len (v 42)))
   (.call c_intrinsic_content [(at_ 0 (v 42) (v 47)), (at_ 1 (v 42) (v 47)), (at_ 2 (v 42) (v 47)), (.bin (.cell 3 (.bool)) (v 42) (v 47)), (at_ 4 (v 42) (v 47)), (at_ 5 (v 42) (v 47)), (at_ 6 (v 42) (v 47))] 1 <|
    .ite (v 49)
    (.ite (cmp .leq (.bin .plus (.un .len (v 48)) (.un .len (.bin .snoc .nil (.bin .cons (v 47) .nilc)))) (n 4294967296))
     (.jump 17 [(.bin .snoc (v 48) (.bin .cons (v 47) .nilc))])
     (.fail ""))
    (.jump 17 [(v 48)]))
   (.fail ""))
  (.fail ""))
 (.loop [(n 0), (v 46)] intrinsic_Size_l100)
def intrinsic_Size_l98 : T := intrinsic_Size_l98_b
@[reducible] def intrinsic_Size_j103_b : T := .jump 16 [(add (v 47) (n 1)), (v 49)]
def intrinsic_Size_j103 : T := intrinsic_Size_j103_b
@[reducible] def intrinsic_Size_j105_b : T := .jump 17 [(add (v 49) (n 1)), (v 51)]
def intrinsic_Size_j105 : T := intrinsic_Size_j105_b
@[reducible] def intrinsic_Size_l104_b : T := .ite (cmp .lss (v 49) (.un .len (v 48)))
 (.letj intrinsic_Size_j105 <|
  .ite (cmp .leq (n 0) (v 49))
  (.ite (cmp .lss (v 49) (.un .len (v 50)))
   (.ite (.bin (.cell 3 (.bool)) (v 50) (v 49))
    (.call c_intrinsic_limit [(at_ 0 (v 50) (v 49)), (at_ 1 (v 50) (v 49)), (at_ 2 (v 50) (v 49)), (.bin (.cell 3 (.bool)) (v 50) (v 49)), (at_ 4 (v 50) (v 49)), (at_ 5 (v 50) (v 49)), (at_ 6 (v 50) (v 49))] 1 <|
     .jump 18 [(.tri (.put 6) (v 50) (v 49) (.bin (.min .i64) (at_ 6 (v 50) (v 49)) (v 51)))])
    (.jump 18 [(v 50)]))
   (.fail ""))
  (.fail ""))
 (.jump 3 [(add (v 18) (n 1)), (v 50)])
def intrinsic_Size_l104 : T := intrinsic_Size_l104_b
@[reducible] def intrinsic_Size_l102_b : T := .ite (cmp .lss (v 47) (.un .len (v 44)))
 (.letj intrinsic_Size_j103 <|
  .ite (cmp .leq (n 0) (v 47))
  (.ite (cmp .lss (v 47) (.un .len (v 46)))
   (.ite (.bin .or (.bin (.cell 0 (.bool)) (v 46) (v 47)) (cmp .lss (v 47) (.un .len (v 48))))
    (.ite (.bin .or (.bin (.cell 0 (.bool)) (v 46) (v 47)) (cmp .lss (at_ 6 (v 48) (v 47)) (n 1125899906842624)))
     (.ite (cmp .lss (v 47) (.un .len (v 48)))
      (.call c_pintrinsic_sizer_limits_1 [(at_ 0 (v 48) (v 47)), (at_ 1 (v 48) (v 47)), (at_ 2 (v 48) (v 47)), (.bin (.cell 3 (.bool)) (v 48) (v 47)), (at_ 4 (v 48) (v 47)), (at_ 5 (v 48) (v 47)), (at_ 6 (v 48) (v 47))] 1 <|
       .jump 17 [(.tri (.put 6) (v 48) (v 47) (add (v 49) (at_ 0 (v 44) (v 47))))])
      (.fail ""))
     (.jump 17 [(v 48)]))
    (.fail ""))
   (.fail ""))
  (.fail ""))
 (.loop [(n 0), (v 48)] intrinsic_Size_l104)
def intrinsic_Size_l102 : T := intrinsic_Size_l102_b
@[reducible] def intrinsic_Size_l97_b : T := .ite (cmp .lss (v 45) (.un .len (.bin .rget (v 17) (at_ 0 (.un .sort (v 15)) (v 18)))))
 (.ite (cmp .leq (n 0) (v 45))
  (.loop [(at_ 0 (.bin .rget (v 17) (at_ 0 (.un .sort (v 15)) (v 18))) (v 45)), .nil] intrinsic_Size_l98)
  (.fail ""))
 (.loop [(n 0), (v 42)] intrinsic_Size_l102)
def intrinsic_Size_l97 : T := intrinsic_Size_l97_b
@[reducible] def intrinsic_Size_l85_b : T := .ite (cmp .lss (v 43) (.un .len (.bin .rget (v 17) (at_ 0 (.un .sort (v 15)) (v 18)))))
 (.letj intrinsic_Size_j86 <|
  .ite (cmp .leq (n 0) (v 43))
  (.call c_pintrinsic_sizer_several_2 [(at_ 0 (.bin .rget (v 17) (at_ 0 (.un .sort (v 15)) (v 18))) (v 43)), (at_ 1 (.bin .rget (v 17) (at_ 0 (.un .sort (v 15)) (v 18))) (v 43)), (at_ 2 (.bin .rget (v 17) (at_ 0 (.un .sort (v 15)) (v 18))) (v 43)), (at_ 3 (.bin .rget (v 17) (at_ 0 (.un .sort (v 15)) (v 18))) (v 43)), (at_ 4 (.bin .rget (v 17) (at_ 0 (.un .sort (v 15)) (v 18))) (v 43))] 1 <|
   .seq intrinsic_Size_s87 1 <|
   .ite (cmp .leq (n 0) (at_ 0 (.bin .rget (v 17) (at_ 0 (.un .sort (v 15)) (v 18))) (v 43)))
   (.ite (cmp .leq (at_ 0 (.bin .rget (v 17) (at_ 0 (.un .sort (v 15)) (v 18))) (v 43)) (at_ 1 (.bin .rget (v 17) (at_ 0 (.un .sort (v 15)) (v 18))) (v 43)))
    (.ite (cmp .leq (at_ 1 (.bin .rget (v 17) (at_ 0 (.un .sort (v 15)) (v 18))) (v 43)) (.un .len (v 42)))
     (.loop [(n 0), (sub (v 45) (v 46))] intrinsic_Size_l89)
     (.fail ""))
    (.fail ""))
   (.fail ""))
  (.fail ""))
 (.ite (cmp .leq (.un .len (v 42)) (n 140737488355328))
  (.loop [(n 0), (.bin .make (.bin .cons (.bool false) .nilc) (.un .len (v 42)))] intrinsic_Size_l97)
  (.fail ""))
def intrinsic_Size_l85 : T := intrinsic_Size_l85_b
@[reducible] def intrinsic_Size_l83_b : T := .ite (cmp .lss (v 41) (.un .len (v 38)))
 (.letj intrinsic_Size_j84 <|
  .ite (cmp .leq (n 0) (v 41))
  (.ite (cmp .lss (v 41) (.un .len (v 40)))
   (.ite (.bin .or (.bin (.cell 0 (.bool)) (v 40) (v 41)) (cmp .lss (v 41) (.un .len (v 42))))
    (.ite (.bin .or (.bin (.cell 0 (.bool)) (v 40) (v 41)) (cmp .lss (at_ 6 (v 42) (v 41)) (n 1125899906842624)))
     (.ite (cmp .lss (v 41) (.un .len (v 42)))
      (.call c_pintrinsic_sizer_limits_1 [(at_ 0 (v 42) (v 41)), (at_ 1 (v 42) (v 41)), (at_ 2 (v 42) (v 41)), (.bin (.cell 3 (.bool)) (v 42) (v 41)), (at_ 4 (v 42) (v 41)), (at_ 5 (v 42) (v 41)), (at_ 6 (v 42) (v 41))] 1 <|
       .jump 14 [(.tri (.put 6) (v 42) (v 41) (add (v 43) (at_ 0 (v 38) (v 41))))])
      (.fail ""))
     (.jump 14 [(v 42)]))
    (.fail ""))
   (.fail ""))
  (.fail ""))
 (.ite (cmp .leq (.un .len (v 42)) (n 17592186044416))
  (.loop [(n 0), (.bin .make (.bin .cons (n 0) .nilc) (.un .len (v 42)))] intrinsic_Size_l85)
  (.fail ""))
def intrinsic_Size_l83 : T := intrinsic_Size_l83_b
@[reducible] def intrinsic_Size_l78_b : T := .ite (cmp .lss (v 39) (.un .len (.bin .rget (v 17) (at_ 0 (.un .sort (v 15)) (v 18)))))
 (.ite (cmp .leq (n 0) (v 39))
  (.loop [(at_ 0 (.bin .rget (v 17) (at_ 0 (.un .sort (v 15)) (v 18))) (v 39)), .nil] intrinsic_Size_l79)
  (.fail ""))
 (.loop [(n 0), (v 36)] intrinsic_Size_l83)
def intrinsic_Size_l78 : T := intrinsic_Size_l78_b
@[reducible] def intrinsic_Size_l66_b : T := .ite (cmp .lss (v 37) (.un .len (.bin .rget (v 17) (at_ 0 (.un .sort (v 15)) (v 18)))))
 (.letj intrinsic_Size_j67 <|
  .ite (cmp .leq (n 0) (v 37))
  (.call c_pintrinsic_sizer_several_1 [(at_ 0 (.bin .rget (v 17) (at_ 0 (.un .sort (v 15)) (v 18))) (v 37)), (at_ 1 (.bin .rget (v 17) (at_ 0 (.un .sort (v 15)) (v 18))) (v 37)), (at_ 2 (.bin .rget (v 17) (at_ 0 (.un .sort (v 15)) (v 18))) (v 37)), (at_ 3 (.bin .rget (v 17) (at_ 0 (.un .sort (v 15)) (v 18))) (v 37)), (at_ 4 (.bin .rget (v 17) (at_ 0 (.un .sort (v 15)) (v 18))) (v 37))] 1 <|
   .seq intrinsic_Size_s68 1 <|
   .ite (cmp .leq (n 0) (at_ 0 (.bin .rget (v 17) (at_ 0 (.un .sort (v 15)) (v 18))) (v 37)))
   (.ite (cmp .leq (at_ 0 (.bin .rget (v 17) (at_ 0 (.un .sort (v 15)) (v 18))) (v 37)) (at_ 1 (.bin .rget (v 17) (at_ 0 (.un .sort (v 15)) (v 18))) (v 37)))
    (.ite (cmp .leq (at_ 1 (.bin .rget (v 17) (at_ 0 (.un .sort (v 15)) (v 18))) (v 37)) (.un .len (v 36)))
     (.loop [(n 0), (sub (v 39) (v 40))] intrinsic_Size_l70)
     (.fail ""))
    (.fail ""))
   (.fail ""))
  (.fail ""))
 (.loop [(n 0), (.bin .make (.bin .cons (.bool false) .nilc) (.un .len (v 36)))] intrinsic_Size_l78)
def intrinsic_Size_l66 : T := intrinsic_Size_l66_b
@[reducible] def intrinsic_Size_l65_b : T := .ite (cmp .lss (v 35) (.un .len (v 34)))
 (.ite (cmp .leq (n 0) (v 35))
  (.ite (cmp .lss (v 35) (.un .len (v 36)))
   (.call c_base_Raise [(at_ 0 (v 36) (v 35)), (at_ 1 (v 36) (v 35)), (at_ 2 (v 36) (v 35)), (.bin (.cell 3 (.bool)) (v 36) (v 35)), (at_ 4 (v 36) (v 35)), (at_ 5 (v 36) (v 35)), (at_ 6 (v 36) (v 35))] 7 <|
    .jump 10 [(add (v 35) (n 1)), (.tri .set (v 36) (v 35) (.bin .cons (v 37) (.bin .cons (v 38) (.bin .cons (v 39) (.bin .cons (v 40) (.bin .cons (v 41) (.bin .cons (v 42) (.bin .cons (v 43) .nilc))))))))])
   (.fail ""))
  (.fail ""))
 (.ite (cmp .leq (.un .len (v 36)) (n 140737488355328))
  (.ite (cmp .leq (.un .len (v 36)) (n 17592186044416))
   (.loop [(n 0), (.bin .make (.bin .cons (n 0) .nilc) (.un .len (v 36)))] intrinsic_Size_l66)
   (.fail ""))
  (.fail ""))
def intrinsic_Size_l65 : T := intrinsic_Size_l65_b
@[reducible] def intrinsic_Size_l64_b : T := .ite (cmp .lss (v 33) (.un .len (v 32)))
 (.ite (cmp .leq (n 0) (v 33))
  (.ite (cmp .lss (v 33) (.un .len (v 34)))
   (.jump 9 [(add (v 33) (n 1)), (.tri (.put 5) (v 34) (v 33) (add (at_ 5 (v 34) (v 33)) (at_ 0 (v 32) (v 33))))])
   (.fail ""))
  (.fail ""))
 (.loop [(n 0), (v 34)] intrinsic_Size_l65)
def intrinsic_Size_l64 : T := intrinsic_Size_l64_b
@[reducible] def intrinsic_Size_l48_b : T := .ite (cmp .lss (v 31) (.un .len (.bin .rget (v 17) (at_ 0 (.un .sort (v 15)) (v 18)))))
 (.letj intrinsic_Size_j49 <|
  .ite (cmp .leq (n 0) (v 31))
  (.seq intrinsic_Size_s50 1 <|
   .seq intrinsic_Size_s54 1 <|
   .ite (cmp .leq (n 0) (at_ 0 (.bin .rget (v 17) (at_ 0 (.un .sort (v 15)) (v 18))) (v 31)))
   (.ite (cmp .leq (at_ 0 (.bin .rget (v 17) (at_ 0 (.un .sort (v 15)) (v 18))) (v 31)) (at_ 1 (.bin .rget (v 17) (at_ 0 (.un .sort (v 15)) (v 18))) (v 31)))
    (.ite (cmp .leq (at_ 1 (.bin .rget (v 17) (at_ 0 (.un .sort (v 15)) (v 18))) (v 31)) (.un .len (v 30)))
     (.loop [(n 0), (sub (v 33) (v 34))] intrinsic_Size_l56)
     (.fail ""))
    (.fail ""))
   (.fail ""))
  (.fail ""))
 (.loop [(n 0), (v 30)] intrinsic_Size_l64)
def intrinsic_Size_l48 : T := intrinsic_Size_l48_b
@[reducible] def intrinsic_Size_l47_b : T := .ite (cmp .lss (v 29) (.un .len (v 28)))
 (.ite (cmp .leq (n 0) (v 29))
  (.ite (cmp .lss (v 29) (.un .len (v 30)))
   (.jump 7 [(add (v 29) (n 1)), (.tri (.put 5) (v 30) (v 29) (add (at_ 5 (v 30) (v 29)) (at_ 0 (v 28) (v 29))))])
   (.fail ""))
  (.fail ""))
 (.ite (cmp .leq (.un .len (v 30)) (n 17592186044416))
  (.loop [(n 0), (.bin .make (.bin .cons (n 0) .nilc) (.un .len (v 30)))] intrinsic_Size_l48)
  (.fail ""))
def intrinsic_Size_l47 : T := intrinsic_Size_l47_b
@[reducible] def intrinsic_Size_l36_b : T := .ite (cmp .lss (v 27) (.un .len (.bin .rget (v 17) (at_ 0 (.un .sort (v 15)) (v 18)))))
 (.letj intrinsic_Size_j37 <|
  .ite (cmp .leq (n 0) (v 27))
  (.call c_pintrinsic_sizer_rounds_9 [(at_ 0 (.bin .rget (v 17) (at_ 0 (.un .sort (v 15)) (v 18))) (v 27)), (at_ 1 (.bin .rget (v 17) (at_ 0 (.un .sort (v 15)) (v 18))) (v 27)), (at_ 2 (.bin .rget (v 17) (at_ 0 (.un .sort (v 15)) (v 18))) (v 27)), (at_ 3 (.bin .rget (v 17) (at_ 0 (.un .sort (v 15)) (v 18))) (v 27)), (at_ 4 (.bin .rget (v 17) (at_ 0 (.un .sort (v 15)) (v 18))) (v 27))] 1 <|
   .seq intrinsic_Size_s38 1 <|
   .ite (cmp .leq (n 0) (at_ 0 (.bin .rget (v 17) (at_ 0 (.un .sort (v 15)) (v 18))) (v 27)))
   (.ite (cmp .leq (at_ 0 (.bin .rget (v 17) (at_ 0 (.un .sort (v 15)) (v 18))) (v 27)) (at_ 1 (.bin .rget (v 17) (at_ 0 (.un .sort (v 15)) (v 18))) (v 27)))
    (.ite (cmp .leq (at_ 1 (.bin .rget (v 17) (at_ 0 (.un .sort (v 15)) (v 18))) (v 27)) (.un .len (v 26)))
     (.loop [(n 0), (sub (v 29) (v 30))] intrinsic_Size_l40)
     (.fail ""))
    (.fail ""))
   (.fail ""))
  (.fail ""))
 (.loop [(n 0), (v 26)] intrinsic_Size_l47)
def intrinsic_Size_l36 : T := intrinsic_Size_l36_b
@[reducible] def intrinsic_Size_l35_b : T := .ite (cmp .lss (v 25) (.un .len (v 24)))
 (.ite (cmp .leq (n 0) (v 25))
  (.ite (cmp .lss (v 25) (.un .len (v 26)))
   (.jump 5 [(add (v 25) (n 1)), (.tri (.put 5) (v 26) (v 25) (add (at_ 5 (v 26) (v 25)) (at_ 0 (v 24) (v 25))))])
   (.fail ""))
  (.fail ""))
 (.ite (cmp .leq (.un .len (v 26)) (n 17592186044416))
  (.loop [(n 0), (.bin .make (.bin .cons (n 0) .nilc) (.un .len (v 26)))] intrinsic_Size_l36)
  (.fail ""))
def intrinsic_Size_l35 : T := intrinsic_Size_l35_b
@[reducible] def intrinsic_Size_l20_b : T := .ite (cmp .lss (v 23) (.un .len (.bin .rget (v 17) (at_ 0 (.un .sort (v 15)) (v 18)))))
 (.letj intrinsic_Size_j21 <|
  .ite (cmp .leq (n 0) (v 23))
  (.seq intrinsic_Size_s22 1 <|
   .seq intrinsic_Size_s26 1 <|
   .ite (cmp .leq (n 0) (at_ 0 (.bin .rget (v 17) (at_ 0 (.un .sort (v 15)) (v 18))) (v 23)))
   (.ite (cmp .leq (at_ 0 (.bin .rget (v 17) (at_ 0 (.un .sort (v 15)) (v 18))) (v 23)) (at_ 1 (.bin .rget (v 17) (at_ 0 (.un .sort (v 15)) (v 18))) (v 23)))
    (.ite (cmp .leq (at_ 1 (.bin .rget (v 17) (at_ 0 (.un .sort (v 15)) (v 18))) (v 23)) (.un .len (v 19)))
     (.loop [(n 0), (sub (v 25) (v 26))] intrinsic_Size_l28)
     (.fail ""))
    (.fail ""))
   (.fail ""))
  (.fail ""))
 (.loop [(n 0), (v 19)] intrinsic_Size_l35)
def intrinsic_Size_l20 : T := intrinsic_Size_l20_b
@[reducible] def intrinsic_Size_j19_b : T := .ite (cmp .leq (.un .len (v 19)) (n 17592186044416))
 (.loop [(n 0), (.bin .make (.bin .cons (n 0) .nilc) (.un .len (v 19)))] intrinsic_Size_l20)
 (.fail "")
def intrinsic_Size_j19 : T := intrinsic_Size_j19_b
@[reducible] def intrinsic_Size_j18_b : T := .letj intrinsic_Size_j19 <|
 .ite (cmp .eql (v 3) (n 2))
 (.jump 4 [(.bool true), (.bool true)])
 (.jump 4 [(.bool false), (.bool false)])
def intrinsic_Size_j18 : T := intrinsic_Size_j18_b
@[reducible] def intrinsic_Size_j109_b : T := .jump 4 [(add (v 23) (n 1)), (v 25)]
def intrinsic_Size_j109 : T := intrinsic_Size_j109_b
@[reducible] def intrinsic_Size_j111_b : T := .ret [(v 25)]
def intrinsic_Size_j111 : T := intrinsic_Size_j111_b
@[reducible] def intrinsic_Size_l113_b : T := .ite (cmp .lss (v 27) (.un .len (.tri .slice (v 19) (at_ 0 (v 16) (v 23)) (.bin .minus (at_ 1 (v 16) (v 23)) (at_ 0 (v 16) (v 23))))))
 (.ite (cmp .leq (n 0) (v 27))
  (.call c_intrinsic_loose [(at_ 0 (.tri .slice (v 19) (at_ 0 (v 16) (v 23)) (.bin .minus (at_ 1 (v 16) (v 23)) (at_ 0 (v 16) (v 23)))) (v 27)), (at_ 1 (.tri .slice (v 19) (at_ 0 (v 16) (v 23)) (.bin .minus (at_ 1 (v 16) (v 23)) (at_ 0 (v 16) (v 23)))) (v 27)), (at_ 2 (.tri .slice (v 19) (at_ 0 (v 16) (v 23)) (.bin .minus (at_ 1 (v 16) (v 23)) (at_ 0 (v 16) (v 23)))) (v 27)), (.bin (.cell 3 (.bool)) (.tri .slice (v 19) (at_ 0 (v 16) (v 23)) (.bin .minus (at_ 1 (v 16) (v 23)) (at_ 0 (v 16) (v 23)))) (v 27)), (at_ 4 (.tri .slice (v 19) (at_ 0 (v 16) (v 23)) (.bin .minus (at_ 1 (v 16) (v 23)) (at_ 0 (v 16) (v 23)))) (v 27)), (at_ 5 (.tri .slice (v 19) (at_ 0 (v 16) (v 23)) (.bin .minus (at_ 1 (v 16) (v 23)) (at_ 0 (v 16) (v 23)))) (v 27)), (at_ 6 (.tri .slice (v 19) (at_ 0 (v 16) (v 23)) (.bin .minus (at_ 1 (v 16) (v 23)) (at_ 0 (v 16) (v 23)))) (v 27))] 1 <|
   .ite (.bin .and (v 29) (.un .not (.bin (.cell 3 (.bool)) (.tri .slice (v 19) (at_ 0 (v 16) (v 23)) (.bin .minus (at_ 1 (v 16) (v 23)) (at_ 0 (v 16) (v 23)))) (v 27))))
   (.jump 0 [(.bin (.max .i64) (at_ 3 (v 16) (v 23)) (at_ 2 (v 16) (v 23)))])
   (.call c_intrinsic_limit [(at_ 0 (.tri .slice (v 19) (at_ 0 (v 16) (v 23)) (.bin .minus (at_ 1 (v 16) (v 23)) (at_ 0 (v 16) (v 23)))) (v 27)), (at_ 1 (.tri .slice (v 19) (at_ 0 (v 16) (v 23)) (.bin .minus (at_ 1 (v 16) (v 23)) (at_ 0 (v 16) (v 23)))) (v 27)), (at_ 2 (.tri .slice (v 19) (at_ 0 (v 16) (v 23)) (.bin .minus (at_ 1 (v 16) (v 23)) (at_ 0 (v 16) (v 23)))) (v 27)), (.bin (.cell 3 (.bool)) (.tri .slice (v 19) (at_ 0 (v 16) (v 23)) (.bin .minus (at_ 1 (v 16) (v 23)) (at_ 0 (v 16) (v 23)))) (v 27)), (at_ 4 (.tri .slice (v 19) (at_ 0 (v 16) (v 23)) (.bin .minus (at_ 1 (v 16) (v 23)) (at_ 0 (v 16) (v 23)))) (v 27)), (at_ 5 (.tri .slice (v 19) (at_ 0 (v 16) (v 23)) (.bin .minus (at_ 1 (v 16) (v 23)) (at_ 0 (v 16) (v 23)))) (v 27)), (at_ 6 (.tri .slice (v 19) (at_ 0 (v 16) (v 23)) (.bin .minus (at_ 1 (v 16) (v 23)) (at_ 0 (v 16) (v 23)))) (v 27))] 1 <|
    .jump 2 [(add (v 27) (n 1)), (add (v 28) (v 30))]))
  (.fail ""))
 (.jump 0 [(.bin (.max .i64) (.bin (.min .i64) (at_ 3 (v 16) (v 23)) (v 28)) (at_ 2 (v 16) (v 23)))])
def intrinsic_Size_l113 : T := intrinsic_Size_l113_b
@[reducible] def intrinsic_Size_l112_b : T := .ite (cmp .lss (v 25) (.un .len (.tri .slice (v 1) (add (at_ 0 (v 16) (v 23)) (n 1)) (.bin .minus (at_ 1 (v 16) (v 23)) (add (at_ 0 (v 16) (v 23)) (n 1))))))
 (.ite (cmp .leq (n 0) (v 25))
  (.jump 1 [(add (v 25) (n 1)), (add (v 26) (at_ 0 (.tri .slice (v 1) (add (at_ 0 (v 16) (v 23)) (n 1)) (.bin .minus (at_ 1 (v 16) (v 23)) (add (at_ 0 (v 16) (v 23)) (n 1)))) (v 25)))])
  (.fail ""))
 (.ite (cmp .leq (n 0) (at_ 0 (v 16) (v 23)))
  (.ite (cmp .leq (at_ 0 (v 16) (v 23)) (at_ 1 (v 16) (v 23)))
   (.ite (cmp .leq (at_ 1 (v 16) (v 23)) (.un .len (v 19)))
    (.loop [(n 0), (v 26)] intrinsic_Size_l113)
    (.fail ""))
   (.fail ""))
  (.fail ""))
def intrinsic_Size_l112 : T := intrinsic_Size_l112_b
@[reducible] def intrinsic_Size_s110_b : T := .ite (v 20)
 (.letj intrinsic_Size_j111 <|
  .ite (cmp .leq (n 0) (add (at_ 0 (v 16) (v 23)) (n 1)))
  (.ite (cmp .leq (add (at_ 0 (v 16) (v 23)) (n 1)) (at_ 1 (v 16) (v 23)))
   (.ite (cmp .leq (at_ 1 (v 16) (v 23)) (.un .len (v 1)))
    (.loop [(n 0), (n 0)] intrinsic_Size_l112)
    (.fail ""))
   (.fail ""))
  (.fail ""))
 (.call c_pintrinsic_sizer_rounds_1 [(at_ 0 (v 16) (v 23)), (at_ 1 (v 16) (v 23)), (at_ 2 (v 16) (v 23)), (at_ 3 (v 16) (v 23)), (at_ 4 (v 16) (v 23))] 1 <|
  .ret [(v 25)])
def intrinsic_Size_s110 : T := intrinsic_Size_s110_b
@[reducible] def intrinsic_Size_l115_b : T := .ite (cmp .lss (v 26) (.un .len (.tri .slice (v 1) (add (at_ 0 (v 16) (v 23)) (n 1)) (.bin .minus (at_ 1 (v 16) (v 23)) (add (at_ 0 (v 16) (v 23)) (n 1))))))
 (.ite (cmp .leq (n 0) (v 26))
  (.jump 0 [(add (v 26) (n 1)), (add (v 27) (at_ 0 (.tri .slice (v 1) (add (at_ 0 (v 16) (v 23)) (n 1)) (.bin .minus (at_ 1 (v 16) (v 23)) (add (at_ 0 (v 16) (v 23)) (n 1)))) (v 26)))])
  (.fail ""))
 (.ret [(v 27)])
def intrinsic_Size_l115 : T := intrinsic_Size_l115_b
@[reducible] def intrinsic_Size_s114_b : T := .ite (cmp .leq (n 0) (add (at_ 0 (v 16) (v 23)) (n 1)))
 (.ite (cmp .leq (add (at_ 0 (v 16) (v 23)) (n 1)) (at_ 1 (v 16) (v 23)))
  (.ite (cmp .leq (at_ 1 (v 16) (v 23)) (.un .len (v 1)))
   (.loop [(n 0), (n 0)] intrinsic_Size_l115)
   (.fail ""))
  (.fail ""))
 (.fail "")
def intrinsic_Size_s114 : T := intrinsic_Size_s114_b
@[reducible] def intrinsic_Size_j118_b : T := .jump 7 [(add (v 29) (n 1)), (v 31)]
def intrinsic_Size_j118 : T := intrinsic_Size_j118_b
@[reducible] def intrinsic_Size_l120_b : T := .ite (cmp .lss (v 34) (.un .len (v 33)))
 (.ite (cmp .leq (n 0) (v 34))
  (.ite (cmp .lss (v 34) (.un .len (v 30)))
   (.ite (cmp .leq (n 0) (at_ 0 (v 30) (v 34)))
    (.ite (cmp .lss (at_ 0 (v 30) (v 34)) (.un .len (v 35)))
     (.jump 9 [(add (v 34) (n 1)), (.tri .set (v 35) (at_ 0 (v 30) (v 34)) (.bin .cons (.bin (.max .i64) (at_ 0 (v 35) (at_ 0 (v 30) (v 34))) (at_ 0 (v 33) (v 34))) .nilc))])
     (.fail ""))
    (.fail ""))
   (.fail ""))
  (.fail ""))
 (.jump 5 [(v 35)])
def intrinsic_Size_l120 : T := intrinsic_Size_l120_b
@[reducible] def intrinsic_Size_l119_b : T := .ite (cmp .lss (v 31) (.un .len (v 30)))
 (.ite (cmp .leq (n 0) (v 31))
  (.ite (cmp .leq (n 0) (at_ 0 (v 30) (v 31)))
   (.ite (cmp .lss (at_ 0 (v 30) (v 31)) (.un .len (v 19)))
    (.ite (cmp .lss (v 31) (.un .len (v 32)))
     (.jump 8 [(add (v 31) (n 1)), (.tri .set (v 32) (v 31) (.bin .cons (at_ 2 (v 19) (at_ 0 (v 30) (v 31))) .nilc))])
     (.fail ""))
    (.fail ""))
   (.fail ""))
  (.fail ""))
 (.call c_spread_By [(v 28), (v 32)] 1 <|
  .loop [(n 0), (v 24)] intrinsic_Size_l120)
def intrinsic_Size_l119 : T := intrinsic_Size_l119_b
@[reducible] def intrinsic_Size_l117_b : T := .ite (cmp .lss (v 29) (at_ 1 (v 16) (v 23)))
 (.letj intrinsic_Size_j118 <|
  .ite (cmp .leq (n 0) (v 29))
  (.ite (cmp .lss (v 29) (.un .len (v 19)))
   (.call c_pintrinsic_sizer_rounds_7 [(at_ 0 (v 19) (v 29)), (at_ 1 (v 19) (v 29)), (at_ 2 (v 19) (v 29)), (.bin (.cell 3 (.bool)) (v 19) (v 29)), (at_ 4 (v 19) (v 29)), (at_ 5 (v 19) (v 29)), (at_ 6 (v 19) (v 29))] 1 <|
    .ite (.bin .and (v 31) (cmp .eql (at_ 1 (v 19) (v 29)) (n 5)))
    (.ite (cmp .leq (.bin .plus (.un .len (v 30)) (.un .len (.bin .snoc .nil (.bin .cons (v 29) .nilc)))) (n 4294967296))
     (.jump 8 [(.bin .snoc (v 30) (.bin .cons (v 29) .nilc))])
     (.fail ""))
    (.jump 8 [(v 30)]))
   (.fail ""))
  (.fail ""))
 (.ite (.bin .or (cmp .leq (v 28) (n 0)) (cmp .eql (.un .len (v 30)) (n 0)))
  (.jump 5 [(v 24)])
  (.ite (cmp .leq (.un .len (v 30)) (n 17592186044416))
   (.loop [(n 0), (.bin .make (.bin .cons (n 0) .nilc) (.un .len (v 30)))] intrinsic_Size_l119)
   (.fail "")))
def intrinsic_Size_l117 : T := intrinsic_Size_l117_b
@[reducible] def intrinsic_Size_l116_b : T := .ite (cmp .lss (v 27) (.bin .minus (at_ 1 (v 16) (v 23)) (at_ 0 (v 16) (v 23))))
 (.ite (cmp .leq (n 0) (v 27))
  (.call c_pintrinsic_sizer_bases_2 [(at_ 0 (v 19) (.bin .plus (at_ 0 (v 16) (v 23)) (v 27))), (at_ 1 (v 19) (.bin .plus (at_ 0 (v 16) (v 23)) (v 27))), (at_ 2 (v 19) (.bin .plus (at_ 0 (v 16) (v 23)) (v 27))), (.bin (.cell 3 (.bool)) (v 19) (.bin .plus (at_ 0 (v 16) (v 23)) (v 27))), (at_ 4 (v 19) (.bin .plus (at_ 0 (v 16) (v 23)) (v 27))), (at_ 5 (v 19) (.bin .plus (at_ 0 (v 16) (v 23)) (v 27))), (at_ 6 (v 19) (.bin .plus (at_ 0 (v 16) (v 23)) (v 27)))] 1 <|
   .jump 6 [(add (v 27) (n 1)), (sub (v 28) (v 29))])
  (.fail ""))
 (.loop [(at_ 0 (v 16) (v 23)), .nil] intrinsic_Size_l117)
def intrinsic_Size_l116 : T := intrinsic_Size_l116_b
@[reducible] def intrinsic_Size_j123_b : T := .jump 6 [(add (v 27) (n 1)), (v 29)]
def intrinsic_Size_j123 : T := intrinsic_Size_j123_b
@[reducible] def intrinsic_Size_l125_b : T := .ite (cmp .lss (v 30) (.un .len (.tri .slice (v 1) (add (at_ 0 (v 16) (v 27)) (n 1)) (.bin .minus (at_ 1 (v 16) (v 27)) (add (at_ 0 (v 16) (v 27)) (n 1))))))
 (.ite (cmp .leq (n 0) (v 30))
  (.jump 0 [(add (v 30) (n 1)), (add (v 31) (at_ 0 (.tri .slice (v 1) (add (at_ 0 (v 16) (v 27)) (n 1)) (.bin .minus (at_ 1 (v 16) (v 27)) (add (at_ 0 (v 16) (v 27)) (n 1)))) (v 30)))])
  (.fail ""))
 (.ret [(v 31)])
def intrinsic_Size_l125 : T := intrinsic_Size_l125_b
@[reducible] def intrinsic_Size_s124_b : T := .ite (cmp .leq (n 0) (add (at_ 0 (v 16) (v 27)) (n 1)))
 (.ite (cmp .leq (add (at_ 0 (v 16) (v 27)) (n 1)) (at_ 1 (v 16) (v 27)))
  (.ite (cmp .leq (at_ 1 (v 16) (v 27)) (.un .len (v 1)))
   (.loop [(n 0), (n 0)] intrinsic_Size_l125)
   (.fail ""))
  (.fail ""))
 (.fail "")
def intrinsic_Size_s124 : T := intrinsic_Size_s124_b
@[reducible] def intrinsic_Size_j128_b : T := .jump 9 [(add (v 33) (n 1)), (v 35)]
def intrinsic_Size_j128 : T := intrinsic_Size_j128_b
@[reducible] def intrinsic_Size_l130_b : T := .ite (cmp .lss (v 38) (.un .len (v 37)))
 (.ite (cmp .leq (n 0) (v 38))
  (.ite (cmp .lss (v 38) (.un .len (v 34)))
   (.ite (cmp .leq (n 0) (at_ 0 (v 34) (v 38)))
    (.ite (cmp .lss (at_ 0 (v 34) (v 38)) (.un .len (v 39)))
     (.jump 11 [(add (v 38) (n 1)), (.tri .set (v 39) (at_ 0 (v 34) (v 38)) (.bin .cons (.bin (.max .i64) (at_ 0 (v 39) (at_ 0 (v 34) (v 38))) (at_ 0 (v 37) (v 38))) .nilc))])
     (.fail ""))
    (.fail ""))
   (.fail ""))
  (.fail ""))
 (.jump 7 [(v 39)])
def intrinsic_Size_l130 : T := intrinsic_Size_l130_b
@[reducible] def intrinsic_Size_l129_b : T := .ite (cmp .lss (v 35) (.un .len (v 34)))
 (.ite (cmp .leq (n 0) (v 35))
  (.ite (cmp .leq (n 0) (at_ 0 (v 34) (v 35)))
   (.ite (cmp .lss (at_ 0 (v 34) (v 35)) (.un .len (v 26)))
    (.ite (cmp .lss (v 35) (.un .len (v 36)))
     (.jump 10 [(add (v 35) (n 1)), (.tri .set (v 36) (v 35) (.bin .cons (at_ 2 (v 26) (at_ 0 (v 34) (v 35))) .nilc))])
     (.fail ""))
    (.fail ""))
   (.fail ""))
  (.fail ""))
 (.call c_spread_By [(v 32), (v 36)] 1 <|
  .loop [(n 0), (v 28)] intrinsic_Size_l130)
def intrinsic_Size_l129 : T := intrinsic_Size_l129_b
@[reducible] def intrinsic_Size_l127_b : T := .ite (cmp .lss (v 33) (at_ 1 (v 16) (v 27)))
 (.letj intrinsic_Size_j128 <|
  .ite (cmp .leq (n 0) (v 33))
  (.ite (cmp .lss (v 33) (.un .len (v 26)))
   (.call c_pintrinsic_sizer_rounds_8 [(at_ 0 (v 26) (v 33)), (at_ 1 (v 26) (v 33)), (at_ 2 (v 26) (v 33)), (.bin (.cell 3 (.bool)) (v 26) (v 33)), (at_ 4 (v 26) (v 33)), (at_ 5 (v 26) (v 33)), (at_ 6 (v 26) (v 33))] 1 <|
    .ite (.bin .and (v 35) (cmp .eql (at_ 1 (v 26) (v 33)) (n 5)))
    (.ite (cmp .leq (.bin .plus (.un .len (v 34)) (.un .len (.bin .snoc .nil (.bin .cons (v 33) .nilc)))) (n 4294967296))
     (.jump 10 [(.bin .snoc (v 34) (.bin .cons (v 33) .nilc))])
     (.fail ""))
    (.jump 10 [(v 34)]))
   (.fail ""))
  (.fail ""))
 (.ite (.bin .or (cmp .leq (v 32) (n 0)) (cmp .eql (.un .len (v 34)) (n 0)))
  (.jump 7 [(v 28)])
  (.ite (cmp .leq (.un .len (v 34)) (n 17592186044416))
   (.loop [(n 0), (.bin .make (.bin .cons (n 0) .nilc) (.un .len (v 34)))] intrinsic_Size_l129)
   (.fail "")))
def intrinsic_Size_l127 : T := intrinsic_Size_l127_b
@[reducible] def intrinsic_Size_l126_b : T := .ite (cmp .lss (v 31) (.bin .minus (at_ 1 (v 16) (v 27)) (at_ 0 (v 16) (v 27))))
 (.ite (cmp .leq (n 0) (v 31))
  (.call c_pintrinsic_sizer_bases_2 [(at_ 0 (v 26) (.bin .plus (at_ 0 (v 16) (v 27)) (v 31))), (at_ 1 (v 26) (.bin .plus (at_ 0 (v 16) (v 27)) (v 31))), (at_ 2 (v 26) (.bin .plus (at_ 0 (v 16) (v 27)) (v 31))), (.bin (.cell 3 (.bool)) (v 26) (.bin .plus (at_ 0 (v 16) (v 27)) (v 31))), (at_ 4 (v 26) (.bin .plus (at_ 0 (v 16) (v 27)) (v 31))), (at_ 5 (v 26) (.bin .plus (at_ 0 (v 16) (v 27)) (v 31))), (at_ 6 (v 26) (.bin .plus (at_ 0 (v 16) (v 27)) (v 31)))] 1 <|
   .jump 8 [(add (v 31) (n 1)), (sub (v 32) (v 33))])
  (.fail ""))
 (.loop [(at_ 0 (v 16) (v 27)), .nil] intrinsic_Size_l127)
def intrinsic_Size_l126 : T := intrinsic_Size_l126_b
@[reducible] def intrinsic_Size_j133_b : T := .jump 8 [(add (v 31) (n 1)), (v 33)]
def intrinsic_Size_j133 : T := intrinsic_Size_j133_b
@[reducible] def intrinsic_Size_j135_b : T := .ret [(v 33)]
def intrinsic_Size_j135 : T := intrinsic_Size_j135_b
@[reducible] def intrinsic_Size_l137_b : T := .ite (cmp .lss (v 35) (.un .len (.tri .slice (v 30) (at_ 0 (v 16) (v 31)) (.bin .minus (at_ 1 (v 16) (v 31)) (at_ 0 (v 16) (v 31))))))
 (.ite (cmp .leq (n 0) (v 35))
  (.call c_intrinsic_loose [(at_ 0 (.tri .slice (v 30) (at_ 0 (v 16) (v 31)) (.bin .minus (at_ 1 (v 16) (v 31)) (at_ 0 (v 16) (v 31)))) (v 35)), (at_ 1 (.tri .slice (v 30) (at_ 0 (v 16) (v 31)) (.bin .minus (at_ 1 (v 16) (v 31)) (at_ 0 (v 16) (v 31)))) (v 35)), (at_ 2 (.tri .slice (v 30) (at_ 0 (v 16) (v 31)) (.bin .minus (at_ 1 (v 16) (v 31)) (at_ 0 (v 16) (v 31)))) (v 35)), (.bin (.cell 3 (.bool)) (.tri .slice (v 30) (at_ 0 (v 16) (v 31)) (.bin .minus (at_ 1 (v 16) (v 31)) (at_ 0 (v 16) (v 31)))) (v 35)), (at_ 4 (.tri .slice (v 30) (at_ 0 (v 16) (v 31)) (.bin .minus (at_ 1 (v 16) (v 31)) (at_ 0 (v 16) (v 31)))) (v 35)), (at_ 5 (.tri .slice (v 30) (at_ 0 (v 16) (v 31)) (.bin .minus (at_ 1 (v 16) (v 31)) (at_ 0 (v 16) (v 31)))) (v 35)), (at_ 6 (.tri .slice (v 30) (at_ 0 (v 16) (v 31)) (.bin .minus (at_ 1 (v 16) (v 31)) (at_ 0 (v 16) (v 31)))) (v 35))] 1 <|
   .ite (.bin .and (v 37) (.un .not (.bin (.cell 3 (.bool)) (.tri .slice (v 30) (at_ 0 (v 16) (v 31)) (.bin .minus (at_ 1 (v 16) (v 31)) (at_ 0 (v 16) (v 31)))) (v 35))))
   (.jump 0 [(.bin (.max .i64) (at_ 4 (v 16) (v 31)) (at_ 2 (v 16) (v 31)))])
   (.call c_intrinsic_limit [(at_ 0 (.tri .slice (v 30) (at_ 0 (v 16) (v 31)) (.bin .minus (at_ 1 (v 16) (v 31)) (at_ 0 (v 16) (v 31)))) (v 35)), (at_ 1 (.tri .slice (v 30) (at_ 0 (v 16) (v 31)) (.bin .minus (at_ 1 (v 16) (v 31)) (at_ 0 (v 16) (v 31)))) (v 35)), (at_ 2 (.tri .slice (v 30) (at_ 0 (v 16) (v 31)) (.bin .minus (at_ 1 (v 16) (v 31)) (at_ 0 (v 16) (v 31)))) (v 35)), (.bin (.cell 3 (.bool)) (.tri .slice (v 30) (at_ 0 (v 16) (v 31)) (.bin .minus (at_ 1 (v 16) (v 31)) (at_ 0 (v 16) (v 31)))) (v 35)), (at_ 4 (.tri .slice (v 30) (at_ 0 (v 16) (v 31)) (.bin .minus (at_ 1 (v 16) (v 31)) (at_ 0 (v 16) (v 31)))) (v 35)), (at_ 5 (.tri .slice (v 30) (at_ 0 (v 16) (v 31)) (.bin .minus (at_ 1 (v 16) (v 31)) (at_ 0 (v 16) (v 31)))) (v 35)), (at_ 6 (.tri .slice (v 30) (at_ 0 (v 16) (v 31)) (.bin .minus (at_ 1 (v 16) (v 31)) (at_ 0 (v 16) (v 31)))) (v 35))] 1 <|
    .jump 2 [(add (v 35) (n 1)), (add (v 36) (v 38))]))
  (.fail ""))
 (.jump 0 [(.bin (.max .i64) (.bin (.min .i64) (at_ 4 (v 16) (v 31)) (v 36)) (at_ 2 (v 16) (v 31)))])
def intrinsic_Size_l137 : T := intrinsic_Size_l137_b
@[reducible] def intrinsic_Size_l136_b : T := .ite (cmp .lss (v 33) (.un .len (.tri .slice (v 1) (add (at_ 0 (v 16) (v 31)) (n 1)) (.bin .minus (at_ 1 (v 16) (v 31)) (add (at_ 0 (v 16) (v 31)) (n 1))))))
 (.ite (cmp .leq (n 0) (v 33))
  (.jump 1 [(add (v 33) (n 1)), (add (v 34) (at_ 0 (.tri .slice (v 1) (add (at_ 0 (v 16) (v 31)) (n 1)) (.bin .minus (at_ 1 (v 16) (v 31)) (add (at_ 0 (v 16) (v 31)) (n 1)))) (v 33)))])
  (.fail ""))
 (.ite (cmp .leq (n 0) (at_ 0 (v 16) (v 31)))
  (.ite (cmp .leq (at_ 0 (v 16) (v 31)) (at_ 1 (v 16) (v 31)))
   (.ite (cmp .leq (at_ 1 (v 16) (v 31)) (.un .len (v 30)))
    (.loop [(n 0), (v 34)] intrinsic_Size_l137)
    (.fail ""))
   (.fail ""))
  (.fail ""))
def intrinsic_Size_l136 : T := intrinsic_Size_l136_b
@[reducible] def intrinsic_Size_s134_b : T := .ite (v 22)
 (.letj intrinsic_Size_j135 <|
  .ite (cmp .leq (n 0) (add (at_ 0 (v 16) (v 31)) (n 1)))
  (.ite (cmp .leq (add (at_ 0 (v 16) (v 31)) (n 1)) (at_ 1 (v 16) (v 31)))
   (.ite (cmp .leq (at_ 1 (v 16) (v 31)) (.un .len (v 1)))
    (.loop [(n 0), (n 0)] intrinsic_Size_l136)
    (.fail ""))
   (.fail ""))
  (.fail ""))
 (.call c_pintrinsic_sizer_rounds_3 [(at_ 0 (v 16) (v 31)), (at_ 1 (v 16) (v 31)), (at_ 2 (v 16) (v 31)), (at_ 3 (v 16) (v 31)), (at_ 4 (v 16) (v 31))] 1 <|
  .ret [(v 33)])
def intrinsic_Size_s134 : T := intrinsic_Size_s134_b
@[reducible] def intrinsic_Size_l139_b : T := .ite (cmp .lss (v 34) (.un .len (.tri .slice (v 1) (add (at_ 0 (v 16) (v 31)) (n 1)) (.bin .minus (at_ 1 (v 16) (v 31)) (add (at_ 0 (v 16) (v 31)) (n 1))))))
 (.ite (cmp .leq (n 0) (v 34))
  (.jump 0 [(add (v 34) (n 1)), (add (v 35) (at_ 0 (.tri .slice (v 1) (add (at_ 0 (v 16) (v 31)) (n 1)) (.bin .minus (at_ 1 (v 16) (v 31)) (add (at_ 0 (v 16) (v 31)) (n 1)))) (v 34)))])
  (.fail ""))
 (.ret [(v 35)])
def intrinsic_Size_l139 : T := intrinsic_Size_l139_b
@[reducible] def intrinsic_Size_s138_b : T := .ite (cmp .leq (n 0) (add (at_ 0 (v 16) (v 31)) (n 1)))
 (.ite (cmp .leq (add (at_ 0 (v 16) (v 31)) (n 1)) (at_ 1 (v 16) (v 31)))
  (.ite (cmp .leq (at_ 1 (v 16) (v 31)) (.un .len (v 1)))
   (.loop [(n 0), (n 0)] intrinsic_Size_l139)
   (.fail ""))
  (.fail ""))
 (.fail "")
def intrinsic_Size_s138 : T := intrinsic_Size_s138_b
@[reducible] def intrinsic_Size_j142_b : T := .jump 11 [(add (v 37) (n 1)), (v 39)]
def intrinsic_Size_j142 : T := intrinsic_Size_j142_b
@[reducible] def intrinsic_Size_j143_b : T := .ite (v 39)
 (.ite (cmp .leq (.bin .plus (.un .len (v 38)) (.un .len (.bin .snoc .nil (.bin .cons (v 37) .nilc)))) (n 4294967296))
  (.jump 12 [(.bin .snoc (v 38) (.bin .cons (v 37) .nilc))])
  (.fail ""))
 (.jump 12 [(v 38)])
def intrinsic_Size_j143 : T := intrinsic_Size_j143_b
@[reducible] def intrinsic_Size_l145_b : T := .ite (cmp .lss (v 42) (.un .len (v 41)))
 (.ite (cmp .leq (n 0) (v 42))
  (.ite (cmp .lss (v 42) (.un .len (v 38)))
   (.ite (cmp .leq (n 0) (at_ 0 (v 38) (v 42)))
    (.ite (cmp .lss (at_ 0 (v 38) (v 42)) (.un .len (v 43)))
     (.jump 13 [(add (v 42) (n 1)), (.tri .set (v 43) (at_ 0 (v 38) (v 42)) (.bin .cons (.bin (.max .i64) (at_ 0 (v 43) (at_ 0 (v 38) (v 42))) (at_ 0 (v 41) (v 42))) .nilc))])
     (.fail ""))
    (.fail ""))
   (.fail ""))
  (.fail ""))
 (.jump 9 [(v 43)])
def intrinsic_Size_l145 : T := intrinsic_Size_l145_b
@[reducible] def intrinsic_Size_l144_b : T := .ite (cmp .lss (v 39) (.un .len (v 38)))
 (.ite (cmp .leq (n 0) (v 39))
  (.ite (cmp .leq (n 0) (at_ 0 (v 38) (v 39)))
   (.ite (cmp .lss (at_ 0 (v 38) (v 39)) (.un .len (v 30)))
    (.ite (cmp .lss (v 39) (.un .len (v 40)))
     (.jump 12 [(add (v 39) (n 1)), (.tri .set (v 40) (v 39) (.bin .cons (at_ 2 (v 30) (at_ 0 (v 38) (v 39))) .nilc))])
     (.fail ""))
    (.fail ""))
   (.fail ""))
  (.fail ""))
 (.call c_spread_By [(v 36), (v 40)] 1 <|
  .loop [(n 0), (v 32)] intrinsic_Size_l145)
def intrinsic_Size_l144 : T := intrinsic_Size_l144_b
@[reducible] def intrinsic_Size_l141_b : T := .ite (cmp .lss (v 37) (at_ 1 (v 16) (v 31)))
 (.letj intrinsic_Size_j142 <|
  .ite (cmp .leq (n 0) (v 37))
  (.ite (cmp .lss (v 37) (.un .len (v 30)))
   (.letj intrinsic_Size_j143 <|
    .ite (v 21)
    (.call c_pintrinsic_sizer_rounds_6 [(at_ 0 (v 30) (v 37)), (at_ 1 (v 30) (v 37)), (at_ 2 (v 30) (v 37)), (.bin (.cell 3 (.bool)) (v 30) (v 37)), (at_ 4 (v 30) (v 37)), (at_ 5 (v 30) (v 37)), (at_ 6 (v 30) (v 37))] 1 <|
     .jump 13 [(.bin .and (v 39) (cmp .eql (at_ 1 (v 30) (v 37)) (n 5)))])
    (.call c_pintrinsic_sizer_rounds_4 [(at_ 0 (v 30) (v 37)), (at_ 1 (v 30) (v 37)), (at_ 2 (v 30) (v 37)), (.bin (.cell 3 (.bool)) (v 30) (v 37)), (at_ 4 (v 30) (v 37)), (at_ 5 (v 30) (v 37)), (at_ 6 (v 30) (v 37))] 1 <|
     .jump 13 [(.bin .and (v 39) (cmp .eql (at_ 1 (v 30) (v 37)) (n 5)))]))
   (.fail ""))
  (.fail ""))
 (.ite (.bin .or (cmp .leq (v 36) (n 0)) (cmp .eql (.un .len (v 38)) (n 0)))
  (.jump 9 [(v 32)])
  (.ite (cmp .leq (.un .len (v 38)) (n 17592186044416))
   (.loop [(n 0), (.bin .make (.bin .cons (n 0) .nilc) (.un .len (v 38)))] intrinsic_Size_l144)
   (.fail "")))
def intrinsic_Size_l141 : T := intrinsic_Size_l141_b
@[reducible] def intrinsic_Size_l140_b : T := .ite (cmp .lss (v 35) (.bin .minus (at_ 1 (v 16) (v 31)) (at_ 0 (v 16) (v 31))))
 (.ite (cmp .leq (n 0) (v 35))
  (.call c_pintrinsic_sizer_bases_2 [(at_ 0 (v 30) (.bin .plus (at_ 0 (v 16) (v 31)) (v 35))), (at_ 1 (v 30) (.bin .plus (at_ 0 (v 16) (v 31)) (v 35))), (at_ 2 (v 30) (.bin .plus (at_ 0 (v 16) (v 31)) (v 35))), (.bin (.cell 3 (.bool)) (v 30) (.bin .plus (at_ 0 (v 16) (v 31)) (v 35))), (at_ 4 (v 30) (.bin .plus (at_ 0 (v 16) (v 31)) (v 35))), (at_ 5 (v 30) (.bin .plus (at_ 0 (v 16) (v 31)) (v 35))), (at_ 6 (v 30) (.bin .plus (at_ 0 (v 16) (v 31)) (v 35)))] 1 <|
   .jump 10 [(add (v 35) (n 1)), (sub (v 36) (v 37))])
  (.fail ""))
 (.loop [(at_ 0 (v 16) (v 31)), .nil] intrinsic_Size_l141)
def intrinsic_Size_l140 : T := intrinsic_Size_l140_b
@[reducible] def intrinsic_Size_j149_b : T := .jump 11 [(add (v 37) (n 1)), (v 39)]
def intrinsic_Size_j149 : T := intrinsic_Size_j149_b
@[reducible] def intrinsic_Size_l148_b : T := .ite (cmp .lss (v 37) (.un .len (v 36)))
 (.letj intrinsic_Size_j149 <|
  .ite (cmp .leq (n 0) (v 37))
  (.ite (cmp .lss (v 37) (.un .len (v 38)))
   (.ite (cmp .eql (at_ 6 (v 38) (v 37)) (n 1125899906842624))
    (.jump 12 [(.tri (.put 6) (v 38) (v 37) (at_ 5 (v 38) (v 37)))])
    (.jump 12 [(v 38)]))
   (.fail ""))
  (.fail ""))
 (.ret [(v 38), (n 0)])
def intrinsic_Size_l148 : T := intrinsic_Size_l148_b
@[reducible] def intrinsic_Size_l147_b : T := .ite (cmp .lss (v 35) (.un .len (v 34)))
 (.ite (cmp .leq (n 0) (v 35))
  (.ite (cmp .lss (v 35) (.un .len (v 36)))
   (.call c_base_Raise [(at_ 0 (v 36) (v 35)), (at_ 1 (v 36) (v 35)), (at_ 2 (v 36) (v 35)), (.bin (.cell 3 (.bool)) (v 36) (v 35)), (at_ 4 (v 36) (v 35)), (at_ 5 (v 36) (v 35)), (at_ 6 (v 36) (v 35))] 7 <|
    .jump 10 [(add (v 35) (n 1)), (.tri .set (v 36) (v 35) (.bin .cons (v 37) (.bin .cons (v 38) (.bin .cons (v 39) (.bin .cons (v 40) (.bin .cons (v 41) (.bin .cons (v 42) (.bin .cons (v 43) .nilc))))))))])
   (.fail ""))
  (.fail ""))
 (.loop [(n 0), (v 36)] intrinsic_Size_l148)
def intrinsic_Size_l147 : T := intrinsic_Size_l147_b
@[reducible] def intrinsic_Size_l146_b : T := .ite (cmp .lss (v 33) (.un .len (v 32)))
 (.ite (cmp .leq (n 0) (v 33))
  (.ite (cmp .lss (v 33) (.un .len (v 34)))
   (.jump 9 [(add (v 33) (n 1)), (.tri (.put 5) (v 34) (v 33) (add (at_ 5 (v 34) (v 33)) (at_ 0 (v 32) (v 33))))])
   (.fail ""))
  (.fail ""))
 (.loop [(n 0), (v 34)] intrinsic_Size_l147)
def intrinsic_Size_l146 : T := intrinsic_Size_l146_b
@[reducible] def intrinsic_Size_l132_b : T := .ite (cmp .lss (v 31) (.un .len (v 16)))
 (.letj intrinsic_Size_j133 <|
  .ite (cmp .leq (n 0) (v 31))
  (.seq intrinsic_Size_s134 1 <|
   .seq intrinsic_Size_s138 1 <|
   .ite (cmp .leq (n 0) (at_ 0 (v 16) (v 31)))
   (.ite (cmp .leq (at_ 0 (v 16) (v 31)) (at_ 1 (v 16) (v 31)))
    (.ite (cmp .leq (at_ 1 (v 16) (v 31)) (.un .len (v 30)))
     (.loop [(n 0), (sub (v 33) (v 34))] intrinsic_Size_l140)
     (.fail ""))
    (.fail ""))
   (.fail ""))
  (.fail ""))
 (.loop [(n 0), (v 30)] intrinsic_Size_l146)
def intrinsic_Size_l132 : T := intrinsic_Size_l132_b
@[reducible] def intrinsic_Size_l131_b : T := .ite (cmp .lss (v 29) (.un .len (v 28)))
 (.ite (cmp .leq (n 0) (v 29))
  (.ite (cmp .lss (v 29) (.un .len (v 30)))
   (.jump 7 [(add (v 29) (n 1)), (.tri (.put 5) (v 30) (v 29) (add (at_ 5 (v 30) (v 29)) (at_ 0 (v 28) (v 29))))])
   (.fail ""))
  (.fail ""))
 (.ite (cmp .leq (.un .len (v 30)) (n 17592186044416))
  (.loop [(n 0), (.bin .make (.bin .cons (n 0) .nilc) (.un .len (v 30)))] intrinsic_Size_l132)
  (.fail ""))
def intrinsic_Size_l131 : T := intrinsic_Size_l131_b
@[reducible] def intrinsic_Size_l122_b : T := .ite (cmp .lss (v 27) (.un .len (v 16)))
 (.letj intrinsic_Size_j123 <|
  .ite (cmp .leq (n 0) (v 27))
  (.call c_pintrinsic_sizer_rounds_9 [(at_ 0 (v 16) (v 27)), (at_ 1 (v 16) (v 27)), (at_ 2 (v 16) (v 27)), (at_ 3 (v 16) (v 27)), (at_ 4 (v 16) (v 27))] 1 <|
   .seq intrinsic_Size_s124 1 <|
   .ite (cmp .leq (n 0) (at_ 0 (v 16) (v 27)))
   (.ite (cmp .leq (at_ 0 (v 16) (v 27)) (at_ 1 (v 16) (v 27)))
    (.ite (cmp .leq (at_ 1 (v 16) (v 27)) (.un .len (v 26)))
     (.loop [(n 0), (sub (v 29) (v 30))] intrinsic_Size_l126)
     (.fail ""))
    (.fail ""))
   (.fail ""))
  (.fail ""))
 (.loop [(n 0), (v 26)] intrinsic_Size_l131)
def intrinsic_Size_l122 : T := intrinsic_Size_l122_b
@[reducible] def intrinsic_Size_l121_b : T := .ite (cmp .lss (v 25) (.un .len (v 24)))
 (.ite (cmp .leq (n 0) (v 25))
  (.ite (cmp .lss (v 25) (.un .len (v 26)))
   (.jump 5 [(add (v 25) (n 1)), (.tri (.put 5) (v 26) (v 25) (add (at_ 5 (v 26) (v 25)) (at_ 0 (v 24) (v 25))))])
   (.fail ""))
  (.fail ""))
 (.ite (cmp .leq (.un .len (v 26)) (n 17592186044416))
  (.loop [(n 0), (.bin .make (.bin .cons (n 0) .nilc) (.un .len (v 26)))] intrinsic_Size_l122)
  (.fail ""))
def intrinsic_Size_l121 : T := intrinsic_Size_l121_b
@[reducible] def intrinsic_Size_l108_b : T := .ite (cmp .lss (v 23) (.un .len (v 16)))
 (.letj intrinsic_Size_j109 <|
  .ite (cmp .leq (n 0) (v 23))
  (.seq intrinsic_Size_s110 1 <|
   .seq intrinsic_Size_s114 1 <|
   .ite (cmp .leq (n 0) (at_ 0 (v 16) (v 23)))
   (.ite (cmp .leq (at_ 0 (v 16) (v 23)) (at_ 1 (v 16) (v 23)))
    (.ite (cmp .leq (at_ 1 (v 16) (v 23)) (.un .len (v 19)))
     (.loop [(n 0), (sub (v 25) (v 26))] intrinsic_Size_l116)
     (.fail ""))
    (.fail ""))
   (.fail ""))
  (.fail ""))
 (.loop [(n 0), (v 19)] intrinsic_Size_l121)
def intrinsic_Size_l108 : T := intrinsic_Size_l108_b
@[reducible] def intrinsic_Size_j107_b : T := .ite (cmp .leq (.un .len (v 19)) (n 17592186044416))
 (.loop [(n 0), (.bin .make (.bin .cons (n 0) .nilc) (.un .len (v 19)))] intrinsic_Size_l108)
 (.fail "")
def intrinsic_Size_j107 : T := intrinsic_Size_j107_b
@[reducible] def intrinsic_Size_j106_b : T := .letj intrinsic_Size_j107 <|
 .ite (cmp .eql (v 3) (n 2))
 (.jump 4 [(.bool true), (.bool true)])
 (.jump 4 [(.bool false), (.bool false)])
def intrinsic_Size_j106 : T := intrinsic_Size_j106_b
@[reducible] def intrinsic_Size_l17_b : T := .ite (cmp .lss (v 18) (.un .len (.un .sort (v 15))))
 (.ite (cmp .leq (n 0) (v 18))
  (.ite (cmp .leq (n (-9223372036854775808)) (at_ 0 (.un .sort (v 15)) (v 18)))
   (.ite (cmp .leq (at_ 0 (.un .sort (v 15)) (v 18)) (n 9223372036854775807))
    (.letj intrinsic_Size_j18 <|
     .ite (cmp .neq (v 3) (n 0))
     (.jump 4 [(.bool true)])
     (.jump 4 [(.bool false)]))
    (.fail ""))
   (.fail ""))
  (.fail ""))
 (.letj intrinsic_Size_j106 <|
  .ite (cmp .neq (v 3) (n 0))
  (.jump 4 [(.bool true)])
  (.jump 4 [(.bool false)]))
def intrinsic_Size_l17 : T := intrinsic_Size_l17_b
@[reducible] def intrinsic_Size_l12_b : T := .ite (cmp .lss (v 14) (.un .len (v 2)))
 (.letj intrinsic_Size_j13 <|
  .ite (cmp .leq (n 0) (v 14))
  (.ite (cmp .leq (n 0) (at_ 0 (v 2) (v 14)))
   (.ite (cmp .leq (at_ 0 (v 2) (v 14)) (at_ 1 (v 2) (v 14)))
    (.ite (cmp .leq (at_ 1 (v 2) (v 14)) (.un .len (v 0)))
     (.letj intrinsic_Size_j14 <|
      .loop [(n 0)] intrinsic_Size_l16)
     (.fail ""))
    (.fail ""))
   (.fail ""))
  (.fail ""))
 (.ite (cmp .leq (.un .len (v 15)) (n 4294967296))
  (.loop [(n 0), (v 13)] intrinsic_Size_l17)
  (.fail ""))
def intrinsic_Size_l12 : T := intrinsic_Size_l12_b
@[reducible] def intrinsic_Size_l8_b : T := .ite (cmp .lss (v 12) (.un .len (v 5)))
 (.letj intrinsic_Size_j9 <|
  .ite (cmp .leq (n 0) (v 12))
  (.ite (cmp .lss (v 12) (.un .len (v 13)))
   (.ite (.bin .or (cmp .eql (at_ 1 (v 13) (v 12)) (n 5)) (cmp .lss (v 12) (.un .len (v 11))))
    (.ite (.bin .or (cmp .eql (at_ 1 (v 13) (v 12)) (n 5)) (.un .not (.bin (.cell 0 (.bool)) (v 11) (v 12))))
     (.jump 2 [(v 13)])
     (.letj intrinsic_Size_j10 <|
      .ite (cmp .eql (at_ 0 (v 13) (v 12)) (n 2))
      (.ite (cmp .lss (v 12) (.un .len (v 10)))
       (.jump 3 [(.bin (.max .i64) (at_ 5 (v 13) (v 12)) (at_ 0 (v 10) (v 12)))])
       (.fail ""))
      (.ite (cmp .eql (at_ 0 (v 13) (v 12)) (n 3))
       (.ite (cmp .lss (v 12) (.un .len (v 10)))
        (.jump 3 [(.bin (.max .i64) (at_ 5 (v 13) (v 12)) (at_ 1 (v 10) (v 12)))])
        (.fail ""))
       (.ite (cmp .eql (at_ 0 (v 13) (v 12)) (n 4))
        (.ite (cmp .lss (v 12) (.un .len (v 10)))
         (.jump 3 [(.bin (.max .i64) (at_ 5 (v 13) (v 12)) (at_ 2 (v 10) (v 12)))])
         (.fail ""))
        (.jump 3 [(at_ 5 (v 13) (v 12))])))))
    (.fail ""))
   (.fail ""))
  (.fail ""))
 (.loop [(n 0), .nil, .nil, .nil] intrinsic_Size_l12)
def intrinsic_Size_l8 : T := intrinsic_Size_l8_b
@[reducible] def intrinsic_Size_l2_b : T := .ite (cmp .lss (v 9) (.un .len (v 2)))
 (.letj intrinsic_Size_j3 <|
  .ite (cmp .leq (n 0) (v 9))
  (.ite (cmp .eql (at_ 1 (v 2) (v 9)) (add (at_ 0 (v 2) (v 9)) (n 1)))
   (.ite (cmp .leq (n 0) (at_ 0 (v 2) (v 9)))
    (.ite (cmp .lss (at_ 0 (v 2) (v 9)) (.un .len (v 10)))
     (.ite (cmp .lss (at_ 0 (v 2) (v 9)) (.un .len (v 11)))
      (.seq intrinsic_Size_s4 1 <|
       .jump 1 [(.tri (.put 2) (.tri (.put 1) (.tri (.put 0) (v 10) (at_ 0 (v 2) (v 9)) (.bin (.max .i64) (at_ 0 (v 10) (at_ 0 (v 2) (v 9))) (v 12))) (at_ 0 (v 2) (v 9)) (.bin (.max .i64) (at_ 1 (.tri (.put 0) (v 10) (at_ 0 (v 2) (v 9)) (.bin (.max .i64) (at_ 0 (v 10) (at_ 0 (v 2) (v 9))) (v 12))) (at_ 0 (v 2) (v 9))) (at_ 3 (v 2) (v 9)))) (at_ 0 (v 2) (v 9)) (.bin (.max .i64) (at_ 2 (.tri (.put 1) (.tri (.put 0) (v 10) (at_ 0 (v 2) (v 9)) (.bin (.max .i64) (at_ 0 (v 10) (at_ 0 (v 2) (v 9))) (v 12))) (at_ 0 (v 2) (v 9)) (.bin (.max .i64) (at_ 1 (.tri (.put 0) (v 10) (at_ 0 (v 2) (v 9)) (.bin (.max .i64) (at_ 0 (v 10) (at_ 0 (v 2) (v 9))) (v 12))) (at_ 0 (v 2) (v 9))) (at_ 3 (v 2) (v 9)))) (at_ 0 (v 2) (v 9))) (at_ 4 (v 2) (v 9)))), (.tri .set (v 11) (at_ 0 (v 2) (v 9)) (.bin .cons (.bool true) .nilc))])
      (.fail ""))
     (.fail ""))
    (.fail ""))
   (.jump 1 [(v 10), (v 11)]))
  (.fail ""))
 (.loop [(n 0), (v 5)] intrinsic_Size_l8)
def intrinsic_Size_l2 : T := intrinsic_Size_l2_b
@[reducible] def intrinsic_Size_j1_b : T := .loop [(n 0), (.bin .make (.bin .cons (n 0) (.bin .cons (n 0) (.bin .cons (n 0) .nilc))) (.un .len (v 5))), (.bin .make (.bin .cons (.bool false) .nilc) (.un .len (v 5)))] intrinsic_Size_l2
def intrinsic_Size_j1 : T := intrinsic_Size_j1_b
@[reducible] def intrinsic_Size_j0_b : T := .letj intrinsic_Size_j1 <|
 .ite (cmp .eql (v 3) (n 2))
 (.jump 0 [(.bool true), (.bool true)])
 (.jump 0 [(.bool false), (.bool false)])
def intrinsic_Size_j0 : T := intrinsic_Size_j0_b
@[reducible] def intrinsic_Size_b : T := .call c_intrinsic_Good [(v 0), (v 1), (v 2), (v 3)] 1 <|
 .ite (v 4)
 (.call c_slices_Clone___api_Sizing_api_Sizing_ [(v 0)] 1 <|
  .ite (cmp .leq (.un .len (v 5)) (n 5864062014805))
  (.ite (cmp .leq (.un .len (v 5)) (n 140737488355328))
   (.letj intrinsic_Size_j0 <|
    .ite (cmp .neq (v 3) (n 0))
    (.jump 0 [(.bool true)])
    (.jump 0 [(.bool false)]))
   (.fail ""))
  (.fail ""))
 (.ret [.nil, (n 2)])
def intrinsic_Size : T := intrinsic_Size_b
/- parterre/parterrelaw24.lives -/
abbrev c_law24_lives : Nat := 8
@[reducible] def law24_lives_b : T := .call c_intrinsic_Size [(.bin .snoc (.bin .snoc .nil (.bin .cons (n 2) (.bin .cons (n 2) (.bin .cons (n 0) (.bin .cons (.bool false) (.bin .cons (n 0) (.bin .cons (n 0) (.bin .cons (n 1125899906842624) .nilc)))))))) (.bin .cons (n 2) (.bin .cons (n 2) (.bin .cons (n 0) (.bin .cons (.bool false) (.bin .cons (n 0) (.bin .cons (n 0) (.bin .cons (n 1125899906842624) .nilc)))))))), (.bin .snoc (.bin .snoc .nil (.bin .cons (n 0) .nilc)) (.bin .cons (n 0) .nilc)), (.bin .snoc .nil (.bin .cons (n 0) (.bin .cons (n 2) (.bin .cons (n 10) (.bin .cons (n 10) (.bin .cons (n 20) .nilc)))))), (n 0)] 2 <|
 .ite (.bin .or (.un .not (.bin .and (cmp .eql (v 1) (n 0)) (cmp .eql (.un .len (v 0)) (n 2)))) (cmp .lss (n 0) (.un .len (v 0))))
 (.ite (.bin .or (.un .not (.bin .and (.bin .and (cmp .eql (v 1) (n 0)) (cmp .eql (.un .len (v 0)) (n 2))) (cmp .eql (at_ 5 (v 0) (n 0)) (n 5)))) (cmp .lss (n 1) (.un .len (v 0))))
  (.ite (.bin .or (.un .not (.bin .and (.bin .and (.bin .and (cmp .eql (v 1) (n 0)) (cmp .eql (.un .len (v 0)) (n 2))) (cmp .eql (at_ 5 (v 0) (n 0)) (n 5))) (cmp .eql (at_ 5 (v 0) (n 1)) (n 5)))) (cmp .lss (n 0) (.un .len (v 0))))
   (.ite (.bin .or (.un .not (.bin .and (.bin .and (.bin .and (.bin .and (cmp .eql (v 1) (n 0)) (cmp .eql (.un .len (v 0)) (n 2))) (cmp .eql (at_ 5 (v 0) (n 0)) (n 5))) (cmp .eql (at_ 5 (v 0) (n 1)) (n 5))) (cmp .eql (at_ 6 (v 0) (n 0)) (n 10)))) (cmp .lss (n 1) (.un .len (v 0))))
    (.ret [(.bin .and (.bin .and (.bin .and (.bin .and (.bin .and (cmp .eql (v 1) (n 0)) (cmp .eql (.un .len (v 0)) (n 2))) (cmp .eql (at_ 5 (v 0) (n 0)) (n 5))) (cmp .eql (at_ 5 (v 0) (n 1)) (n 5))) (cmp .eql (at_ 6 (v 0) (n 0)) (n 10))) (cmp .eql (at_ 6 (v 0) (n 1)) (n 10)))])
    (.fail ""))
   (.fail ""))
  (.fail ""))
 (.fail "")
def law24_lives : T := law24_lives_b
/- parterre/parterrelaw24.IntrinsicMore -/
abbrev c_law24_IntrinsicMore : Nat := 4
@[reducible] def law24_IntrinsicMore_l0_b : T := .ite (cmp .lss (v 7) (.un .len (v 5)))
 (.ite (cmp .leq (n 0) (v 7))
  (.ite (cmp .lss (v 7) (.un .len (v 0)))
   (.ite (.bin .or (.bin .or (.bin .or (.un .not (.bin .and (cmp .eql (at_ 0 (v 5) (v 7)) (at_ 0 (v 0) (v 7))) (.bin .and (cmp .eql (at_ 1 (v 5) (v 7)) (at_ 1 (v 0) (v 7))) (.bin .and (cmp .eql (at_ 2 (v 5) (v 7)) (at_ 2 (v 0) (v 7))) (.bin .and (.bin .beq (.bin (.cell 3 (.bool)) (v 5) (v 7)) (.bin (.cell 3 (.bool)) (v 0) (v 7))) (.bin .and (cmp .eql (at_ 4 (v 5) (v 7)) (at_ 4 (v 0) (v 7))) (.bin .and (cmp .eql (at_ 5 (v 0) (v 7)) (at_ 5 (v 0) (v 7))) (cmp .eql (at_ 6 (v 0) (v 7)) (at_ 6 (v 0) (v 7)))))))))) (cmp .lss (at_ 5 (v 5) (v 7)) (at_ 5 (v 0) (v 7)))) (cmp .lss (at_ 6 (v 5) (v 7)) (at_ 5 (v 5) (v 7)))) (.bin .and (cmp .geq (at_ 6 (v 5) (v 7)) (n 1125899906842624)) (cmp .lss (at_ 5 (v 0) (v 7)) (n 1099511627776))))
    (.ret [(.bool false)])
    (.jump 0 [(add (v 7) (n 1))]))
   (.fail ""))
  (.fail ""))
 (.ite (cmp .eql (.un .len (v 5)) (.un .len (v 0)))
  (.call c_law24_lives [] 1 <|
   .ret [(v 8)])
  (.ret [(.bool false)]))
def law24_IntrinsicMore_l0 : T := law24_IntrinsicMore_l0_b
@[reducible] def law24_IntrinsicMore_b : T := .call c_law24_light [(v 0), (v 1), (v 2)] 1 <|
 .ite (v 4)
 (.call c_intrinsic_Size [(v 0), (v 1), (v 2), (v 3)] 2 <|
  .ite (.bin .or (cmp .neq (v 6) (n 0)) (cmp .neq (.un .len (v 5)) (.un .len (v 0))))
  (.ite (.bin .and (cmp .neq (v 6) (n 0)) (cmp .eql (.un .len (v 5)) (n 0)))
   (.call c_law24_lives [] 1 <|
    .ret [(v 7)])
   (.ret [(.bool false)]))
  (.loop [(n 0)] law24_IntrinsicMore_l0))
 (.call c_law24_lives [] 1 <|
  .ret [(v 5)])
def law24_IntrinsicMore : T := law24_IntrinsicMore_b
/- parterre/parterrelaw24.IntrinsicEnough -/
abbrev c_law24_IntrinsicEnough : Nat := 3
@[reducible] def law24_IntrinsicEnough_j2_b : T := .jump 1 [(add (v 8) (n 1)), (.bin .or (v 9) (cmp .eql (at_ 1 (v 5) (v 8)) (n 5))), (.bin .or (v 10) (cmp .neq (at_ 0 (v 5) (v 8)) (n 1))), (v 12)]
def law24_IntrinsicEnough_j2 : T := law24_IntrinsicEnough_j2_b
@[reducible] def law24_IntrinsicEnough_l1_b : T := .ite (cmp .lss (v 8) (at_ 1 (v 2) (v 7)))
 (.ite (cmp .leq (n 0) (v 8))
  (.ite (cmp .lss (v 8) (.un .len (v 5)))
   (.letj law24_IntrinsicEnough_j2 <|
    .ite (cmp .gtr (v 8) (at_ 0 (v 2) (v 7)))
    (.ite (cmp .lss (v 8) (.un .len (v 1)))
     (.jump 2 [(add (add (v 11) (at_ 5 (v 5) (v 8))) (at_ 0 (v 1) (v 8)))])
     (.fail ""))
    (.jump 2 [(add (v 11) (at_ 5 (v 5) (v 8)))]))
   (.fail ""))
  (.fail ""))
 (.ite (.bin .and (.bin .and (.bin .and (.bin .and (v 10) (.un .not (v 9))) (cmp .leq (at_ 2 (v 2) (v 7)) (at_ 3 (v 2) (v 7)))) (cmp .leq (at_ 3 (v 2) (v 7)) (at_ 4 (v 2) (v 7)))) (cmp .lss (v 11) (at_ 2 (v 2) (v 7))))
  (.ret [(.bool false)])
  (.jump 0 [(add (v 7) (n 1))]))
def law24_IntrinsicEnough_l1 : T := law24_IntrinsicEnough_l1_b
@[reducible] def law24_IntrinsicEnough_l0_b : T := .ite (cmp .lss (v 7) (.un .len (v 2)))
 (.ite (cmp .leq (n 0) (v 7))
  (.loop [(at_ 0 (v 2) (v 7)), (.bool false), (.bool false), (n 0)] law24_IntrinsicEnough_l1)
  (.fail ""))
 (.call c_law24_lives [] 1 <|
  .ret [(v 8)])
def law24_IntrinsicEnough_l0 : T := law24_IntrinsicEnough_l0_b
@[reducible] def law24_IntrinsicEnough_b : T := .call c_law24_light [(v 0), (v 1), (v 2)] 1 <|
 .ite (v 4)
 (.call c_intrinsic_Size [(v 0), (v 1), (v 2), (v 3)] 2 <|
  .ite (.bin .or (cmp .neq (v 6) (n 0)) (cmp .neq (.un .len (v 5)) (.un .len (v 0))))
  (.ite (.bin .and (cmp .neq (v 6) (n 0)) (cmp .eql (.un .len (v 5)) (n 0)))
   (.call c_law24_lives [] 1 <|
    .ret [(v 7)])
   (.ret [(.bool false)]))
  (.loop [(n 0)] law24_IntrinsicEnough_l0))
 (.call c_law24_lives [] 1 <|
  .ret [(v 5)])
def law24_IntrinsicEnough : T := law24_IntrinsicEnough_b
/- parterre/parterreref22.Same -/
abbrev c_ref22_Same : Nat := 10
@[reducible] def ref22_Same_l0_b : T := .ite (cmp .lss (v 2) (.un .len (v 0)))
 (.ite (cmp .leq (n 0) (v 2))
  (.ite (cmp .lss (v 2) (.un .len (v 1)))
   (.ite (.bin .and (cmp .eql (at_ 0 (v 0) (v 2)) (at_ 0 (v 1) (v 2))) (.bin .and (cmp .eql (at_ 1 (v 0) (v 2)) (at_ 1 (v 1) (v 2))) (.bin .and (cmp .eql (at_ 2 (v 0) (v 2)) (at_ 2 (v 1) (v 2))) (.bin .and (.bin .beq (.bin (.cell 3 (.bool)) (v 0) (v 2)) (.bin (.cell 3 (.bool)) (v 1) (v 2))) (.bin .and (cmp .eql (at_ 4 (v 0) (v 2)) (at_ 4 (v 1) (v 2))) (.bin .and (cmp .eql (at_ 5 (v 0) (v 2)) (at_ 5 (v 1) (v 2))) (cmp .eql (at_ 6 (v 0) (v 2)) (at_ 6 (v 1) (v 2)))))))))
    (.jump 0 [(add (v 2) (n 1))])
    (.ret [(.bool false)]))
   (.fail ""))
  (.fail ""))
 (.ret [(.bool true)])
def ref22_Same_l0 : T := ref22_Same_l0_b
@[reducible] def ref22_Same_b : T := .ite (cmp .neq (.un .len (v 0)) (.un .len (v 1)))
 (.ret [(.bool false)])
 (.loop [(n 0)] ref22_Same_l0)
def ref22_Same : T := ref22_Same_b
/- parterre/parterrelaw24.IntrinsicTurned -/
abbrev c_law24_IntrinsicTurned : Nat := 5
@[reducible] def law24_IntrinsicTurned_b : T := .call c_law24_light [(v 0), (v 1), (v 2)] 1 <|
 .ite (.bin .or (.un .not (v 5)) (cmp .eql (.un .len (v 2)) (n 0)))
 (.call c_law24_lives [] 1 <|
  .ret [(v 6)])
 (.ite (cmp .neq (.un (.conv .u64) (.un .len (v 2))) (.int .u64 0))
  (.ite (cmp .leq (n 0) (.un (.conv .i64) (.bin (.ar .rem .u64) (.un (.conv .u64) (v 4)) (.un (.conv .u64) (.un .len (v 2))))))
   (.ite (cmp .leq (.un (.conv .i64) (.bin (.ar .rem .u64) (.un (.conv .u64) (v 4)) (.un (.conv .u64) (.un .len (v 2))))) (.un .len (v 2)))
    (.ite (cmp .leq (.bin .plus (n 0) (.un .len (.tri .slice (v 2) (.un (.conv .i64) (.bin (.ar .rem .u64) (.un (.conv .u64) (v 4)) (.un (.conv .u64) (.un .len (v 2))))) (.bin .minus (.un .len (v 2)) (.un (.conv .i64) (.bin (.ar .rem .u64) (.un (.conv .u64) (v 4)) (.un (.conv .u64) (.un .len (v 2))))))))) (n 4294967296))
     (.ite (cmp .leq (.bin .plus (.un .len (.bin .cat .nil (.tri .slice (v 2) (.un (.conv .i64) (.bin (.ar .rem .u64) (.un (.conv .u64) (v 4)) (.un (.conv .u64) (.un .len (v 2))))) (.bin .minus (.un .len (v 2)) (.un (.conv .i64) (.bin (.ar .rem .u64) (.un (.conv .u64) (v 4)) (.un (.conv .u64) (.un .len (v 2))))))))) (.un .len (.tri .slice (v 2) (n 0) (.bin .minus (.un (.conv .i64) (.bin (.ar .rem .u64) (.un (.conv .u64) (v 4)) (.un (.conv .u64) (.un .len (v 2))))) (n 0))))) (n 4294967296))
      (.call c_intrinsic_Size [(v 0), (v 1), (v 2), (v 3)] 2 <|
       .call c_intrinsic_Size [(v 0), (v 1), (.bin .cat (.bin .cat .nil (.tri .slice (v 2) (.un (.conv .i64) (.bin (.ar .rem .u64) (.un (.conv .u64) (v 4)) (.un (.conv .u64) (.un .len (v 2))))) (.bin .minus (.un .len (v 2)) (.un (.conv .i64) (.bin (.ar .rem .u64) (.un (.conv .u64) (v 4)) (.un (.conv .u64) (.un .len (v 2)))))))) (.tri .slice (v 2) (n 0) (.bin .minus (.un (.conv .i64) (.bin (.ar .rem .u64) (.un (.conv .u64) (v 4)) (.un (.conv .u64) (.un .len (v 2))))) (n 0)))), (v 3)] 2 <|
       .ite (cmp .lss (.un (.conv .i64) (.bin (.ar .rem .u64) (.un (.conv .u64) (v 4)) (.un (.conv .u64) (.un .len (v 2))))) (.un .len (v 2)))
       (.ite (cmp .leq (.bin .plus (.un .len (.bin .cat (.bin .cat .nil (.tri .slice (v 2) (.un (.conv .i64) (.bin (.ar .rem .u64) (.un (.conv .u64) (v 4)) (.un (.conv .u64) (.un .len (v 2))))) (.bin .minus (.un .len (v 2)) (.un (.conv .i64) (.bin (.ar .rem .u64) (.un (.conv .u64) (v 4)) (.un (.conv .u64) (.un .len (v 2)))))))) (.tri .slice (v 2) (n 0) (.bin .minus (.un (.conv .i64) (.bin (.ar .rem .u64) (.un (.conv .u64) (v 4)) (.un (.conv .u64) (.un .len (v 2))))) (n 0))))) (.un .len (.bin .snoc .nil (.bin .cons (at_ 0 (v 2) (.un (.conv .i64) (.bin (.ar .rem .u64) (.un (.conv .u64) (v 4)) (.un (.conv .u64) (.un .len (v 2)))))) (.bin .cons (at_ 1 (v 2) (.un (.conv .i64) (.bin (.ar .rem .u64) (.un (.conv .u64) (v 4)) (.un (.conv .u64) (.un .len (v 2)))))) (.bin .cons (at_ 2 (v 2) (.un (.conv .i64) (.bin (.ar .rem .u64) (.un (.conv .u64) (v 4)) (.un (.conv .u64) (.un .len (v 2)))))) (.bin .cons (at_ 3 (v 2) (.un (.conv .i64) (.bin (.ar .rem .u64) (.un (.conv .u64) (v 4)) (.un (.conv .u64) (.un .len (v 2)))))) (.bin .cons (at_ 4 (v 2) (.un (.conv .i64) (.bin (.ar .rem .u64) (.un (.conv .u64) (v 4)) (.un (.conv .u64) (.un .len (v 2)))))) .nilc)))))))) (n 4294967296))
        (.call c_intrinsic_Size [(v 0), (v 1), (.bin .snoc (.bin .cat (.bin .cat .nil (.tri .slice (v 2) (.un (.conv .i64) (.bin (.ar .rem .u64) (.un (.conv .u64) (v 4)) (.un (.conv .u64) (.un .len (v 2))))) (.bin .minus (.un .len (v 2)) (.un (.conv .i64) (.bin (.ar .rem .u64) (.un (.conv .u64) (v 4)) (.un (.conv .u64) (.un .len (v 2)))))))) (.tri .slice (v 2) (n 0) (.bin .minus (.un (.conv .i64) (.bin (.ar .rem .u64) (.un (.conv .u64) (v 4)) (.un (.conv .u64) (.un .len (v 2))))) (n 0)))) (.bin .cons (at_ 0 (v 2) (.un (.conv .i64) (.bin (.ar .rem .u64) (.un (.conv .u64) (v 4)) (.un (.conv .u64) (.un .len (v 2)))))) (.bin .cons (at_ 1 (v 2) (.un (.conv .i64) (.bin (.ar .rem .u64) (.un (.conv .u64) (v 4)) (.un (.conv .u64) (.un .len (v 2)))))) (.bin .cons (at_ 2 (v 2) (.un (.conv .i64) (.bin (.ar .rem .u64) (.un (.conv .u64) (v 4)) (.un (.conv .u64) (.un .len (v 2)))))) (.bin .cons (at_ 3 (v 2) (.un (.conv .i64) (.bin (.ar .rem .u64) (.un (.conv .u64) (v 4)) (.un (.conv .u64) (.un .len (v 2)))))) (.bin .cons (at_ 4 (v 2) (.un (.conv .i64) (.bin (.ar .rem .u64) (.un (.conv .u64) (v 4)) (.un (.conv .u64) (.un .len (v 2)))))) .nilc)))))), (v 3)] 2 <|
         .ite (cmp .eql (v 7) (v 9))
         (.call c_ref22_Same [(v 6), (v 8)] 1 <|
          .ite (.bin .and (v 12) (.un .not (cmp .neq (v 7) (v 11))))
          (.call c_ref22_Same [(v 6), (v 10)] 1 <|
           .ite (v 13)
           (.call c_law24_lives [] 1 <|
            .ret [(v 14)])
           (.ret [(.bool false)]))
          (.ite (.bin .and (v 12) (.bool true))
           (.call c_law24_lives [] 1 <|
            .ret [(v 13)])
           (.ret [(.bool false)])))
         (.ret [(.bool false)]))
        (.fail ""))
       (.fail ""))
      (.fail ""))
     (.fail ""))
    (.fail ""))
   (.fail ""))
  (.fail ""))
def law24_IntrinsicTurned : T := law24_IntrinsicTurned_b

def sigL : List (Nat × Sig) := [
  (7, ⟨[.leaf (.row [.int .i64, .int .i64, .int .i64, .bool, .int .i64, .int .i64, .int .i64]), .leaf (.row [.int .i64]), .leaf (.row [.int .i64, .int .i64, .int .i64, .int .i64, .int .i64])], [.leaf (.bool)]⟩) -- law24_light
  ,(49, ⟨[.leaf (.int .i64)], [.leaf (.bool)]⟩) -- fixed_Is
  ,(22, ⟨[.leaf (.int .i64)], [.leaf (.bool)]⟩) -- intrinsic_within
  ,(28, ⟨[.leaf (.int .i64)], [.leaf (.bool)]⟩) -- intrinsic_Good_2
  ,(53, ⟨[.leaf (.int .i64), .leaf (.int .i64), .leaf (.int .i64)], [.leaf (.bool)]⟩) -- base_Good_1
  ,(27, ⟨[.agg [.int .i64, .int .i64, .int .i64, .bool, .int .i64, .int .i64, .int .i64]], [.leaf (.bool)]⟩) -- base_Good
  ,(26, ⟨[.agg [.int .i64, .int .i64, .int .i64, .bool, .int .i64, .int .i64, .int .i64]], [.leaf (.bool)]⟩) -- intrinsic_Good_1
  ,(13, ⟨[.leaf (.row [.int .i64, .int .i64, .int .i64, .bool, .int .i64, .int .i64, .int .i64]), .leaf (.row [.int .i64]), .leaf (.row [.int .i64, .int .i64, .int .i64, .int .i64, .int .i64]), .leaf (.int .i64)], [.leaf (.bool)]⟩) -- intrinsic_Good
  ,(15, ⟨[.leaf (.row [.int .i64, .int .i64, .int .i64, .bool, .int .i64, .int .i64, .int .i64])], [.own [.int .i64, .int .i64, .int .i64, .bool, .int .i64, .int .i64, .int .i64]]⟩) -- slices_Clone___api_Sizing_api_Sizing_
  ,(38, ⟨[.agg [.int .i64, .int .i64, .int .i64, .bool, .int .i64, .int .i64, .int .i64]], [.leaf (.bool)]⟩) -- intrinsic_loose
  ,(41, ⟨[.agg [.int .i64, .int .i64, .int .i64, .bool, .int .i64, .int .i64, .int .i64]], [.leaf (.int .i64)]⟩) -- intrinsic_limit
  ,(55, ⟨[.agg [.int .i64, .int .i64, .int .i64, .int .i64, .int .i64]], [.leaf (.int .i64)]⟩) -- pintrinsic_sizer_rounds_1
  ,(33, ⟨[.agg [.int .i64, .int .i64, .int .i64, .bool, .int .i64, .int .i64, .int .i64]], [.agg [.int .i64, .int .i64, .int .i64, .bool, .int .i64, .int .i64, .int .i64]]⟩) -- base_Raise
  ,(32, ⟨[.agg [.int .i64, .int .i64, .int .i64, .bool, .int .i64, .int .i64, .int .i64]], [.leaf (.bool)]⟩) -- intrinsic_content
  ,(18, ⟨[.agg [.int .i64, .int .i64, .int .i64, .bool, .int .i64, .int .i64, .int .i64]], [.leaf (.bool)]⟩) -- intrinsic_Size_1
  ,(43, ⟨[.agg [.int .i64, .int .i64, .int .i64, .bool, .int .i64, .int .i64, .int .i64]], [.leaf (.int .i64)]⟩) -- pintrinsic_sizer_bases_2
  ,(61, ⟨[.agg [.int .i64, .int .i64, .int .i64, .bool, .int .i64, .int .i64, .int .i64]], [.leaf (.bool)]⟩) -- pintrinsic_sizer_rounds_7
  ,(81, ⟨[.leaf (.int .i64), .leaf (.int .i64)], [.leaf (.bool)]⟩) -- spread_right
  ,(91, ⟨[.leaf (.row [.int .i64])], [.leaf (.bool)]⟩) -- spread_rooms
  ,(90, ⟨[.leaf (.int .i64), .leaf (.row [.int .i64])], [.own [.int .i64]]⟩) -- spread_Up
  ,(83, ⟨[.leaf (.int .i64), .leaf (.int .i64)], [.own [.int .i64]]⟩) -- fixed_Split
  ,(80, ⟨[.leaf (.int .i64), .leaf (.row [.int .i64]), .leaf (.row [.bool])], [.own [.int .i64]]⟩) -- spread_Fill
  ,(63, ⟨[.agg [.int .i64, .int .i64, .int .i64, .int .i64, .int .i64]], [.leaf (.int .i64)]⟩) -- pintrinsic_sizer_rounds_9
  ,(62, ⟨[.agg [.int .i64, .int .i64, .int .i64, .bool, .int .i64, .int .i64, .int .i64]], [.leaf (.bool)]⟩) -- pintrinsic_sizer_rounds_8
  ,(57, ⟨[.agg [.int .i64, .int .i64, .int .i64, .int .i64, .int .i64]], [.leaf (.int .i64)]⟩) -- pintrinsic_sizer_rounds_3
  ,(60, ⟨[.agg [.int .i64, .int .i64, .int .i64, .bool, .int .i64, .int .i64, .int .i64]], [.leaf (.bool)]⟩) -- pintrinsic_sizer_rounds_6
  ,(58, ⟨[.agg [.int .i64, .int .i64, .int .i64, .bool, .int .i64, .int .i64, .int .i64]], [.leaf (.bool)]⟩) -- pintrinsic_sizer_rounds_4
  ,(39, ⟨[.agg [.int .i64, .int .i64, .int .i64, .int .i64, .int .i64]], [.leaf (.int .i64)]⟩) -- pintrinsic_sizer_several_1
  ,(75, ⟨[.agg [.int .i64, .int .i64, .int .i64, .bool, .int .i64, .int .i64, .int .i64]], [.leaf (.int .i64)]⟩) -- pintrinsic_sizer_limits_1
  ,(76, ⟨[.agg [.int .i64, .int .i64, .int .i64, .bool, .int .i64, .int .i64, .int .i64]], [.leaf (.bool)]⟩) -- pintrinsic_sizer_limits_2
  ,(40, ⟨[.agg [.int .i64, .int .i64, .int .i64, .int .i64, .int .i64]], [.leaf (.int .i64)]⟩) -- pintrinsic_sizer_several_2
  ,(98, ⟨[.leaf (.int .i64)], [.leaf (.int .u64)]⟩) -- fixed_size
  ,(97, ⟨[.leaf (.int .u64), .leaf (.int .u64)], [.leaf (.int .u64), .leaf (.int .u64)]⟩) -- math_bits_Mul64
  ,(74, ⟨[.leaf (.int .u64)], [.leaf (.int .i64)]⟩) -- math_bits_Len64
  ,(100, ⟨[.leaf (.int .u64)], [.leaf (.int .i64)]⟩) -- math_bits_LeadingZeros64
  ,(99, ⟨[.leaf (.int .u64), .leaf (.int .u64), .leaf (.int .u64)], [.leaf (.int .u64), .leaf (.int .u64)]⟩) -- math_bits_Div64
  ,(96, ⟨[.leaf (.int .i64), .leaf (.int .i64), .leaf (.int .i64)], [.leaf (.int .i64), .leaf (.int .i64)]⟩) -- fixed_MulDiv
  ,(82, ⟨[.leaf (.int .i64), .leaf (.row [.int .i64])], [.own [.int .i64]]⟩) -- fixed_Share
  ,(48, ⟨[.leaf (.int .i64), .leaf (.row [.int .i64])], [.own [.int .i64]]⟩) -- spread_By
  ,(9, ⟨[.leaf (.row [.int .i64, .int .i64, .int .i64, .bool, .int .i64, .int .i64, .int .i64]), .leaf (.row [.int .i64]), .leaf (.row [.int .i64, .int .i64, .int .i64, .int .i64, .int .i64]), .leaf (.int .i64)], [.own [.int .i64, .int .i64, .int .i64, .bool, .int .i64, .int .i64, .int .i64], .leaf (.int .i64)]⟩) -- intrinsic_Size
  ,(8, ⟨[], [.leaf (.bool)]⟩) -- law24_lives
  ,(4, ⟨[.leaf (.row [.int .i64, .int .i64, .int .i64, .bool, .int .i64, .int .i64, .int .i64]), .leaf (.row [.int .i64]), .leaf (.row [.int .i64, .int .i64, .int .i64, .int .i64, .int .i64]), .leaf (.int .i64)], [.leaf (.bool)]⟩) -- law24_IntrinsicMore
  ,(3, ⟨[.leaf (.row [.int .i64, .int .i64, .int .i64, .bool, .int .i64, .int .i64, .int .i64]), .leaf (.row [.int .i64]), .leaf (.row [.int .i64, .int .i64, .int .i64, .int .i64, .int .i64]), .leaf (.int .i64)], [.leaf (.bool)]⟩) -- law24_IntrinsicEnough
  ,(10, ⟨[.leaf (.row [.int .i64, .int .i64, .int .i64, .bool, .int .i64, .int .i64, .int .i64]), .leaf (.row [.int .i64, .int .i64, .int .i64, .bool, .int .i64, .int .i64, .int .i64])], [.leaf (.bool)]⟩) -- ref22_Same
  ,(5, ⟨[.leaf (.row [.int .i64, .int .i64, .int .i64, .bool, .int .i64, .int .i64, .int .i64]), .leaf (.row [.int .i64]), .leaf (.row [.int .i64, .int .i64, .int .i64, .int .i64, .int .i64]), .leaf (.int .i64), .leaf (.int .i64)], [.leaf (.bool)]⟩) -- law24_IntrinsicTurned
  ]
def trL : List (Nat × T) := [(7, law24_light), (49, fixed_Is), (22, intrinsic_within), (28, intrinsic_Good_2), (53, base_Good_1), (27, base_Good), (26, intrinsic_Good_1), (13, intrinsic_Good), (15, slices_Clone___api_Sizing_api_Sizing_), (38, intrinsic_loose), (41, intrinsic_limit), (55, pintrinsic_sizer_rounds_1), (33, base_Raise), (32, intrinsic_content), (18, intrinsic_Size_1), (43, pintrinsic_sizer_bases_2), (61, pintrinsic_sizer_rounds_7), (81, spread_right), (91, spread_rooms), (90, spread_Up), (83, fixed_Split), (80, spread_Fill), (63, pintrinsic_sizer_rounds_9), (62, pintrinsic_sizer_rounds_8), (57, pintrinsic_sizer_rounds_3), (60, pintrinsic_sizer_rounds_6), (58, pintrinsic_sizer_rounds_4), (39, pintrinsic_sizer_several_1), (75, pintrinsic_sizer_limits_1), (76, pintrinsic_sizer_limits_2), (40, pintrinsic_sizer_several_2), (98, fixed_size), (97, math_bits_Mul64), (74, math_bits_Len64), (100, math_bits_LeadingZeros64), (99, math_bits_Div64), (96, fixed_MulDiv), (82, fixed_Share), (48, spread_By), (9, intrinsic_Size), (8, law24_lives), (4, law24_IntrinsicMore), (3, law24_IntrinsicEnough), (10, ref22_Same), (5, law24_IntrinsicTurned)]

def sg (f : Nat) : Option Sig := Go.Proofs.Ytbebnjiolaomdaa.Sx.look sigL f
def tr (f : Nat) : Option T := Go.Proofs.Ytbebnjiolaomdaa.Sx.look trL f
/-- What the trees say, so many rounds and calls deep. -/
def says (k : Nat) : Nat → List PV → Option (List PV) := told tr k k
/-- THE ONE PURE STATEMENT of parterre/parterrelaw24.IntrinsicMore. -/
def Pure_IntrinsicMore : Prop := ∀ (p0 : PV), ∀ (p1 : PV), ∀ (p2 : PV), ∀ (p3 : PV), ((.row [.int .i64, .int .i64, .int .i64, .bool, .int .i64, .int .i64, .int .i64]) : LK).ok p0 → ((.row [.int .i64, .int .i64, .int .i64, .bool, .int .i64, .int .i64, .int .i64]) : LK).wf p0 → p0.r.length * 56 ≤ 140737488351232 → ((.row [.int .i64]) : LK).ok p1 → ((.row [.int .i64]) : LK).wf p1 → p1.r.length * 8 ≤ 140737488351232 → ((.row [.int .i64, .int .i64, .int .i64, .int .i64, .int .i64]) : LK).ok p2 → ((.row [.int .i64, .int .i64, .int .i64, .int .i64, .int .i64]) : LK).wf p2 → p2.r.length * 40 ≤ 140737488351232 → ((.int .i64) : LK).ok p3 → ((.int .i64) : LK).wf p3 → ∃ k, says k c_law24_IntrinsicMore ((p0 :: (p1 :: (p2 :: (p3 :: []))))) = some [.bool true]
/-- THE ONE PURE STATEMENT of parterre/parterrelaw24.IntrinsicEnough. -/
def Pure_IntrinsicEnough : Prop := ∀ (p0 : PV), ∀ (p1 : PV), ∀ (p2 : PV), ∀ (p3 : PV), ((.row [.int .i64, .int .i64, .int .i64, .bool, .int .i64, .int .i64, .int .i64]) : LK).ok p0 → ((.row [.int .i64, .int .i64, .int .i64, .bool, .int .i64, .int .i64, .int .i64]) : LK).wf p0 → p0.r.length * 56 ≤ 140737488351232 → ((.row [.int .i64]) : LK).ok p1 → ((.row [.int .i64]) : LK).wf p1 → p1.r.length * 8 ≤ 140737488351232 → ((.row [.int .i64, .int .i64, .int .i64, .int .i64, .int .i64]) : LK).ok p2 → ((.row [.int .i64, .int .i64, .int .i64, .int .i64, .int .i64]) : LK).wf p2 → p2.r.length * 40 ≤ 140737488351232 → ((.int .i64) : LK).ok p3 → ((.int .i64) : LK).wf p3 → ∃ k, says k c_law24_IntrinsicEnough ((p0 :: (p1 :: (p2 :: (p3 :: []))))) = some [.bool true]
/-- THE ONE PURE STATEMENT of parterre/parterrelaw24.IntrinsicTurned. -/
def Pure_IntrinsicTurned : Prop := ∀ (p0 : PV), ∀ (p1 : PV), ∀ (p2 : PV), ∀ (p3 : PV), ∀ (p4 : PV), ((.row [.int .i64, .int .i64, .int .i64, .bool, .int .i64, .int .i64, .int .i64]) : LK).ok p0 → ((.row [.int .i64, .int .i64, .int .i64, .bool, .int .i64, .int .i64, .int .i64]) : LK).wf p0 → p0.r.length * 56 ≤ 140737488351232 → ((.row [.int .i64]) : LK).ok p1 → ((.row [.int .i64]) : LK).wf p1 → p1.r.length * 8 ≤ 140737488351232 → ((.row [.int .i64, .int .i64, .int .i64, .int .i64, .int .i64]) : LK).ok p2 → ((.row [.int .i64, .int .i64, .int .i64, .int .i64, .int .i64]) : LK).wf p2 → p2.r.length * 40 ≤ 140737488351232 → ((.int .i64) : LK).ok p3 → ((.int .i64) : LK).wf p3 → ((.int .i64) : LK).ok p4 → ((.int .i64) : LK).wf p4 → ∃ k, says k c_law24_IntrinsicTurned ((p0 :: (p1 :: (p2 :: (p3 :: (p4 :: [])))))) = some [.bool true]
section
variable {ρ : List PV} {J : List JT} {r : List PV}
theorem u_law24_light : Run tr law24_light ρ J r ↔ Run tr law24_light_b ρ J r := Iff.rfl
theorem u_fixed_Is : Run tr fixed_Is ρ J r ↔ Run tr fixed_Is_b ρ J r := Iff.rfl
theorem u_intrinsic_within : Run tr intrinsic_within ρ J r ↔ Run tr intrinsic_within_b ρ J r := Iff.rfl
theorem u_intrinsic_Good_2 : Run tr intrinsic_Good_2 ρ J r ↔ Run tr intrinsic_Good_2_b ρ J r := Iff.rfl
theorem u_base_Good_1 : Run tr base_Good_1 ρ J r ↔ Run tr base_Good_1_b ρ J r := Iff.rfl
theorem u_base_Good_j0 : Run tr base_Good_j0 ρ J r ↔ Run tr base_Good_j0_b ρ J r := Iff.rfl
theorem u_base_Good : Run tr base_Good ρ J r ↔ Run tr base_Good_b ρ J r := Iff.rfl
theorem u_intrinsic_Good_1 : Run tr intrinsic_Good_1 ρ J r ↔ Run tr intrinsic_Good_1_b ρ J r := Iff.rfl
theorem u_intrinsic_Good_j2 : Run tr intrinsic_Good_j2 ρ J r ↔ Run tr intrinsic_Good_j2_b ρ J r := Iff.rfl
theorem u_intrinsic_Good_l1 : Run tr intrinsic_Good_l1 ρ J r ↔ Run tr intrinsic_Good_l1_b ρ J r := Iff.rfl
theorem u_intrinsic_Good_j0 : Run tr intrinsic_Good_j0 ρ J r ↔ Run tr intrinsic_Good_j0_b ρ J r := Iff.rfl
theorem u_intrinsic_Good_j4 : Run tr intrinsic_Good_j4 ρ J r ↔ Run tr intrinsic_Good_j4_b ρ J r := Iff.rfl
theorem u_intrinsic_Good_l5 : Run tr intrinsic_Good_l5 ρ J r ↔ Run tr intrinsic_Good_l5_b ρ J r := Iff.rfl
theorem u_intrinsic_Good_j3 : Run tr intrinsic_Good_j3 ρ J r ↔ Run tr intrinsic_Good_j3_b ρ J r := Iff.rfl
theorem u_intrinsic_Good_l6 : Run tr intrinsic_Good_l6 ρ J r ↔ Run tr intrinsic_Good_l6_b ρ J r := Iff.rfl
theorem u_intrinsic_Good : Run tr intrinsic_Good ρ J r ↔ Run tr intrinsic_Good_b ρ J r := Iff.rfl
theorem u_slices_Clone___api_Sizing_api_Sizing_ : Run tr slices_Clone___api_Sizing_api_Sizing_ ρ J r ↔ Run tr slices_Clone___api_Sizing_api_Sizing__b ρ J r := Iff.rfl
theorem u_intrinsic_loose : Run tr intrinsic_loose ρ J r ↔ Run tr intrinsic_loose_b ρ J r := Iff.rfl
theorem u_intrinsic_limit : Run tr intrinsic_limit ρ J r ↔ Run tr intrinsic_limit_b ρ J r := Iff.rfl
theorem u_pintrinsic_sizer_rounds_1 : Run tr pintrinsic_sizer_rounds_1 ρ J r ↔ Run tr pintrinsic_sizer_rounds_1_b ρ J r := Iff.rfl
theorem u_base_Raise_j0 : Run tr base_Raise_j0 ρ J r ↔ Run tr base_Raise_j0_b ρ J r := Iff.rfl
theorem u_base_Raise : Run tr base_Raise ρ J r ↔ Run tr base_Raise_b ρ J r := Iff.rfl
theorem u_intrinsic_content : Run tr intrinsic_content ρ J r ↔ Run tr intrinsic_content_b ρ J r := Iff.rfl
theorem u_intrinsic_Size_1 : Run tr intrinsic_Size_1 ρ J r ↔ Run tr intrinsic_Size_1_b ρ J r := Iff.rfl
theorem u_pintrinsic_sizer_bases_2 : Run tr pintrinsic_sizer_bases_2 ρ J r ↔ Run tr pintrinsic_sizer_bases_2_b ρ J r := Iff.rfl
theorem u_pintrinsic_sizer_rounds_7 : Run tr pintrinsic_sizer_rounds_7 ρ J r ↔ Run tr pintrinsic_sizer_rounds_7_b ρ J r := Iff.rfl
theorem u_spread_right : Run tr spread_right ρ J r ↔ Run tr spread_right_b ρ J r := Iff.rfl
theorem u_spread_rooms_l0 : Run tr spread_rooms_l0 ρ J r ↔ Run tr spread_rooms_l0_b ρ J r := Iff.rfl
theorem u_spread_rooms : Run tr spread_rooms ρ J r ↔ Run tr spread_rooms_b ρ J r := Iff.rfl
theorem u_spread_Up_j2 : Run tr spread_Up_j2 ρ J r ↔ Run tr spread_Up_j2_b ρ J r := Iff.rfl
theorem u_spread_Up_j3 : Run tr spread_Up_j3 ρ J r ↔ Run tr spread_Up_j3_b ρ J r := Iff.rfl
theorem u_spread_Up_j5 : Run tr spread_Up_j5 ρ J r ↔ Run tr spread_Up_j5_b ρ J r := Iff.rfl
theorem u_spread_Up_j6 : Run tr spread_Up_j6 ρ J r ↔ Run tr spread_Up_j6_b ρ J r := Iff.rfl
theorem u_spread_Up_j8 : Run tr spread_Up_j8 ρ J r ↔ Run tr spread_Up_j8_b ρ J r := Iff.rfl
theorem u_spread_Up_l7 : Run tr spread_Up_l7 ρ J r ↔ Run tr spread_Up_l7_b ρ J r := Iff.rfl
theorem u_spread_Up_l4 : Run tr spread_Up_l4 ρ J r ↔ Run tr spread_Up_l4_b ρ J r := Iff.rfl
theorem u_spread_Up_l1 : Run tr spread_Up_l1 ρ J r ↔ Run tr spread_Up_l1_b ρ J r := Iff.rfl
theorem u_spread_Up_j0 : Run tr spread_Up_j0 ρ J r ↔ Run tr spread_Up_j0_b ρ J r := Iff.rfl
theorem u_spread_Up : Run tr spread_Up ρ J r ↔ Run tr spread_Up_b ρ J r := Iff.rfl
theorem u_fixed_Split_j1 : Run tr fixed_Split_j1 ρ J r ↔ Run tr fixed_Split_j1_b ρ J r := Iff.rfl
theorem u_fixed_Split_l0 : Run tr fixed_Split_l0 ρ J r ↔ Run tr fixed_Split_l0_b ρ J r := Iff.rfl
theorem u_fixed_Split : Run tr fixed_Split ρ J r ↔ Run tr fixed_Split_b ρ J r := Iff.rfl
theorem u_spread_Fill_j2 : Run tr spread_Fill_j2 ρ J r ↔ Run tr spread_Fill_j2_b ρ J r := Iff.rfl
theorem u_spread_Fill_l3 : Run tr spread_Fill_l3 ρ J r ↔ Run tr spread_Fill_l3_b ρ J r := Iff.rfl
theorem u_spread_Fill_l1 : Run tr spread_Fill_l1 ρ J r ↔ Run tr spread_Fill_l1_b ρ J r := Iff.rfl
theorem u_spread_Fill_j0 : Run tr spread_Fill_j0 ρ J r ↔ Run tr spread_Fill_j0_b ρ J r := Iff.rfl
theorem u_spread_Fill : Run tr spread_Fill ρ J r ↔ Run tr spread_Fill_b ρ J r := Iff.rfl
theorem u_pintrinsic_sizer_rounds_9 : Run tr pintrinsic_sizer_rounds_9 ρ J r ↔ Run tr pintrinsic_sizer_rounds_9_b ρ J r := Iff.rfl
theorem u_pintrinsic_sizer_rounds_8 : Run tr pintrinsic_sizer_rounds_8 ρ J r ↔ Run tr pintrinsic_sizer_rounds_8_b ρ J r := Iff.rfl
theorem u_pintrinsic_sizer_rounds_3 : Run tr pintrinsic_sizer_rounds_3 ρ J r ↔ Run tr pintrinsic_sizer_rounds_3_b ρ J r := Iff.rfl
theorem u_pintrinsic_sizer_rounds_6 : Run tr pintrinsic_sizer_rounds_6 ρ J r ↔ Run tr pintrinsic_sizer_rounds_6_b ρ J r := Iff.rfl
theorem u_pintrinsic_sizer_rounds_4 : Run tr pintrinsic_sizer_rounds_4 ρ J r ↔ Run tr pintrinsic_sizer_rounds_4_b ρ J r := Iff.rfl
theorem u_pintrinsic_sizer_several_1 : Run tr pintrinsic_sizer_several_1 ρ J r ↔ Run tr pintrinsic_sizer_several_1_b ρ J r := Iff.rfl
theorem u_pintrinsic_sizer_limits_1 : Run tr pintrinsic_sizer_limits_1 ρ J r ↔ Run tr pintrinsic_sizer_limits_1_b ρ J r := Iff.rfl
theorem u_pintrinsic_sizer_limits_2 : Run tr pintrinsic_sizer_limits_2 ρ J r ↔ Run tr pintrinsic_sizer_limits_2_b ρ J r := Iff.rfl
theorem u_pintrinsic_sizer_several_2 : Run tr pintrinsic_sizer_several_2 ρ J r ↔ Run tr pintrinsic_sizer_several_2_b ρ J r := Iff.rfl
theorem u_fixed_size : Run tr fixed_size ρ J r ↔ Run tr fixed_size_b ρ J r := Iff.rfl
theorem u_math_bits_Mul64 : Run tr math_bits_Mul64 ρ J r ↔ Run tr math_bits_Mul64_b ρ J r := Iff.rfl
theorem u_math_bits_Len64_j2 : Run tr math_bits_Len64_j2 ρ J r ↔ Run tr math_bits_Len64_j2_b ρ J r := Iff.rfl
theorem u_math_bits_Len64_j1 : Run tr math_bits_Len64_j1 ρ J r ↔ Run tr math_bits_Len64_j1_b ρ J r := Iff.rfl
theorem u_math_bits_Len64_j0 : Run tr math_bits_Len64_j0 ρ J r ↔ Run tr math_bits_Len64_j0_b ρ J r := Iff.rfl
theorem u_math_bits_Len64 : Run tr math_bits_Len64 ρ J r ↔ Run tr math_bits_Len64_b ρ J r := Iff.rfl
theorem u_math_bits_LeadingZeros64 : Run tr math_bits_LeadingZeros64 ρ J r ↔ Run tr math_bits_LeadingZeros64_b ρ J r := Iff.rfl
theorem u_math_bits_Div64_j1 : Run tr math_bits_Div64_j1 ρ J r ↔ Run tr math_bits_Div64_j1_b ρ J r := Iff.rfl
theorem u_math_bits_Div64_l2 : Run tr math_bits_Div64_l2 ρ J r ↔ Run tr math_bits_Div64_l2_b ρ J r := Iff.rfl
theorem u_math_bits_Div64_j0 : Run tr math_bits_Div64_j0 ρ J r ↔ Run tr math_bits_Div64_j0_b ρ J r := Iff.rfl
theorem u_math_bits_Div64_l3 : Run tr math_bits_Div64_l3 ρ J r ↔ Run tr math_bits_Div64_l3_b ρ J r := Iff.rfl
theorem u_math_bits_Div64 : Run tr math_bits_Div64 ρ J r ↔ Run tr math_bits_Div64_b ρ J r := Iff.rfl
theorem u_fixed_MulDiv : Run tr fixed_MulDiv ρ J r ↔ Run tr fixed_MulDiv_b ρ J r := Iff.rfl
theorem u_fixed_Share_l1 : Run tr fixed_Share_l1 ρ J r ↔ Run tr fixed_Share_l1_b ρ J r := Iff.rfl
theorem u_fixed_Share_l0 : Run tr fixed_Share_l0 ρ J r ↔ Run tr fixed_Share_l0_b ρ J r := Iff.rfl
theorem u_fixed_Share : Run tr fixed_Share ρ J r ↔ Run tr fixed_Share_b ρ J r := Iff.rfl
theorem u_spread_By : Run tr spread_By ρ J r ↔ Run tr spread_By_b ρ J r := Iff.rfl
theorem u_intrinsic_Size_j3 : Run tr intrinsic_Size_j3 ρ J r ↔ Run tr intrinsic_Size_j3_b ρ J r := Iff.rfl
theorem u_intrinsic_Size_j5 : Run tr intrinsic_Size_j5 ρ J r ↔ Run tr intrinsic_Size_j5_b ρ J r := Iff.rfl
theorem u_intrinsic_Size_l7 : Run tr intrinsic_Size_l7 ρ J r ↔ Run tr intrinsic_Size_l7_b ρ J r := Iff.rfl
theorem u_intrinsic_Size_l6 : Run tr intrinsic_Size_l6 ρ J r ↔ Run tr intrinsic_Size_l6_b ρ J r := Iff.rfl
theorem u_intrinsic_Size_s4 : Run tr intrinsic_Size_s4 ρ J r ↔ Run tr intrinsic_Size_s4_b ρ J r := Iff.rfl
theorem u_intrinsic_Size_j9 : Run tr intrinsic_Size_j9 ρ J r ↔ Run tr intrinsic_Size_j9_b ρ J r := Iff.rfl
theorem u_intrinsic_Size_j11 : Run tr intrinsic_Size_j11 ρ J r ↔ Run tr intrinsic_Size_j11_b ρ J r := Iff.rfl
theorem u_intrinsic_Size_j10 : Run tr intrinsic_Size_j10 ρ J r ↔ Run tr intrinsic_Size_j10_b ρ J r := Iff.rfl
theorem u_intrinsic_Size_j13 : Run tr intrinsic_Size_j13 ρ J r ↔ Run tr intrinsic_Size_j13_b ρ J r := Iff.rfl
theorem u_intrinsic_Size_j15 : Run tr intrinsic_Size_j15 ρ J r ↔ Run tr intrinsic_Size_j15_b ρ J r := Iff.rfl
theorem u_intrinsic_Size_j14 : Run tr intrinsic_Size_j14 ρ J r ↔ Run tr intrinsic_Size_j14_b ρ J r := Iff.rfl
theorem u_intrinsic_Size_l16 : Run tr intrinsic_Size_l16 ρ J r ↔ Run tr intrinsic_Size_l16_b ρ J r := Iff.rfl
theorem u_intrinsic_Size_j21 : Run tr intrinsic_Size_j21 ρ J r ↔ Run tr intrinsic_Size_j21_b ρ J r := Iff.rfl
theorem u_intrinsic_Size_j23 : Run tr intrinsic_Size_j23 ρ J r ↔ Run tr intrinsic_Size_j23_b ρ J r := Iff.rfl
theorem u_intrinsic_Size_l25 : Run tr intrinsic_Size_l25 ρ J r ↔ Run tr intrinsic_Size_l25_b ρ J r := Iff.rfl
theorem u_intrinsic_Size_l24 : Run tr intrinsic_Size_l24 ρ J r ↔ Run tr intrinsic_Size_l24_b ρ J r := Iff.rfl
theorem u_intrinsic_Size_s22 : Run tr intrinsic_Size_s22 ρ J r ↔ Run tr intrinsic_Size_s22_b ρ J r := Iff.rfl
theorem u_intrinsic_Size_l27 : Run tr intrinsic_Size_l27 ρ J r ↔ Run tr intrinsic_Size_l27_b ρ J r := Iff.rfl
theorem u_intrinsic_Size_s26 : Run tr intrinsic_Size_s26 ρ J r ↔ Run tr intrinsic_Size_s26_b ρ J r := Iff.rfl
theorem u_intrinsic_Size_j30 : Run tr intrinsic_Size_j30 ρ J r ↔ Run tr intrinsic_Size_j30_b ρ J r := Iff.rfl
theorem u_intrinsic_Size_s32 : Run tr intrinsic_Size_s32 ρ J r ↔ Run tr intrinsic_Size_s32_b ρ J r := Iff.rfl
theorem u_intrinsic_Size_l34 : Run tr intrinsic_Size_l34 ρ J r ↔ Run tr intrinsic_Size_l34_b ρ J r := Iff.rfl
theorem u_intrinsic_Size_l33 : Run tr intrinsic_Size_l33 ρ J r ↔ Run tr intrinsic_Size_l33_b ρ J r := Iff.rfl
theorem u_intrinsic_Size_l31 : Run tr intrinsic_Size_l31 ρ J r ↔ Run tr intrinsic_Size_l31_b ρ J r := Iff.rfl
theorem u_intrinsic_Size_l29 : Run tr intrinsic_Size_l29 ρ J r ↔ Run tr intrinsic_Size_l29_b ρ J r := Iff.rfl
theorem u_intrinsic_Size_l28 : Run tr intrinsic_Size_l28 ρ J r ↔ Run tr intrinsic_Size_l28_b ρ J r := Iff.rfl
theorem u_intrinsic_Size_j37 : Run tr intrinsic_Size_j37 ρ J r ↔ Run tr intrinsic_Size_j37_b ρ J r := Iff.rfl
theorem u_intrinsic_Size_l39 : Run tr intrinsic_Size_l39 ρ J r ↔ Run tr intrinsic_Size_l39_b ρ J r := Iff.rfl
theorem u_intrinsic_Size_s38 : Run tr intrinsic_Size_s38 ρ J r ↔ Run tr intrinsic_Size_s38_b ρ J r := Iff.rfl
theorem u_intrinsic_Size_j42 : Run tr intrinsic_Size_j42 ρ J r ↔ Run tr intrinsic_Size_j42_b ρ J r := Iff.rfl
theorem u_intrinsic_Size_s44 : Run tr intrinsic_Size_s44 ρ J r ↔ Run tr intrinsic_Size_s44_b ρ J r := Iff.rfl
theorem u_intrinsic_Size_l46 : Run tr intrinsic_Size_l46 ρ J r ↔ Run tr intrinsic_Size_l46_b ρ J r := Iff.rfl
theorem u_intrinsic_Size_l45 : Run tr intrinsic_Size_l45 ρ J r ↔ Run tr intrinsic_Size_l45_b ρ J r := Iff.rfl
theorem u_intrinsic_Size_l43 : Run tr intrinsic_Size_l43 ρ J r ↔ Run tr intrinsic_Size_l43_b ρ J r := Iff.rfl
theorem u_intrinsic_Size_l41 : Run tr intrinsic_Size_l41 ρ J r ↔ Run tr intrinsic_Size_l41_b ρ J r := Iff.rfl
theorem u_intrinsic_Size_l40 : Run tr intrinsic_Size_l40 ρ J r ↔ Run tr intrinsic_Size_l40_b ρ J r := Iff.rfl
theorem u_intrinsic_Size_j49 : Run tr intrinsic_Size_j49 ρ J r ↔ Run tr intrinsic_Size_j49_b ρ J r := Iff.rfl
theorem u_intrinsic_Size_j51 : Run tr intrinsic_Size_j51 ρ J r ↔ Run tr intrinsic_Size_j51_b ρ J r := Iff.rfl
theorem u_intrinsic_Size_l53 : Run tr intrinsic_Size_l53 ρ J r ↔ Run tr intrinsic_Size_l53_b ρ J r := Iff.rfl
theorem u_intrinsic_Size_l52 : Run tr intrinsic_Size_l52 ρ J r ↔ Run tr intrinsic_Size_l52_b ρ J r := Iff.rfl
theorem u_intrinsic_Size_s50 : Run tr intrinsic_Size_s50 ρ J r ↔ Run tr intrinsic_Size_s50_b ρ J r := Iff.rfl
theorem u_intrinsic_Size_l55 : Run tr intrinsic_Size_l55 ρ J r ↔ Run tr intrinsic_Size_l55_b ρ J r := Iff.rfl
theorem u_intrinsic_Size_s54 : Run tr intrinsic_Size_s54 ρ J r ↔ Run tr intrinsic_Size_s54_b ρ J r := Iff.rfl
theorem u_intrinsic_Size_j58 : Run tr intrinsic_Size_j58 ρ J r ↔ Run tr intrinsic_Size_j58_b ρ J r := Iff.rfl
theorem u_intrinsic_Size_j59 : Run tr intrinsic_Size_j59 ρ J r ↔ Run tr intrinsic_Size_j59_b ρ J r := Iff.rfl
theorem u_intrinsic_Size_s61 : Run tr intrinsic_Size_s61 ρ J r ↔ Run tr intrinsic_Size_s61_b ρ J r := Iff.rfl
theorem u_intrinsic_Size_l63 : Run tr intrinsic_Size_l63 ρ J r ↔ Run tr intrinsic_Size_l63_b ρ J r := Iff.rfl
theorem u_intrinsic_Size_l62 : Run tr intrinsic_Size_l62 ρ J r ↔ Run tr intrinsic_Size_l62_b ρ J r := Iff.rfl
theorem u_intrinsic_Size_l60 : Run tr intrinsic_Size_l60 ρ J r ↔ Run tr intrinsic_Size_l60_b ρ J r := Iff.rfl
theorem u_intrinsic_Size_l57 : Run tr intrinsic_Size_l57 ρ J r ↔ Run tr intrinsic_Size_l57_b ρ J r := Iff.rfl
theorem u_intrinsic_Size_l56 : Run tr intrinsic_Size_l56 ρ J r ↔ Run tr intrinsic_Size_l56_b ρ J r := Iff.rfl
theorem u_intrinsic_Size_j67 : Run tr intrinsic_Size_j67 ρ J r ↔ Run tr intrinsic_Size_j67_b ρ J r := Iff.rfl
theorem u_intrinsic_Size_l69 : Run tr intrinsic_Size_l69 ρ J r ↔ Run tr intrinsic_Size_l69_b ρ J r := Iff.rfl
theorem u_intrinsic_Size_s68 : Run tr intrinsic_Size_s68 ρ J r ↔ Run tr intrinsic_Size_s68_b ρ J r := Iff.rfl
theorem u_intrinsic_Size_j72 : Run tr intrinsic_Size_j72 ρ J r ↔ Run tr intrinsic_Size_j72_b ρ J r := Iff.rfl
theorem u_intrinsic_Size_j75 : Run tr intrinsic_Size_j75 ρ J r ↔ Run tr intrinsic_Size_j75_b ρ J r := Iff.rfl
theorem u_intrinsic_Size_s74 : Run tr intrinsic_Size_s74 ρ J r ↔ Run tr intrinsic_Size_s74_b ρ J r := Iff.rfl
theorem u_intrinsic_Size_l77 : Run tr intrinsic_Size_l77 ρ J r ↔ Run tr intrinsic_Size_l77_b ρ J r := Iff.rfl
theorem u_intrinsic_Size_l76 : Run tr intrinsic_Size_l76 ρ J r ↔ Run tr intrinsic_Size_l76_b ρ J r := Iff.rfl
theorem u_intrinsic_Size_l73 : Run tr intrinsic_Size_l73 ρ J r ↔ Run tr intrinsic_Size_l73_b ρ J r := Iff.rfl
theorem u_intrinsic_Size_l71 : Run tr intrinsic_Size_l71 ρ J r ↔ Run tr intrinsic_Size_l71_b ρ J r := Iff.rfl
theorem u_intrinsic_Size_l70 : Run tr intrinsic_Size_l70 ρ J r ↔ Run tr intrinsic_Size_l70_b ρ J r := Iff.rfl
theorem u_intrinsic_Size_j80 : Run tr intrinsic_Size_j80 ρ J r ↔ Run tr intrinsic_Size_j80_b ρ J r := Iff.rfl
theorem u_intrinsic_Size_j82 : Run tr intrinsic_Size_j82 ρ J r ↔ Run tr intrinsic_Size_j82_b ρ J r := Iff.rfl
theorem u_intrinsic_Size_l81 : Run tr intrinsic_Size_l81 ρ J r ↔ Run tr intrinsic_Size_l81_b ρ J r := Iff.rfl
theorem u_intrinsic_Size_l79 : Run tr intrinsic_Size_l79 ρ J r ↔ Run tr intrinsic_Size_l79_b ρ J r := Iff.rfl
theorem u_intrinsic_Size_j84 : Run tr intrinsic_Size_j84 ρ J r ↔ Run tr intrinsic_Size_j84_b ρ J r := Iff.rfl
theorem u_intrinsic_Size_j86 : Run tr intrinsic_Size_j86 ρ J r ↔ Run tr intrinsic_Size_j86_b ρ J r := Iff.rfl
theorem u_intrinsic_Size_l88 : Run tr intrinsic_Size_l88 ρ J r ↔ Run tr intrinsic_Size_l88_b ρ J r := Iff.rfl
theorem u_intrinsic_Size_s87 : Run tr intrinsic_Size_s87 ρ J r ↔ Run tr intrinsic_Size_s87_b ρ J r := Iff.rfl
theorem u_intrinsic_Size_j91 : Run tr intrinsic_Size_j91 ρ J r ↔ Run tr intrinsic_Size_j91_b ρ J r := Iff.rfl
theorem u_intrinsic_Size_j94 : Run tr intrinsic_Size_j94 ρ J r ↔ Run tr intrinsic_Size_j94_b ρ J r := Iff.rfl
theorem u_intrinsic_Size_s93 : Run tr intrinsic_Size_s93 ρ J r ↔ Run tr intrinsic_Size_s93_b ρ J r := Iff.rfl
theorem u_intrinsic_Size_l96 : Run tr intrinsic_Size_l96 ρ J r ↔ Run tr intrinsic_Size_l96_b ρ J r := Iff.rfl
theorem u_intrinsic_Size_l95 : Run tr intrinsic_Size_l95 ρ J r ↔ Run tr intrinsic_Size_l95_b ρ J r := Iff.rfl
theorem u_intrinsic_Size_l92 : Run tr intrinsic_Size_l92 ρ J r ↔ Run tr intrinsic_Size_l92_b ρ J r := Iff.rfl
theorem u_intrinsic_Size_l90 : Run tr intrinsic_Size_l90 ρ J r ↔ Run tr intrinsic_Size_l90_b ρ J r := Iff.rfl
theorem u_intrinsic_Size_l89 : Run tr intrinsic_Size_l89 ρ J r ↔ Run tr intrinsic_Size_l89_b ρ J r := Iff.rfl
theorem u_intrinsic_Size_j99 : Run tr intrinsic_Size_j99 ρ J r ↔ Run tr intrinsic_Size_j99_b ρ J r := Iff.rfl
theorem u_intrinsic_Size_j101 : Run tr intrinsic_Size_j101 ρ J r ↔ Run tr intrinsic_Size_j101_b ρ J r := Iff.rfl
theorem u_intrinsic_Size_l100 : Run tr intrinsic_Size_l100 ρ J r ↔ Run tr intrinsic_Size_l100_b ρ J r := Iff.rfl
theorem u_intrinsic_Size_l98 : Run tr intrinsic_Size_l98 ρ J r ↔ Run tr intrinsic_Size_l98_b ρ J r := Iff.rfl
theorem u_intrinsic_Size_j103 : Run tr intrinsic_Size_j103 ρ J r ↔ Run tr intrinsic_Size_j103_b ρ J r := Iff.rfl
theorem u_intrinsic_Size_j105 : Run tr intrinsic_Size_j105 ρ J r ↔ Run tr intrinsic_Size_j105_b ρ J r := Iff.rfl
theorem u_intrinsic_Size_l104 : Run tr intrinsic_Size_l104 ρ J r ↔ Run tr intrinsic_Size_l104_b ρ J r := Iff.rfl
theorem u_intrinsic_Size_l102 : Run tr intrinsic_Size_l102 ρ J r ↔ Run tr intrinsic_Size_l102_b ρ J r := Iff.rfl
theorem u_intrinsic_Size_l97 : Run tr intrinsic_Size_l97 ρ J r ↔ Run tr intrinsic_Size_l97_b ρ J r := Iff.rfl
theorem u_intrinsic_Size_l85 : Run tr intrinsic_Size_l85 ρ J r ↔ Run tr intrinsic_Size_l85_b ρ J r := Iff.rfl
theorem u_intrinsic_Size_l83 : Run tr intrinsic_Size_l83 ρ J r ↔ Run tr intrinsic_Size_l83_b ρ J r := Iff.rfl
theorem u_intrinsic_Size_l78 : Run tr intrinsic_Size_l78 ρ J r ↔ Run tr intrinsic_Size_l78_b ρ J r := Iff.rfl
theorem u_intrinsic_Size_l66 : Run tr intrinsic_Size_l66 ρ J r ↔ Run tr intrinsic_Size_l66_b ρ J r := Iff.rfl
theorem u_intrinsic_Size_l65 : Run tr intrinsic_Size_l65 ρ J r ↔ Run tr intrinsic_Size_l65_b ρ J r := Iff.rfl
theorem u_intrinsic_Size_l64 : Run tr intrinsic_Size_l64 ρ J r ↔ Run tr intrinsic_Size_l64_b ρ J r := Iff.rfl
theorem u_intrinsic_Size_l48 : Run tr intrinsic_Size_l48 ρ J r ↔ Run tr intrinsic_Size_l48_b ρ J r := Iff.rfl
theorem u_intrinsic_Size_l47 : Run tr intrinsic_Size_l47 ρ J r ↔ Run tr intrinsic_Size_l47_b ρ J r := Iff.rfl
theorem u_intrinsic_Size_l36 : Run tr intrinsic_Size_l36 ρ J r ↔ Run tr intrinsic_Size_l36_b ρ J r := Iff.rfl
theorem u_intrinsic_Size_l35 : Run tr intrinsic_Size_l35 ρ J r ↔ Run tr intrinsic_Size_l35_b ρ J r := Iff.rfl
theorem u_intrinsic_Size_l20 : Run tr intrinsic_Size_l20 ρ J r ↔ Run tr intrinsic_Size_l20_b ρ J r := Iff.rfl
theorem u_intrinsic_Size_j19 : Run tr intrinsic_Size_j19 ρ J r ↔ Run tr intrinsic_Size_j19_b ρ J r := Iff.rfl
theorem u_intrinsic_Size_j18 : Run tr intrinsic_Size_j18 ρ J r ↔ Run tr intrinsic_Size_j18_b ρ J r := Iff.rfl
theorem u_intrinsic_Size_j109 : Run tr intrinsic_Size_j109 ρ J r ↔ Run tr intrinsic_Size_j109_b ρ J r := Iff.rfl
theorem u_intrinsic_Size_j111 : Run tr intrinsic_Size_j111 ρ J r ↔ Run tr intrinsic_Size_j111_b ρ J r := Iff.rfl
theorem u_intrinsic_Size_l113 : Run tr intrinsic_Size_l113 ρ J r ↔ Run tr intrinsic_Size_l113_b ρ J r := Iff.rfl
theorem u_intrinsic_Size_l112 : Run tr intrinsic_Size_l112 ρ J r ↔ Run tr intrinsic_Size_l112_b ρ J r := Iff.rfl
theorem u_intrinsic_Size_s110 : Run tr intrinsic_Size_s110 ρ J r ↔ Run tr intrinsic_Size_s110_b ρ J r := Iff.rfl
theorem u_intrinsic_Size_l115 : Run tr intrinsic_Size_l115 ρ J r ↔ Run tr intrinsic_Size_l115_b ρ J r := Iff.rfl
theorem u_intrinsic_Size_s114 : Run tr intrinsic_Size_s114 ρ J r ↔ Run tr intrinsic_Size_s114_b ρ J r := Iff.rfl
theorem u_intrinsic_Size_j118 : Run tr intrinsic_Size_j118 ρ J r ↔ Run tr intrinsic_Size_j118_b ρ J r := Iff.rfl
theorem u_intrinsic_Size_l120 : Run tr intrinsic_Size_l120 ρ J r ↔ Run tr intrinsic_Size_l120_b ρ J r := Iff.rfl
theorem u_intrinsic_Size_l119 : Run tr intrinsic_Size_l119 ρ J r ↔ Run tr intrinsic_Size_l119_b ρ J r := Iff.rfl
theorem u_intrinsic_Size_l117 : Run tr intrinsic_Size_l117 ρ J r ↔ Run tr intrinsic_Size_l117_b ρ J r := Iff.rfl
theorem u_intrinsic_Size_l116 : Run tr intrinsic_Size_l116 ρ J r ↔ Run tr intrinsic_Size_l116_b ρ J r := Iff.rfl
theorem u_intrinsic_Size_j123 : Run tr intrinsic_Size_j123 ρ J r ↔ Run tr intrinsic_Size_j123_b ρ J r := Iff.rfl
theorem u_intrinsic_Size_l125 : Run tr intrinsic_Size_l125 ρ J r ↔ Run tr intrinsic_Size_l125_b ρ J r := Iff.rfl
theorem u_intrinsic_Size_s124 : Run tr intrinsic_Size_s124 ρ J r ↔ Run tr intrinsic_Size_s124_b ρ J r := Iff.rfl
theorem u_intrinsic_Size_j128 : Run tr intrinsic_Size_j128 ρ J r ↔ Run tr intrinsic_Size_j128_b ρ J r := Iff.rfl
theorem u_intrinsic_Size_l130 : Run tr intrinsic_Size_l130 ρ J r ↔ Run tr intrinsic_Size_l130_b ρ J r := Iff.rfl
theorem u_intrinsic_Size_l129 : Run tr intrinsic_Size_l129 ρ J r ↔ Run tr intrinsic_Size_l129_b ρ J r := Iff.rfl
theorem u_intrinsic_Size_l127 : Run tr intrinsic_Size_l127 ρ J r ↔ Run tr intrinsic_Size_l127_b ρ J r := Iff.rfl
theorem u_intrinsic_Size_l126 : Run tr intrinsic_Size_l126 ρ J r ↔ Run tr intrinsic_Size_l126_b ρ J r := Iff.rfl
theorem u_intrinsic_Size_j133 : Run tr intrinsic_Size_j133 ρ J r ↔ Run tr intrinsic_Size_j133_b ρ J r := Iff.rfl
theorem u_intrinsic_Size_j135 : Run tr intrinsic_Size_j135 ρ J r ↔ Run tr intrinsic_Size_j135_b ρ J r := Iff.rfl
theorem u_intrinsic_Size_l137 : Run tr intrinsic_Size_l137 ρ J r ↔ Run tr intrinsic_Size_l137_b ρ J r := Iff.rfl
theorem u_intrinsic_Size_l136 : Run tr intrinsic_Size_l136 ρ J r ↔ Run tr intrinsic_Size_l136_b ρ J r := Iff.rfl
theorem u_intrinsic_Size_s134 : Run tr intrinsic_Size_s134 ρ J r ↔ Run tr intrinsic_Size_s134_b ρ J r := Iff.rfl
theorem u_intrinsic_Size_l139 : Run tr intrinsic_Size_l139 ρ J r ↔ Run tr intrinsic_Size_l139_b ρ J r := Iff.rfl
theorem u_intrinsic_Size_s138 : Run tr intrinsic_Size_s138 ρ J r ↔ Run tr intrinsic_Size_s138_b ρ J r := Iff.rfl
theorem u_intrinsic_Size_j142 : Run tr intrinsic_Size_j142 ρ J r ↔ Run tr intrinsic_Size_j142_b ρ J r := Iff.rfl
theorem u_intrinsic_Size_j143 : Run tr intrinsic_Size_j143 ρ J r ↔ Run tr intrinsic_Size_j143_b ρ J r := Iff.rfl
theorem u_intrinsic_Size_l145 : Run tr intrinsic_Size_l145 ρ J r ↔ Run tr intrinsic_Size_l145_b ρ J r := Iff.rfl
theorem u_intrinsic_Size_l144 : Run tr intrinsic_Size_l144 ρ J r ↔ Run tr intrinsic_Size_l144_b ρ J r := Iff.rfl
theorem u_intrinsic_Size_l141 : Run tr intrinsic_Size_l141 ρ J r ↔ Run tr intrinsic_Size_l141_b ρ J r := Iff.rfl
theorem u_intrinsic_Size_l140 : Run tr intrinsic_Size_l140 ρ J r ↔ Run tr intrinsic_Size_l140_b ρ J r := Iff.rfl
theorem u_intrinsic_Size_j149 : Run tr intrinsic_Size_j149 ρ J r ↔ Run tr intrinsic_Size_j149_b ρ J r := Iff.rfl
theorem u_intrinsic_Size_l148 : Run tr intrinsic_Size_l148 ρ J r ↔ Run tr intrinsic_Size_l148_b ρ J r := Iff.rfl
theorem u_intrinsic_Size_l147 : Run tr intrinsic_Size_l147 ρ J r ↔ Run tr intrinsic_Size_l147_b ρ J r := Iff.rfl
theorem u_intrinsic_Size_l146 : Run tr intrinsic_Size_l146 ρ J r ↔ Run tr intrinsic_Size_l146_b ρ J r := Iff.rfl
theorem u_intrinsic_Size_l132 : Run tr intrinsic_Size_l132 ρ J r ↔ Run tr intrinsic_Size_l132_b ρ J r := Iff.rfl
theorem u_intrinsic_Size_l131 : Run tr intrinsic_Size_l131 ρ J r ↔ Run tr intrinsic_Size_l131_b ρ J r := Iff.rfl
theorem u_intrinsic_Size_l122 : Run tr intrinsic_Size_l122 ρ J r ↔ Run tr intrinsic_Size_l122_b ρ J r := Iff.rfl
theorem u_intrinsic_Size_l121 : Run tr intrinsic_Size_l121 ρ J r ↔ Run tr intrinsic_Size_l121_b ρ J r := Iff.rfl
theorem u_intrinsic_Size_l108 : Run tr intrinsic_Size_l108 ρ J r ↔ Run tr intrinsic_Size_l108_b ρ J r := Iff.rfl
theorem u_intrinsic_Size_j107 : Run tr intrinsic_Size_j107 ρ J r ↔ Run tr intrinsic_Size_j107_b ρ J r := Iff.rfl
theorem u_intrinsic_Size_j106 : Run tr intrinsic_Size_j106 ρ J r ↔ Run tr intrinsic_Size_j106_b ρ J r := Iff.rfl
theorem u_intrinsic_Size_l17 : Run tr intrinsic_Size_l17 ρ J r ↔ Run tr intrinsic_Size_l17_b ρ J r := Iff.rfl
theorem u_intrinsic_Size_l12 : Run tr intrinsic_Size_l12 ρ J r ↔ Run tr intrinsic_Size_l12_b ρ J r := Iff.rfl
theorem u_intrinsic_Size_l8 : Run tr intrinsic_Size_l8 ρ J r ↔ Run tr intrinsic_Size_l8_b ρ J r := Iff.rfl
theorem u_intrinsic_Size_l2 : Run tr intrinsic_Size_l2 ρ J r ↔ Run tr intrinsic_Size_l2_b ρ J r := Iff.rfl
theorem u_intrinsic_Size_j1 : Run tr intrinsic_Size_j1 ρ J r ↔ Run tr intrinsic_Size_j1_b ρ J r := Iff.rfl
theorem u_intrinsic_Size_j0 : Run tr intrinsic_Size_j0 ρ J r ↔ Run tr intrinsic_Size_j0_b ρ J r := Iff.rfl
theorem u_intrinsic_Size : Run tr intrinsic_Size ρ J r ↔ Run tr intrinsic_Size_b ρ J r := Iff.rfl
theorem u_law24_lives : Run tr law24_lives ρ J r ↔ Run tr law24_lives_b ρ J r := Iff.rfl
theorem u_law24_IntrinsicMore_l0 : Run tr law24_IntrinsicMore_l0 ρ J r ↔ Run tr law24_IntrinsicMore_l0_b ρ J r := Iff.rfl
theorem u_law24_IntrinsicMore : Run tr law24_IntrinsicMore ρ J r ↔ Run tr law24_IntrinsicMore_b ρ J r := Iff.rfl
theorem u_law24_IntrinsicEnough_j2 : Run tr law24_IntrinsicEnough_j2 ρ J r ↔ Run tr law24_IntrinsicEnough_j2_b ρ J r := Iff.rfl
theorem u_law24_IntrinsicEnough_l1 : Run tr law24_IntrinsicEnough_l1 ρ J r ↔ Run tr law24_IntrinsicEnough_l1_b ρ J r := Iff.rfl
theorem u_law24_IntrinsicEnough_l0 : Run tr law24_IntrinsicEnough_l0 ρ J r ↔ Run tr law24_IntrinsicEnough_l0_b ρ J r := Iff.rfl
theorem u_law24_IntrinsicEnough : Run tr law24_IntrinsicEnough ρ J r ↔ Run tr law24_IntrinsicEnough_b ρ J r := Iff.rfl
theorem u_ref22_Same_l0 : Run tr ref22_Same_l0 ρ J r ↔ Run tr ref22_Same_l0_b ρ J r := Iff.rfl
theorem u_ref22_Same : Run tr ref22_Same ρ J r ↔ Run tr ref22_Same_b ρ J r := Iff.rfl
theorem u_law24_IntrinsicTurned : Run tr law24_IntrinsicTurned ρ J r ↔ Run tr law24_IntrinsicTurned_b ρ J r := Iff.rfl
end
end Go.Proofs.Ytbebnjiolaomdaa.T
