/- The trees of the laws and of what they call, written down; the laws' pure statements. No condition. -/
import Derived.Test.YtolgoenpckiggaaSx4
set_option maxRecDepth 100000
set_option linter.unusedVariables false
namespace Go.Proofs.Ytolgoenpckiggaa.T
open Go Go.Proofs.Ytolgoenpckiggaa.Sx Go.Proofs.Ytolgoenpckiggaa.Sx.T Go.Proofs.Ytolgoenpckiggaa.Sx.Ex
abbrev v (i : Nat) : Ex := .var i
abbrev n (x : Int) : Ex := .int .i64 x
abbrev add (a b : Ex) : Ex := .bin (.ar .add .i64) a b
abbrev sub (a b : Ex) : Ex := .bin (.ar .sub .i64) a b
abbrev cmp (o : BinOp) (a b : Ex) : Ex := .bin (.cmp o) a b
abbrev at_ (j : Nat) (a b : Ex) : Ex := .bin (.cell j (.int .i64)) a b
/- parterre/spread.right -/
abbrev c_spread_right : Nat := 37
@[reducible] def spread_right_b : T := .ret [(.bin .and (.bin .and (cmp .geq (v 0) (n 0)) (cmp .lss (v 0) (n 1125899906842624))) (cmp .leq (v 1) (n 65536)))]
def spread_right : T := spread_right_b
/- parterre/spread.rooms -/
abbrev c_spread_rooms : Nat := 38
@[reducible] def spread_rooms_l0_b : T := .ite (cmp .lss (v 1) (.un .len (v 0)))
 (.ite (cmp .leq (n 0) (v 1))
  (.ite (.bin .or (cmp .lss (at_ 0 (v 0) (v 1)) (n 0)) (cmp .gtr (at_ 0 (v 0) (v 1)) (n 1125899906842624)))
   (.ret [(.bool false)])
   (.jump 0 [(add (v 1) (n 1))]))
  (.fail ""))
 (.ret [(.bool true)])
def spread_rooms_l0 : T := spread_rooms_l0_b
@[reducible] def spread_rooms_b : T := .loop [(n 0)] spread_rooms_l0
def spread_rooms : T := spread_rooms_b
/- parterre/spread.Up -/
abbrev c_spread_Up : Nat := 20
@[reducible] def spread_Up_j2_b : T := .ite (v 5)
 (.jump 0 [(v 6), (v 7)])
 (.ret [(v 7)])
def spread_Up_j2 : T := spread_Up_j2_b
@[reducible] def spread_Up_j3_b : T := .jump 1 [(v 5), (v 6), (v 7)]
def spread_Up_j3 : T := spread_Up_j3_b
@[reducible] def spread_Up_j5_b : T := .jump 3 [(add (v 5) (n 1)), (v 7)]
def spread_Up_j5 : T := spread_Up_j5_b
@[reducible] def spread_Up_j6_b : T := .jump 2 [(.bool true), (v 7), (v 8)]
def spread_Up_j6 : T := spread_Up_j6_b
@[reducible] def spread_Up_j8_b : T := .jump 5 [(add (v 7) (n 1)), (v 10), (v 11)]
def spread_Up_j8 : T := spread_Up_j8_b
@[reducible] def spread_Up_l7_b : T := .ite (cmp .lss (v 7) (.un .len (v 1)))
 (.letj spread_Up_j8 <|
  .ite (cmp .leq (n 0) (v 7))
  (.ite (cmp .lss (v 7) (.un .len (v 9)))
   (.ite (cmp .eql (.bin (.min .i64) (.bin (.max .i64) (.bin (.ar .quo .i64) (v 3) (v 6)) (n 1)) (sub (at_ 0 (v 1) (v 7)) (at_ 0 (v 9) (v 7)))) (n 0))
    (.jump 6 [(v 8), (v 9)])
    (.ite (cmp .lss (v 8) (.bin (.min .i64) (.bin (.max .i64) (.bin (.ar .quo .i64) (v 3) (v 6)) (n 1)) (sub (at_ 0 (v 1) (v 7)) (at_ 0 (v 9) (v 7)))))
     (.jump 4 [(v 8), (v 9)])
     (.jump 6 [(sub (v 8) (.bin (.min .i64) (.bin (.max .i64) (.bin (.ar .quo .i64) (v 3) (v 6)) (n 1)) (sub (at_ 0 (v 1) (v 7)) (at_ 0 (v 9) (v 7))))), (.tri .set (v 9) (v 7) (.bin .cons (add (at_ 0 (v 9) (v 7)) (.bin (.min .i64) (.bin (.max .i64) (.bin (.ar .quo .i64) (v 3) (v 6)) (n 1)) (sub (at_ 0 (v 1) (v 7)) (at_ 0 (v 9) (v 7))))) .nilc))])))
   (.fail ""))
  (.fail ""))
 (.jump 4 [(v 8), (v 9)])
def spread_Up_l7 : T := spread_Up_l7_b
@[reducible] def spread_Up_l4_b : T := .ite (cmp .lss (v 5) (.un .len (v 1)))
 (.letj spread_Up_j5 <|
  .ite (cmp .leq (n 0) (v 5))
  (.ite (cmp .lss (v 5) (.un .len (v 4)))
   (.ite (cmp .lss (at_ 0 (v 4) (v 5)) (at_ 0 (v 1) (v 5)))
    (.jump 4 [(add (v 6) (n 1))])
    (.jump 4 [(v 6)]))
   (.fail ""))
  (.fail ""))
 (.ite (cmp .eql (v 6) (n 0))
  (.jump 2 [(.bool false), (v 3), (v 4)])
  (.ite (cmp .neq (v 6) (n 0))
   (.letj spread_Up_j6 <|
    .loop [(n 0), (v 3), (v 4)] spread_Up_l7)
   (.fail "")))
def spread_Up_l4 : T := spread_Up_l4_b
@[reducible] def spread_Up_l1_b : T := .letj spread_Up_j2 <|
 .ite (cmp .gtr (v 3) (n 0))
 (.letj spread_Up_j3 <|
  .loop [(n 0), (n 0)] spread_Up_l4)
 (.jump 1 [(.bool false), (v 3), (v 4)])
def spread_Up_l1 : T := spread_Up_l1_b
@[reducible] def spread_Up_j0_b : T := .ite (v 2)
 (.ret [(.bin .make (.bin .cons (n 0) .nilc) (.un .len (v 1)))])
 (.loop [(v 0), (.bin .make (.bin .cons (n 0) .nilc) (.un .len (v 1)))] spread_Up_l1)
def spread_Up_j0 : T := spread_Up_j0_b
@[reducible] def spread_Up_b : T := .ite (cmp .leq (.un .len (v 1)) (n 17592186044416))
 (.letj spread_Up_j0 <|
  .call c_spread_right [(v 0), (.un .len (v 1))] 1 <|
  .ite (v 2)
  (.call c_spread_rooms [(v 1)] 1 <|
   .jump 0 [(.un .not (v 3))])
  (.jump 0 [(.bool true)]))
 (.fail "")
def spread_Up : T := spread_Up_b
/- parterre/base.Good$1 -/
abbrev c_base_Good_1 : Nat := 44
@[reducible] def base_Good_1_b : T := .ret [(.bin .and (cmp .geq (v 0) (v 1)) (cmp .leq (v 0) (v 2)))]
def base_Good_1 : T := base_Good_1_b
/- parterre/base.Good -/
abbrev c_base_Good : Nat := 36
@[reducible] def base_Good_j0_b : T := .ite (v 7)
 (.ret [(.bool false)])
 (.call c_base_Good_1 [(v 2), (n 0), (n 1073741824)] 1 <|
  .ite (.bin .or (.un .not (v 8)) (.bin .and (cmp .neq (v 1) (n 5)) (cmp .gtr (v 2) (n 0))))
  (.ret [(.bool false)])
  (.call c_base_Good_1 [(v 4), (n 0), (n 68719476736)] 1 <|
   .ite (.bin .or (.un .not (v 9)) (.bin .and (.un .not (v 3)) (cmp .gtr (v 4) (n 0))))
   (.ret [(.bool false)])
   (.ite (.bin .and (v 3) (.un .not (.bin .and (cmp .eql (v 0) (n 2)) (.bin .and (cmp .eql (v 1) (n 4)) (.bin .and (cmp .eql (v 2) (n 0)) (.bin .and (.bin .beq (v 3) (.bool true)) (.bin .and (cmp .eql (v 4) (v 4)) (.bin .and (cmp .eql (v 5) (v 5)) (cmp .eql (v 6) (v 6))))))))))
    (.ret [(.bool false)])
    (.call c_base_Good_1 [(v 5), (n 0), (n 1125899906842623)] 1 <|
     .ite (v 10)
     (.call c_base_Good_1 [(v 6), (v 5), (n 1125899906842624)] 1 <|
      .ret [(v 11)])
     (.ret [(.bool false)])))))
def base_Good_j0 : T := base_Good_j0_b
@[reducible] def base_Good_b : T := .letj base_Good_j0 <|
 .call c_base_Good_1 [(v 0), (n 1), (n 4)] 1 <|
 .ite (v 7)
 (.call c_base_Good_1 [(v 1), (n 1), (n 5)] 1 <|
  .jump 0 [(.un .not (v 8))])
 (.jump 0 [(.bool true)])
def base_Good : T := base_Good_b
/- parterre/maximise.good$1 -/
abbrev c_maximise_good_1 : Nat := 35
@[reducible] def maximise_good_1_b : T := .call c_base_Good [(v 0), (v 1), (v 2), (v 3), (v 4), (v 5), (v 6)] 1 <|
 .ret [(.un .not (v 7))]
def maximise_good_1 : T := maximise_good_1_b
/- parterre/maximise.good -/
abbrev c_maximise_good : Nat := 18
@[reducible] def maximise_good_j0_b : T := .ret [(.un .not (cmp .geq (v 1) (n 0)))]
def maximise_good_j0 : T := maximise_good_j0_b
@[reducible] def maximise_good_l1_b : T := .ite (cmp .lss (v 1) (.un .len (v 0)))
 (.ite (cmp .leq (n 0) (v 1))
  (.call c_maximise_good_1 [(at_ 0 (v 0) (v 1)), (at_ 1 (v 0) (v 1)), (at_ 2 (v 0) (v 1)), (.bin (.cell 3 (.bool)) (v 0) (v 1)), (at_ 4 (v 0) (v 1)), (at_ 5 (v 0) (v 1)), (at_ 6 (v 0) (v 1))] 1 <|
   .ite (v 2)
   (.jump 0 [(v 1)])
   (.jump 1 [(add (v 1) (n 1))]))
  (.fail ""))
 (.jump 0 [(n (-1))])
def maximise_good_l1 : T := maximise_good_l1_b
@[reducible] def maximise_good_b : T := .letj maximise_good_j0 <|
 .loop [(n 0)] maximise_good_l1
def maximise_good : T := maximise_good_b
/- parterre/fixed.Is -/
abbrev c_fixed_Is : Nat := 29
@[reducible] def fixed_Is_b : T := .ret [(.bin .and (cmp .geq (v 0) (n (-68719476736))) (cmp .leq (v 0) (n 68719476736)))]
def fixed_Is : T := fixed_Is_b
/- parterre/maximise.within -/
abbrev c_maximise_within : Nat := 19
@[reducible] def maximise_within_b : T := .ite (cmp .geq (v 0) (n 0))
 (.call c_fixed_Is [(v 0)] 1 <|
  .ret [(v 1)])
 (.ret [(.bool false)])
def maximise_within : T := maximise_within_b
/- parterre/maximise.Grow -/
abbrev c_maximise_Grow : Nat := 8
@[reducible] def maximise_Grow_l2_b : T := .ite (cmp .lss (v 6) (.un .len (.bin .copy (.bin .make (.bin .cons (n 0) (.bin .cons (n 0) (.bin .cons (n 0) (.bin .cons (.bool false) (.bin .cons (n 0) (.bin .cons (n 0) (.bin .cons (n 0) .nilc))))))) (.un .len (v 0))) (v 0))))
 (.ite (cmp .leq (n 0) (v 6))
  (.ite (cmp .lss (v 6) (.un .len (v 7)))
   (.ite (cmp .lss (v 6) (.un .len (v 5)))
    (.jump 1 [(add (v 6) (n 1)), (.tri (.put 5) (v 7) (v 6) (add (at_ 5 (v 7) (v 6)) (at_ 0 (v 5) (v 6))))])
    (.fail ""))
   (.fail ""))
  (.fail ""))
 (.ret [(v 7)])
def maximise_Grow_l2 : T := maximise_Grow_l2_b
@[reducible] def maximise_Grow_l1_b : T := .ite (cmp .lss (v 3) (.un .len (v 0)))
 (.ite (cmp .leq (n 0) (v 3))
  (.ite (cmp .lss (v 3) (.un .len (v 4)))
   (.jump 0 [(add (v 3) (n 1)), (.tri .set (v 4) (v 3) (.bin .cons (sub (at_ 6 (v 0) (v 3)) (at_ 5 (v 0) (v 3))) .nilc))])
   (.fail ""))
  (.fail ""))
 (.call c_spread_Up [(v 1), (v 4)] 1 <|
  .ite (cmp .leq (.un .len (v 0)) (n 2513169434916))
  (.loop [(n 0), (.bin .copy (.bin .make (.bin .cons (n 0) (.bin .cons (n 0) (.bin .cons (n 0) (.bin .cons (.bool false) (.bin .cons (n 0) (.bin .cons (n 0) (.bin .cons (n 0) .nilc))))))) (.un .len (v 0))) (v 0))] maximise_Grow_l2)
  (.fail ""))
def maximise_Grow_l1 : T := maximise_Grow_l1_b
@[reducible] def maximise_Grow_j0_b : T := .ite (v 2)
 (.ret [(v 0)])
 (.ite (cmp .leq (.un .len (v 0)) (n 17592186044416))
  (.loop [(n 0), (.bin .make (.bin .cons (n 0) .nilc) (.un .len (v 0)))] maximise_Grow_l1)
  (.fail ""))
def maximise_Grow_j0 : T := maximise_Grow_j0_b
@[reducible] def maximise_Grow_b : T := .letj maximise_Grow_j0 <|
 .call c_maximise_good [(v 0)] 1 <|
 .ite (v 2)
 (.call c_maximise_within [(v 1)] 1 <|
  .jump 0 [(.un .not (v 3))])
 (.jump 0 [(.bool true)])
def maximise_Grow : T := maximise_Grow_b
/- parterre/parterrelaw25.lives -/
abbrev c_law25_lives : Nat := 7
@[reducible] def law25_lives_b : T := .call c_maximise_Grow [(.bin .snoc (.bin .snoc .nil (.bin .cons (n 1) (.bin .cons (n 1) (.bin .cons (n 0) (.bin .cons (.bool false) (.bin .cons (n 0) (.bin .cons (n 1) (.bin .cons (n 3) .nilc)))))))) (.bin .cons (n 1) (.bin .cons (n 1) (.bin .cons (n 0) (.bin .cons (.bool false) (.bin .cons (n 0) (.bin .cons (n 2) (.bin .cons (n 10) .nilc)))))))), (n 5)] 1 <|
 .ite (.bin .or (.un .not (cmp .eql (.un .len (v 0)) (n 2))) (cmp .lss (n 0) (.un .len (v 0))))
 (.ite (.bin .or (.un .not (.bin .and (cmp .eql (.un .len (v 0)) (n 2)) (cmp .eql (at_ 5 (v 0) (n 0)) (n 3)))) (cmp .lss (n 1) (.un .len (v 0))))
  (.ret [(.bin .and (.bin .and (cmp .eql (.un .len (v 0)) (n 2)) (cmp .eql (at_ 5 (v 0) (n 0)) (n 3))) (cmp .eql (at_ 5 (v 0) (n 1)) (n 5)))])
  (.fail ""))
 (.fail "")
def law25_lives : T := law25_lives_b
/- parterre/parterreref22.Good -/
abbrev c_ref22_Good : Nat := 17
@[reducible] def ref22_Good_b : T := .ite (.bin .or (.bin .or (.bin .or (cmp .lss (v 0) (n 1)) (cmp .gtr (v 0) (n 4))) (cmp .lss (v 1) (n 1))) (cmp .gtr (v 1) (n 5)))
 (.ret [(.bool false)])
 (.ite (.bin .or (.bin .or (cmp .lss (v 2) (n 0)) (cmp .gtr (v 2) (n 1073741824))) (.bin .and (cmp .neq (v 1) (n 5)) (cmp .neq (v 2) (n 0))))
  (.ret [(.bool false)])
  (.ite (.bin .or (.bin .or (.bin .or (cmp .lss (v 4) (n 0)) (cmp .gtr (v 4) (n 68719476736))) (.bin .and (.un .not (v 3)) (cmp .neq (v 4) (n 0)))) (.bin .and (v 3) (.bin .or (cmp .neq (v 0) (n 2)) (cmp .neq (v 1) (n 4)))))
   (.ret [(.bool false)])
   (.ret [(.bin .and (.bin .and (.bin .and (cmp .geq (v 5) (n 0)) (cmp .lss (v 5) (n 1125899906842624))) (cmp .geq (v 6) (v 5))) (cmp .leq (v 6) (n 1125899906842624)))])))
def ref22_Good : T := ref22_Good_b
/- parterre/parterreref25.Good -/
abbrev c_ref25_Good : Nat := 6
@[reducible] def ref25_Good_l0_b : T := .ite (cmp .lss (v 1) (.un .len (v 0)))
 (.ite (cmp .leq (n 0) (v 1))
  (.call c_ref22_Good [(at_ 0 (v 0) (v 1)), (at_ 1 (v 0) (v 1)), (at_ 2 (v 0) (v 1)), (.bin (.cell 3 (.bool)) (v 0) (v 1)), (at_ 4 (v 0) (v 1)), (at_ 5 (v 0) (v 1)), (at_ 6 (v 0) (v 1))] 1 <|
   .ite (v 2)
   (.jump 0 [(add (v 1) (n 1))])
   (.ret [(.bool false)]))
  (.fail ""))
 (.ret [(.bool true)])
def ref25_Good_l0 : T := ref25_Good_l0_b
@[reducible] def ref25_Good_b : T := .loop [(n 0)] ref25_Good_l0
def ref25_Good : T := ref25_Good_b
/- parterre/parterrelaw25.MaximiseRoom -/
abbrev c_law25_MaximiseRoom : Nat := 3
@[reducible] def law25_MaximiseRoom_l1_b : T := .ite (cmp .lss (v 4) (.un .len (v 3)))
 (.ite (cmp .leq (n 0) (v 4))
  (.ite (cmp .lss (v 4) (.un .len (v 0)))
   (.ite (.bin .or (.bin .or (cmp .lss (at_ 5 (v 3) (v 4)) (at_ 5 (v 0) (v 4))) (cmp .gtr (at_ 5 (v 3) (v 4)) (at_ 6 (v 3) (v 4)))) (cmp .neq (at_ 6 (v 3) (v 4)) (at_ 6 (v 0) (v 4))))
    (.ret [(.bool false)])
    (.jump 0 [(add (v 4) (n 1)), (.bin .and (v 5) (cmp .eql (at_ 5 (v 3) (v 4)) (at_ 6 (v 3) (v 4)))), (add (v 6) (sub (at_ 5 (v 3) (v 4)) (at_ 5 (v 0) (v 4))))]))
   (.fail ""))
  (.fail ""))
 (.ite (.bin .or (cmp .eql (v 6) (v 1)) (.bin .and (v 5) (cmp .lss (v 6) (v 1))))
  (.call c_law25_lives [] 1 <|
   .ret [(v 7)])
  (.ret [(.bool false)]))
def law25_MaximiseRoom_l1 : T := law25_MaximiseRoom_l1_b
@[reducible] def law25_MaximiseRoom_j0_b : T := .ite (v 2)
 (.call c_law25_lives [] 1 <|
  .ret [(v 3)])
 (.call c_maximise_Grow [(v 0), (v 1)] 1 <|
  .ite (cmp .neq (.un .len (v 3)) (.un .len (v 0)))
  (.ret [(.bool false)])
  (.loop [(n 0), (.bool true), (n 0)] law25_MaximiseRoom_l1))
def law25_MaximiseRoom_j0 : T := law25_MaximiseRoom_j0_b
@[reducible] def law25_MaximiseRoom_b : T := .letj law25_MaximiseRoom_j0 <|
 .ite (cmp .gtr (.un .len (v 0)) (n 300))
 (.jump 0 [(.bool true)])
 (.call c_ref25_Good [(v 0)] 1 <|
  .jump 0 [(.bin .or (.bin .or (.un .not (v 2)) (cmp .lss (v 1) (n 0))) (cmp .gtr (v 1) (n 68719476736)))])
def law25_MaximiseRoom : T := law25_MaximiseRoom_b
/- parterre/fixed.Split -/
abbrev c_fixed_Split : Nat := 23
@[reducible] def fixed_Split_j1_b : T := .jump 0 [(add (v 2) (n 1)), (v 4)]
def fixed_Split_j1 : T := fixed_Split_j1_b
@[reducible] def fixed_Split_l0_b : T := .ite (cmp .lss (v 2) (.un .len (.bin .make (.bin .cons (n 0) .nilc) (v 1))))
 (.letj fixed_Split_j1 <|
  .ite (cmp .neq (v 1) (n 0))
  (.ite (cmp .leq (n 0) (v 2))
   (.ite (cmp .lss (v 2) (.un .len (v 3)))
    (.ite (cmp .lss (v 2) (.bin (.ar .rem .i64) (v 0) (v 1)))
     (.ite (cmp .lss (v 2) (.un .len (.tri .set (v 3) (v 2) (.bin .cons (.bin (.ar .quo .i64) (v 0) (v 1)) .nilc))))
      (.jump 1 [(.tri .set (.tri .set (v 3) (v 2) (.bin .cons (.bin (.ar .quo .i64) (v 0) (v 1)) .nilc)) (v 2) (.bin .cons (add (at_ 0 (.tri .set (v 3) (v 2) (.bin .cons (.bin (.ar .quo .i64) (v 0) (v 1)) .nilc)) (v 2)) (n 1)) .nilc))])
      (.fail ""))
     (.jump 1 [(.tri .set (v 3) (v 2) (.bin .cons (.bin (.ar .quo .i64) (v 0) (v 1)) .nilc))]))
    (.fail ""))
   (.fail ""))
  (.fail ""))
 (.ret [(v 3)])
def fixed_Split_l0 : T := fixed_Split_l0_b
@[reducible] def fixed_Split_b : T := .ite (.bin .or (.bin .or (cmp .lss (v 0) (n 0)) (cmp .lss (v 1) (n 1))) (cmp .gtr (v 1) (n 65536)))
 (.ret [.nil])
 (.ite (cmp .leq (n 0) (v 1))
  (.ite (cmp .leq (v 1) (n 17592186044416))
   (.loop [(n 0), (.bin .make (.bin .cons (n 0) .nilc) (v 1))] fixed_Split_l0)
   (.fail ""))
  (.fail ""))
def fixed_Split : T := fixed_Split_b
/- parterre/base.Raise -/
abbrev c_base_Raise : Nat := 25
@[reducible] def base_Raise_j0_b : T := .ret [(v 0), (v 1), (v 2), (v 3), (v 4), (v 5), (v 7)]
def base_Raise_j0 : T := base_Raise_j0_b
@[reducible] def base_Raise_b : T := .letj base_Raise_j0 <|
 .ite (cmp .lss (v 6) (v 5))
 (.jump 0 [(v 5)])
 (.jump 0 [(v 6)])
def base_Raise : T := base_Raise_b
/- parterre/maximise.Stretch -/
abbrev c_maximise_Stretch : Nat := 9
@[reducible] def maximise_Stretch_j2_b : T := .jump 0 [(add (v 3) (n 1)), (v 5)]
def maximise_Stretch_j2 : T := maximise_Stretch_j2_b
@[reducible] def maximise_Stretch_l4_b : T := .ite (cmp .lss (v 8) (.un .len (.bin .copy (.bin .make (.bin .cons (n 0) (.bin .cons (n 0) (.bin .cons (n 0) (.bin .cons (.bool false) (.bin .cons (n 0) (.bin .cons (n 0) (.bin .cons (n 0) .nilc))))))) (.un .len (v 0))) (v 0))))
 (.ite (cmp .leq (n 0) (v 8))
  (.ite (cmp .lss (v 8) (.un .len (v 9)))
   (.ite (cmp .lss (v 8) (.un .len (v 7)))
    (.call c_base_Raise [(at_ 0 (.tri (.put 5) (v 9) (v 8) (add (at_ 5 (v 9) (v 8)) (at_ 0 (v 7) (v 8)))) (v 8)), (at_ 1 (.tri (.put 5) (v 9) (v 8) (add (at_ 5 (v 9) (v 8)) (at_ 0 (v 7) (v 8)))) (v 8)), (at_ 2 (.tri (.put 5) (v 9) (v 8) (add (at_ 5 (v 9) (v 8)) (at_ 0 (v 7) (v 8)))) (v 8)), (.bin (.cell 3 (.bool)) (.tri (.put 5) (v 9) (v 8) (add (at_ 5 (v 9) (v 8)) (at_ 0 (v 7) (v 8)))) (v 8)), (at_ 4 (.tri (.put 5) (v 9) (v 8) (add (at_ 5 (v 9) (v 8)) (at_ 0 (v 7) (v 8)))) (v 8)), (at_ 5 (.tri (.put 5) (v 9) (v 8) (add (at_ 5 (v 9) (v 8)) (at_ 0 (v 7) (v 8)))) (v 8)), (at_ 6 (.tri (.put 5) (v 9) (v 8) (add (at_ 5 (v 9) (v 8)) (at_ 0 (v 7) (v 8)))) (v 8))] 7 <|
     .jump 2 [(add (v 8) (n 1)), (.tri .set (.tri (.put 5) (v 9) (v 8) (add (at_ 5 (v 9) (v 8)) (at_ 0 (v 7) (v 8)))) (v 8) (.bin .cons (v 10) (.bin .cons (v 11) (.bin .cons (v 12) (.bin .cons (v 13) (.bin .cons (v 14) (.bin .cons (v 15) (.bin .cons (v 16) .nilc))))))))])
    (.fail ""))
   (.fail ""))
  (.fail ""))
 (.ret [(v 9)])
def maximise_Stretch_l4 : T := maximise_Stretch_l4_b
@[reducible] def maximise_Stretch_l3_b : T := .ite (cmp .lss (v 6) (.un .len (v 5)))
 (.ite (cmp .leq (n 0) (v 6))
  (.ite (cmp .lss (v 6) (.un .len (v 4)))
   (.ite (cmp .leq (n 0) (at_ 0 (v 4) (v 6)))
    (.ite (cmp .lss (at_ 0 (v 4) (v 6)) (.un .len (v 7)))
     (.jump 1 [(add (v 6) (n 1)), (.tri .set (v 7) (at_ 0 (v 4) (v 6)) (.bin .cons (at_ 0 (v 5) (v 6)) .nilc))])
     (.fail ""))
    (.fail ""))
   (.fail ""))
  (.fail ""))
 (.ite (cmp .leq (.un .len (v 0)) (n 2513169434916))
  (.loop [(n 0), (.bin .copy (.bin .make (.bin .cons (n 0) (.bin .cons (n 0) (.bin .cons (n 0) (.bin .cons (.bool false) (.bin .cons (n 0) (.bin .cons (n 0) (.bin .cons (n 0) .nilc))))))) (.un .len (v 0))) (v 0))] maximise_Stretch_l4)
  (.fail ""))
def maximise_Stretch_l3 : T := maximise_Stretch_l3_b
@[reducible] def maximise_Stretch_l1_b : T := .ite (cmp .lss (v 3) (.un .len (v 0)))
 (.letj maximise_Stretch_j2 <|
  .ite (cmp .leq (n 0) (v 3))
  (.ite (cmp .eql (at_ 1 (v 0) (v 3)) (n 2))
   (.ite (cmp .leq (.bin .plus (.un .len (v 4)) (.un .len (.bin .snoc .nil (.bin .cons (v 3) .nilc)))) (n 4294967296))
    (.jump 1 [(.bin .snoc (v 4) (.bin .cons (v 3) .nilc))])
    (.fail ""))
   (.jump 1 [(v 4)]))
  (.fail ""))
 (.ite (cmp .leq (.un .len (v 0)) (n 17592186044416))
  (.call c_fixed_Split [(v 1), (.un .len (v 4))] 1 <|
   .loop [(n 0), (.bin .make (.bin .cons (n 0) .nilc) (.un .len (v 0)))] maximise_Stretch_l3)
  (.fail ""))
def maximise_Stretch_l1 : T := maximise_Stretch_l1_b
@[reducible] def maximise_Stretch_j0_b : T := .ite (v 2)
 (.ret [(v 0)])
 (.loop [(n 0), .nil] maximise_Stretch_l1)
def maximise_Stretch_j0 : T := maximise_Stretch_j0_b
@[reducible] def maximise_Stretch_b : T := .letj maximise_Stretch_j0 <|
 .call c_maximise_good [(v 0)] 1 <|
 .ite (v 2)
 (.call c_maximise_within [(v 1)] 1 <|
  .jump 0 [(.un .not (v 3))])
 (.jump 0 [(.bool true)])
def maximise_Stretch : T := maximise_Stretch_b
/- parterre/maximise.Full -/
abbrev c_maximise_Full : Nat := 10
@[reducible] def maximise_Full_j1_b : T := .jump 0 [(add (v 2) (n 1)), (v 4)]
def maximise_Full_j1 : T := maximise_Full_j1_b
@[reducible] def maximise_Full_l0_b : T := .ite (cmp .lss (v 2) (.un .len (.bin .copy (.bin .make (.bin .cons (n 0) (.bin .cons (n 0) (.bin .cons (n 0) (.bin .cons (.bool false) (.bin .cons (n 0) (.bin .cons (n 0) (.bin .cons (n 0) .nilc))))))) (.un .len (v 0))) (v 0))))
 (.ite (cmp .leq (n 0) (v 2))
  (.ite (cmp .lss (v 2) (.un .len (v 3)))
   (.letj maximise_Full_j1 <|
    .ite (cmp .neq (at_ 6 (v 3) (v 2)) (n 1125899906842624))
    (.jump 1 [(.tri (.put 5) (v 3) (v 2) (at_ 6 (v 3) (v 2)))])
    (.jump 1 [(v 3)]))
   (.fail ""))
  (.fail ""))
 (.ret [(v 3)])
def maximise_Full_l0 : T := maximise_Full_l0_b
@[reducible] def maximise_Full_b : T := .call c_maximise_good [(v 0)] 1 <|
 .ite (v 1)
 (.ite (cmp .leq (.un .len (v 0)) (n 2513169434916))
  (.loop [(n 0), (.bin .copy (.bin .make (.bin .cons (n 0) (.bin .cons (n 0) (.bin .cons (n 0) (.bin .cons (.bool false) (.bin .cons (n 0) (.bin .cons (n 0) (.bin .cons (n 0) .nilc))))))) (.un .len (v 0))) (v 0))] maximise_Full_l0)
  (.fail ""))
 (.ret [(v 0)])
def maximise_Full : T := maximise_Full_b
/- parterre/parterrelaw25.MaximiseWhole -/
abbrev c_law25_MaximiseWhole : Nat := 4
@[reducible] def law25_MaximiseWhole_l1_b : T := .ite (cmp .lss (v 5) (.un .len (v 3)))
 (.ite (cmp .leq (n 0) (v 5))
  (.ite (.bin .or (.un .not (cmp .neq (at_ 1 (v 3) (v 5)) (n 2))) (cmp .lss (v 5) (.un .len (v 0))))
   (.ite (.bin .or (.bin .and (cmp .neq (at_ 1 (v 3) (v 5)) (n 2)) (cmp .neq (at_ 5 (v 3) (v 5)) (at_ 5 (v 0) (v 5)))) (cmp .lss (v 5) (.un .len (v 4))))
    (.ite (.bin .or (.bin .and (cmp .neq (at_ 1 (v 3) (v 5)) (n 2)) (cmp .neq (at_ 5 (v 3) (v 5)) (at_ 5 (v 0) (v 5)))) (cmp .lss (v 5) (.un .len (v 0))))
     (.ite (.bin .or (.un .not (.bin .and (.un .not (.bin .and (cmp .neq (at_ 1 (v 3) (v 5)) (n 2)) (cmp .neq (at_ 5 (v 3) (v 5)) (at_ 5 (v 0) (v 5))))) (cmp .neq (at_ 5 (v 4) (v 5)) (at_ 6 (v 0) (v 5))))) (cmp .lss (v 5) (.un .len (v 0))))
      (.ite (.bin .or (.bin .and (cmp .neq (at_ 1 (v 3) (v 5)) (n 2)) (cmp .neq (at_ 5 (v 3) (v 5)) (at_ 5 (v 0) (v 5)))) (.bin .and (cmp .neq (at_ 5 (v 4) (v 5)) (at_ 6 (v 0) (v 5))) (cmp .neq (at_ 6 (v 0) (v 5)) (n 1125899906842624))))
       (.ret [(.bool false)])
       (.ite (cmp .lss (v 5) (.un .len (v 0)))
        (.jump 0 [(add (v 5) (n 1)), (.bin .or (v 6) (cmp .eql (at_ 1 (v 3) (v 5)) (n 2))), (add (v 7) (sub (at_ 5 (v 3) (v 5)) (at_ 5 (v 0) (v 5))))])
        (.fail "")))
      (.fail ""))
     (.fail ""))
    (.fail ""))
   (.fail ""))
  (.fail ""))
 (.ite (.bin .or (.bin .and (.un .not (v 6)) (cmp .eql (v 7) (n 0))) (.bin .and (v 6) (cmp .eql (v 7) (v 1))))
  (.call c_law25_lives [] 1 <|
   .ret [(v 8)])
  (.ret [(.bool false)]))
def law25_MaximiseWhole_l1 : T := law25_MaximiseWhole_l1_b
@[reducible] def law25_MaximiseWhole_j0_b : T := .ite (v 2)
 (.call c_law25_lives [] 1 <|
  .ret [(v 3)])
 (.call c_maximise_Stretch [(v 0), (v 1)] 1 <|
  .call c_maximise_Full [(v 0)] 1 <|
  .ite (.bin .or (cmp .neq (.un .len (v 3)) (.un .len (v 0))) (cmp .neq (.un .len (v 4)) (.un .len (v 0))))
  (.ret [(.bool false)])
  (.loop [(n 0), (.bool false), (n 0)] law25_MaximiseWhole_l1))
def law25_MaximiseWhole_j0 : T := law25_MaximiseWhole_j0_b
@[reducible] def law25_MaximiseWhole_b : T := .letj law25_MaximiseWhole_j0 <|
 .ite (cmp .gtr (.un .len (v 0)) (n 300))
 (.jump 0 [(.bool true)])
 (.call c_ref25_Good [(v 0)] 1 <|
  .jump 0 [(.bin .or (.bin .or (.un .not (v 2)) (cmp .lss (v 1) (n 0))) (cmp .gtr (v 1) (n 68719476736)))])
def law25_MaximiseWhole : T := law25_MaximiseWhole_b
/- parterre/maximise.Total$1 -/
abbrev c_maximise_Total_1 : Nat := 28
@[reducible] def maximise_Total_1_b : T := .call c_maximise_within [(v 0)] 1 <|
 .ret [(.un .not (v 1))]
def maximise_Total_1 : T := maximise_Total_1_b
/- parterre/maximise.Total -/
abbrev c_maximise_Total : Nat := 11
@[reducible] def maximise_Total_l1_b : T := .ite (cmp .lss (v 3) (.un .len (v 0)))
 (.ite (cmp .leq (n 0) (v 3))
  (.ite (cmp .lss (v 3) (.un .len (v 1)))
   (.call c_fixed_Is [(add (v 4) (add (at_ 5 (v 0) (v 3)) (at_ 0 (v 1) (v 3))))] 1 <|
    .ite (v 5)
    (.jump 0 [(add (v 3) (n 1)), (add (v 4) (add (at_ 5 (v 0) (v 3)) (at_ 0 (v 1) (v 3))))])
    (.ret [(n 0), (n 10)]))
   (.fail ""))
  (.fail ""))
 (.ret [(v 4), (n 0)])
def maximise_Total_l1 : T := maximise_Total_l1_b
@[reducible] def maximise_Total_j0_b : T := .ite (v 2)
 (.ret [(n 0), (n 2)])
 (.loop [(n 0), (n 0)] maximise_Total_l1)
def maximise_Total_j0 : T := maximise_Total_j0_b
@[reducible] def maximise_Total_j2_b : T := .jump 0 [(cmp .geq (v 3) (n 0))]
def maximise_Total_j2 : T := maximise_Total_j2_b
@[reducible] def maximise_Total_l3_b : T := .ite (cmp .lss (v 3) (.un .len (v 1)))
 (.ite (cmp .leq (n 0) (v 3))
  (.call c_maximise_Total_1 [(at_ 0 (v 1) (v 3))] 1 <|
   .ite (v 4)
   (.jump 1 [(v 3)])
   (.jump 2 [(add (v 3) (n 1))]))
  (.fail ""))
 (.jump 1 [(n (-1))])
def maximise_Total_l3 : T := maximise_Total_l3_b
@[reducible] def maximise_Total_b : T := .letj maximise_Total_j0 <|
 .call c_maximise_good [(v 0)] 1 <|
 .ite (.bin .or (.un .not (v 2)) (cmp .neq (.un .len (v 1)) (.un .len (v 0))))
 (.jump 0 [(.bool true)])
 (.letj maximise_Total_j2 <|
  .loop [(n 0)] maximise_Total_l3)
def maximise_Total : T := maximise_Total_b
/- parterre/parterreref25.within -/
abbrev c_ref25_within : Nat := 30
@[reducible] def ref25_within_b : T := .ret [(.bin .and (cmp .geq (v 0) (n 0)) (cmp .leq (v 0) (n 68719476736)))]
def ref25_within : T := ref25_within_b
/- parterre/parterreref25.Total -/
abbrev c_ref25_Total : Nat := 12
@[reducible] def ref25_Total_l1_b : T := .ite (cmp .lss (v 4) (.un .len (v 0)))
 (.ite (cmp .leq (n 0) (v 4))
  (.ite (cmp .lss (v 4) (.un .len (v 1)))
   (.ite (cmp .gtr (add (add (v 5) (at_ 5 (v 0) (v 4))) (at_ 0 (v 1) (v 4))) (n 68719476736))
    (.ret [(n 0), (n 10)])
    (.jump 1 [(add (v 4) (n 1)), (add (add (v 5) (at_ 5 (v 0) (v 4))) (at_ 0 (v 1) (v 4)))]))
   (.fail ""))
  (.fail ""))
 (.ret [(v 5), (n 0)])
def ref25_Total_l1 : T := ref25_Total_l1_b
@[reducible] def ref25_Total_l0_b : T := .ite (cmp .lss (v 3) (.un .len (v 0)))
 (.ite (cmp .leq (n 0) (v 3))
  (.ite (cmp .lss (v 3) (.un .len (v 1)))
   (.call c_ref25_within [(at_ 0 (v 1) (v 3))] 1 <|
    .ite (v 4)
    (.jump 0 [(add (v 3) (n 1))])
    (.ret [(n 0), (n 2)]))
   (.fail ""))
  (.fail ""))
 (.loop [(n 0), (n 0)] ref25_Total_l1)
def ref25_Total_l0 : T := ref25_Total_l0_b
@[reducible] def ref25_Total_b : T := .call c_ref25_Good [(v 0)] 1 <|
 .ite (.bin .or (.un .not (v 2)) (cmp .neq (.un .len (v 1)) (.un .len (v 0))))
 (.ret [(n 0), (n 2)])
 (.loop [(n 0)] ref25_Total_l0)
def ref25_Total : T := ref25_Total_b
/- parterre/parterreref23.Right -/
abbrev c_ref23_Right : Nat := 41
@[reducible] def ref23_Right_l0_b : T := .ite (cmp .lss (v 2) (.un .len (v 1)))
 (.ite (cmp .leq (n 0) (v 2))
  (.ite (.bin .or (cmp .lss (at_ 0 (v 1) (v 2)) (n 0)) (cmp .gtr (at_ 0 (v 1) (v 2)) (n 1125899906842624)))
   (.ret [(.bool false)])
   (.jump 0 [(add (v 2) (n 1))]))
  (.fail ""))
 (.ret [(.bool true)])
def ref23_Right_l0 : T := ref23_Right_l0_b
@[reducible] def ref23_Right_b : T := .ite (.bin .or (.bin .or (cmp .lss (v 0) (n 0)) (cmp .geq (v 0) (n 1125899906842624))) (cmp .gtr (.un .len (v 1)) (n 65536)))
 (.ret [(.bool false)])
 (.loop [(n 0)] ref23_Right_l0)
def ref23_Right : T := ref23_Right_b
/- parterre/parterreref23.taken -/
abbrev c_ref23_taken : Nat := 42
@[reducible] def ref23_taken_l0_b : T := .ite (cmp .lss (v 3) (.un .len (v 1)))
 (.ite (cmp .leq (n 0) (v 3))
  (.jump 0 [(add (v 3) (n 1)), (.bin (.min .i64) (add (v 0) (n 1)) (add (v 4) (.bin (.min .i64) (at_ 0 (v 1) (v 3)) (v 2))))])
  (.fail ""))
 (.ret [(v 4)])
def ref23_taken_l0 : T := ref23_taken_l0_b
@[reducible] def ref23_taken_b : T := .loop [(n 0), (n 0)] ref23_taken_l0
def ref23_taken : T := ref23_taken_b
/- parterre/parterreref23.Up -/
abbrev c_ref23_Up : Nat := 31
@[reducible] def ref23_Up_j2_b : T := .jump 1 [(add (v 6) (n 1)), (v 9), (v 10)]
def ref23_Up_j2 : T := ref23_Up_j2_b
@[reducible] def ref23_Up_l1_b : T := .ite (cmp .lss (v 6) (.un .len (v 1)))
 (.letj ref23_Up_j2 <|
  .ite (cmp .leq (n 0) (v 6))
  (.ite (cmp .lss (v 6) (.un .len (v 8)))
   (.ite (.bin .and (cmp .gtr (at_ 0 (v 1) (v 6)) (v 3)) (cmp .gtr (v 7) (n 0)))
    (.ite (cmp .lss (v 6) (.un .len (.tri .set (v 8) (v 6) (.bin .cons (.bin (.min .i64) (at_ 0 (v 1) (v 6)) (v 3)) .nilc))))
     (.jump 2 [(sub (v 7) (n 1)), (.tri .set (.tri .set (v 8) (v 6) (.bin .cons (.bin (.min .i64) (at_ 0 (v 1) (v 6)) (v 3)) .nilc)) (v 6) (.bin .cons (add (at_ 0 (.tri .set (v 8) (v 6) (.bin .cons (.bin (.min .i64) (at_ 0 (v 1) (v 6)) (v 3)) .nilc)) (v 6)) (n 1)) .nilc))])
     (.fail ""))
    (.jump 2 [(v 7), (.tri .set (v 8) (v 6) (.bin .cons (.bin (.min .i64) (at_ 0 (v 1) (v 6)) (v 3)) .nilc))]))
   (.fail ""))
  (.fail ""))
 (.ret [(v 8)])
def ref23_Up_l1 : T := ref23_Up_l1_b
@[reducible] def ref23_Up_l0_b : T := .ite (cmp .gtr (sub (v 4) (v 3)) (n 1))
 (.call c_ref23_taken [(v 0), (v 1), (.bin (.ar .quo .i64) (add (v 3) (v 4)) (n 2))] 1 <|
  .ite (cmp .leq (v 5) (v 0))
  (.jump 0 [(.bin (.ar .quo .i64) (add (v 3) (v 4)) (n 2)), (v 4)])
  (.jump 0 [(v 3), (.bin (.ar .quo .i64) (add (v 3) (v 4)) (n 2))]))
 (.call c_ref23_taken [(v 0), (v 1), (v 3)] 1 <|
  .loop [(n 0), (sub (v 0) (v 5)), (.bin .make (.bin .cons (n 0) .nilc) (.un .len (v 1)))] ref23_Up_l1)
def ref23_Up_l0 : T := ref23_Up_l0_b
@[reducible] def ref23_Up_b : T := .ite (cmp .leq (.un .len (v 1)) (n 17592186044416))
 (.call c_ref23_Right [(v 0), (v 1)] 1 <|
  .ite (v 2)
  (.loop [(n 0), (n 1125899906842625)] ref23_Up_l0)
  (.ret [(.bin .make (.bin .cons (n 0) .nilc) (.un .len (v 1)))]))
 (.fail "")
def ref23_Up : T := ref23_Up_b
/- parterre/parterreref25.Grow -/
abbrev c_ref25_Grow : Nat := 14
@[reducible] def ref25_Grow_l2_b : T := .ite (cmp .lss (v 6) (.un .len (v 0)))
 (.ite (cmp .leq (n 0) (v 6))
  (.ite (cmp .lss (v 6) (.un .len (v 5)))
   (.ite (cmp .leq (.bin .plus (.un .len (v 7)) (.un .len (.bin .snoc .nil (.bin .cons (at_ 0 (v 0) (v 6)) (.bin .cons (at_ 1 (v 0) (v 6)) (.bin .cons (at_ 2 (v 0) (v 6)) (.bin .cons (.bin (.cell 3 (.bool)) (v 0) (v 6)) (.bin .cons (at_ 4 (v 0) (v 6)) (.bin .cons (add (at_ 5 (v 0) (v 6)) (at_ 0 (v 5) (v 6))) (.bin .cons (at_ 6 (v 0) (v 6)) .nilc)))))))))) (n 4294967296))
    (.jump 1 [(add (v 6) (n 1)), (.bin .snoc (v 7) (.bin .cons (at_ 0 (v 0) (v 6)) (.bin .cons (at_ 1 (v 0) (v 6)) (.bin .cons (at_ 2 (v 0) (v 6)) (.bin .cons (.bin (.cell 3 (.bool)) (v 0) (v 6)) (.bin .cons (at_ 4 (v 0) (v 6)) (.bin .cons (add (at_ 5 (v 0) (v 6)) (at_ 0 (v 5) (v 6))) (.bin .cons (at_ 6 (v 0) (v 6)) .nilc))))))))])
    (.fail ""))
   (.fail ""))
  (.fail ""))
 (.ret [(v 7)])
def ref25_Grow_l2 : T := ref25_Grow_l2_b
@[reducible] def ref25_Grow_l1_b : T := .ite (cmp .lss (v 3) (.un .len (v 0)))
 (.ite (cmp .leq (n 0) (v 3))
  (.ite (cmp .leq (.bin .plus (.un .len (v 4)) (.un .len (.bin .snoc .nil (.bin .cons (sub (at_ 6 (v 0) (v 3)) (at_ 5 (v 0) (v 3))) .nilc)))) (n 4294967296))
   (.jump 0 [(add (v 3) (n 1)), (.bin .snoc (v 4) (.bin .cons (sub (at_ 6 (v 0) (v 3)) (at_ 5 (v 0) (v 3))) .nilc))])
   (.fail ""))
  (.fail ""))
 (.call c_ref23_Up [(v 1), (v 4)] 1 <|
  .loop [(n 0), .nil] ref25_Grow_l2)
def ref25_Grow_l1 : T := ref25_Grow_l1_b
@[reducible] def ref25_Grow_j0_b : T := .ite (v 2)
 (.ret [(v 0)])
 (.loop [(n 0), .nil] ref25_Grow_l1)
def ref25_Grow_j0 : T := ref25_Grow_j0_b
@[reducible] def ref25_Grow_b : T := .letj ref25_Grow_j0 <|
 .call c_ref25_Good [(v 0)] 1 <|
 .ite (v 2)
 (.call c_ref25_within [(v 1)] 1 <|
  .jump 0 [(.un .not (v 3))])
 (.jump 0 [(.bool true)])
def ref25_Grow : T := ref25_Grow_b
/- parterre/parterreref22.Same -/
abbrev c_ref22_Same : Nat := 13
@[reducible] def ref22_Same_l0_b : T := .ite (cmp .lss (v 2) (.un .len (v 0)))
 (.ite (cmp .leq (n 0) (v 2))
  (.ite (cmp .lss (v 2) (.un .len (v 1)))
   (.ite (.bin .and (cmp .eql (at_ 0 (v 0) (v 2)) (at_ 0 (v 1) (v 2))) (.bin .and (cmp .eql (at_ 1 (v 0) (v 2)) (at_ 1 (v 1) (v 2))) (.bin .and (cmp .eql (at_ 2 (v 0) (v 2)) (at_ 2 (v 1) (v 2))) (.bin .and (.bin .beq (.bin (.cell 3 (.bool)) (v 0) (v 2)) (.bin (.cell 3 (.bool)) (v 1) (v 2))) (.bin .and (cmp .eql (at_ 4 (v 0) (v 2)) (at_ 4 (v 1) (v 2))) (.bin .and (cmp .eql (at_ 5 (v 0) (v 2)) (at_ 5 (v 1) (v 2))) (cmp .eql (at_ 6 (v 0) (v 2)) (at_ 6 (v 1) (v 2)))))))))
    (.jump 0 [(add (v 2) (n 1))])
    (.ret [(.bool false)]))
   (.fail ""))
  (.fail ""))
 (.ret [(.bool true)])
def ref22_Same_l0 : T := ref22_Same_l0_b
@[reducible] def ref22_Same_b : T := .ite (cmp .neq (.un .len (v 0)) (.un .len (v 1)))
 (.ret [(.bool false)])
 (.loop [(n 0)] ref22_Same_l0)
def ref22_Same : T := ref22_Same_b
/- parterre/parterreref25.Full -/
abbrev c_ref25_Full : Nat := 15
@[reducible] def ref25_Full_j1_b : T := .ite (cmp .leq (.bin .plus (.un .len (v 3)) (.un .len (.bin .snoc .nil (.bin .cons (at_ 0 (v 0) (v 2)) (.bin .cons (at_ 1 (v 0) (v 2)) (.bin .cons (at_ 2 (v 0) (v 2)) (.bin .cons (.bin (.cell 3 (.bool)) (v 0) (v 2)) (.bin .cons (at_ 4 (v 0) (v 2)) (.bin .cons (v 4) (.bin .cons (at_ 6 (v 0) (v 2)) .nilc)))))))))) (n 4294967296))
 (.jump 0 [(add (v 2) (n 1)), (.bin .snoc (v 3) (.bin .cons (at_ 0 (v 0) (v 2)) (.bin .cons (at_ 1 (v 0) (v 2)) (.bin .cons (at_ 2 (v 0) (v 2)) (.bin .cons (.bin (.cell 3 (.bool)) (v 0) (v 2)) (.bin .cons (at_ 4 (v 0) (v 2)) (.bin .cons (v 4) (.bin .cons (at_ 6 (v 0) (v 2)) .nilc))))))))])
 (.fail "")
def ref25_Full_j1 : T := ref25_Full_j1_b
@[reducible] def ref25_Full_l0_b : T := .ite (cmp .lss (v 2) (.un .len (v 0)))
 (.ite (cmp .leq (n 0) (v 2))
  (.letj ref25_Full_j1 <|
   .ite (cmp .neq (at_ 6 (v 0) (v 2)) (n 1125899906842624))
   (.jump 1 [(at_ 6 (v 0) (v 2))])
   (.jump 1 [(at_ 5 (v 0) (v 2))]))
  (.fail ""))
 (.ret [(v 3)])
def ref25_Full_l0 : T := ref25_Full_l0_b
@[reducible] def ref25_Full_b : T := .call c_ref25_Good [(v 0)] 1 <|
 .ite (v 1)
 (.loop [(n 0), .nil] ref25_Full_l0)
 (.ret [(v 0)])
def ref25_Full : T := ref25_Full_b
/- parterre/parterreref01.Split -/
abbrev c_ref01_Split : Nat := 32
@[reducible] def ref01_Split_j1_b : T := .ite (cmp .leq (.bin .plus (.un .len (v 3)) (.un .len (.bin .snoc .nil (.bin .cons (v 4) .nilc)))) (n 4294967296))
 (.jump 0 [(add (v 2) (n 1)), (.bin .snoc (v 3) (.bin .cons (v 4) .nilc))])
 (.fail "")
def ref01_Split_j1 : T := ref01_Split_j1_b
@[reducible] def ref01_Split_l0_b : T := .ite (cmp .lss (v 2) (v 1))
 (.ite (cmp .neq (v 1) (n 0))
  (.letj ref01_Split_j1 <|
   .ite (cmp .lss (v 2) (.bin (.ar .rem .i64) (v 0) (v 1)))
   (.jump 1 [(add (.bin (.ar .quo .i64) (v 0) (v 1)) (n 1))])
   (.jump 1 [(.bin (.ar .quo .i64) (v 0) (v 1))]))
  (.fail ""))
 (.ret [(v 3)])
def ref01_Split_l0 : T := ref01_Split_l0_b
@[reducible] def ref01_Split_b : T := .ite (.bin .or (.bin .or (cmp .lss (v 0) (n 0)) (cmp .lss (v 1) (n 1))) (cmp .gtr (v 1) (n 65536)))
 (.ret [.nil])
 (.loop [(n 0), .nil] ref01_Split_l0)
def ref01_Split : T := ref01_Split_b
/- parterre/parterreref22.Raise -/
abbrev c_ref22_Raise : Nat := 33
@[reducible] def ref22_Raise_b : T := .ret [(v 0), (v 1), (v 2), (v 3), (v 4), (v 5), (.bin (.max .i64) (v 6) (v 5))]
def ref22_Raise : T := ref22_Raise_b
/- parterre/parterreref25.Stretch -/
abbrev c_ref25_Stretch : Nat := 16
@[reducible] def ref25_Stretch_j2_b : T := .jump 0 [(add (v 3) (n 1)), (v 5)]
def ref25_Stretch_j2 : T := ref25_Stretch_j2_b
@[reducible] def ref25_Stretch_j4_b : T := .call c_ref22_Raise [(at_ 0 (v 0) (v 6)), (at_ 1 (v 0) (v 6)), (at_ 2 (v 0) (v 6)), (.bin (.cell 3 (.bool)) (v 0) (v 6)), (at_ 4 (v 0) (v 6)), (v 10), (at_ 6 (v 0) (v 6))] 7 <|
 .ite (cmp .leq (.bin .plus (.un .len (v 7)) (.un .len (.bin .snoc .nil (.bin .cons (v 11) (.bin .cons (v 12) (.bin .cons (v 13) (.bin .cons (v 14) (.bin .cons (v 15) (.bin .cons (v 16) (.bin .cons (v 17) .nilc)))))))))) (n 4294967296))
 (.jump 1 [(add (v 6) (n 1)), (.bin .snoc (v 7) (.bin .cons (v 11) (.bin .cons (v 12) (.bin .cons (v 13) (.bin .cons (v 14) (.bin .cons (v 15) (.bin .cons (v 16) (.bin .cons (v 17) .nilc)))))))), (v 9)])
 (.fail "")
def ref25_Stretch_j4 : T := ref25_Stretch_j4_b
@[reducible] def ref25_Stretch_l3_b : T := .ite (cmp .lss (v 6) (.un .len (v 0)))
 (.ite (cmp .leq (n 0) (v 6))
  (.letj ref25_Stretch_j4 <|
   .ite (.bin .and (cmp .eql (at_ 1 (v 0) (v 6)) (n 2)) (cmp .lss (v 8) (.un .len (v 5))))
   (.ite (cmp .leq (n 0) (v 8))
    (.jump 2 [(add (v 8) (n 1)), (add (at_ 5 (v 0) (v 6)) (at_ 0 (v 5) (v 8)))])
    (.fail ""))
   (.jump 2 [(v 8), (at_ 5 (v 0) (v 6))]))
  (.fail ""))
 (.ret [(v 7)])
def ref25_Stretch_l3 : T := ref25_Stretch_l3_b
@[reducible] def ref25_Stretch_l1_b : T := .ite (cmp .lss (v 3) (.un .len (v 0)))
 (.letj ref25_Stretch_j2 <|
  .ite (cmp .leq (n 0) (v 3))
  (.ite (cmp .eql (at_ 1 (v 0) (v 3)) (n 2))
   (.jump 1 [(add (v 4) (n 1))])
   (.jump 1 [(v 4)]))
  (.fail ""))
 (.call c_ref01_Split [(v 1), (v 4)] 1 <|
  .loop [(n 0), .nil, (n 0)] ref25_Stretch_l3)
def ref25_Stretch_l1 : T := ref25_Stretch_l1_b
@[reducible] def ref25_Stretch_j0_b : T := .ite (v 2)
 (.ret [(v 0)])
 (.loop [(n 0), (n 0)] ref25_Stretch_l1)
def ref25_Stretch_j0 : T := ref25_Stretch_j0_b
@[reducible] def ref25_Stretch_b : T := .letj ref25_Stretch_j0 <|
 .call c_ref25_Good [(v 0)] 1 <|
 .ite (v 2)
 (.call c_ref25_within [(v 1)] 1 <|
  .jump 0 [(.un .not (v 3))])
 (.jump 0 [(.bool true)])
def ref25_Stretch : T := ref25_Stretch_b
/- parterre/parterrelaw25.MaximiseTells -/
abbrev c_law25_MaximiseTells : Nat := 5
@[reducible] def law25_MaximiseTells_b : T := .ite (.bin .or (cmp .gtr (.un .len (v 0)) (n 300)) (cmp .gtr (.un .len (v 1)) (n 300)))
 (.call c_law25_lives [] 1 <|
  .ret [(v 3)])
 (.call c_maximise_Total [(v 0), (v 1)] 2 <|
  .call c_ref25_Total [(v 0), (v 1)] 2 <|
  .ite (.bin .and (cmp .eql (v 3) (v 5)) (cmp .eql (v 4) (v 6)))
  (.call c_maximise_Grow [(v 0), (v 2)] 1 <|
   .call c_ref25_Grow [(v 0), (v 2)] 1 <|
   .call c_ref22_Same [(v 7), (v 8)] 1 <|
   .ite (v 9)
   (.call c_maximise_Full [(v 0)] 1 <|
    .call c_ref25_Full [(v 0)] 1 <|
    .call c_ref22_Same [(v 10), (v 11)] 1 <|
    .ite (v 12)
    (.call c_maximise_Stretch [(v 0), (v 2)] 1 <|
     .call c_ref25_Stretch [(v 0), (v 2)] 1 <|
     .call c_ref22_Same [(v 13), (v 14)] 1 <|
     .ite (v 15)
     (.call c_law25_lives [] 1 <|
      .ret [(v 16)])
     (.ret [(.bool false)]))
    (.ret [(.bool false)]))
   (.ret [(.bool false)]))
  (.ret [(.bool false)]))
def law25_MaximiseTells : T := law25_MaximiseTells_b
def sigL : List (Nat × Sig) := [
  (37, ⟨[.leaf (.int .i64), .leaf (.int .i64)], [.leaf (.bool)]⟩) -- spread_right
  ,(38, ⟨[.leaf (.row [.int .i64])], [.leaf (.bool)]⟩) -- spread_rooms
  ,(20, ⟨[.leaf (.int .i64), .leaf (.row [.int .i64])], [.own [.int .i64]]⟩) -- spread_Up
  ,(44, ⟨[.leaf (.int .i64), .leaf (.int .i64), .leaf (.int .i64)], [.leaf (.bool)]⟩) -- base_Good_1
  ,(36, ⟨[.agg [.int .i64, .int .i64, .int .i64, .bool, .int .i64, .int .i64, .int .i64]], [.leaf (.bool)]⟩) -- base_Good
  ,(35, ⟨[.agg [.int .i64, .int .i64, .int .i64, .bool, .int .i64, .int .i64, .int .i64]], [.leaf (.bool)]⟩) -- maximise_good_1
  ,(18, ⟨[.leaf (.row [.int .i64, .int .i64, .int .i64, .bool, .int .i64, .int .i64, .int .i64])], [.leaf (.bool)]⟩) -- maximise_good
  ,(29, ⟨[.leaf (.int .i64)], [.leaf (.bool)]⟩) -- fixed_Is
  ,(19, ⟨[.leaf (.int .i64)], [.leaf (.bool)]⟩) -- maximise_within
  ,(8, ⟨[.leaf (.row [.int .i64, .int .i64, .int .i64, .bool, .int .i64, .int .i64, .int .i64]), .leaf (.int .i64)], [.leaf (.row [.int .i64, .int .i64, .int .i64, .bool, .int .i64, .int .i64, .int .i64])]⟩) -- maximise_Grow
  ,(7, ⟨[], [.leaf (.bool)]⟩) -- law25_lives
  ,(17, ⟨[.agg [.int .i64, .int .i64, .int .i64, .bool, .int .i64, .int .i64, .int .i64]], [.leaf (.bool)]⟩) -- ref22_Good
  ,(6, ⟨[.leaf (.row [.int .i64, .int .i64, .int .i64, .bool, .int .i64, .int .i64, .int .i64])], [.leaf (.bool)]⟩) -- ref25_Good
  ,(3, ⟨[.leaf (.row [.int .i64, .int .i64, .int .i64, .bool, .int .i64, .int .i64, .int .i64]), .leaf (.int .i64)], [.leaf (.bool)]⟩) -- law25_MaximiseRoom
  ,(23, ⟨[.leaf (.int .i64), .leaf (.int .i64)], [.own [.int .i64]]⟩) -- fixed_Split
  ,(25, ⟨[.agg [.int .i64, .int .i64, .int .i64, .bool, .int .i64, .int .i64, .int .i64]], [.agg [.int .i64, .int .i64, .int .i64, .bool, .int .i64, .int .i64, .int .i64]]⟩) -- base_Raise
  ,(9, ⟨[.leaf (.row [.int .i64, .int .i64, .int .i64, .bool, .int .i64, .int .i64, .int .i64]), .leaf (.int .i64)], [.leaf (.row [.int .i64, .int .i64, .int .i64, .bool, .int .i64, .int .i64, .int .i64])]⟩) -- maximise_Stretch
  ,(10, ⟨[.leaf (.row [.int .i64, .int .i64, .int .i64, .bool, .int .i64, .int .i64, .int .i64])], [.leaf (.row [.int .i64, .int .i64, .int .i64, .bool, .int .i64, .int .i64, .int .i64])]⟩) -- maximise_Full
  ,(4, ⟨[.leaf (.row [.int .i64, .int .i64, .int .i64, .bool, .int .i64, .int .i64, .int .i64]), .leaf (.int .i64)], [.leaf (.bool)]⟩) -- law25_MaximiseWhole
  ,(28, ⟨[.leaf (.int .i64)], [.leaf (.bool)]⟩) -- maximise_Total_1
  ,(11, ⟨[.leaf (.row [.int .i64, .int .i64, .int .i64, .bool, .int .i64, .int .i64, .int .i64]), .leaf (.row [.int .i64])], [.leaf (.int .i64), .leaf (.int .i64)]⟩) -- maximise_Total
  ,(30, ⟨[.leaf (.int .i64)], [.leaf (.bool)]⟩) -- ref25_within
  ,(12, ⟨[.leaf (.row [.int .i64, .int .i64, .int .i64, .bool, .int .i64, .int .i64, .int .i64]), .leaf (.row [.int .i64])], [.leaf (.int .i64), .leaf (.int .i64)]⟩) -- ref25_Total
  ,(41, ⟨[.leaf (.int .i64), .leaf (.row [.int .i64])], [.leaf (.bool)]⟩) -- ref23_Right
  ,(42, ⟨[.leaf (.int .i64), .leaf (.row [.int .i64]), .leaf (.int .i64)], [.leaf (.int .i64)]⟩) -- ref23_taken
  ,(31, ⟨[.leaf (.int .i64), .leaf (.row [.int .i64])], [.own [.int .i64]]⟩) -- ref23_Up
  ,(14, ⟨[.leaf (.row [.int .i64, .int .i64, .int .i64, .bool, .int .i64, .int .i64, .int .i64]), .leaf (.int .i64)], [.leaf (.row [.int .i64, .int .i64, .int .i64, .bool, .int .i64, .int .i64, .int .i64])]⟩) -- ref25_Grow
  ,(13, ⟨[.leaf (.row [.int .i64, .int .i64, .int .i64, .bool, .int .i64, .int .i64, .int .i64]), .leaf (.row [.int .i64, .int .i64, .int .i64, .bool, .int .i64, .int .i64, .int .i64])], [.leaf (.bool)]⟩) -- ref22_Same
  ,(15, ⟨[.leaf (.row [.int .i64, .int .i64, .int .i64, .bool, .int .i64, .int .i64, .int .i64])], [.leaf (.row [.int .i64, .int .i64, .int .i64, .bool, .int .i64, .int .i64, .int .i64])]⟩) -- ref25_Full
  ,(32, ⟨[.leaf (.int .i64), .leaf (.int .i64)], [.own [.int .i64]]⟩) -- ref01_Split
  ,(33, ⟨[.agg [.int .i64, .int .i64, .int .i64, .bool, .int .i64, .int .i64, .int .i64]], [.agg [.int .i64, .int .i64, .int .i64, .bool, .int .i64, .int .i64, .int .i64]]⟩) -- ref22_Raise
  ,(16, ⟨[.leaf (.row [.int .i64, .int .i64, .int .i64, .bool, .int .i64, .int .i64, .int .i64]), .leaf (.int .i64)], [.leaf (.row [.int .i64, .int .i64, .int .i64, .bool, .int .i64, .int .i64, .int .i64])]⟩) -- ref25_Stretch
  ,(5, ⟨[.leaf (.row [.int .i64, .int .i64, .int .i64, .bool, .int .i64, .int .i64, .int .i64]), .leaf (.row [.int .i64]), .leaf (.int .i64)], [.leaf (.bool)]⟩) -- law25_MaximiseTells
  ]
def trL : List (Nat × T) := [(37, spread_right), (38, spread_rooms), (20, spread_Up), (44, base_Good_1), (36, base_Good), (35, maximise_good_1), (18, maximise_good), (29, fixed_Is), (19, maximise_within), (8, maximise_Grow), (7, law25_lives), (17, ref22_Good), (6, ref25_Good), (3, law25_MaximiseRoom), (23, fixed_Split), (25, base_Raise), (9, maximise_Stretch), (10, maximise_Full), (4, law25_MaximiseWhole), (28, maximise_Total_1), (11, maximise_Total), (30, ref25_within), (12, ref25_Total), (41, ref23_Right), (42, ref23_taken), (31, ref23_Up), (14, ref25_Grow), (13, ref22_Same), (15, ref25_Full), (32, ref01_Split), (33, ref22_Raise), (16, ref25_Stretch), (5, law25_MaximiseTells)]

def sg (f : Nat) : Option Sig := Go.Proofs.Ytolgoenpckiggaa.Sx.look sigL f
def tr (f : Nat) : Option T := Go.Proofs.Ytolgoenpckiggaa.Sx.look trL f
/-- What the trees say, so many rounds and calls deep. -/
def says (k : Nat) : Nat → List PV → Option (List PV) := told tr k k
/-- THE ONE PURE STATEMENT of parterre/parterrelaw25.MaximiseRoom. -/
def Pure_MaximiseRoom : Prop := ∀ (p0 : PV), ∀ (p1 : PV), ((.row [.int .i64, .int .i64, .int .i64, .bool, .int .i64, .int .i64, .int .i64]) : LK).ok p0 → ((.row [.int .i64, .int .i64, .int .i64, .bool, .int .i64, .int .i64, .int .i64]) : LK).wf p0 → p0.r.length * 56 ≤ 140737488351232 → ((.int .i64) : LK).ok p1 → ((.int .i64) : LK).wf p1 → ∃ k, says k c_law25_MaximiseRoom ([p0] ++ [p1] ++ []) = some [.bool true]
/-- THE ONE PURE STATEMENT of parterre/parterrelaw25.MaximiseWhole. -/
def Pure_MaximiseWhole : Prop := ∀ (p0 : PV), ∀ (p1 : PV), ((.row [.int .i64, .int .i64, .int .i64, .bool, .int .i64, .int .i64, .int .i64]) : LK).ok p0 → ((.row [.int .i64, .int .i64, .int .i64, .bool, .int .i64, .int .i64, .int .i64]) : LK).wf p0 → p0.r.length * 56 ≤ 140737488351232 → ((.int .i64) : LK).ok p1 → ((.int .i64) : LK).wf p1 → ∃ k, says k c_law25_MaximiseWhole ([p0] ++ [p1] ++ []) = some [.bool true]
/-- THE ONE PURE STATEMENT of parterre/parterrelaw25.MaximiseTells. -/
def Pure_MaximiseTells : Prop := ∀ (p0 : PV), ∀ (p1 : PV), ∀ (p2 : PV), ((.row [.int .i64, .int .i64, .int .i64, .bool, .int .i64, .int .i64, .int .i64]) : LK).ok p0 → ((.row [.int .i64, .int .i64, .int .i64, .bool, .int .i64, .int .i64, .int .i64]) : LK).wf p0 → p0.r.length * 56 ≤ 140737488351232 → ((.row [.int .i64]) : LK).ok p1 → ((.row [.int .i64]) : LK).wf p1 → p1.r.length * 8 ≤ 140737488351232 → ((.int .i64) : LK).ok p2 → ((.int .i64) : LK).wf p2 → ∃ k, says k c_law25_MaximiseTells ([p0] ++ [p1] ++ [p2] ++ []) = some [.bool true]
section
variable {ρ : List PV} {J : List JT} {r : List PV}
theorem u_spread_right : Run tr spread_right ρ J r ↔ Run tr spread_right_b ρ J r := Iff.rfl
theorem u_spread_rooms_l0 : Run tr spread_rooms_l0 ρ J r ↔ Run tr spread_rooms_l0_b ρ J r := Iff.rfl
theorem u_spread_rooms : Run tr spread_rooms ρ J r ↔ Run tr spread_rooms_b ρ J r := Iff.rfl
theorem u_spread_Up_j2 : Run tr spread_Up_j2 ρ J r ↔ Run tr spread_Up_j2_b ρ J r := Iff.rfl
theorem u_spread_Up_j3 : Run tr spread_Up_j3 ρ J r ↔ Run tr spread_Up_j3_b ρ J r := Iff.rfl
theorem u_spread_Up_j5 : Run tr spread_Up_j5 ρ J r ↔ Run tr spread_Up_j5_b ρ J r := Iff.rfl
theorem u_spread_Up_j6 : Run tr spread_Up_j6 ρ J r ↔ Run tr spread_Up_j6_b ρ J r := Iff.rfl
theorem u_spread_Up_j8 : Run tr spread_Up_j8 ρ J r ↔ Run tr spread_Up_j8_b ρ J r := Iff.rfl
theorem u_spread_Up_l7 : Run tr spread_Up_l7 ρ J r ↔ Run tr spread_Up_l7_b ρ J r := Iff.rfl
theorem u_spread_Up_l4 : Run tr spread_Up_l4 ρ J r ↔ Run tr spread_Up_l4_b ρ J r := Iff.rfl
theorem u_spread_Up_l1 : Run tr spread_Up_l1 ρ J r ↔ Run tr spread_Up_l1_b ρ J r := Iff.rfl
theorem u_spread_Up_j0 : Run tr spread_Up_j0 ρ J r ↔ Run tr spread_Up_j0_b ρ J r := Iff.rfl
theorem u_spread_Up : Run tr spread_Up ρ J r ↔ Run tr spread_Up_b ρ J r := Iff.rfl
theorem u_base_Good_1 : Run tr base_Good_1 ρ J r ↔ Run tr base_Good_1_b ρ J r := Iff.rfl
theorem u_base_Good_j0 : Run tr base_Good_j0 ρ J r ↔ Run tr base_Good_j0_b ρ J r := Iff.rfl
theorem u_base_Good : Run tr base_Good ρ J r ↔ Run tr base_Good_b ρ J r := Iff.rfl
theorem u_maximise_good_1 : Run tr maximise_good_1 ρ J r ↔ Run tr maximise_good_1_b ρ J r := Iff.rfl
theorem u_maximise_good_j0 : Run tr maximise_good_j0 ρ J r ↔ Run tr maximise_good_j0_b ρ J r := Iff.rfl
theorem u_maximise_good_l1 : Run tr maximise_good_l1 ρ J r ↔ Run tr maximise_good_l1_b ρ J r := Iff.rfl
theorem u_maximise_good : Run tr maximise_good ρ J r ↔ Run tr maximise_good_b ρ J r := Iff.rfl
theorem u_fixed_Is : Run tr fixed_Is ρ J r ↔ Run tr fixed_Is_b ρ J r := Iff.rfl
theorem u_maximise_within : Run tr maximise_within ρ J r ↔ Run tr maximise_within_b ρ J r := Iff.rfl
theorem u_maximise_Grow_l2 : Run tr maximise_Grow_l2 ρ J r ↔ Run tr maximise_Grow_l2_b ρ J r := Iff.rfl
theorem u_maximise_Grow_l1 : Run tr maximise_Grow_l1 ρ J r ↔ Run tr maximise_Grow_l1_b ρ J r := Iff.rfl
theorem u_maximise_Grow_j0 : Run tr maximise_Grow_j0 ρ J r ↔ Run tr maximise_Grow_j0_b ρ J r := Iff.rfl
theorem u_maximise_Grow : Run tr maximise_Grow ρ J r ↔ Run tr maximise_Grow_b ρ J r := Iff.rfl
theorem u_law25_lives : Run tr law25_lives ρ J r ↔ Run tr law25_lives_b ρ J r := Iff.rfl
theorem u_ref22_Good : Run tr ref22_Good ρ J r ↔ Run tr ref22_Good_b ρ J r := Iff.rfl
theorem u_ref25_Good_l0 : Run tr ref25_Good_l0 ρ J r ↔ Run tr ref25_Good_l0_b ρ J r := Iff.rfl
theorem u_ref25_Good : Run tr ref25_Good ρ J r ↔ Run tr ref25_Good_b ρ J r := Iff.rfl
theorem u_law25_MaximiseRoom_l1 : Run tr law25_MaximiseRoom_l1 ρ J r ↔ Run tr law25_MaximiseRoom_l1_b ρ J r := Iff.rfl
theorem u_law25_MaximiseRoom_j0 : Run tr law25_MaximiseRoom_j0 ρ J r ↔ Run tr law25_MaximiseRoom_j0_b ρ J r := Iff.rfl
theorem u_law25_MaximiseRoom : Run tr law25_MaximiseRoom ρ J r ↔ Run tr law25_MaximiseRoom_b ρ J r := Iff.rfl
theorem u_fixed_Split_j1 : Run tr fixed_Split_j1 ρ J r ↔ Run tr fixed_Split_j1_b ρ J r := Iff.rfl
theorem u_fixed_Split_l0 : Run tr fixed_Split_l0 ρ J r ↔ Run tr fixed_Split_l0_b ρ J r := Iff.rfl
theorem u_fixed_Split : Run tr fixed_Split ρ J r ↔ Run tr fixed_Split_b ρ J r := Iff.rfl
theorem u_base_Raise_j0 : Run tr base_Raise_j0 ρ J r ↔ Run tr base_Raise_j0_b ρ J r := Iff.rfl
theorem u_base_Raise : Run tr base_Raise ρ J r ↔ Run tr base_Raise_b ρ J r := Iff.rfl
theorem u_maximise_Stretch_j2 : Run tr maximise_Stretch_j2 ρ J r ↔ Run tr maximise_Stretch_j2_b ρ J r := Iff.rfl
theorem u_maximise_Stretch_l4 : Run tr maximise_Stretch_l4 ρ J r ↔ Run tr maximise_Stretch_l4_b ρ J r := Iff.rfl
theorem u_maximise_Stretch_l3 : Run tr maximise_Stretch_l3 ρ J r ↔ Run tr maximise_Stretch_l3_b ρ J r := Iff.rfl
theorem u_maximise_Stretch_l1 : Run tr maximise_Stretch_l1 ρ J r ↔ Run tr maximise_Stretch_l1_b ρ J r := Iff.rfl
theorem u_maximise_Stretch_j0 : Run tr maximise_Stretch_j0 ρ J r ↔ Run tr maximise_Stretch_j0_b ρ J r := Iff.rfl
theorem u_maximise_Stretch : Run tr maximise_Stretch ρ J r ↔ Run tr maximise_Stretch_b ρ J r := Iff.rfl
theorem u_maximise_Full_j1 : Run tr maximise_Full_j1 ρ J r ↔ Run tr maximise_Full_j1_b ρ J r := Iff.rfl
theorem u_maximise_Full_l0 : Run tr maximise_Full_l0 ρ J r ↔ Run tr maximise_Full_l0_b ρ J r := Iff.rfl
theorem u_maximise_Full : Run tr maximise_Full ρ J r ↔ Run tr maximise_Full_b ρ J r := Iff.rfl
theorem u_law25_MaximiseWhole_l1 : Run tr law25_MaximiseWhole_l1 ρ J r ↔ Run tr law25_MaximiseWhole_l1_b ρ J r := Iff.rfl
theorem u_law25_MaximiseWhole_j0 : Run tr law25_MaximiseWhole_j0 ρ J r ↔ Run tr law25_MaximiseWhole_j0_b ρ J r := Iff.rfl
theorem u_law25_MaximiseWhole : Run tr law25_MaximiseWhole ρ J r ↔ Run tr law25_MaximiseWhole_b ρ J r := Iff.rfl
theorem u_maximise_Total_1 : Run tr maximise_Total_1 ρ J r ↔ Run tr maximise_Total_1_b ρ J r := Iff.rfl
theorem u_maximise_Total_l1 : Run tr maximise_Total_l1 ρ J r ↔ Run tr maximise_Total_l1_b ρ J r := Iff.rfl
theorem u_maximise_Total_j0 : Run tr maximise_Total_j0 ρ J r ↔ Run tr maximise_Total_j0_b ρ J r := Iff.rfl
theorem u_maximise_Total_j2 : Run tr maximise_Total_j2 ρ J r ↔ Run tr maximise_Total_j2_b ρ J r := Iff.rfl
theorem u_maximise_Total_l3 : Run tr maximise_Total_l3 ρ J r ↔ Run tr maximise_Total_l3_b ρ J r := Iff.rfl
theorem u_maximise_Total : Run tr maximise_Total ρ J r ↔ Run tr maximise_Total_b ρ J r := Iff.rfl
theorem u_ref25_within : Run tr ref25_within ρ J r ↔ Run tr ref25_within_b ρ J r := Iff.rfl
theorem u_ref25_Total_l1 : Run tr ref25_Total_l1 ρ J r ↔ Run tr ref25_Total_l1_b ρ J r := Iff.rfl
theorem u_ref25_Total_l0 : Run tr ref25_Total_l0 ρ J r ↔ Run tr ref25_Total_l0_b ρ J r := Iff.rfl
theorem u_ref25_Total : Run tr ref25_Total ρ J r ↔ Run tr ref25_Total_b ρ J r := Iff.rfl
theorem u_ref23_Right_l0 : Run tr ref23_Right_l0 ρ J r ↔ Run tr ref23_Right_l0_b ρ J r := Iff.rfl
theorem u_ref23_Right : Run tr ref23_Right ρ J r ↔ Run tr ref23_Right_b ρ J r := Iff.rfl
theorem u_ref23_taken_l0 : Run tr ref23_taken_l0 ρ J r ↔ Run tr ref23_taken_l0_b ρ J r := Iff.rfl
theorem u_ref23_taken : Run tr ref23_taken ρ J r ↔ Run tr ref23_taken_b ρ J r := Iff.rfl
theorem u_ref23_Up_j2 : Run tr ref23_Up_j2 ρ J r ↔ Run tr ref23_Up_j2_b ρ J r := Iff.rfl
theorem u_ref23_Up_l1 : Run tr ref23_Up_l1 ρ J r ↔ Run tr ref23_Up_l1_b ρ J r := Iff.rfl
theorem u_ref23_Up_l0 : Run tr ref23_Up_l0 ρ J r ↔ Run tr ref23_Up_l0_b ρ J r := Iff.rfl
theorem u_ref23_Up : Run tr ref23_Up ρ J r ↔ Run tr ref23_Up_b ρ J r := Iff.rfl
theorem u_ref25_Grow_l2 : Run tr ref25_Grow_l2 ρ J r ↔ Run tr ref25_Grow_l2_b ρ J r := Iff.rfl
theorem u_ref25_Grow_l1 : Run tr ref25_Grow_l1 ρ J r ↔ Run tr ref25_Grow_l1_b ρ J r := Iff.rfl
theorem u_ref25_Grow_j0 : Run tr ref25_Grow_j0 ρ J r ↔ Run tr ref25_Grow_j0_b ρ J r := Iff.rfl
theorem u_ref25_Grow : Run tr ref25_Grow ρ J r ↔ Run tr ref25_Grow_b ρ J r := Iff.rfl
theorem u_ref22_Same_l0 : Run tr ref22_Same_l0 ρ J r ↔ Run tr ref22_Same_l0_b ρ J r := Iff.rfl
theorem u_ref22_Same : Run tr ref22_Same ρ J r ↔ Run tr ref22_Same_b ρ J r := Iff.rfl
theorem u_ref25_Full_j1 : Run tr ref25_Full_j1 ρ J r ↔ Run tr ref25_Full_j1_b ρ J r := Iff.rfl
theorem u_ref25_Full_l0 : Run tr ref25_Full_l0 ρ J r ↔ Run tr ref25_Full_l0_b ρ J r := Iff.rfl
theorem u_ref25_Full : Run tr ref25_Full ρ J r ↔ Run tr ref25_Full_b ρ J r := Iff.rfl
theorem u_ref01_Split_j1 : Run tr ref01_Split_j1 ρ J r ↔ Run tr ref01_Split_j1_b ρ J r := Iff.rfl
theorem u_ref01_Split_l0 : Run tr ref01_Split_l0 ρ J r ↔ Run tr ref01_Split_l0_b ρ J r := Iff.rfl
theorem u_ref01_Split : Run tr ref01_Split ρ J r ↔ Run tr ref01_Split_b ρ J r := Iff.rfl
theorem u_ref22_Raise : Run tr ref22_Raise ρ J r ↔ Run tr ref22_Raise_b ρ J r := Iff.rfl
theorem u_ref25_Stretch_j2 : Run tr ref25_Stretch_j2 ρ J r ↔ Run tr ref25_Stretch_j2_b ρ J r := Iff.rfl
theorem u_ref25_Stretch_j4 : Run tr ref25_Stretch_j4 ρ J r ↔ Run tr ref25_Stretch_j4_b ρ J r := Iff.rfl
theorem u_ref25_Stretch_l3 : Run tr ref25_Stretch_l3 ρ J r ↔ Run tr ref25_Stretch_l3_b ρ J r := Iff.rfl
theorem u_ref25_Stretch_l1 : Run tr ref25_Stretch_l1 ρ J r ↔ Run tr ref25_Stretch_l1_b ρ J r := Iff.rfl
theorem u_ref25_Stretch_j0 : Run tr ref25_Stretch_j0 ρ J r ↔ Run tr ref25_Stretch_j0_b ρ J r := Iff.rfl
theorem u_ref25_Stretch : Run tr ref25_Stretch ρ J r ↔ Run tr ref25_Stretch_b ρ J r := Iff.rfl
theorem u_law25_MaximiseTells : Run tr law25_MaximiseTells ρ J r ↔ Run tr law25_MaximiseTells_b ρ J r := Iff.rfl
end
end Go.Proofs.Ytolgoenpckiggaa.T
