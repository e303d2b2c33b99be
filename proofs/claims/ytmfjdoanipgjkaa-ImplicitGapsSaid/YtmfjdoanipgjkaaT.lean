/- The trees of the laws and of what they call, written down; the laws' pure statements. No condition. -/
import Derived.Test.YtmfjdoanipgjkaaSx4
set_option maxRecDepth 100000
set_option linter.unusedVariables false
namespace Go.Proofs.Ytmfjdoanipgjkaa.T
open Go Go.Proofs.Ytmfjdoanipgjkaa.Sx Go.Proofs.Ytmfjdoanipgjkaa.Sx.T Go.Proofs.Ytmfjdoanipgjkaa.Sx.Ex
abbrev v (i : Nat) : Ex := .var i
abbrev n (x : Int) : Ex := .int .i64 x
abbrev add (a b : Ex) : Ex := .bin (.ar .add .i64) a b
abbrev sub (a b : Ex) : Ex := .bin (.ar .sub .i64) a b
abbrev cmp (o : BinOp) (a b : Ex) : Ex := .bin (.cmp o) a b
abbrev at_ (j : Nat) (a b : Ex) : Ex := .bin (.cell j (.int .i64)) a b
/- parterre/parterrelaw21.px -/
abbrev c_law21_px : Nat := 13
@[reducible] def law21_px_b : T := .ret [(n 2), (v 0), (n 2), (v 0), (.bool false), (n 0), (n 0)]
def law21_px : T := law21_px_b
/- parterre/occupy.Overlap$1 -/
abbrev c_occupy_Overlap_1 : Nat := 43
@[reducible] def occupy_Overlap_1_b : T := .ret [(.bin .and (cmp .lss (v 0) (add (v 2) (v 3))) (cmp .lss (v 2) (add (v 0) (v 1))))]
def occupy_Overlap_1 : T := occupy_Overlap_1_b
/- parterre/occupy.good$1 -/
abbrev c_occupy_good_1 : Nat := 44
@[reducible] def occupy_good_1_b : T := .ret [(.bin .and (cmp .geq (v 0) (n (-10000))) (cmp .leq (v 0) (n 10000)))]
def occupy_good_1 : T := occupy_good_1_b
/- parterre/occupy.good$2 -/
abbrev c_occupy_good_2 : Nat := 45
@[reducible] def occupy_good_2_b : T := .ret [(.bin .and (cmp .geq (v 0) (n 1)) (cmp .leq (v 0) (n 20000)))]
def occupy_good_2 : T := occupy_good_2_b
/- parterre/occupy.good -/
abbrev c_occupy_good : Nat := 42
@[reducible] def occupy_good_b : T := .call c_occupy_good_1 [(v 0)] 1 <|
 .ite (v 4)
 (.call c_occupy_good_1 [(v 1)] 1 <|
  .ite (v 5)
  (.call c_occupy_good_2 [(v 2)] 1 <|
   .ite (v 6)
   (.call c_occupy_good_2 [(v 3)] 1 <|
    .ret [(v 7)])
   (.ret [(.bool false)]))
  (.ret [(.bool false)]))
 (.ret [(.bool false)])
def occupy_good : T := occupy_good_b
/- parterre/occupy.Overlap -/
abbrev c_occupy_Overlap : Nat := 41
@[reducible] def occupy_Overlap_j0_b : T := .ite (v 8)
 (.ret [(.bool false)])
 (.call c_occupy_Overlap_1 [(v 0), (v 2), (v 4), (v 6)] 1 <|
  .ite (v 9)
  (.call c_occupy_Overlap_1 [(v 1), (v 3), (v 5), (v 7)] 1 <|
   .ret [(v 10)])
  (.ret [(.bool false)]))
def occupy_Overlap_j0 : T := occupy_Overlap_j0_b
@[reducible] def occupy_Overlap_b : T := .letj occupy_Overlap_j0 <|
 .call c_occupy_good [(v 0), (v 1), (v 2), (v 3)] 1 <|
 .ite (v 8)
 (.call c_occupy_good [(v 4), (v 5), (v 6), (v 7)] 1 <|
  .jump 0 [(.un .not (v 9))])
 (.jump 0 [(.bool true)])
def occupy_Overlap : T := occupy_Overlap_b
/- parterre/occupy.Free -/
abbrev c_occupy_Free : Nat := 33
@[reducible] def occupy_Free_l0_b : T := .ite (cmp .lss (v 5) (.un .len (v 0)))
 (.ite (cmp .leq (n 0) (v 5))
  (.call c_occupy_Overlap [(at_ 0 (v 0) (v 5)), (at_ 1 (v 0) (v 5)), (at_ 2 (v 0) (v 5)), (at_ 3 (v 0) (v 5)), (v 1), (v 2), (v 3), (v 4)] 1 <|
   .ite (v 6)
   (.ret [(.bool false)])
   (.jump 0 [(add (v 5) (n 1))]))
  (.fail ""))
 (.call c_occupy_good [(v 1), (v 2), (v 3), (v 4)] 1 <|
  .ret [(v 6)])
def occupy_Free_l0 : T := occupy_Free_l0_b
@[reducible] def occupy_Free_b : T := .loop [(n 0)] occupy_Free_l0
def occupy_Free : T := occupy_Free_b
/- parterre/implicit.side -/
abbrev c_implicit_side : Nat := 34
@[reducible] def implicit_side_b : T := .ite (v 4)
 (.ret [(v 0), (add (v 0) (v 2))])
 (.ret [(v 1), (add (v 1) (v 3))])
def implicit_side : T := implicit_side_b
/- parterre/implicit.Bounds -/
abbrev c_implicit_Bounds : Nat := 21
@[reducible] def implicit_Bounds_j1_b : T := .jump 0 [(add (v 3) (n 1)), (v 6), (v 7)]
def implicit_Bounds_j1 : T := implicit_Bounds_j1_b
@[reducible] def implicit_Bounds_l0_b : T := .ite (cmp .lss (v 3) (.un .len (v 0)))
 (.ite (cmp .leq (n 0) (v 3))
  (.letj implicit_Bounds_j1 <|
   .call c_occupy_Free [.nil, (at_ 0 (v 0) (v 3)), (at_ 1 (v 0) (v 3)), (at_ 2 (v 0) (v 3)), (at_ 3 (v 0) (v 3))] 1 <|
   .ite (v 6)
   (.call c_implicit_side [(at_ 0 (v 0) (v 3)), (at_ 1 (v 0) (v 3)), (at_ 2 (v 0) (v 3)), (at_ 3 (v 0) (v 3)), (v 2)] 2 <|
    .jump 1 [(.bin (.min .i64) (v 4) (v 7)), (.bin (.max .i64) (v 5) (v 8))])
   (.jump 1 [(v 4), (v 5)]))
  (.fail ""))
 (.ret [(v 4), (v 5)])
def implicit_Bounds_l0 : T := implicit_Bounds_l0_b
@[reducible] def implicit_Bounds_b : T := .loop [(n 0), (n 0), (sub (v 1) (n 1))] implicit_Bounds_l0
def implicit_Bounds : T := implicit_Bounds_b
/- parterre/fixed.Div -/
abbrev c_fixed_Div : Nat := 35
@[reducible] def fixed_Div_j0_b : T := .ret [(v 2)]
def fixed_Div_j0 : T := fixed_Div_j0_b
@[reducible] def fixed_Div_b : T := .ite (cmp .eql (v 1) (n 0))
 (.ret [(n 0)])
 (.ite (cmp .eql (v 1) (n (-1)))
  (.ret [(.un (.neg .i64) (v 0))])
  (.ite (cmp .neq (v 1) (n 0))
   (.letj fixed_Div_j0 <|
    .ite (.bin .and (cmp .neq (.bin (.ar .rem .i64) (v 0) (v 1)) (n 0)) (.un .not (.bin .beq (cmp .lss (v 0) (n 0)) (cmp .lss (v 1) (n 0)))))
    (.jump 0 [(sub (.bin (.ar .quo .i64) (v 0) (v 1)) (n 1))])
    (.jump 0 [(.bin (.ar .quo .i64) (v 0) (v 1))]))
   (.fail "")))
def fixed_Div : T := fixed_Div_b
/- parterre/fixed.Mod -/
abbrev c_fixed_Mod : Nat := 23
@[reducible] def fixed_Mod_b : T := .ite (cmp .eql (v 1) (n 0))
 (.ret [(v 0)])
 (.call c_fixed_Div [(v 0), (v 1)] 1 <|
  .ret [(sub (v 0) (.bin (.ar .mul .i64) (v 2) (v 1)))])
def fixed_Mod : T := fixed_Mod_b
/- parterre/track.auto -/
abbrev c_track_auto : Nat := 36
@[reducible] def track_auto_b : T := .ret [(n 1), (n 0)]
def track_auto : T := track_auto_b
/- parterre/track.fit -/
abbrev c_track_fit : Nat := 24
@[reducible] def track_fit_b : T := .call c_track_auto [] 2 <|
 .ret [(v 2), (v 3), (n 5), (n 0), (.bool true), (v 0), (v 1)]
def track_fit : T := track_fit_b
/- parterre/track.isLen -/
abbrev c_track_isLen : Nat := 25
@[reducible] def track_isLen_b : T := .ret [(.bin .or (cmp .eql (v 0) (n 2)) (cmp .eql (v 0) (n 3)))]
def track_isLen : T := track_isLen_b
/- parterre/value.keyBit -/
abbrev c_value_keyBit : Nat := 38
@[reducible] def value_keyBit_j0_b : T := .ite (v 1)
 (.ret [(n 8)])
 (.ite (cmp .eql (v 0) (n 7))
  (.ret [(n 32)])
  (.ret [(n 0)]))
def value_keyBit_j0 : T := value_keyBit_j0_b
@[reducible] def value_keyBit_b : T := .ite (cmp .eql (v 0) (n 1))
 (.ret [(n 4)])
 (.letj value_keyBit_j0 <|
  .ite (cmp .eql (v 0) (n 4))
  (.jump 0 [(cmp .eql (v 0) (n 4))])
  (.jump 0 [(cmp .eql (v 0) (n 5))]))
def value_keyBit : T := value_keyBit_b
/- parterre/value.Good -/
abbrev c_value_Good : Nat := 26
@[reducible] def value_Good_j0_b : T := .ret [(v 3)]
def value_Good_j0 : T := value_Good_j0_b
@[reducible] def value_Good_j1_b : T := .ret [(v 3)]
def value_Good_j1 : T := value_Good_j1_b
@[reducible] def value_Good_b : T := .ite (cmp .eql (v 0) (n 2))
 (.letj value_Good_j0 <|
  .ite (cmp .lss (v 1) (n 0))
  (.jump 0 [(.bin .and (cmp .gtr (.bin (.ar .and .i64) (v 2) (n 2)) (n 0)) (cmp .geq (v 1) (n (-68719476736))))])
  (.jump 0 [(cmp .leq (v 1) (n 68719476736))]))
 (.ite (cmp .eql (v 0) (n 3))
  (.ite (cmp .gtr (.bin (.ar .and .i64) (v 2) (n 1)) (n 0))
   (.letj value_Good_j1 <|
    .ite (cmp .lss (v 1) (n 0))
    (.jump 0 [(.bin .and (cmp .gtr (.bin (.ar .and .i64) (v 2) (n 2)) (n 0)) (cmp .geq (v 1) (n (-1073741824))))])
    (.jump 0 [(cmp .leq (v 1) (n 1073741824))]))
   (.ret [(.bool false)]))
  (.ite (cmp .eql (v 0) (n 6))
   (.ret [(.bin .and (.bin .and (cmp .gtr (.bin (.ar .and .i64) (v 2) (n 16)) (n 0)) (cmp .geq (v 1) (n 0))) (cmp .leq (v 1) (n 1073741824)))])
   (.ite (cmp .eql (v 1) (n 0))
    (.call c_value_keyBit [(v 0)] 1 <|
     .ret [(cmp .gtr (.bin (.ar .and .i64) (v 2) (v 3)) (n 0))])
    (.ret [(.bool false)]))))
def value_Good : T := value_Good_b
/- parterre/track.Right -/
abbrev c_track_Right : Nat := 14
@[reducible] def track_Right_b : T := .ite (v 4)
 (.call c_track_fit [(v 5), (v 6)] 7 <|
  .ite (.bin .and (cmp .eql (v 0) (v 7)) (.bin .and (cmp .eql (v 1) (v 8)) (.bin .and (cmp .eql (v 2) (v 9)) (.bin .and (cmp .eql (v 3) (v 10)) (.bin .and (.bin .beq (v 4) (v 11)) (.bin .and (cmp .eql (v 5) (v 12)) (cmp .eql (v 6) (v 13))))))))
  (.call c_track_isLen [(v 5), (v 6)] 1 <|
   .ite (v 14)
   (.call c_value_Good [(v 5), (v 6), (n 1)] 1 <|
    .ret [(v 15)])
   (.ret [(.bool false)]))
  (.ret [(.bool false)]))
 (.ite (.bin .and (cmp .eql (v 5) (n 0)) (cmp .eql (v 6) (n 0)))
  (.call c_value_Good [(v 0), (v 1), (n 13)] 1 <|
   .ite (v 7)
   (.call c_value_Good [(v 2), (v 3), (n 29)] 1 <|
    .ret [(v 8)])
   (.ret [(.bool false)]))
  (.ret [(.bool false)]))
def track_Right : T := track_Right_b
/- parterre/implicit.Tracks$1 -/
abbrev c_implicit_Tracks_1 : Nat := 18
@[reducible] def implicit_Tracks_1_b : T := .call c_track_Right [(v 0), (v 1), (v 2), (v 3), (v 4), (v 5), (v 6)] 1 <|
 .ret [(.un .not (v 7))]
def implicit_Tracks_1 : T := implicit_Tracks_1_b
/- parterre/expand.Good$1 -/
abbrev c_expand_Good_1 : Nat := 30
@[reducible] def expand_Good_1_b : T := .call c_track_Right [(v 0), (v 1), (v 2), (v 3), (v 4), (v 5), (v 6)] 1 <|
 .ret [(.un .not (v 7))]
def expand_Good_1 : T := expand_Good_1_b
/- parterre/expand.Good -/
abbrev c_expand_Good : Nat := 19
@[reducible] def expand_Good_j0_b : T := .ite (v 4)
 (.ret [(.bool false)])
 (.ret [(.bin .or (.bin .and (cmp .eql (v 2) (n 0)) (cmp .eql (v 3) (n 0))) (.bin .and (.bin .and (cmp .geq (v 2) (n 0)) (cmp .lss (v 2) (v 3))) (cmp .leq (v 3) (.un .len (v 1)))))])
def expand_Good_j0 : T := expand_Good_j0_b
@[reducible] def expand_Good_j1_b : T := .jump 0 [(cmp .geq (v 4) (n 0))]
def expand_Good_j1 : T := expand_Good_j1_b
@[reducible] def expand_Good_l2_b : T := .ite (cmp .lss (v 4) (.un .len (v 1)))
 (.ite (cmp .leq (n 0) (v 4))
  (.call c_expand_Good_1 [(at_ 0 (v 1) (v 4)), (at_ 1 (v 1) (v 4)), (at_ 2 (v 1) (v 4)), (at_ 3 (v 1) (v 4)), (.bin (.cell 4 (.bool)) (v 1) (v 4)), (at_ 5 (v 1) (v 4)), (at_ 6 (v 1) (v 4))] 1 <|
   .ite (v 5)
   (.jump 1 [(v 4)])
   (.jump 2 [(add (v 4) (n 1))]))
  (.fail ""))
 (.jump 1 [(n (-1))])
def expand_Good_l2 : T := expand_Good_l2_b
@[reducible] def expand_Good_b : T := .letj expand_Good_j0 <|
 .ite (.bin .or (cmp .gtr (.un .len (v 1)) (n 10000)) (cmp .neq (.un .len (v 0)) (add (.un .len (v 1)) (n 1))))
 (.jump 0 [(.bool true)])
 (.letj expand_Good_j1 <|
  .loop [(n 0)] expand_Good_l2)
def expand_Good : T := expand_Good_b
/- parterre/fixed.Is -/
abbrev c_fixed_Is : Nat := 27
@[reducible] def fixed_Is_b : T := .ret [(.bin .and (cmp .geq (v 0) (n (-68719476736))) (cmp .leq (v 0) (n 68719476736)))]
def fixed_Is : T := fixed_Is_b
/- parterre/implicit.within -/
abbrev c_implicit_within : Nat := 15
@[reducible] def implicit_within_b : T := .ite (cmp .geq (v 0) (n 0))
 (.call c_fixed_Is [(v 0)] 1 <|
  .ret [(v 1)])
 (.ret [(.bool false)])
def implicit_within : T := implicit_within_b
/- parterre/implicit.Tracks -/
abbrev c_implicit_Tracks : Nat := 11
@[reducible] def implicit_Tracks_j0_b : T := .ret [(n 0), .nil, .nil, .nil, (n 2)]
def implicit_Tracks_j0 : T := implicit_Tracks_j0_b
@[reducible] def implicit_Tracks_j5_b : T := .jump 2 [(add (v 15) (n 1)), (v 17)]
def implicit_Tracks_j5 : T := implicit_Tracks_j5_b
@[reducible] def implicit_Tracks_l6_b : T := .ite (cmp .lss (v 20) (.bin (.min .i64) (v 19) (v 3)))
 (.ite (cmp .leq (n 0) (sub (v 20) (v 11)))
  (.ite (cmp .lss (sub (v 20) (v 11)) (.un .len (v 21)))
   (.jump 4 [(add (v 20) (n 1)), (.tri .set (v 21) (sub (v 20) (v 11)) (.bin .cons (.bool false) .nilc))])
   (.fail ""))
  (.fail ""))
 (.jump 3 [(v 21)])
def implicit_Tracks_l6 : T := implicit_Tracks_l6_b
@[reducible] def implicit_Tracks_j8_b : T := .jump 3 [(add (v 17) (n 1)), (v 22), (v 21), (v 23)]
def implicit_Tracks_j8 : T := implicit_Tracks_j8_b
@[reducible] def implicit_Tracks_j9_b : T := .ite (cmp .leq (n 0) (v 17))
 (.ite (.bin (.cell 0 (.bool)) (v 16) (v 17))
  (.jump 4 [(v 21), (v 18), (v 20)])
  (.ite (v 18)
   (.ite (cmp .lss (v 17) (.un .len (v 20)))
    (.jump 4 [(v 21), (.bool true), (.tri .set (v 20) (v 17) (.bin .cons (v 8) .nilc))])
    (.fail ""))
   (.jump 4 [(v 21), (.bool true), (v 20)])))
 (.fail "")
def implicit_Tracks_j9 : T := implicit_Tracks_j9_b
@[reducible] def implicit_Tracks_l7_b : T := .ite (cmp .lss (v 17) (.un .len (v 16)))
 (.letj implicit_Tracks_j8 <|
  .letj implicit_Tracks_j9 <|
  .ite (cmp .lss (add (v 11) (v 17)) (n 0))
  (.call c_fixed_Mod [(add (v 11) (v 17)), (.un .len (v 5))] 1 <|
   .ite (cmp .leq (n 0) (v 21))
   (.ite (cmp .lss (v 21) (.un .len (v 5)))
    (.ite (cmp .leq (.bin .plus (.un .len (v 19)) (.un .len (.bin .snoc .nil (.bin .cons (at_ 0 (v 5) (v 21)) (.bin .cons (at_ 1 (v 5) (v 21)) (.bin .cons (at_ 2 (v 5) (v 21)) (.bin .cons (at_ 3 (v 5) (v 21)) (.bin .cons (.bin (.cell 4 (.bool)) (v 5) (v 21)) (.bin .cons (at_ 5 (v 5) (v 21)) (.bin .cons (at_ 6 (v 5) (v 21)) .nilc)))))))))) (n 4294967296))
     (.jump 5 [(.bin .snoc (v 19) (.bin .cons (at_ 0 (v 5) (v 21)) (.bin .cons (at_ 1 (v 5) (v 21)) (.bin .cons (at_ 2 (v 5) (v 21)) (.bin .cons (at_ 3 (v 5) (v 21)) (.bin .cons (.bin (.cell 4 (.bool)) (v 5) (v 21)) (.bin .cons (at_ 5 (v 5) (v 21)) (.bin .cons (at_ 6 (v 5) (v 21)) .nilc))))))))])
     (.fail ""))
    (.fail ""))
   (.fail ""))
  (.ite (cmp .lss (add (v 11) (v 17)) (.un .len (v 1)))
   (.ite (cmp .leq (n 0) (add (v 11) (v 17)))
    (.ite (cmp .leq (.bin .plus (.un .len (v 19)) (.un .len (.bin .snoc .nil (.bin .cons (at_ 0 (v 1) (add (v 11) (v 17))) (.bin .cons (at_ 1 (v 1) (add (v 11) (v 17))) (.bin .cons (at_ 2 (v 1) (add (v 11) (v 17))) (.bin .cons (at_ 3 (v 1) (add (v 11) (v 17))) (.bin .cons (.bin (.cell 4 (.bool)) (v 1) (add (v 11) (v 17))) (.bin .cons (at_ 5 (v 1) (add (v 11) (v 17))) (.bin .cons (at_ 6 (v 1) (add (v 11) (v 17))) .nilc)))))))))) (n 4294967296))
     (.jump 5 [(.bin .snoc (v 19) (.bin .cons (at_ 0 (v 1) (add (v 11) (v 17))) (.bin .cons (at_ 1 (v 1) (add (v 11) (v 17))) (.bin .cons (at_ 2 (v 1) (add (v 11) (v 17))) (.bin .cons (at_ 3 (v 1) (add (v 11) (v 17))) (.bin .cons (.bin (.cell 4 (.bool)) (v 1) (add (v 11) (v 17))) (.bin .cons (at_ 5 (v 1) (add (v 11) (v 17))) (.bin .cons (at_ 6 (v 1) (add (v 11) (v 17))) .nilc))))))))])
     (.fail ""))
    (.fail ""))
   (.ite (cmp .neq (.un .len (v 5)) (n 0))
    (.ite (cmp .leq (n 0) (.bin (.ar .rem .i64) (sub (add (v 11) (v 17)) (.un .len (v 1))) (.un .len (v 5))))
     (.ite (cmp .lss (.bin (.ar .rem .i64) (sub (add (v 11) (v 17)) (.un .len (v 1))) (.un .len (v 5))) (.un .len (v 5)))
      (.ite (cmp .leq (.bin .plus (.un .len (v 19)) (.un .len (.bin .snoc .nil (.bin .cons (at_ 0 (v 5) (.bin (.ar .rem .i64) (sub (add (v 11) (v 17)) (.un .len (v 1))) (.un .len (v 5)))) (.bin .cons (at_ 1 (v 5) (.bin (.ar .rem .i64) (sub (add (v 11) (v 17)) (.un .len (v 1))) (.un .len (v 5)))) (.bin .cons (at_ 2 (v 5) (.bin (.ar .rem .i64) (sub (add (v 11) (v 17)) (.un .len (v 1))) (.un .len (v 5)))) (.bin .cons (at_ 3 (v 5) (.bin (.ar .rem .i64) (sub (add (v 11) (v 17)) (.un .len (v 1))) (.un .len (v 5)))) (.bin .cons (.bin (.cell 4 (.bool)) (v 5) (.bin (.ar .rem .i64) (sub (add (v 11) (v 17)) (.un .len (v 1))) (.un .len (v 5)))) (.bin .cons (at_ 5 (v 5) (.bin (.ar .rem .i64) (sub (add (v 11) (v 17)) (.un .len (v 1))) (.un .len (v 5)))) (.bin .cons (at_ 6 (v 5) (.bin (.ar .rem .i64) (sub (add (v 11) (v 17)) (.un .len (v 1))) (.un .len (v 5)))) .nilc)))))))))) (n 4294967296))
       (.jump 5 [(.bin .snoc (v 19) (.bin .cons (at_ 0 (v 5) (.bin (.ar .rem .i64) (sub (add (v 11) (v 17)) (.un .len (v 1))) (.un .len (v 5)))) (.bin .cons (at_ 1 (v 5) (.bin (.ar .rem .i64) (sub (add (v 11) (v 17)) (.un .len (v 1))) (.un .len (v 5)))) (.bin .cons (at_ 2 (v 5) (.bin (.ar .rem .i64) (sub (add (v 11) (v 17)) (.un .len (v 1))) (.un .len (v 5)))) (.bin .cons (at_ 3 (v 5) (.bin (.ar .rem .i64) (sub (add (v 11) (v 17)) (.un .len (v 1))) (.un .len (v 5)))) (.bin .cons (.bin (.cell 4 (.bool)) (v 5) (.bin (.ar .rem .i64) (sub (add (v 11) (v 17)) (.un .len (v 1))) (.un .len (v 5)))) (.bin .cons (at_ 5 (v 5) (.bin (.ar .rem .i64) (sub (add (v 11) (v 17)) (.un .len (v 1))) (.un .len (v 5)))) (.bin .cons (at_ 6 (v 5) (.bin (.ar .rem .i64) (sub (add (v 11) (v 17)) (.un .len (v 1))) (.un .len (v 5)))) .nilc))))))))])
       (.fail ""))
      (.fail ""))
     (.fail ""))
    (.fail ""))))
 (.ret [(v 11), (v 19), (v 16), (v 20), (n 0)])
def implicit_Tracks_l7 : T := implicit_Tracks_l7_b
@[reducible] def implicit_Tracks_l4_b : T := .ite (cmp .lss (v 15) (.un .len (v 6)))
 (.ite (cmp .leq (n 0) (v 15))
  (.letj implicit_Tracks_j5 <|
   .call c_occupy_Free [.nil, (at_ 0 (v 6) (v 15)), (at_ 1 (v 6) (v 15)), (at_ 2 (v 6) (v 15)), (at_ 3 (v 6) (v 15))] 1 <|
   .ite (v 17)
   (.call c_implicit_side [(at_ 0 (v 6) (v 15)), (at_ 1 (v 6) (v 15)), (at_ 2 (v 6) (v 15)), (at_ 3 (v 6) (v 15)), (v 7)] 2 <|
    .loop [(.bin (.max .i64) (v 18) (v 2)), (v 16)] implicit_Tracks_l6)
   (.jump 3 [(v 16)]))
  (.fail ""))
 (.loop [(n 0), (.bool false), .nil, (.bin .make (.bin .cons (n 0) .nilc) (.un .len (.bin .make (.bin .cons (.bool false) .nilc) (.bin (.max .i64) (n 0) (sub (v 12) (v 11))))))] implicit_Tracks_l7)
def implicit_Tracks_l4 : T := implicit_Tracks_l4_b
@[reducible] def implicit_Tracks_l3_b : T := .ite (cmp .lss (v 13) (v 3))
 (.ite (cmp .leq (n 0) (sub (v 13) (v 11)))
  (.ite (cmp .lss (sub (v 13) (v 11)) (.un .len (v 14)))
   (.jump 1 [(add (v 13) (n 1)), (.tri .set (v 14) (sub (v 13) (v 11)) (.bin .cons (.bool true) .nilc))])
   (.fail ""))
  (.fail ""))
 (.loop [(n 0), (v 14)] implicit_Tracks_l4)
def implicit_Tracks_l3 : T := implicit_Tracks_l3_b
@[reducible] def implicit_Tracks_j2_b : T := .ite (v 10)
 (.jump 0 [])
 (.call c_implicit_Bounds [(v 6), (v 4), (v 7)] 2 <|
  .ite (cmp .leq (n 0) (.bin (.max .i64) (n 0) (sub (v 12) (v 11))))
  (.ite (cmp .leq (.bin (.max .i64) (n 0) (sub (v 12) (v 11))) (n 140737488355328))
   (.ite (cmp .leq (.un .len (.bin .make (.bin .cons (.bool false) .nilc) (.bin (.max .i64) (n 0) (sub (v 12) (v 11))))) (n 17592186044416))
    (.loop [(v 2), (.bin .make (.bin .cons (.bool false) .nilc) (.bin (.max .i64) (n 0) (sub (v 12) (v 11))))] implicit_Tracks_l3)
    (.fail ""))
   (.fail ""))
  (.fail ""))
def implicit_Tracks_j2 : T := implicit_Tracks_j2_b
@[reducible] def implicit_Tracks_j10_b : T := .jump 1 [(cmp .geq (v 10) (n 0))]
def implicit_Tracks_j10 : T := implicit_Tracks_j10_b
@[reducible] def implicit_Tracks_l11_b : T := .ite (cmp .lss (v 10) (.un .len (v 5)))
 (.ite (cmp .leq (n 0) (v 10))
  (.call c_implicit_Tracks_1 [(at_ 0 (v 5) (v 10)), (at_ 1 (v 5) (v 10)), (at_ 2 (v 5) (v 10)), (at_ 3 (v 5) (v 10)), (.bin (.cell 4 (.bool)) (v 5) (v 10)), (at_ 5 (v 5) (v 10)), (at_ 6 (v 5) (v 10))] 1 <|
   .ite (v 11)
   (.jump 2 [(v 10)])
   (.jump 3 [(add (v 10) (n 1))]))
  (.fail ""))
 (.jump 2 [(n (-1))])
def implicit_Tracks_l11 : T := implicit_Tracks_l11_b
@[reducible] def implicit_Tracks_j1_b : T := .ite (v 9)
 (.jump 0 [])
 (.ite (.bin .or (cmp .leq (v 4) (.un .len (v 1))) (cmp .gtr (v 4) (n 10001)))
  (.jump 0 [])
  (.letj implicit_Tracks_j2 <|
   .ite (.bin .or (cmp .lss (.un .len (v 5)) (n 1)) (cmp .gtr (.un .len (v 5)) (n 256)))
   (.jump 1 [(.bool true)])
   (.letj implicit_Tracks_j10 <|
    .loop [(n 0)] implicit_Tracks_l11)))
def implicit_Tracks_j1 : T := implicit_Tracks_j1_b
@[reducible] def implicit_Tracks_b : T := .letj implicit_Tracks_j0 <|
 .letj implicit_Tracks_j1 <|
 .call c_expand_Good [(v 0), (v 1), (v 2), (v 3)] 1 <|
 .ite (v 9)
 (.call c_implicit_within [(v 8)] 1 <|
  .jump 1 [(.un .not (v 10))])
 (.jump 1 [(.bool true)])
def implicit_Tracks : T := implicit_Tracks_b
/- parterre/implicit.Total -/
abbrev c_implicit_Total : Nat := 8
@[reducible] def implicit_Total_l0_b : T := .ite (cmp .lss (v 4) (.un .len (v 3)))
 (.ite (cmp .leq (n 0) (v 4))
  (.jump 0 [(add (v 4) (n 1)), (add (v 5) (at_ 0 (v 3) (v 4)))])
  (.fail ""))
 (.ret [(v 5)])
def implicit_Total_l0 : T := implicit_Total_l0_b
@[reducible] def implicit_Total_b : T := .loop [(n 0), (n 0)] implicit_Total_l0
def implicit_Total : T := implicit_Total_b
/- parterre/implicit.Good -/
abbrev c_implicit_Good : Nat := 6
@[reducible] def implicit_Good_j1_b : T := .ite (v 5)
 (.ret [(.bool false)])
 (.jump 0 [(add (v 4) (n 1))])
def implicit_Good_j1 : T := implicit_Good_j1_b
@[reducible] def implicit_Good_l0_b : T := .ite (cmp .lss (v 4) (.un .len (v 1)))
 (.ite (cmp .leq (n 0) (v 4))
  (.ite (.bin .or (cmp .eql (v 4) (n 0)) (cmp .lss (v 4) (.un .len (v 2))))
   (.letj implicit_Good_j1 <|
    .call c_track_Right [(at_ 0 (v 1) (v 4)), (at_ 1 (v 1) (v 4)), (at_ 2 (v 1) (v 4)), (at_ 3 (v 1) (v 4)), (.bin (.cell 4 (.bool)) (v 1) (v 4)), (at_ 5 (v 1) (v 4)), (at_ 6 (v 1) (v 4))] 1 <|
    .ite (.bin .or (.un .not (v 5)) (cmp .lss (v 4) (.un .len (v 3))))
    (.ite (v 5)
     (.call c_implicit_within [(at_ 0 (v 3) (v 4))] 1 <|
      .ite (.bin .or (.un .not (.bin .and (v 6) (.bin .or (cmp .eql (v 4) (n 0)) (.bin (.cell 0 (.bool)) (v 2) (v 4))))) (cmp .lss (v 4) (.un .len (v 3))))
      (.jump 1 [(.bin .or (.un .not (v 6)) (.bin .and (.bin .or (cmp .eql (v 4) (n 0)) (.bin (.cell 0 (.bool)) (v 2) (v 4))) (cmp .gtr (at_ 0 (v 3) (v 4)) (n 0))))])
      (.fail ""))
     (.jump 1 [(.bool true)]))
    (.fail ""))
   (.fail ""))
  (.fail ""))
 (.ret [(.bool true)])
def implicit_Good_l0 : T := implicit_Good_l0_b
@[reducible] def implicit_Good_b : T := .ite (.bin .or (.bin .or (.bin .or (.bin .or (cmp .gtr (.un .len (v 1)) (n 40000)) (cmp .neq (.un .len (v 2)) (.un .len (v 1)))) (cmp .neq (.un .len (v 3)) (.un .len (v 1)))) (cmp .gtr (v 0) (n 0))) (cmp .lss (v 0) (n (-10000))))
 (.ret [(.bool false)])
 (.loop [(n 0)] implicit_Good_l0)
def implicit_Good : T := implicit_Good_b
/- parterre/parterrelaw21.lives -/
abbrev c_law21_lives : Nat := 5
@[reducible] def law21_lives_b : T := .call c_law21_px [(n 1)] 7 <|
 .call c_law21_px [(n 2)] 7 <|
 .call c_law21_px [(n 3)] 7 <|
 .call c_implicit_Tracks [(.bin .make (.bin .cons .nil .nilc) (n 2)), (.bin .snoc .nil (.bin .cons (v 0) (.bin .cons (v 1) (.bin .cons (v 2) (.bin .cons (v 3) (.bin .cons (v 4) (.bin .cons (v 5) (.bin .cons (v 6) .nilc)))))))), (n 0), (n 0), (n 2), (.bin .snoc (.bin .snoc .nil (.bin .cons (v 7) (.bin .cons (v 8) (.bin .cons (v 9) (.bin .cons (v 10) (.bin .cons (v 11) (.bin .cons (v 12) (.bin .cons (v 13) .nilc)))))))) (.bin .cons (v 14) (.bin .cons (v 15) (.bin .cons (v 16) (.bin .cons (v 17) (.bin .cons (v 18) (.bin .cons (v 19) (.bin .cons (v 20) .nilc)))))))), (.bin .snoc .nil (.bin .cons (n 0) (.bin .cons (n (-1)) (.bin .cons (n 1) (.bin .cons (n 4) .nilc))))), (.bool false), (n 5)] 5 <|
 .ite (.bin .or (.un .not (.bin .and (.bin .and (cmp .eql (v 25) (n 0)) (cmp .eql (v 21) (n (-1)))) (cmp .eql (.un .len (v 22)) (n 4)))) (cmp .lss (n 0) (.un .len (v 22))))
 (.ite (.bin .and (.bin .and (cmp .eql (v 25) (n 0)) (cmp .eql (v 21) (n (-1)))) (cmp .eql (.un .len (v 22)) (n 4)))
  (.call c_law21_px [(n 3)] 7 <|
   .ite (.bin .or (.un .not (.bin .and (cmp .eql (at_ 0 (v 22) (n 0)) (v 26)) (.bin .and (cmp .eql (at_ 1 (v 22) (n 0)) (v 27)) (.bin .and (cmp .eql (at_ 2 (v 22) (n 0)) (v 28)) (.bin .and (cmp .eql (at_ 3 (v 22) (n 0)) (v 29)) (.bin .and (.bin .beq (.bin (.cell 4 (.bool)) (v 22) (n 0)) (v 30)) (.bin .and (cmp .eql (at_ 5 (v 22) (n 0)) (v 31)) (cmp .eql (at_ 6 (v 22) (n 0)) (v 32))))))))) (cmp .lss (n 1) (.un .len (v 22))))
   (.ite (.bin .and (cmp .eql (at_ 0 (v 22) (n 0)) (v 26)) (.bin .and (cmp .eql (at_ 1 (v 22) (n 0)) (v 27)) (.bin .and (cmp .eql (at_ 2 (v 22) (n 0)) (v 28)) (.bin .and (cmp .eql (at_ 3 (v 22) (n 0)) (v 29)) (.bin .and (.bin .beq (.bin (.cell 4 (.bool)) (v 22) (n 0)) (v 30)) (.bin .and (cmp .eql (at_ 5 (v 22) (n 0)) (v 31)) (cmp .eql (at_ 6 (v 22) (n 0)) (v 32))))))))
    (.call c_law21_px [(n 1)] 7 <|
     .ite (.bin .or (.un .not (.bin .and (cmp .eql (at_ 0 (v 22) (n 1)) (v 33)) (.bin .and (cmp .eql (at_ 1 (v 22) (n 1)) (v 34)) (.bin .and (cmp .eql (at_ 2 (v 22) (n 1)) (v 35)) (.bin .and (cmp .eql (at_ 3 (v 22) (n 1)) (v 36)) (.bin .and (.bin .beq (.bin (.cell 4 (.bool)) (v 22) (n 1)) (v 37)) (.bin .and (cmp .eql (at_ 5 (v 22) (n 1)) (v 38)) (cmp .eql (at_ 6 (v 22) (n 1)) (v 39))))))))) (cmp .lss (n 2) (.un .len (v 22))))
     (.ite (.bin .and (cmp .eql (at_ 0 (v 22) (n 1)) (v 33)) (.bin .and (cmp .eql (at_ 1 (v 22) (n 1)) (v 34)) (.bin .and (cmp .eql (at_ 2 (v 22) (n 1)) (v 35)) (.bin .and (cmp .eql (at_ 3 (v 22) (n 1)) (v 36)) (.bin .and (.bin .beq (.bin (.cell 4 (.bool)) (v 22) (n 1)) (v 37)) (.bin .and (cmp .eql (at_ 5 (v 22) (n 1)) (v 38)) (cmp .eql (at_ 6 (v 22) (n 1)) (v 39))))))))
      (.call c_law21_px [(n 2)] 7 <|
       .ite (.bin .or (.un .not (.bin .and (cmp .eql (at_ 0 (v 22) (n 2)) (v 40)) (.bin .and (cmp .eql (at_ 1 (v 22) (n 2)) (v 41)) (.bin .and (cmp .eql (at_ 2 (v 22) (n 2)) (v 42)) (.bin .and (cmp .eql (at_ 3 (v 22) (n 2)) (v 43)) (.bin .and (.bin .beq (.bin (.cell 4 (.bool)) (v 22) (n 2)) (v 44)) (.bin .and (cmp .eql (at_ 5 (v 22) (n 2)) (v 45)) (cmp .eql (at_ 6 (v 22) (n 2)) (v 46))))))))) (cmp .lss (n 3) (.un .len (v 22))))
       (.ite (.bin .and (cmp .eql (at_ 0 (v 22) (n 2)) (v 40)) (.bin .and (cmp .eql (at_ 1 (v 22) (n 2)) (v 41)) (.bin .and (cmp .eql (at_ 2 (v 22) (n 2)) (v 42)) (.bin .and (cmp .eql (at_ 3 (v 22) (n 2)) (v 43)) (.bin .and (.bin .beq (.bin (.cell 4 (.bool)) (v 22) (n 2)) (v 44)) (.bin .and (cmp .eql (at_ 5 (v 22) (n 2)) (v 45)) (cmp .eql (at_ 6 (v 22) (n 2)) (v 46))))))))
        (.call c_law21_px [(n 3)] 7 <|
         .ite (.bin .and (cmp .eql (at_ 0 (v 22) (n 3)) (v 47)) (.bin .and (cmp .eql (at_ 1 (v 22) (n 3)) (v 48)) (.bin .and (cmp .eql (at_ 2 (v 22) (n 3)) (v 49)) (.bin .and (cmp .eql (at_ 3 (v 22) (n 3)) (v 50)) (.bin .and (.bin .beq (.bin (.cell 4 (.bool)) (v 22) (n 3)) (v 51)) (.bin .and (cmp .eql (at_ 5 (v 22) (n 3)) (v 52)) (cmp .eql (at_ 6 (v 22) (n 3)) (v 53))))))))
         (.call c_implicit_Total [(v 21), (v 22), (v 23), (v 24)] 1 <|
          .ite (cmp .eql (v 54) (n 15))
          (.call c_implicit_Good [(v 21), (v 22), (v 23), (v 24)] 1 <|
           .ret [(v 55)])
          (.ret [(.bool false)]))
         (.ret [(.bool false)]))
        (.ret [(.bool false)]))
       (.fail ""))
      (.ret [(.bool false)]))
     (.fail ""))
    (.ret [(.bool false)]))
   (.fail ""))
  (.ret [(.bool false)]))
 (.fail "")
def law21_lives : T := law21_lives_b
/- parterre/parterreref06.isLen -/
abbrev c_ref06_isLen : Nat := 28
@[reducible] def ref06_isLen_b : T := .ret [(.bin .or (cmp .eql (v 0) (n 2)) (cmp .eql (v 0) (n 3)))]
def ref06_isLen : T := ref06_isLen_b
/- parterre/parterreref05.bits -/
abbrev c_ref05_bits : Nat := 39
@[reducible] def ref05_bits_b : T := .ret [(.un (.conv .i64) (.bin (.ar .rem .u64) (.un (.conv .u64) (v 0)) (.int .u64 64)))]
def ref05_bits : T := ref05_bits_b
/- parterre/parterreref05.Has -/
abbrev c_ref05_Has : Nat := 40
@[reducible] def ref05_Has_b : T := .ite (cmp .neq (v 1) (n 0))
 (.ret [(cmp .eql (.bin (.ar .rem .i64) (.bin (.ar .quo .i64) (v 0) (v 1)) (n 2)) (n 1))])
 (.fail "")
def ref05_Has : T := ref05_Has_b
/- parterre/parterreref05.Good -/
abbrev c_ref05_Good : Nat := 29
@[reducible] def ref05_Good_j0_b : T := .ret [(.bin .and (cmp .geq (v 1) (v 4)) (cmp .leq (v 1) (n 68719476736)))]
def ref05_Good_j0 : T := ref05_Good_j0_b
@[reducible] def ref05_Good_j1_b : T := .call c_ref05_Has [(v 3), (n 1)] 1 <|
 .ret [(.bin .and (.bin .and (v 5) (cmp .geq (v 1) (v 4))) (cmp .leq (v 1) (n 1073741824)))]
def ref05_Good_j1 : T := ref05_Good_j1_b
@[reducible] def ref05_Good_j2_b : T := .ite (v 4)
 (.call c_ref05_Has [(v 3), (n 8)] 1 <|
  .ret [(.bin .and (v 5) (cmp .eql (v 1) (n 0)))])
 (.ite (cmp .eql (v 0) (n 6))
  (.call c_ref05_Has [(v 3), (n 16)] 1 <|
   .ret [(.bin .and (.bin .and (v 5) (cmp .geq (v 1) (n 0))) (cmp .leq (v 1) (n 1073741824)))])
  (.ite (cmp .eql (v 0) (n 7))
   (.call c_ref05_Has [(v 3), (n 32)] 1 <|
    .ret [(.bin .and (v 5) (cmp .eql (v 1) (n 0)))])
   (.ret [(.bool false)])))
def ref05_Good_j2 : T := ref05_Good_j2_b
@[reducible] def ref05_Good_b : T := .call c_ref05_bits [(v 2)] 1 <|
 .ite (cmp .eql (v 0) (n 2))
 (.letj ref05_Good_j0 <|
  .call c_ref05_Has [(v 3), (n 2)] 1 <|
  .ite (v 4)
  (.jump 0 [(n (-68719476736))])
  (.jump 0 [(n 0)]))
 (.ite (cmp .eql (v 0) (n 3))
  (.letj ref05_Good_j1 <|
   .call c_ref05_Has [(v 3), (n 2)] 1 <|
   .ite (v 4)
   (.jump 0 [(n (-1073741824))])
   (.jump 0 [(n 0)]))
  (.ite (cmp .eql (v 0) (n 1))
   (.call c_ref05_Has [(v 3), (n 4)] 1 <|
    .ret [(.bin .and (v 4) (cmp .eql (v 1) (n 0)))])
   (.letj ref05_Good_j2 <|
    .ite (cmp .eql (v 0) (n 4))
    (.jump 0 [(cmp .eql (v 0) (n 4))])
    (.jump 0 [(cmp .eql (v 0) (n 5))]))))
def ref05_Good : T := ref05_Good_b
/- parterre/parterreref06.Right -/
abbrev c_ref06_Right : Nat := 16
@[reducible] def ref06_Right_b : T := .ite (v 4)
 (.ite (.bin .and (.bin .and (cmp .eql (v 0) (n 1)) (cmp .eql (v 1) (n 0))) (.bin .and (cmp .eql (v 2) (n 5)) (cmp .eql (v 3) (n 0))))
  (.call c_ref06_isLen [(v 5), (v 6)] 1 <|
   .ite (v 7)
   (.call c_ref05_Good [(v 5), (v 6), (n 1)] 1 <|
    .ret [(v 8)])
   (.ret [(.bool false)]))
  (.ret [(.bool false)]))
 (.ite (.bin .and (cmp .eql (v 5) (n 0)) (cmp .eql (v 6) (n 0)))
  (.call c_ref05_Good [(v 0), (v 1), (n 13)] 1 <|
   .ite (v 7)
   (.call c_ref05_Good [(v 2), (v 3), (n 29)] 1 <|
    .ret [(v 8)])
   (.ret [(.bool false)]))
  (.ret [(.bool false)]))
def ref06_Right : T := ref06_Right_b
/- parterre/parterreref21.within -/
abbrev c_ref21_within : Nat := 17
@[reducible] def ref21_within_b : T := .ret [(.bin .and (cmp .geq (v 0) (n 0)) (cmp .leq (v 0) (n 68719476736)))]
def ref21_within : T := ref21_within_b
/- parterre/parterreref21.Good -/
abbrev c_ref21_Good : Nat := 7
@[reducible] def ref21_Good_j1_b : T := .ite (v 5)
 (.ret [(.bool false)])
 (.jump 0 [(add (v 4) (n 1))])
def ref21_Good_j1 : T := ref21_Good_j1_b
@[reducible] def ref21_Good_l0_b : T := .ite (cmp .lss (v 4) (.un .len (v 1)))
 (.letj ref21_Good_j1 <|
  .ite (cmp .leq (n 0) (v 4))
  (.call c_ref06_Right [(at_ 0 (v 1) (v 4)), (at_ 1 (v 1) (v 4)), (at_ 2 (v 1) (v 4)), (at_ 3 (v 1) (v 4)), (.bin (.cell 4 (.bool)) (v 1) (v 4)), (at_ 5 (v 1) (v 4)), (at_ 6 (v 1) (v 4))] 1 <|
   .ite (.bin .or (.un .not (v 5)) (cmp .lss (v 4) (.un .len (v 3))))
   (.ite (v 5)
    (.call c_ref21_within [(at_ 0 (v 3) (v 4))] 1 <|
     .ite (.bin .or (.un .not (.bin .and (v 6) (.un .not (cmp .eql (v 4) (n 0))))) (cmp .lss (v 4) (.un .len (v 2))))
     (.ite (.bin .or (.un .not (.bin .and (v 6) (.bin .or (cmp .eql (v 4) (n 0)) (.bin (.cell 0 (.bool)) (v 2) (v 4))))) (cmp .lss (v 4) (.un .len (v 3))))
      (.jump 1 [(.bin .or (.un .not (v 6)) (.bin .and (.bin .or (cmp .eql (v 4) (n 0)) (.bin (.cell 0 (.bool)) (v 2) (v 4))) (cmp .neq (at_ 0 (v 3) (v 4)) (n 0))))])
      (.fail ""))
     (.fail ""))
    (.jump 1 [(.bool true)]))
   (.fail ""))
  (.fail ""))
 (.ret [(.bool true)])
def ref21_Good_l0 : T := ref21_Good_l0_b
@[reducible] def ref21_Good_b : T := .ite (.bin .or (.bin .or (.bin .or (.bin .or (cmp .gtr (.un .len (v 1)) (n 40000)) (cmp .neq (.un .len (v 2)) (.un .len (v 1)))) (cmp .neq (.un .len (v 3)) (.un .len (v 1)))) (cmp .gtr (v 0) (n 0))) (cmp .lss (v 0) (n (-10000))))
 (.ret [(.bool false)])
 (.loop [(n 0)] ref21_Good_l0)
def ref21_Good : T := ref21_Good_b
/- parterre/parterreref21.Total -/
abbrev c_ref21_Total : Nat := 9
@[reducible] def ref21_Total_l0_b : T := .ite (cmp .lss (v 4) (.un .len (v 3)))
 (.ite (cmp .leq (n 0) (v 4))
  (.jump 0 [(add (v 4) (n 1)), (add (v 5) (at_ 0 (v 3) (v 4)))])
  (.fail ""))
 (.ret [(v 5)])
def ref21_Total_l0 : T := ref21_Total_l0_b
@[reducible] def ref21_Total_b : T := .loop [(n 0), (n 0)] ref21_Total_l0
def ref21_Total : T := ref21_Total_b
/- parterre/parterrelaw21.ImplicitGood -/
abbrev c_law21_ImplicitGood : Nat := 3
@[reducible] def law21_ImplicitGood_b : T := .ite (.bin .or (cmp .gtr (.un .len (v 1)) (n 2000)) (cmp .gtr (.un .len (v 3)) (n 2000)))
 (.call c_law21_lives [] 1 <|
  .ret [(v 4)])
 (.call c_implicit_Good [(v 0), (v 1), (v 2), (v 3)] 1 <|
  .call c_ref21_Good [(v 0), (v 1), (v 2), (v 3)] 1 <|
  .ite (.bin .beq (v 4) (v 5))
  (.call c_implicit_Total [(v 0), (v 1), (v 2), (v 3)] 1 <|
   .call c_ref21_Total [(v 0), (v 1), (v 2), (v 3)] 1 <|
   .ite (cmp .eql (v 6) (v 7))
   (.call c_law21_lives [] 1 <|
    .ret [(v 8)])
   (.ret [(.bool false)]))
  (.ret [(.bool false)]))
def law21_ImplicitGood : T := law21_ImplicitGood_b
/- parterre/parterrelaw21.light -/
abbrev c_law21_light : Nat := 10
@[reducible] def law21_light_b : T := .ret [(.bin .and (.bin .and (.bin .and (cmp .leq (.un .len (v 1)) (n 300)) (cmp .leq (.un .len (v 0)) (n 400))) (cmp .leq (.un .len (v 4)) (n 300))) (cmp .leq (.un .len (v 5)) (n 60)))]
def law21_light : T := law21_light_b
/- parterre/parterreref19.Good -/
abbrev c_ref19_Good : Nat := 12
@[reducible] def ref19_Good_b : T := .ret [(.bin .and (.bin .and (.bin .and (.bin .and (.bin .and (.bin .and (.bin .and (cmp .geq (v 0) (n (-10000))) (cmp .leq (v 0) (n 10000))) (cmp .geq (v 1) (n (-10000)))) (cmp .leq (v 1) (n 10000))) (cmp .geq (v 2) (n 1))) (cmp .leq (v 2) (n 20000))) (cmp .geq (v 3) (n 1))) (cmp .leq (v 3) (n 20000)))]
def ref19_Good : T := ref19_Good_b
/- parterre/parterrelaw21.ImplicitGaps -/
abbrev c_law21_ImplicitGaps : Nat := 4
@[reducible] def law21_ImplicitGaps_j1_b : T := .jump 0 [(add (v 15) (n 1)), (v 17)]
def law21_ImplicitGaps_j1 : T := law21_ImplicitGaps_j1_b
@[reducible] def law21_ImplicitGaps_j3_b : T := .jump 1 [(add (v 17) (n 1))]
def law21_ImplicitGaps_j3 : T := law21_ImplicitGaps_j3_b
@[reducible] def law21_ImplicitGaps_l5_b : T := .ite (cmp .lss (v 21) (v 18))
 (.ite (cmp .leq (n 0) (sub (v 21) (v 10)))
  (.ite (cmp .lss (sub (v 21) (v 10)) (.un .len (v 12)))
   (.ite (.bin (.cell 0 (.bool)) (v 12) (sub (v 21) (v 10)))
    (.ret [(.bool false)])
    (.jump 3 [(add (v 21) (n 1))]))
   (.fail ""))
  (.fail ""))
 (.jump 2 [])
def law21_ImplicitGaps_l5 : T := law21_ImplicitGaps_l5_b
@[reducible] def law21_ImplicitGaps_j4_b : T := .call c_ref19_Good [(at_ 0 (v 6) (v 17)), (at_ 1 (v 6) (v 17)), (at_ 2 (v 6) (v 17)), (at_ 3 (v 6) (v 17))] 1 <|
 .ite (v 20)
 (.ite (.bin .or (cmp .lss (v 19) (v 10)) (cmp .gtr (v 18) (add (v 10) (.un .len (v 11)))))
  (.ret [(.bool false)])
  (.loop [(v 19)] law21_ImplicitGaps_l5))
 (.jump 2 [])
def law21_ImplicitGaps_j4 : T := law21_ImplicitGaps_j4_b
@[reducible] def law21_ImplicitGaps_l2_b : T := .ite (cmp .lss (v 17) (.un .len (v 6)))
 (.letj law21_ImplicitGaps_j3 <|
  .ite (cmp .leq (n 0) (v 17))
  (.letj law21_ImplicitGaps_j4 <|
   .ite (v 7)
   (.jump 3 [(add (at_ 0 (v 6) (v 17)) (at_ 2 (v 6) (v 17))), (at_ 0 (v 6) (v 17))])
   (.jump 3 [(add (at_ 1 (v 6) (v 17)) (at_ 3 (v 6) (v 17))), (at_ 1 (v 6) (v 17))]))
  (.fail ""))
 (.call c_implicit_Total [(v 10), (v 11), (v 12), (v 13)] 1 <|
  .ite (cmp .eql (v 18) (.bin (.ar .mul .i64) (v 8) (.bin (.max .i64) (n 0) (sub (v 16) (n 1)))))
  (.call c_law21_lives [] 1 <|
   .ret [(v 19)])
  (.ret [(.bool false)]))
def law21_ImplicitGaps_l2 : T := law21_ImplicitGaps_l2_b
@[reducible] def law21_ImplicitGaps_l0_b : T := .ite (cmp .lss (v 15) (.un .len (v 11)))
 (.letj law21_ImplicitGaps_j1 <|
  .ite (cmp .leq (n 0) (v 15))
  (.ite (cmp .lss (v 15) (.un .len (v 12)))
   (.ite (.bin (.cell 0 (.bool)) (v 12) (v 15))
    (.jump 1 [(v 16)])
    (.jump 1 [(add (v 16) (n 1))]))
   (.fail ""))
  (.fail ""))
 (.loop [(n 0)] law21_ImplicitGaps_l2)
def law21_ImplicitGaps_l0 : T := law21_ImplicitGaps_l0_b
@[reducible] def law21_ImplicitGaps_b : T := .call c_law21_light [(v 0), (v 1), (v 2), (v 3), (v 5), (v 6)] 1 <|
 .ite (v 9)
 (.call c_implicit_Tracks [(v 0), (v 1), (v 2), (v 3), (v 4), (v 5), (v 6), (v 7), (v 8)] 5 <|
  .ite (cmp .neq (v 14) (n 0))
  (.ite (cmp .eql (.un .len (v 11)) (n 0))
   (.call c_law21_lives [] 1 <|
    .ret [(v 15)])
   (.ret [(.bool false)]))
  (.ite (cmp .neq (.un .len (v 12)) (.un .len (v 11)))
   (.ret [(.bool false)])
   (.loop [(n 0), (n 0)] law21_ImplicitGaps_l0)))
 (.call c_law21_lives [] 1 <|
  .ret [(v 10)])
def law21_ImplicitGaps : T := law21_ImplicitGaps_b
def sigL : List (Nat × Sig) := [
  (13, ⟨[.leaf (.int .i64)], [.agg [.int .i64, .int .i64, .int .i64, .int .i64, .bool, .int .i64, .int .i64]]⟩) -- law21_px
  ,(43, ⟨[.leaf (.int .i64), .leaf (.int .i64), .leaf (.int .i64), .leaf (.int .i64)], [.leaf (.bool)]⟩) -- occupy_Overlap_1
  ,(44, ⟨[.leaf (.int .i64)], [.leaf (.bool)]⟩) -- occupy_good_1
  ,(45, ⟨[.leaf (.int .i64)], [.leaf (.bool)]⟩) -- occupy_good_2
  ,(42, ⟨[.agg [.int .i64, .int .i64, .int .i64, .int .i64]], [.leaf (.bool)]⟩) -- occupy_good
  ,(41, ⟨[.agg [.int .i64, .int .i64, .int .i64, .int .i64], .agg [.int .i64, .int .i64, .int .i64, .int .i64]], [.leaf (.bool)]⟩) -- occupy_Overlap
  ,(33, ⟨[.leaf (.row [.int .i64, .int .i64, .int .i64, .int .i64]), .agg [.int .i64, .int .i64, .int .i64, .int .i64]], [.leaf (.bool)]⟩) -- occupy_Free
  ,(34, ⟨[.agg [.int .i64, .int .i64, .int .i64, .int .i64], .leaf (.bool)], [.agg [.int .i64, .int .i64]]⟩) -- implicit_side
  ,(21, ⟨[.leaf (.row [.int .i64, .int .i64, .int .i64, .int .i64]), .leaf (.int .i64), .leaf (.bool)], [.leaf (.int .i64), .leaf (.int .i64)]⟩) -- implicit_Bounds
  ,(35, ⟨[.leaf (.int .i64), .leaf (.int .i64)], [.leaf (.int .i64)]⟩) -- fixed_Div
  ,(23, ⟨[.leaf (.int .i64), .leaf (.int .i64)], [.leaf (.int .i64)]⟩) -- fixed_Mod
  ,(36, ⟨[], [.agg [.int .i64, .int .i64]]⟩) -- track_auto
  ,(24, ⟨[.agg [.int .i64, .int .i64]], [.agg [.int .i64, .int .i64, .int .i64, .int .i64, .bool, .int .i64, .int .i64]]⟩) -- track_fit
  ,(25, ⟨[.agg [.int .i64, .int .i64]], [.leaf (.bool)]⟩) -- track_isLen
  ,(38, ⟨[.leaf (.int .i64)], [.leaf (.int .i64)]⟩) -- value_keyBit
  ,(26, ⟨[.agg [.int .i64, .int .i64], .leaf (.int .i64)], [.leaf (.bool)]⟩) -- value_Good
  ,(14, ⟨[.agg [.int .i64, .int .i64, .int .i64, .int .i64, .bool, .int .i64, .int .i64]], [.leaf (.bool)]⟩) -- track_Right
  ,(18, ⟨[.agg [.int .i64, .int .i64, .int .i64, .int .i64, .bool, .int .i64, .int .i64]], [.leaf (.bool)]⟩) -- implicit_Tracks_1
  ,(30, ⟨[.agg [.int .i64, .int .i64, .int .i64, .int .i64, .bool, .int .i64, .int .i64]], [.leaf (.bool)]⟩) -- expand_Good_1
  ,(19, ⟨[.agg [.row [.row [.str]], .row [.int .i64, .int .i64, .int .i64, .int .i64, .bool, .int .i64, .int .i64], .int .i64, .int .i64]], [.leaf (.bool)]⟩) -- expand_Good
  ,(27, ⟨[.leaf (.int .i64)], [.leaf (.bool)]⟩) -- fixed_Is
  ,(15, ⟨[.leaf (.int .i64)], [.leaf (.bool)]⟩) -- implicit_within
  ,(11, ⟨[.agg [.row [.row [.str]], .row [.int .i64, .int .i64, .int .i64, .int .i64, .bool, .int .i64, .int .i64], .int .i64, .int .i64], .leaf (.int .i64), .leaf (.row [.int .i64, .int .i64, .int .i64, .int .i64, .bool, .int .i64, .int .i64]), .leaf (.row [.int .i64, .int .i64, .int .i64, .int .i64]), .leaf (.bool), .leaf (.int .i64)], [.agg [.int .i64, .row [.int .i64, .int .i64, .int .i64, .int .i64, .bool, .int .i64, .int .i64], .row [.bool], .row [.int .i64]], .leaf (.int .i64)]⟩) -- implicit_Tracks
  ,(8, ⟨[.agg [.int .i64, .row [.int .i64, .int .i64, .int .i64, .int .i64, .bool, .int .i64, .int .i64], .row [.bool], .row [.int .i64]]], [.leaf (.int .i64)]⟩) -- implicit_Total
  ,(6, ⟨[.agg [.int .i64, .row [.int .i64, .int .i64, .int .i64, .int .i64, .bool, .int .i64, .int .i64], .row [.bool], .row [.int .i64]]], [.leaf (.bool)]⟩) -- implicit_Good
  ,(5, ⟨[], [.leaf (.bool)]⟩) -- law21_lives
  ,(28, ⟨[.agg [.int .i64, .int .i64]], [.leaf (.bool)]⟩) -- ref06_isLen
  ,(39, ⟨[.leaf (.int .i64)], [.leaf (.int .i64)]⟩) -- ref05_bits
  ,(40, ⟨[.leaf (.int .i64), .leaf (.int .i64)], [.leaf (.bool)]⟩) -- ref05_Has
  ,(29, ⟨[.agg [.int .i64, .int .i64], .leaf (.int .i64)], [.leaf (.bool)]⟩) -- ref05_Good
  ,(16, ⟨[.agg [.int .i64, .int .i64, .int .i64, .int .i64, .bool, .int .i64, .int .i64]], [.leaf (.bool)]⟩) -- ref06_Right
  ,(17, ⟨[.leaf (.int .i64)], [.leaf (.bool)]⟩) -- ref21_within
  ,(7, ⟨[.agg [.int .i64, .row [.int .i64, .int .i64, .int .i64, .int .i64, .bool, .int .i64, .int .i64], .row [.bool], .row [.int .i64]]], [.leaf (.bool)]⟩) -- ref21_Good
  ,(9, ⟨[.agg [.int .i64, .row [.int .i64, .int .i64, .int .i64, .int .i64, .bool, .int .i64, .int .i64], .row [.bool], .row [.int .i64]]], [.leaf (.int .i64)]⟩) -- ref21_Total
  ,(3, ⟨[.agg [.int .i64, .row [.int .i64, .int .i64, .int .i64, .int .i64, .bool, .int .i64, .int .i64], .row [.bool], .row [.int .i64]]], [.leaf (.bool)]⟩) -- law21_ImplicitGood
  ,(10, ⟨[.agg [.row [.row [.str]], .row [.int .i64, .int .i64, .int .i64, .int .i64, .bool, .int .i64, .int .i64], .int .i64, .int .i64], .leaf (.row [.int .i64, .int .i64, .int .i64, .int .i64, .bool, .int .i64, .int .i64]), .leaf (.row [.int .i64, .int .i64, .int .i64, .int .i64])], [.leaf (.bool)]⟩) -- law21_light
  ,(12, ⟨[.agg [.int .i64, .int .i64, .int .i64, .int .i64]], [.leaf (.bool)]⟩) -- ref19_Good
  ,(4, ⟨[.agg [.row [.row [.str]], .row [.int .i64, .int .i64, .int .i64, .int .i64, .bool, .int .i64, .int .i64], .int .i64, .int .i64], .leaf (.int .i64), .leaf (.row [.int .i64, .int .i64, .int .i64, .int .i64, .bool, .int .i64, .int .i64]), .leaf (.row [.int .i64, .int .i64, .int .i64, .int .i64]), .leaf (.bool), .leaf (.int .i64)], [.leaf (.bool)]⟩) -- law21_ImplicitGaps
  ]
def trL : List (Nat × T) := [(13, law21_px), (43, occupy_Overlap_1), (44, occupy_good_1), (45, occupy_good_2), (42, occupy_good), (41, occupy_Overlap), (33, occupy_Free), (34, implicit_side), (21, implicit_Bounds), (35, fixed_Div), (23, fixed_Mod), (36, track_auto), (24, track_fit), (25, track_isLen), (38, value_keyBit), (26, value_Good), (14, track_Right), (18, implicit_Tracks_1), (30, expand_Good_1), (19, expand_Good), (27, fixed_Is), (15, implicit_within), (11, implicit_Tracks), (8, implicit_Total), (6, implicit_Good), (5, law21_lives), (28, ref06_isLen), (39, ref05_bits), (40, ref05_Has), (29, ref05_Good), (16, ref06_Right), (17, ref21_within), (7, ref21_Good), (9, ref21_Total), (3, law21_ImplicitGood), (10, law21_light), (12, ref19_Good), (4, law21_ImplicitGaps)]

def sg (f : Nat) : Option Sig := Go.Proofs.Ytmfjdoanipgjkaa.Sx.look sigL f
def tr (f : Nat) : Option T := Go.Proofs.Ytmfjdoanipgjkaa.Sx.look trL f
/-- What the trees say, so many rounds and calls deep. -/
def says (k : Nat) : Nat → List PV → Option (List PV) := told tr k k
/-- THE ONE PURE STATEMENT of parterre/parterrelaw21.ImplicitGood. -/
def Pure_ImplicitGood : Prop := ∀ (q0 : List PV), LK.oks [.int .i64, .row [.int .i64, .int .i64, .int .i64, .int .i64, .bool, .int .i64, .int .i64], .row [.bool], .row [.int .i64]] q0 → LK.wfs [.int .i64, .row [.int .i64, .int .i64, .int .i64, .int .i64, .bool, .int .i64, .int .i64], .row [.bool], .row [.int .i64]] q0 → ∃ k, says k c_law21_ImplicitGood ((q0 ++ [])) = some [.bool true]
/-- THE ONE PURE STATEMENT of parterre/parterrelaw21.ImplicitGaps. -/
def Pure_ImplicitGaps : Prop := ∀ (q0 : List PV), ∀ (p1 : PV), ∀ (p2 : PV), ∀ (p3 : PV), ∀ (p4 : PV), ∀ (p5 : PV), LK.oks [.row [.row [.str]], .row [.int .i64, .int .i64, .int .i64, .int .i64, .bool, .int .i64, .int .i64], .int .i64, .int .i64] q0 → LK.wfs [.row [.row [.str]], .row [.int .i64, .int .i64, .int .i64, .int .i64, .bool, .int .i64, .int .i64], .int .i64, .int .i64] q0 → ((.int .i64) : LK).ok p1 → ((.int .i64) : LK).wf p1 → ((.row [.int .i64, .int .i64, .int .i64, .int .i64, .bool, .int .i64, .int .i64]) : LK).ok p2 → ((.row [.int .i64, .int .i64, .int .i64, .int .i64, .bool, .int .i64, .int .i64]) : LK).wf p2 → p2.r.length * 56 ≤ 140737488351232 → ((.row [.int .i64, .int .i64, .int .i64, .int .i64]) : LK).ok p3 → ((.row [.int .i64, .int .i64, .int .i64, .int .i64]) : LK).wf p3 → p3.r.length * 32 ≤ 140737488351232 → ((.bool) : LK).ok p4 → ((.bool) : LK).wf p4 → ((.int .i64) : LK).ok p5 → ((.int .i64) : LK).wf p5 → ∃ k, says k c_law21_ImplicitGaps ((q0 ++ (p1 :: (p2 :: (p3 :: (p4 :: (p5 :: []))))))) = some [.bool true]
section
variable {ρ : List PV} {J : List JT} {r : List PV}
theorem u_law21_px : Run tr law21_px ρ J r ↔ Run tr law21_px_b ρ J r := Iff.rfl
theorem u_occupy_Overlap_1 : Run tr occupy_Overlap_1 ρ J r ↔ Run tr occupy_Overlap_1_b ρ J r := Iff.rfl
theorem u_occupy_good_1 : Run tr occupy_good_1 ρ J r ↔ Run tr occupy_good_1_b ρ J r := Iff.rfl
theorem u_occupy_good_2 : Run tr occupy_good_2 ρ J r ↔ Run tr occupy_good_2_b ρ J r := Iff.rfl
theorem u_occupy_good : Run tr occupy_good ρ J r ↔ Run tr occupy_good_b ρ J r := Iff.rfl
theorem u_occupy_Overlap_j0 : Run tr occupy_Overlap_j0 ρ J r ↔ Run tr occupy_Overlap_j0_b ρ J r := Iff.rfl
theorem u_occupy_Overlap : Run tr occupy_Overlap ρ J r ↔ Run tr occupy_Overlap_b ρ J r := Iff.rfl
theorem u_occupy_Free_l0 : Run tr occupy_Free_l0 ρ J r ↔ Run tr occupy_Free_l0_b ρ J r := Iff.rfl
theorem u_occupy_Free : Run tr occupy_Free ρ J r ↔ Run tr occupy_Free_b ρ J r := Iff.rfl
theorem u_implicit_side : Run tr implicit_side ρ J r ↔ Run tr implicit_side_b ρ J r := Iff.rfl
theorem u_implicit_Bounds_j1 : Run tr implicit_Bounds_j1 ρ J r ↔ Run tr implicit_Bounds_j1_b ρ J r := Iff.rfl
theorem u_implicit_Bounds_l0 : Run tr implicit_Bounds_l0 ρ J r ↔ Run tr implicit_Bounds_l0_b ρ J r := Iff.rfl
theorem u_implicit_Bounds : Run tr implicit_Bounds ρ J r ↔ Run tr implicit_Bounds_b ρ J r := Iff.rfl
theorem u_fixed_Div_j0 : Run tr fixed_Div_j0 ρ J r ↔ Run tr fixed_Div_j0_b ρ J r := Iff.rfl
theorem u_fixed_Div : Run tr fixed_Div ρ J r ↔ Run tr fixed_Div_b ρ J r := Iff.rfl
theorem u_fixed_Mod : Run tr fixed_Mod ρ J r ↔ Run tr fixed_Mod_b ρ J r := Iff.rfl
theorem u_track_auto : Run tr track_auto ρ J r ↔ Run tr track_auto_b ρ J r := Iff.rfl
theorem u_track_fit : Run tr track_fit ρ J r ↔ Run tr track_fit_b ρ J r := Iff.rfl
theorem u_track_isLen : Run tr track_isLen ρ J r ↔ Run tr track_isLen_b ρ J r := Iff.rfl
theorem u_value_keyBit_j0 : Run tr value_keyBit_j0 ρ J r ↔ Run tr value_keyBit_j0_b ρ J r := Iff.rfl
theorem u_value_keyBit : Run tr value_keyBit ρ J r ↔ Run tr value_keyBit_b ρ J r := Iff.rfl
theorem u_value_Good_j0 : Run tr value_Good_j0 ρ J r ↔ Run tr value_Good_j0_b ρ J r := Iff.rfl
theorem u_value_Good_j1 : Run tr value_Good_j1 ρ J r ↔ Run tr value_Good_j1_b ρ J r := Iff.rfl
theorem u_value_Good : Run tr value_Good ρ J r ↔ Run tr value_Good_b ρ J r := Iff.rfl
theorem u_track_Right : Run tr track_Right ρ J r ↔ Run tr track_Right_b ρ J r := Iff.rfl
theorem u_implicit_Tracks_1 : Run tr implicit_Tracks_1 ρ J r ↔ Run tr implicit_Tracks_1_b ρ J r := Iff.rfl
theorem u_expand_Good_1 : Run tr expand_Good_1 ρ J r ↔ Run tr expand_Good_1_b ρ J r := Iff.rfl
theorem u_expand_Good_j0 : Run tr expand_Good_j0 ρ J r ↔ Run tr expand_Good_j0_b ρ J r := Iff.rfl
theorem u_expand_Good_j1 : Run tr expand_Good_j1 ρ J r ↔ Run tr expand_Good_j1_b ρ J r := Iff.rfl
theorem u_expand_Good_l2 : Run tr expand_Good_l2 ρ J r ↔ Run tr expand_Good_l2_b ρ J r := Iff.rfl
theorem u_expand_Good : Run tr expand_Good ρ J r ↔ Run tr expand_Good_b ρ J r := Iff.rfl
theorem u_fixed_Is : Run tr fixed_Is ρ J r ↔ Run tr fixed_Is_b ρ J r := Iff.rfl
theorem u_implicit_within : Run tr implicit_within ρ J r ↔ Run tr implicit_within_b ρ J r := Iff.rfl
theorem u_implicit_Tracks_j0 : Run tr implicit_Tracks_j0 ρ J r ↔ Run tr implicit_Tracks_j0_b ρ J r := Iff.rfl
theorem u_implicit_Tracks_j5 : Run tr implicit_Tracks_j5 ρ J r ↔ Run tr implicit_Tracks_j5_b ρ J r := Iff.rfl
theorem u_implicit_Tracks_l6 : Run tr implicit_Tracks_l6 ρ J r ↔ Run tr implicit_Tracks_l6_b ρ J r := Iff.rfl
theorem u_implicit_Tracks_j8 : Run tr implicit_Tracks_j8 ρ J r ↔ Run tr implicit_Tracks_j8_b ρ J r := Iff.rfl
theorem u_implicit_Tracks_j9 : Run tr implicit_Tracks_j9 ρ J r ↔ Run tr implicit_Tracks_j9_b ρ J r := Iff.rfl
theorem u_implicit_Tracks_l7 : Run tr implicit_Tracks_l7 ρ J r ↔ Run tr implicit_Tracks_l7_b ρ J r := Iff.rfl
theorem u_implicit_Tracks_l4 : Run tr implicit_Tracks_l4 ρ J r ↔ Run tr implicit_Tracks_l4_b ρ J r := Iff.rfl
theorem u_implicit_Tracks_l3 : Run tr implicit_Tracks_l3 ρ J r ↔ Run tr implicit_Tracks_l3_b ρ J r := Iff.rfl
theorem u_implicit_Tracks_j2 : Run tr implicit_Tracks_j2 ρ J r ↔ Run tr implicit_Tracks_j2_b ρ J r := Iff.rfl
theorem u_implicit_Tracks_j10 : Run tr implicit_Tracks_j10 ρ J r ↔ Run tr implicit_Tracks_j10_b ρ J r := Iff.rfl
theorem u_implicit_Tracks_l11 : Run tr implicit_Tracks_l11 ρ J r ↔ Run tr implicit_Tracks_l11_b ρ J r := Iff.rfl
theorem u_implicit_Tracks_j1 : Run tr implicit_Tracks_j1 ρ J r ↔ Run tr implicit_Tracks_j1_b ρ J r := Iff.rfl
theorem u_implicit_Tracks : Run tr implicit_Tracks ρ J r ↔ Run tr implicit_Tracks_b ρ J r := Iff.rfl
theorem u_implicit_Total_l0 : Run tr implicit_Total_l0 ρ J r ↔ Run tr implicit_Total_l0_b ρ J r := Iff.rfl
theorem u_implicit_Total : Run tr implicit_Total ρ J r ↔ Run tr implicit_Total_b ρ J r := Iff.rfl
theorem u_implicit_Good_j1 : Run tr implicit_Good_j1 ρ J r ↔ Run tr implicit_Good_j1_b ρ J r := Iff.rfl
theorem u_implicit_Good_l0 : Run tr implicit_Good_l0 ρ J r ↔ Run tr implicit_Good_l0_b ρ J r := Iff.rfl
theorem u_implicit_Good : Run tr implicit_Good ρ J r ↔ Run tr implicit_Good_b ρ J r := Iff.rfl
theorem u_law21_lives : Run tr law21_lives ρ J r ↔ Run tr law21_lives_b ρ J r := Iff.rfl
theorem u_ref06_isLen : Run tr ref06_isLen ρ J r ↔ Run tr ref06_isLen_b ρ J r := Iff.rfl
theorem u_ref05_bits : Run tr ref05_bits ρ J r ↔ Run tr ref05_bits_b ρ J r := Iff.rfl
theorem u_ref05_Has : Run tr ref05_Has ρ J r ↔ Run tr ref05_Has_b ρ J r := Iff.rfl
theorem u_ref05_Good_j0 : Run tr ref05_Good_j0 ρ J r ↔ Run tr ref05_Good_j0_b ρ J r := Iff.rfl
theorem u_ref05_Good_j1 : Run tr ref05_Good_j1 ρ J r ↔ Run tr ref05_Good_j1_b ρ J r := Iff.rfl
theorem u_ref05_Good_j2 : Run tr ref05_Good_j2 ρ J r ↔ Run tr ref05_Good_j2_b ρ J r := Iff.rfl
theorem u_ref05_Good : Run tr ref05_Good ρ J r ↔ Run tr ref05_Good_b ρ J r := Iff.rfl
theorem u_ref06_Right : Run tr ref06_Right ρ J r ↔ Run tr ref06_Right_b ρ J r := Iff.rfl
theorem u_ref21_within : Run tr ref21_within ρ J r ↔ Run tr ref21_within_b ρ J r := Iff.rfl
theorem u_ref21_Good_j1 : Run tr ref21_Good_j1 ρ J r ↔ Run tr ref21_Good_j1_b ρ J r := Iff.rfl
theorem u_ref21_Good_l0 : Run tr ref21_Good_l0 ρ J r ↔ Run tr ref21_Good_l0_b ρ J r := Iff.rfl
theorem u_ref21_Good : Run tr ref21_Good ρ J r ↔ Run tr ref21_Good_b ρ J r := Iff.rfl
theorem u_ref21_Total_l0 : Run tr ref21_Total_l0 ρ J r ↔ Run tr ref21_Total_l0_b ρ J r := Iff.rfl
theorem u_ref21_Total : Run tr ref21_Total ρ J r ↔ Run tr ref21_Total_b ρ J r := Iff.rfl
theorem u_law21_ImplicitGood : Run tr law21_ImplicitGood ρ J r ↔ Run tr law21_ImplicitGood_b ρ J r := Iff.rfl
theorem u_law21_light : Run tr law21_light ρ J r ↔ Run tr law21_light_b ρ J r := Iff.rfl
theorem u_ref19_Good : Run tr ref19_Good ρ J r ↔ Run tr ref19_Good_b ρ J r := Iff.rfl
theorem u_law21_ImplicitGaps_j1 : Run tr law21_ImplicitGaps_j1 ρ J r ↔ Run tr law21_ImplicitGaps_j1_b ρ J r := Iff.rfl
theorem u_law21_ImplicitGaps_j3 : Run tr law21_ImplicitGaps_j3 ρ J r ↔ Run tr law21_ImplicitGaps_j3_b ρ J r := Iff.rfl
theorem u_law21_ImplicitGaps_l5 : Run tr law21_ImplicitGaps_l5 ρ J r ↔ Run tr law21_ImplicitGaps_l5_b ρ J r := Iff.rfl
theorem u_law21_ImplicitGaps_j4 : Run tr law21_ImplicitGaps_j4 ρ J r ↔ Run tr law21_ImplicitGaps_j4_b ρ J r := Iff.rfl
theorem u_law21_ImplicitGaps_l2 : Run tr law21_ImplicitGaps_l2 ρ J r ↔ Run tr law21_ImplicitGaps_l2_b ρ J r := Iff.rfl
theorem u_law21_ImplicitGaps_l0 : Run tr law21_ImplicitGaps_l0 ρ J r ↔ Run tr law21_ImplicitGaps_l0_b ρ J r := Iff.rfl
theorem u_law21_ImplicitGaps : Run tr law21_ImplicitGaps ρ J r ↔ Run tr law21_ImplicitGaps_b ρ J r := Iff.rfl
end
end Go.Proofs.Ytmfjdoanipgjkaa.T
