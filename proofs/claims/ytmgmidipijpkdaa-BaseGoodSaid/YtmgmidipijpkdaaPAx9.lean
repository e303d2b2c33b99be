-- written by a program of this session (a print of the translation with changes of its own)
import Derived.Test.YtmgmidipijpkdaaPAx0
import Derived.Test.YtmgmidipijpkdaaPAx5
import Derived.Test.YtmgmidipijpkdaaPAx6
import Derived.Test.YtmgmidipijpkdaaPAx8
namespace Go.Proofs.Ytmgmidipijpkdaa.PA
open Go.RowKit Go.Proofs.YtmgmidipijpkdaaW.PrintWords Go.Proofs.YtmgmidipijpkdaaW.PrintLast Go.Proofs.YtmgmidipijpkdaaW.PrintMore
abbrev pbAx9_0 : Array Bool := #[true, true, true, true, true, true, true, true, true, true, true, true, false]
abbrev poAx9_0 (a0 : Int) (a1 : Int) (a2 : Int) (a3 : Int) (a4 : Bool) (a5 : Int) (a6 : Int) : Obj := .cells #[.int .i64 a0, .int .i64 a1, .int .i64 a2, .int .i64 a3, .bool a4, .int .i64 a5, .int .i64 a6] 25 (0, 0)
abbrev poAx9_1 (a0 : Int) (a1 : Int) (a2 : Int) (a3 : Bool) (a4 : Int) (a5 : Int) (a6 : Int) : Obj := .cells #[.int .i64 a0, .int .i64 a1, .int .i64 a2, .bool a3, .int .i64 a4, .int .i64 a5, .int .i64 a6] 27 (0, 0)
abbrev poAx9_2 (a0 : Int) (a1 : Int) (a2 : Int) : Obj := .cells #[.int .i64 a0, .int .i64 a1, .int .i64 a2] 51 (0, 0)
abbrev poAx9_3 (a0 : Bool) (a1 : Bool) (a2 : Bool) : Obj := .cells #[.bool a0, .bool a1, .bool a2] 52 (0, 0)
abbrev poAx9_4 (a0 : Int) (a1 : Int) : Obj := .cells #[.int .i64 a0, .int .i64 a1] 23 (0, 0)
theorem pmAx9_0_ {P : Prop} (h : P := by (with_reducible repeat (first | refine blk_drewN ?_ _ | refine blk_drew ?_ | refine blk_alloc ?_ _)); exact BK140.out) : P := h
theorem pmAx9_1_ {P : Prop} (h : P := by (with_reducible repeat (first | refine blk_drewN ?_ _ | refine blk_drew ?_ | refine blk_alloc ?_ _)); exact BK141.out) : P := h
theorem pmAx9_2_ {P : Prop} (h : P := by (with_reducible repeat (first | refine blk_drewN ?_ _ | refine blk_drew ?_ | refine blk_alloc ?_ _)); refine blk_far ?_ NB140_145.out _; (with_reducible repeat (first | refine blk_drewN ?_ _ | refine blk_drew ?_ | refine blk_alloc ?_ _)); refine blk_far ?_ NB140_144.out _; (with_reducible repeat (first | refine blk_drewN ?_ _ | refine blk_drew ?_ | refine blk_alloc ?_ _)); exact BK140.out) : P := h
theorem pmAx9_3_ {P : Prop} (h : P := by (with_reducible repeat (first | refine blk_drewN ?_ _ | refine blk_drew ?_ | refine blk_alloc ?_ _)); refine blk_far ?_ NB141_145.out _; (with_reducible repeat (first | refine blk_drewN ?_ _ | refine blk_drew ?_ | refine blk_alloc ?_ _)); refine blk_far ?_ NB141_144.out _; (with_reducible repeat (first | refine blk_drewN ?_ _ | refine blk_drew ?_ | refine blk_alloc ?_ _)); exact BK141.out) : P := h
theorem pmAx9_4_ {P : Prop} (h : P := by (with_reducible repeat (first | refine blk_drewN ?_ _ | refine blk_drew ?_ | refine blk_alloc ?_ _)); refine blk_far ?_ NB146_145.out _; (with_reducible repeat (first | refine blk_drewN ?_ _ | refine blk_drew ?_ | refine blk_alloc ?_ _)); refine blk_far ?_ NB146_144.out _; (with_reducible repeat (first | refine blk_drewN ?_ _ | refine blk_drew ?_ | refine blk_alloc ?_ _)); exact BK146.out) : P := h
theorem pmAx9_5_ {P : Prop} (h : P := by repeat (first | (with_reducible first | exact HB.out | apply below_alloc | apply pw_below_drewN | apply below_drew1 | refine below_set ?_ GE140.out | refine below_set ?_ GE141.out | refine below_set ?_ GE144.out | refine below_set ?_ GE145.out | refine below_set ?_ GE146.out | refine below_set ?_ GE150.out | refine below_set ?_ GE154.out | refine below_set ?_ GE160.out) | exact HB.out)) : P := h
theorem pmAx9_6_ {P : Prop} (h : P := by (with_reducible repeat (first | refine blk_drewN ?_ _ | refine blk_drew ?_ | refine blk_alloc ?_ _)); exact BK144.out) : P := h
theorem pmAx9_7_ {P : Prop} (h : P := by repeat (first | (with_reducible first | exact HB.out | apply below_alloc | apply pw_below_drewN | apply below_drew1 | refine below_set ?_ GE140.out | refine below_set ?_ GE141.out | refine below_set ?_ GE144.out | refine below_set ?_ GE145.out | refine below_set ?_ GE146.out | refine below_set ?_ GE150.out | refine below_set ?_ GE154.out) | exact HB.out)) : P := h
theorem pmAx9_8_ {P : Prop} (h : P := by (with_reducible repeat (first | refine blk_drewN ?_ _ | refine blk_drew ?_ | refine blk_alloc ?_ _)); refine blk_put (cs := #[.int .i64 0, .int .i64 0, .int .i64 0, .bool false, .int .i64 0, .int .i64 0, .int .i64 0]) ?_ 6 _ rfl; (with_reducible repeat (first | refine blk_drewN ?_ _ | refine blk_drew ?_ | refine blk_alloc ?_ _)); refine blk_put (cs := #[.int .i64 0, .int .i64 0, .int .i64 0, .bool false, .int .i64 0, .int .i64 0, .int .i64 0]) ?_ 5 _ rfl; (with_reducible repeat (first | refine blk_drewN ?_ _ | refine blk_drew ?_ | refine blk_alloc ?_ _)); refine blk_put (cs := #[.int .i64 0, .int .i64 0, .int .i64 0, .bool false, .int .i64 0, .int .i64 0, .int .i64 0]) ?_ 4 _ rfl; (with_reducible repeat (first | refine blk_drewN ?_ _ | refine blk_drew ?_ | refine blk_alloc ?_ _)); refine blk_put (cs := #[.int .i64 0, .int .i64 0, .int .i64 0, .bool false, .int .i64 0, .int .i64 0, .int .i64 0]) ?_ 3 _ rfl; (with_reducible repeat (first | refine blk_drewN ?_ _ | refine blk_drew ?_ | refine blk_alloc ?_ _)); refine blk_put (cs := #[.int .i64 0, .int .i64 0, .int .i64 0, .bool false, .int .i64 0, .int .i64 0, .int .i64 0]) ?_ 2 _ rfl; (with_reducible repeat (first | refine blk_drewN ?_ _ | refine blk_drew ?_ | refine blk_alloc ?_ _)); refine blk_put (cs := #[.int .i64 0, .int .i64 0, .int .i64 0, .bool false, .int .i64 0, .int .i64 0, .int .i64 0]) ?_ 1 _ rfl; (with_reducible repeat (first | refine blk_drewN ?_ _ | refine blk_drew ?_ | refine blk_alloc ?_ _)); refine blk_put (cs := #[.int .i64 0, .int .i64 0, .int .i64 0, .bool false, .int .i64 0, .int .i64 0, .int .i64 0]) ?_ 0 _ rfl; (with_reducible repeat (first | refine blk_drewN ?_ _ | refine blk_drew ?_ | refine blk_alloc ?_ _)); refine blk_far ?_ NB141_145.out _; (with_reducible repeat (first | refine blk_drewN ?_ _ | refine blk_drew ?_ | refine blk_alloc ?_ _)); refine blk_far ?_ NB141_144.out _; (with_reducible repeat (first | refine blk_drewN ?_ _ | refine blk_drew ?_ | refine blk_alloc ?_ _)); exact BK141.out) : P := h
theorem pmAx9_9_ {P : Prop} (h : P := by repeat (first | (with_reducible first | exact HB.out | apply below_alloc | apply pw_below_drewN | apply below_drew1 | refine below_set ?_ GE140.out | refine below_set ?_ GE141.out) | exact HB.out)) : P := h
theorem pmAx9_10_ {P : Prop} (h : P := by (with_reducible repeat (first | refine blk_drewN ?_ _ | refine blk_drew ?_ | refine blk_alloc ?_ _)); exact BK145.out) : P := h
theorem pmAx9_11_ {P : Prop} (h : P := by repeat (first | (with_reducible first | exact HB.out | apply below_alloc | apply pw_below_drewN | apply below_drew1 | refine below_set ?_ GE140.out | refine below_set ?_ GE141.out | refine below_set ?_ GE144.out | refine below_set ?_ GE145.out | refine below_set ?_ GE146.out) | exact HB.out)) : P := h
theorem pmAx9_12_ {P : Prop} (h : P := by (with_reducible repeat (first | refine blk_drewN ?_ _ | refine blk_drew ?_ | refine blk_alloc ?_ _)); refine blk_far ?_ NB144_145.out _; (with_reducible repeat (first | refine blk_drewN ?_ _ | refine blk_drew ?_ | refine blk_alloc ?_ _)); refine blk_put (cs := #[.int .i64 0, .int .i64 0, .int .i64 0]) ?_ 0 _ rfl; (with_reducible repeat (first | refine blk_drewN ?_ _ | refine blk_drew ?_ | refine blk_alloc ?_ _)); exact BK144.out) : P := h
theorem pmAx9_13_ {P : Prop} (h : P := by (with_reducible repeat (first | refine blk_drewN ?_ _ | refine blk_drew ?_ | refine blk_alloc ?_ _)); refine blk_put (cs := #[.bool false, .bool false, .bool false]) ?_ 0 _ rfl; (with_reducible repeat (first | refine blk_drewN ?_ _ | refine blk_drew ?_ | refine blk_alloc ?_ _)); refine blk_far ?_ NB145_144.out _; (with_reducible repeat (first | refine blk_drewN ?_ _ | refine blk_drew ?_ | refine blk_alloc ?_ _)); exact BK145.out) : P := h
theorem pmAx9_14_ {P : Prop} (h : P := by (try simp only [List.map_toArray, List.map_cons, List.map_nil]); first | done | rfl | (simp only [List.length_drop, List.length_take]; rfl)) : P := h
theorem pmAx9_15_ {P : Prop} (h : P := by repeat (first | (with_reducible first | exact HB.out | apply below_alloc | apply pw_below_drewN | apply below_drew1 | refine below_set ?_ GE140.out | refine below_set ?_ GE141.out | refine below_set ?_ GE144.out | refine below_set ?_ GE145.out) | exact HB.out)) : P := h
theorem pmAx9_16_ {P : Prop} (h : P := by repeat (first | (with_reducible first | exact HB.out | apply below_alloc | apply pw_below_drewN | apply below_drew1 | refine below_set ?_ GE140.out | refine below_set ?_ GE141.out | refine below_set ?_ GE144.out | refine below_set ?_ GE145.out | refine below_set ?_ GE146.out | refine below_set ?_ GE150.out) | exact HB.out)) : P := h
theorem pmAx9_17_ {P : Prop} (h : P := by repeat (first | (with_reducible first | exact HB.out | apply below_alloc | apply pw_below_drewN | apply below_drew1 | refine below_set ?_ GE140.out | refine below_set ?_ GE141.out | refine below_set ?_ GE144.out) | exact HB.out)) : P := h
theorem pmAx9_18_ {P : Prop} (h : P := by exact ⟨(blk_cell BK140.out 0).trans rfl, (blk_cell BK140.out 1).trans rfl, (blk_cell BK140.out 2).trans rfl, (blk_cell BK140.out 3).trans rfl, (blk_cell BK140.out 4).trans rfl, (blk_cell BK140.out 5).trans rfl, (blk_cell BK140.out 6).trans rfl, (blk_cell BK144.out 0).trans rfl, (blk_cell BK144.out 1).trans rfl, (blk_cell BK144.out 2).trans rfl⟩) : P := h
theorem pmAx9_19_ {P : Prop} (h : P := by (with_reducible repeat (first | refine blk_drewN ?_ _ | refine blk_drew ?_ | refine blk_alloc ?_ _)); refine blk_far ?_ NB150_145.out _; (with_reducible repeat (first | refine blk_drewN ?_ _ | refine blk_drew ?_ | refine blk_alloc ?_ _)); refine blk_far ?_ NB150_144.out _; (with_reducible repeat (first | refine blk_drewN ?_ _ | refine blk_drew ?_ | refine blk_alloc ?_ _)); exact BK150.out) : P := h
theorem pmAx9_20_ {P : Prop} (h : P := by (with_reducible repeat (first | refine blk_drewN ?_ _ | refine blk_drew ?_ | refine blk_alloc ?_ _)); refine blk_far ?_ NB144_145.out _; (with_reducible repeat (first | refine blk_drewN ?_ _ | refine blk_drew ?_ | refine blk_alloc ?_ _)); refine blk_put (cs := #[.int .i64 t147, .int .i64 0, .int .i64 0]) ?_ 1 _ rfl; (with_reducible repeat (first | refine blk_drewN ?_ _ | refine blk_drew ?_ | refine blk_alloc ?_ _)); exact BK144.out) : P := h
theorem pmAx9_21_ {P : Prop} (h : P := by (with_reducible repeat (first | refine blk_drewN ?_ _ | refine blk_drew ?_ | refine blk_alloc ?_ _)); refine blk_put (cs := #[.bool t148, .bool false, .bool false]) ?_ 1 _ rfl; (with_reducible repeat (first | refine blk_drewN ?_ _ | refine blk_drew ?_ | refine blk_alloc ?_ _)); refine blk_far ?_ NB145_144.out _; (with_reducible repeat (first | refine blk_drewN ?_ _ | refine blk_drew ?_ | refine blk_alloc ?_ _)); exact BK145.out) : P := h
theorem pmAx9_22_ {P : Prop} (h : P := by (with_reducible repeat (first | refine blk_drewN ?_ _ | refine blk_drew ?_ | refine blk_alloc ?_ _)); exact BK146.out) : P := h
theorem pmAx9_23_ {P : Prop} (h : P := by (with_reducible repeat (first | refine blk_drewN ?_ _ | refine blk_drew ?_ | refine blk_alloc ?_ _)); exact BK150.out) : P := h
theorem pmAx9_24_ {P : Prop} (h : P := by (with_reducible repeat (first | refine blk_drewN ?_ _ | refine blk_drew ?_ | refine blk_alloc ?_ _)); exact BK154.out) : P := h
theorem pmAx9_25_ {P : Prop} (h : P := by rw [hg]; exact Nat.ne_of_lt (blk_lt (g := gb140) (o := poAx9_0 a0_0 a0_1 a0_2 a0_3 a0_4 a0_5 a0_6) pmAx9_0_)) : P := h
theorem pmAx9_26_ {P : Prop} (h : P := by rw [hg]; exact Nat.ne_of_gt (blk_lt (g := gb140) (o := poAx9_0 a0_0 a0_1 a0_2 a0_3 a0_4 a0_5 a0_6) pmAx9_0_)) : P := h
theorem pmAx9_27_ {P : Prop} (h : P := by (with_reducible repeat (first | refine blk_drewN ?_ _ | refine blk_drew ?_ | refine blk_alloc ?_ _)); refine blk_put (cs := #[.int .i64 a0_0, .int .i64 0]) ?_ 1 _ rfl; (with_reducible repeat (first | refine blk_drewN ?_ _ | refine blk_drew ?_ | refine blk_alloc ?_ _)); refine blk_put (cs := #[.int .i64 0, .int .i64 0]) ?_ 0 _ rfl; (with_reducible repeat (first | refine blk_drewN ?_ _ | refine blk_drew ?_ | refine blk_alloc ?_ _)); exact BK146.out) : P := h
theorem pmAx9_28_ {P : Prop} (h : P := by rw [hg]; exact Nat.ne_of_lt (blk_lt (g := gb141) (o := poAx9_1 0 0 0 false 0 0 0) pmAx9_1_)) : P := h
theorem pmAx9_29_ {P : Prop} (h : P := by rw [hg]; exact Nat.ne_of_gt (blk_lt (g := gb141) (o := poAx9_1 0 0 0 false 0 0 0) pmAx9_1_)) : P := h
theorem pmAx9_30_ {P : Prop} (h : P := by (with_reducible repeat (first | refine blk_drewN ?_ _ | refine blk_drew ?_ | refine blk_alloc ?_ _)); refine blk_far ?_ NB140_146.out _; (with_reducible repeat (first | refine blk_drewN ?_ _ | refine blk_drew ?_ | refine blk_alloc ?_ _)); refine blk_far ?_ NB140_146.out _; (with_reducible repeat (first | refine blk_drewN ?_ _ | refine blk_drew ?_ | refine blk_alloc ?_ _)); exact BK140.out) : P := h
theorem pmAx9_31_ {P : Prop} (h : P := by (with_reducible repeat (first | refine blk_drewN ?_ _ | refine blk_drew ?_ | refine blk_alloc ?_ _)); refine blk_far ?_ NB141_146.out _; (with_reducible repeat (first | refine blk_drewN ?_ _ | refine blk_drew ?_ | refine blk_alloc ?_ _)); refine blk_far ?_ NB141_146.out _; (with_reducible repeat (first | refine blk_drewN ?_ _ | refine blk_drew ?_ | refine blk_alloc ?_ _)); exact BK141.out) : P := h
theorem pmAx9_32_ {P : Prop} (h : P := by (with_reducible repeat (first | refine blk_drewN ?_ _ | refine blk_drew ?_ | refine blk_alloc ?_ _)); refine blk_far ?_ NB144_146.out _; (with_reducible repeat (first | refine blk_drewN ?_ _ | refine blk_drew ?_ | refine blk_alloc ?_ _)); refine blk_far ?_ NB144_146.out _; (with_reducible repeat (first | refine blk_drewN ?_ _ | refine blk_drew ?_ | refine blk_alloc ?_ _)); exact BK144.out) : P := h
theorem pmAx9_33_ {P : Prop} (h : P := by (with_reducible repeat (first | refine blk_drewN ?_ _ | refine blk_drew ?_ | refine blk_alloc ?_ _)); refine blk_far ?_ NB145_146.out _; (with_reducible repeat (first | refine blk_drewN ?_ _ | refine blk_drew ?_ | refine blk_alloc ?_ _)); refine blk_far ?_ NB145_146.out _; (with_reducible repeat (first | refine blk_drewN ?_ _ | refine blk_drew ?_ | refine blk_alloc ?_ _)); exact BK145.out) : P := h
theorem pmAx9_34_ {P : Prop} (h : P := by (with_reducible repeat (first | refine blk_drewN ?_ _ | refine blk_drew ?_ | refine blk_alloc ?_ _)); refine blk_put (cs := #[.int .i64 a0_2, .int .i64 0]) ?_ 1 _ rfl; (with_reducible repeat (first | refine blk_drewN ?_ _ | refine blk_drew ?_ | refine blk_alloc ?_ _)); refine blk_put (cs := #[.int .i64 0, .int .i64 0]) ?_ 0 _ rfl; (with_reducible repeat (first | refine blk_drewN ?_ _ | refine blk_drew ?_ | refine blk_alloc ?_ _)); exact BK150.out) : P := h
theorem pmAx9_35_ {P : Prop} (h : P := by (with_reducible repeat (first | refine blk_drewN ?_ _ | refine blk_drew ?_ | refine blk_alloc ?_ _)); exact BK160.out) : P := h
theorem pmAx9_36_ {P : Prop} (h : P := by (with_reducible repeat (first | refine blk_drewN ?_ _ | refine blk_drew ?_ | refine blk_alloc ?_ _)); refine blk_far ?_ NB140_150.out _; (with_reducible repeat (first | refine blk_drewN ?_ _ | refine blk_drew ?_ | refine blk_alloc ?_ _)); refine blk_far ?_ NB140_150.out _; (with_reducible repeat (first | refine blk_drewN ?_ _ | refine blk_drew ?_ | refine blk_alloc ?_ _)); exact BK140.out) : P := h
theorem pmAx9_37_ {P : Prop} (h : P := by (with_reducible repeat (first | refine blk_drewN ?_ _ | refine blk_drew ?_ | refine blk_alloc ?_ _)); refine blk_far ?_ NB141_150.out _; (with_reducible repeat (first | refine blk_drewN ?_ _ | refine blk_drew ?_ | refine blk_alloc ?_ _)); refine blk_far ?_ NB141_150.out _; (with_reducible repeat (first | refine blk_drewN ?_ _ | refine blk_drew ?_ | refine blk_alloc ?_ _)); exact BK141.out) : P := h
theorem pmAx9_38_ {P : Prop} (h : P := by (with_reducible repeat (first | refine blk_drewN ?_ _ | refine blk_drew ?_ | refine blk_alloc ?_ _)); refine blk_far ?_ NB144_150.out _; (with_reducible repeat (first | refine blk_drewN ?_ _ | refine blk_drew ?_ | refine blk_alloc ?_ _)); refine blk_far ?_ NB144_150.out _; (with_reducible repeat (first | refine blk_drewN ?_ _ | refine blk_drew ?_ | refine blk_alloc ?_ _)); exact BK144.out) : P := h
theorem pmAx9_39_ {P : Prop} (h : P := by (with_reducible repeat (first | refine blk_drewN ?_ _ | refine blk_drew ?_ | refine blk_alloc ?_ _)); refine blk_far ?_ NB145_150.out _; (with_reducible repeat (first | refine blk_drewN ?_ _ | refine blk_drew ?_ | refine blk_alloc ?_ _)); refine blk_far ?_ NB145_150.out _; (with_reducible repeat (first | refine blk_drewN ?_ _ | refine blk_drew ?_ | refine blk_alloc ?_ _)); exact BK145.out) : P := h
theorem pmAx9_40_ {P : Prop} (h : P := by (with_reducible repeat (first | refine blk_drewN ?_ _ | refine blk_drew ?_ | refine blk_alloc ?_ _)); refine blk_far ?_ NB146_150.out _; (with_reducible repeat (first | refine blk_drewN ?_ _ | refine blk_drew ?_ | refine blk_alloc ?_ _)); refine blk_far ?_ NB146_150.out _; (with_reducible repeat (first | refine blk_drewN ?_ _ | refine blk_drew ?_ | refine blk_alloc ?_ _)); exact BK146.out) : P := h
theorem pmAx9_41_ {P : Prop} (h : P := by (with_reducible repeat (first | refine blk_drewN ?_ _ | refine blk_drew ?_ | refine blk_alloc ?_ _)); refine blk_put (cs := #[.int .i64 t158, .int .i64 t159, .int .i64 0, .bool false, .int .i64 0, .int .i64 t147, .int .i64 x161006_34]) ?_ 2 _ rfl; (with_reducible repeat (first | refine blk_drewN ?_ _ | refine blk_drew ?_ | refine blk_alloc ?_ _)); exact BK160.out) : P := h
theorem pmAx9_42_ {P : Prop} (h : P := by exact ⟨((cell_far (p := ⟨gb160, _, none⟩) NB144_160.out _).trans (hHeld.1)), ((cell_far (p := ⟨gb160, _, none⟩) NB144_160.out _).trans (hHeld.2.1)), ((cell_far (p := ⟨gb160, _, none⟩) NB144_160.out _).trans (hHeld.2.2))⟩) : P := h
theorem pmAx9_43_ {P : Prop} (h : P := by kernel_rfl) : P := h
theorem pmAx9_44_ {P : Prop} (h : P := by rw [hg]; exact Nat.ne_of_lt (blk_lt (g := gb144) (o := poAx9_2 0 0 0) pmAx9_6_)) : P := h
theorem pmAx9_45_ {P : Prop} (h : P := by rw [hg]; exact Nat.ne_of_gt (blk_lt (g := gb144) (o := poAx9_2 0 0 0) pmAx9_6_)) : P := h
theorem pmAx9_46_ {P : Prop} (h : P := by (with_reducible repeat (first | refine blk_drewN ?_ _ | refine blk_drew ?_ | refine blk_alloc ?_ _)); refine blk_far ?_ NB140_160.out _; (with_reducible repeat (first | refine blk_drewN ?_ _ | refine blk_drew ?_ | refine blk_alloc ?_ _)); exact BK140.out) : P := h
theorem pmAx9_47_ {P : Prop} (h : P := by (with_reducible repeat (first | refine blk_drewN ?_ _ | refine blk_drew ?_ | refine blk_alloc ?_ _)); refine blk_far ?_ NB141_160.out _; (with_reducible repeat (first | refine blk_drewN ?_ _ | refine blk_drew ?_ | refine blk_alloc ?_ _)); exact BK141.out) : P := h
theorem pmAx9_48_ {P : Prop} (h : P := by (with_reducible repeat (first | refine blk_drewN ?_ _ | refine blk_drew ?_ | refine blk_alloc ?_ _)); refine blk_far ?_ NB144_160.out _; (with_reducible repeat (first | refine blk_drewN ?_ _ | refine blk_drew ?_ | refine blk_alloc ?_ _)); exact BK144.out) : P := h
theorem pmAx9_49_ {P : Prop} (h : P := by (with_reducible repeat (first | refine blk_drewN ?_ _ | refine blk_drew ?_ | refine blk_alloc ?_ _)); refine blk_far ?_ NB145_160.out _; (with_reducible repeat (first | refine blk_drewN ?_ _ | refine blk_drew ?_ | refine blk_alloc ?_ _)); exact BK145.out) : P := h
theorem pmAx9_50_ {P : Prop} (h : P := by (with_reducible repeat (first | refine blk_drewN ?_ _ | refine blk_drew ?_ | refine blk_alloc ?_ _)); refine blk_far ?_ NB146_160.out _; (with_reducible repeat (first | refine blk_drewN ?_ _ | refine blk_drew ?_ | refine blk_alloc ?_ _)); exact BK146.out) : P := h
theorem pmAx9_51_ {P : Prop} (h : P := by (with_reducible repeat (first | refine blk_drewN ?_ _ | refine blk_drew ?_ | refine blk_alloc ?_ _)); refine blk_far ?_ NB150_160.out _; (with_reducible repeat (first | refine blk_drewN ?_ _ | refine blk_drew ?_ | refine blk_alloc ?_ _)); exact BK150.out) : P := h
theorem pmAx9_52_ {P : Prop} (h : P := by (with_reducible repeat (first | refine blk_drewN ?_ _ | refine blk_drew ?_ | refine blk_alloc ?_ _)); refine blk_far ?_ NB154_160.out _; (with_reducible repeat (first | refine blk_drewN ?_ _ | refine blk_drew ?_ | refine blk_alloc ?_ _)); exact BK154.out) : P := h
theorem pmAx9_53_ {P : Prop} (h : P := by (with_reducible repeat (first | refine blk_drewN ?_ _ | refine blk_drew ?_ | refine blk_alloc ?_ _)); refine blk_put (cs := #[.int .i64 a0_5, .int .i64 0]) ?_ 1 _ rfl; (with_reducible repeat (first | refine blk_drewN ?_ _ | refine blk_drew ?_ | refine blk_alloc ?_ _)); refine blk_put (cs := #[.int .i64 0, .int .i64 0]) ?_ 0 _ rfl; (with_reducible repeat (first | refine blk_drewN ?_ _ | refine blk_drew ?_ | refine blk_alloc ?_ _)); exact BK154.out) : P := h
theorem pmAx9_54_ {P : Prop} (h : P := by rw [hg]; exact Nat.ne_of_lt (blk_lt (g := gb140) (o := poAx9_0 a0_0 a0_1 a0_2 a0_3 a0_4 a0_5 a0_6) pmAx9_2_)) : P := h
theorem pmAx9_55_ {P : Prop} (h : P := by rw [hg]; exact Nat.ne_of_gt (blk_lt (g := gb140) (o := poAx9_0 a0_0 a0_1 a0_2 a0_3 a0_4 a0_5 a0_6) pmAx9_2_)) : P := h
theorem pmAx9_56_ {P : Prop} (h : P := by (with_reducible repeat (first | refine blk_drewN ?_ _ | refine blk_drew ?_ | refine blk_alloc ?_ _)); refine blk_far ?_ NB140_154.out _; (with_reducible repeat (first | refine blk_drewN ?_ _ | refine blk_drew ?_ | refine blk_alloc ?_ _)); refine blk_far ?_ NB140_154.out _; (with_reducible repeat (first | refine blk_drewN ?_ _ | refine blk_drew ?_ | refine blk_alloc ?_ _)); exact BK140.out) : P := h
theorem pmAx9_57_ {P : Prop} (h : P := by (with_reducible repeat (first | refine blk_drewN ?_ _ | refine blk_drew ?_ | refine blk_alloc ?_ _)); refine blk_far ?_ NB141_154.out _; (with_reducible repeat (first | refine blk_drewN ?_ _ | refine blk_drew ?_ | refine blk_alloc ?_ _)); refine blk_far ?_ NB141_154.out _; (with_reducible repeat (first | refine blk_drewN ?_ _ | refine blk_drew ?_ | refine blk_alloc ?_ _)); exact BK141.out) : P := h
theorem pmAx9_58_ {P : Prop} (h : P := by (with_reducible repeat (first | refine blk_drewN ?_ _ | refine blk_drew ?_ | refine blk_alloc ?_ _)); refine blk_far ?_ NB144_154.out _; (with_reducible repeat (first | refine blk_drewN ?_ _ | refine blk_drew ?_ | refine blk_alloc ?_ _)); refine blk_far ?_ NB144_154.out _; (with_reducible repeat (first | refine blk_drewN ?_ _ | refine blk_drew ?_ | refine blk_alloc ?_ _)); exact BK144.out) : P := h
theorem pmAx9_59_ {P : Prop} (h : P := by (with_reducible repeat (first | refine blk_drewN ?_ _ | refine blk_drew ?_ | refine blk_alloc ?_ _)); refine blk_far ?_ NB145_154.out _; (with_reducible repeat (first | refine blk_drewN ?_ _ | refine blk_drew ?_ | refine blk_alloc ?_ _)); refine blk_far ?_ NB145_154.out _; (with_reducible repeat (first | refine blk_drewN ?_ _ | refine blk_drew ?_ | refine blk_alloc ?_ _)); exact BK145.out) : P := h
theorem pmAx9_60_ {P : Prop} (h : P := by (with_reducible repeat (first | refine blk_drewN ?_ _ | refine blk_drew ?_ | refine blk_alloc ?_ _)); refine blk_far ?_ NB146_154.out _; (with_reducible repeat (first | refine blk_drewN ?_ _ | refine blk_drew ?_ | refine blk_alloc ?_ _)); refine blk_far ?_ NB146_154.out _; (with_reducible repeat (first | refine blk_drewN ?_ _ | refine blk_drew ?_ | refine blk_alloc ?_ _)); exact BK146.out) : P := h
theorem pmAx9_61_ {P : Prop} (h : P := by (with_reducible repeat (first | refine blk_drewN ?_ _ | refine blk_drew ?_ | refine blk_alloc ?_ _)); refine blk_far ?_ NB150_154.out _; (with_reducible repeat (first | refine blk_drewN ?_ _ | refine blk_drew ?_ | refine blk_alloc ?_ _)); refine blk_far ?_ NB150_154.out _; (with_reducible repeat (first | refine blk_drewN ?_ _ | refine blk_drew ?_ | refine blk_alloc ?_ _)); exact BK150.out) : P := h
theorem pmAx9_62_ {P : Prop} (h : P := by (with_reducible repeat (first | refine blk_drewN ?_ _ | refine blk_drew ?_ | refine blk_alloc ?_ _)); refine blk_far ?_ NB140_160.out _; (with_reducible repeat (first | refine blk_drewN ?_ _ | refine blk_drew ?_ | refine blk_alloc ?_ _)); refine blk_far ?_ NB140_160.out _; (with_reducible repeat (first | refine blk_drewN ?_ _ | refine blk_drew ?_ | refine blk_alloc ?_ _)); exact BK140.out) : P := h
theorem pmAx9_63_ {P : Prop} (h : P := by (with_reducible repeat (first | refine blk_drewN ?_ _ | refine blk_drew ?_ | refine blk_alloc ?_ _)); refine blk_far ?_ NB141_160.out _; (with_reducible repeat (first | refine blk_drewN ?_ _ | refine blk_drew ?_ | refine blk_alloc ?_ _)); refine blk_far ?_ NB141_160.out _; (with_reducible repeat (first | refine blk_drewN ?_ _ | refine blk_drew ?_ | refine blk_alloc ?_ _)); exact BK141.out) : P := h
theorem pmAx9_64_ {P : Prop} (h : P := by (with_reducible repeat (first | refine blk_drewN ?_ _ | refine blk_drew ?_ | refine blk_alloc ?_ _)); refine blk_far ?_ NB144_160.out _; (with_reducible repeat (first | refine blk_drewN ?_ _ | refine blk_drew ?_ | refine blk_alloc ?_ _)); refine blk_far ?_ NB144_160.out _; (with_reducible repeat (first | refine blk_drewN ?_ _ | refine blk_drew ?_ | refine blk_alloc ?_ _)); exact BK144.out) : P := h
theorem pmAx9_65_ {P : Prop} (h : P := by (with_reducible repeat (first | refine blk_drewN ?_ _ | refine blk_drew ?_ | refine blk_alloc ?_ _)); refine blk_far ?_ NB145_160.out _; (with_reducible repeat (first | refine blk_drewN ?_ _ | refine blk_drew ?_ | refine blk_alloc ?_ _)); refine blk_far ?_ NB145_160.out _; (with_reducible repeat (first | refine blk_drewN ?_ _ | refine blk_drew ?_ | refine blk_alloc ?_ _)); exact BK145.out) : P := h
theorem pmAx9_66_ {P : Prop} (h : P := by (with_reducible repeat (first | refine blk_drewN ?_ _ | refine blk_drew ?_ | refine blk_alloc ?_ _)); refine blk_far ?_ NB146_160.out _; (with_reducible repeat (first | refine blk_drewN ?_ _ | refine blk_drew ?_ | refine blk_alloc ?_ _)); refine blk_far ?_ NB146_160.out _; (with_reducible repeat (first | refine blk_drewN ?_ _ | refine blk_drew ?_ | refine blk_alloc ?_ _)); exact BK146.out) : P := h
theorem pmAx9_67_ {P : Prop} (h : P := by (with_reducible repeat (first | refine blk_drewN ?_ _ | refine blk_drew ?_ | refine blk_alloc ?_ _)); refine blk_far ?_ NB150_160.out _; (with_reducible repeat (first | refine blk_drewN ?_ _ | refine blk_drew ?_ | refine blk_alloc ?_ _)); refine blk_far ?_ NB150_160.out _; (with_reducible repeat (first | refine blk_drewN ?_ _ | refine blk_drew ?_ | refine blk_alloc ?_ _)); exact BK150.out) : P := h
theorem pmAx9_68_ {P : Prop} (h : P := by (with_reducible repeat (first | refine blk_drewN ?_ _ | refine blk_drew ?_ | refine blk_alloc ?_ _)); refine blk_far ?_ NB154_160.out _; (with_reducible repeat (first | refine blk_drewN ?_ _ | refine blk_drew ?_ | refine blk_alloc ?_ _)); refine blk_far ?_ NB154_160.out _; (with_reducible repeat (first | refine blk_drewN ?_ _ | refine blk_drew ?_ | refine blk_alloc ?_ _)); exact BK154.out) : P := h
theorem pmAx9_69_ {P : Prop} (h : P := by rw [hg]; exact Nat.ne_of_lt (blk_lt (g := gb141) (o := poAx9_1 0 0 0 false 0 0 0) pmAx9_3_)) : P := h
theorem pmAx9_70_ {P : Prop} (h : P := by rw [hg]; exact Nat.ne_of_gt (blk_lt (g := gb141) (o := poAx9_1 0 0 0 false 0 0 0) pmAx9_3_)) : P := h
theorem pmAx9_71_ {P : Prop} (h : P := by rw [hg]; exact Nat.ne_of_lt (blk_lt (g := gb146) (o := poAx9_4 a0_0 a0_1) pmAx9_4_)) : P := h
theorem pmAx9_72_ {P : Prop} (h : P := by rw [hg]; exact Nat.ne_of_gt (blk_lt (g := gb146) (o := poAx9_4 a0_0 a0_1) pmAx9_4_)) : P := h
theorem pmAx9_73_ {P : Prop} (h : P := by repeat (first | (with_reducible first | exact HB.out | apply below_alloc | apply pw_below_drewN | apply below_drew1 | refine below_set ?_ GE140.out) | exact HB.out)) : P := h
theorem pmAx9_74_ {P : Prop} (h : P := by rw [hg]; exact Nat.ne_of_lt (blk_lt (g := gb145) (o := poAx9_3 false false false) pmAx9_10_)) : P := h
theorem pmAx9_75_ {P : Prop} (h : P := by rw [hg]; exact Nat.ne_of_gt (blk_lt (g := gb145) (o := poAx9_3 false false false) pmAx9_10_)) : P := h
theorem pmAx9_76_ {P : Prop} (h : P := by repeat (first | (with_reducible first | exact HB.out | apply below_alloc | apply pw_below_drewN | apply below_drew1) | exact HB.out)) : P := h
theorem pmAx9_77_ {P : Prop} (h : P := by rw [hg]; exact (below_size pmAx9_17_)) : P := h
theorem pmAx9_78_ {P : Prop} (h : P := by rw [hg]; exact (below_size pmAx9_15_)) : P := h
theorem pmAx9_79_ {P : Prop} (h : P := by rw [hg]; exact (below_size pmAx9_9_)) : P := h
attribute [local go_sem] run_index_arr max2_int min2_int max_two min_two max_three min_three max_four min_four   -- for this text's walks alone
set_option linter.unusedVariables false
set_option linter.unusedSimpArgs false

/-! ### base_Start: function 6 -/
mutual
def base_Start.j0 : Nat → Int → Bool → Bool → Int → Int → Int → Int → Bool → Int → Int → Option (Int × Int × Int × Bool × Int × Int × Int × Int)
  | 0, _, _, _, _, _, _, _, _, _, _ => none
  | k + 1, x1, x2, x28, x141000, x141001, x141002, x141003, x141004, x141005, x141006 => if x28 = true then (some (0, 0, 0, false, 0, 0, 0, 2)) else ((value_Resolve.f k x141000 x141001 x1 x2).bind fun bt147 => (if bt147.2.2 = 0 then ((value_Resolve.f k x141002 x141003 x1 x2).bind fun bt151 => (if bt151.2.2 = 0 then ((value_Resolve.f k x141005 x141006 x1 x2).bind fun bt155 => (if bt155.2.2 = 0 then ((base_kind.f x141000 x141001 x2).bind fun t158 => ((base_kind.f x141002 x141003 x2).bind fun t159 => (if bt151.2.1 = true then (base_Start.j1 k x141000 x141001 x141002 x141003 x141004 x141005 x141006 bt147.1 bt151.1 bt155.1 bt147.2.1 bt151.2.1 bt155.2.1 t158 t159 0 false 0 bt147.1 bt151.1) else (base_Start.j1 k x141000 x141001 x141002 x141003 x141004 x141005 x141006 bt147.1 bt151.1 bt155.1 bt147.2.1 bt151.2.1 bt155.2.1 t158 t159 0 false 0 bt147.1 1125899906842624)))) else (some (0, 0, 0, false, 0, 0, 0, bt155.2.2)))) else (some (0, 0, 0, false, 0, 0, 0, bt151.2.2)))) else (some (0, 0, 0, false, 0, 0, 0, bt147.2.2))))
def base_Start.j1 : Nat → Int → Int → Int → Int → Bool → Int → Int → Int → Int → Int → Bool → Bool → Bool → Int → Int → Int → Bool → Int → Int → Int → Option (Int × Int × Int × Bool × Int × Int × Int × Int)
  | 0, _, _, _, _, _, _, _, _, _, _, _, _, _, _, _, _, _, _, _, _ => none
  | k + 1, x141000, x141001, x141002, x141003, x141004, x141005, x141006, x145000, x145001, x145002, x146000, x146001, x146002, x161000, x161001, x161002, x161003, x161004, x161005, x161006 => if x161001 = 5 then (if x141004 = true then (if x146002 = true then ((base_Raise.f x161000 x161001 x141003 true x145002 x161005 x161006).bind fun bt161 => (some (bt161.1, bt161.2.1, bt161.2.2.1, bt161.2.2.2.1, bt161.2.2.2.2.1, bt161.2.2.2.2.2.1, bt161.2.2.2.2.2.2, 0))) else ((base_Raise.f x161000 x161001 x141003 x161003 x161004 x161005 x161006).bind fun bt168 => (some (bt168.1, bt168.2.1, bt168.2.2.1, bt168.2.2.2.1, bt168.2.2.2.2.1, bt168.2.2.2.2.2.1, bt168.2.2.2.2.2.2, 0)))) else ((base_Raise.f x161000 x161001 x141003 x161003 x161004 x161005 x161006).bind fun bt175 => (some (bt175.1, bt175.2.1, bt175.2.2.1, bt175.2.2.2.1, bt175.2.2.2.2.1, bt175.2.2.2.2.2.1, bt175.2.2.2.2.2.2, 0)))) else (if x141004 = true then (if x146002 = true then ((base_Raise.f x161000 x161001 x161002 true x145002 x161005 x161006).bind fun bt182 => (some (bt182.1, bt182.2.1, bt182.2.2.1, bt182.2.2.2.1, bt182.2.2.2.2.1, bt182.2.2.2.2.2.1, bt182.2.2.2.2.2.2, 0))) else ((base_Raise.f x161000 x161001 x161002 x161003 x161004 x161005 x161006).bind fun bt189 => (some (bt189.1, bt189.2.1, bt189.2.2.1, bt189.2.2.2.1, bt189.2.2.2.2.1, bt189.2.2.2.2.2.1, bt189.2.2.2.2.2.2, 0)))) else ((base_Raise.f x161000 x161001 x161002 x161003 x161004 x161005 x161006).bind fun bt196 => (some (bt196.1, bt196.2.1, bt196.2.2.1, bt196.2.2.2.1, bt196.2.2.2.2.1, bt196.2.2.2.2.2.1, bt196.2.2.2.2.2.2, 0))))
end
def base_Start.f (k : Nat) (a0_0 : Int) (a0_1 : Int) (a0_2 : Int) (a0_3 : Int) (a0_4 : Bool) (a0_5 : Int) (a0_6 : Int) (a1 : Int) (a2 : Bool) : Option (Int × Int × Int × Bool × Int × Int × Int × Int) := (track_Right.f k a0_0 a0_1 a0_2 a0_3 a0_4 a0_5 a0_6).bind fun t142 => (if t142 = true then (if a2 = true then (if a1 < 0 then (base_Start.j0 k a1 a2 true a0_0 a0_1 a0_2 a0_3 a0_4 a0_5 a0_6) else ((fixed_Is.f a1).bind fun t143 => (base_Start.j0 k a1 a2 (!t143) a0_0 a0_1 a0_2 a0_3 a0_4 a0_5 a0_6))) else (base_Start.j0 k a1 a2 false a0_0 a0_1 a0_2 a0_3 a0_4 a0_5 a0_6)) else (base_Start.j0 k a1 a2 true a0_0 a0_1 a0_2 a0_3 a0_4 a0_5 a0_6))
theorem base_Start.mono_l : ∀ k, (∀ y0 y1 y2 y3 y4 y5 y6 y7 y8 y9, LeO (base_Start.j0 k y0 y1 y2 y3 y4 y5 y6 y7 y8 y9) (base_Start.j0 (k + 1) y0 y1 y2 y3 y4 y5 y6 y7 y8 y9)) ∧ (∀ y0 y1 y2 y3 y4 y5 y6 y7 y8 y9 y10 y11 y12 y13 y14 y15 y16 y17 y18 y19, LeO (base_Start.j1 k y0 y1 y2 y3 y4 y5 y6 y7 y8 y9 y10 y11 y12 y13 y14 y15 y16 y17 y18 y19) (base_Start.j1 (k + 1) y0 y1 y2 y3 y4 y5 y6 y7 y8 y9 y10 y11 y12 y13 y14 y15 y16 y17 y18 y19))
  | 0 => ⟨fun _ _ _ _ _ _ _ _ _ _ r h => by simp [base_Start.j0] at h, fun _ _ _ _ _ _ _ _ _ _ _ _ _ _ _ _ _ _ _ _ r h => by simp [base_Start.j1] at h⟩
  | k + 1 => by
    obtain ⟨ih0, ih1⟩ := base_Start.mono_l k
    refine ⟨?_, ?_⟩
    · intro y0 y1 y2 y3 y4 y5 y6 y7 y8 y9
      unfold base_Start.j0
      repeat' first
      | (with_reducible exact ih0 _ _ _ _ _ _ _ _ _ _)
      | (with_reducible exact ih1 _ _ _ _ _ _ _ _ _ _ _ _ _ _ _ _ _ _ _ _)
      | (with_reducible exact track_Right.mono _ _ _ _ _ _ _ _)
      | (with_reducible exact value_Resolve.mono _ _ _ _ _)
      | (with_reducible exact LeO.refl _)
      | (with_reducible exact LeO.none _)
      | (with_reducible refine LeO.ite ?_ ?_)
      | (with_reducible refine LeO.bind ?_ (fun _ => ?_))
      | exact ih0 _ _ _ _ _ _ _ _ _ _
      | exact ih1 _ _ _ _ _ _ _ _ _ _ _ _ _ _ _ _ _ _ _ _
      | exact track_Right.mono _ _ _ _ _ _ _ _
      | exact value_Resolve.mono _ _ _ _ _
      | exact LeO.none _
      | refine LeO.ite ?_ ?_
      | refine LeO.bind ?_ (fun _ => ?_)
    · intro y0 y1 y2 y3 y4 y5 y6 y7 y8 y9 y10 y11 y12 y13 y14 y15 y16 y17 y18 y19
      unfold base_Start.j1
      repeat' first
      | (with_reducible exact ih0 _ _ _ _ _ _ _ _ _ _)
      | (with_reducible exact ih1 _ _ _ _ _ _ _ _ _ _ _ _ _ _ _ _ _ _ _ _)
      | (with_reducible exact track_Right.mono _ _ _ _ _ _ _ _)
      | (with_reducible exact value_Resolve.mono _ _ _ _ _)
      | (with_reducible exact LeO.refl _)
      | (with_reducible exact LeO.none _)
      | (with_reducible refine LeO.ite ?_ ?_)
      | (with_reducible refine LeO.bind ?_ (fun _ => ?_))
      | exact ih0 _ _ _ _ _ _ _ _ _ _
      | exact ih1 _ _ _ _ _ _ _ _ _ _ _ _ _ _ _ _ _ _ _ _
      | exact track_Right.mono _ _ _ _ _ _ _ _
      | exact value_Resolve.mono _ _ _ _ _
      | exact LeO.none _
      | refine LeO.ite ?_ ?_
      | refine LeO.bind ?_ (fun _ => ?_)
theorem base_Start.mono : ∀ a0 a1 a2 a3 a4 a5 a6 a7 a8 k, LeO (base_Start.f k a0 a1 a2 a3 a4 a5 a6 a7 a8) (base_Start.f (k + 1) a0 a1 a2 a3 a4 a5 a6 a7 a8) := by
  intro a0 a1 a2 a3 a4 a5 a6 a7 a8 k
  obtain ⟨ih0, ih1⟩ := base_Start.mono_l k
  unfold base_Start.f
  repeat' first
      | (with_reducible exact ih0 _ _ _ _ _ _ _ _ _ _)
      | (with_reducible exact ih1 _ _ _ _ _ _ _ _ _ _ _ _ _ _ _ _ _ _ _ _)
      | (with_reducible exact track_Right.mono _ _ _ _ _ _ _ _)
      | (with_reducible exact value_Resolve.mono _ _ _ _ _)
      | (with_reducible exact LeO.refl _)
      | (with_reducible exact LeO.none _)
      | (with_reducible refine LeO.ite ?_ ?_)
      | (with_reducible refine LeO.bind ?_ (fun _ => ?_))
      | exact ih0 _ _ _ _ _ _ _ _ _ _
      | exact ih1 _ _ _ _ _ _ _ _ _ _ _ _ _ _ _ _ _ _ _ _
      | exact track_Right.mono _ _ _ _ _ _ _ _
      | exact value_Resolve.mono _ _ _ _ _
      | exact LeO.none _
      | refine LeO.ite ?_ ?_
      | refine LeO.bind ?_ (fun _ => ?_)
def base_Start.T13 : Bool × List (List Nat × List Nat) := (true, [([], []), ([0], [0]), ([], []), ([1, 2], [1, 2]), ([], []), ([4], [4]), ([], []), ([5, 6, 3], [5, 6]), ([], []), ([8], [8]), ([3, 7, 9], [3, 7, 9]), ([], []), ([11, 10, 7, 0, 1, 2, 3, 4, 5, 6, 7, 8, 9, 10, 11], [10, 11])])
def base_Start.B13 : List Nat := [0, 1, 0, 7, 0, 16, 0, 127, 0, 256, 1023, 0, 4095]
theorem base_Start.tab13 : rtab .any (opsOf Try.f6 13) = base_Start.T13 := by kernel_rfl
theorem base_Start.bits13 : waitsOk base_Start.T13.2 base_Start.B13 = true := by kernel_rfl
set_option maxHeartbeats 0 in
set_option maxRecDepth 100000 in
theorem base_Start.calls (k : Nat) (a0_0 : Int) (a0_1 : Int) (a0_2 : Int) (a0_3 : Int) (a0_4 : Bool) (a0_5 : Int) (a0_6 : Int) (a1 : Int) (a2 : Bool) (r1 : Int) (r2 : Int) (r3 : Int) (r4 : Bool) (r5 : Int) (r6 : Int) (r7 : Int) (r8 : Int) (w : World) (h : base_Start.f k a0_0 a0_1 a0_2 a0_3 a0_4 a0_5 a0_6 a1 a2 = some (r1, r2, r3, r4, r5, r6, r7, r8)) :
    Calls Try.prog 6 #[.agg #[.int .i64 a0_0, .int .i64 a0_1, .int .i64 a0_2, .int .i64 a0_3, .bool a0_4, .int .i64 a0_5, .int .i64 a0_6], .int .i64 a1, .bool a2] w fun e w' => e = .returned (.tuple #[.agg #[.int .i64 r1, .int .i64 r2, .int .i64 r3, .bool r4, .int .i64 r5, .int .i64 r6, .int .i64 r7], .int .i64 r8]) ∧ Below w.heap.size w w' := by
  have hu25 := Try.underlying25
  have hu27 := Try.underlying27
  have hu51 := Try.underlying51
  have hu52 := Try.underlying52
  have hu23 := Try.underlying23
  have hu53 := Try.underlying53
  have HB := Aside0.mk (Below.refl w.heap.size w)
  have H : ((track_Right.f k a0_0 a0_1 a0_2 a0_3 a0_4 a0_5 a0_6).bind fun t142 => (if t142 = true then (if a2 = true then (if a1 < 0 then (base_Start.j0 k a1 a2 true a0_0 a0_1 a0_2 a0_3 a0_4 a0_5 a0_6) else ((fixed_Is.f a1).bind fun t143 => (base_Start.j0 k a1 a2 (!t143) a0_0 a0_1 a0_2 a0_3 a0_4 a0_5 a0_6))) else (base_Start.j0 k a1 a2 false a0_0 a0_1 a0_2 a0_3 a0_4 a0_5 a0_6)) else (base_Start.j0 k a1 a2 true a0_0 a0_1 a0_2 a0_3 a0_4 a0_5 a0_6))) = some (r1, r2, r3, r4, r5, r6, r7, r8) := h
  clear h
  have HC4 := Aside0.mk H
  clear H
  go_enter Try.func6, Try.ntmps6
  go_upto_region 1 with (first | ((with_reducible refine gate_dst (N := 3) rfl ?_); refine box_event ?hg (N := 3) ?hd (cs := #[.int .i64 a0_0, .int .i64 a0_1, .int .i64 a0_2, .int .i64 a0_3, .bool a0_4, .int .i64 a0_5, .int .i64 a0_6]) (t := 25) ?hr ?_; (case hd => rfl); (case hg => rfl); (case hr => first | (go_simp; done) | (go_simp; rfl)); intro gb140 hg w5 hbox hb; have n0_ := Aside0.mk (below_step pmAx9_76_ hb); have n1_ := Aside0.mk (hbox); have n2_ := Aside0.mk ((by rw [hg]; exact (below_size pmAx9_76_) : w.heap.size ≤ gb140)); have n3_ := Aside0.mk ((by rw [hg]; exact (below_size pmAx9_76_) : w.heap.size ≤ gb140)); clear HB; have HB := n0_; have BK140 := n1_; have GW140 := n2_; have GE140 := n3_; clear n0_ n1_ n2_ n3_; clear hb hbox hg) | ((with_reducible refine gate_dst (N := 6) rfl ?_); refine box_event ?hg (N := 6) ?hd (cs := #[.int .i64 0, .int .i64 0, .int .i64 0, .bool false, .int .i64 0, .int .i64 0, .int .i64 0]) (t := 27) ?hr ?_; (case hd => rfl); (case hg => rfl); (case hr => first | (go_simp; done) | (go_simp; rfl)); intro gb141 hg w6 hbox hb; have n0_ := Aside0.mk (blk_below (g := gb140) (o := poAx9_0 a0_0 a0_1 a0_2 a0_3 a0_4 a0_5 a0_6) pmAx9_0_ hb); have n1_ := Aside0.mk (below_step pmAx9_73_ hb); have n2_ := Aside0.mk (hbox); have n3_ := Aside0.mk ((by rw [hg]; exact (below_size pmAx9_73_) : w.heap.size ≤ gb141)); have n4_ := Aside0.mk ((by rw [hg]; exact (below_size pmAx9_73_) : w.heap.size ≤ gb141)); have n5_ := Aside0.mk ((pmAx9_25_ : gb140 ≠ gb141)); have n6_ := Aside0.mk ((pmAx9_26_ : gb141 ≠ gb140)); clear BK140; clear HB; have BK140 := n0_; have HB := n1_; have BK141 := n2_; have GW141 := n3_; have GE141 := n4_; have NB140_141 := n5_; have NB141_140 := n6_; clear n0_ n1_ n2_ n3_ n4_ n5_ n6_; clear hb hbox hg) | (with_reducible refine wp_loop_rounds 4 ?_) | (with_reducible refine rounds_go ?_))
  (try simp only [Act.put, List.setIfInBounds_toArray, List.set_cons_zero, List.set_cons_succ])
  go_cut [28] (fun v28 wc => ∃ (kq : Nat) (x28_3 : Bool), v28 = .bool x28_3 ∧ Aside0 (base_Start.j0 kq a1 a2 x28_3 a0_0 a0_1 a0_2 a0_3 a0_4 a0_5 a0_6 = some (r1, r2, r3, r4, r5, r6, r7, r8)) ∧ Aside0 (kq ≤ k) ∧ Aside0 (wc.heap[gb140]? = some (.cells #[.int .i64 a0_0, .int .i64 a0_1, .int .i64 a0_2, .int .i64 a0_3, .bool a0_4, .int .i64 a0_5, .int .i64 a0_6] 25 (0, 0))) ∧ Aside0 (wc.heap[gb141]? = some (.cells #[.int .i64 0, .int .i64 0, .int .i64 0, .bool false, .int .i64 0, .int .i64 0, .int .i64 0] 27 (0, 0))) ∧ Aside0 (Below w.heap.size w wc))
  case first =>
    have H := HC4.out
    clear HC4
    replace H := Option.bind_eq_some_iff.mp H
    obtain ⟨t142, A70, H⟩ := H
    replace H : (if t142 = true then (if a2 = true then (if a1 < 0 then (base_Start.j0 k a1 a2 true a0_0 a0_1 a0_2 a0_3 a0_4 a0_5 a0_6) else ((fixed_Is.f a1).bind fun t143 => (base_Start.j0 k a1 a2 (!t143) a0_0 a0_1 a0_2 a0_3 a0_4 a0_5 a0_6))) else (base_Start.j0 k a1 a2 false a0_0 a0_1 a0_2 a0_3 a0_4 a0_5 a0_6)) else (base_Start.j0 k a1 a2 true a0_0 a0_1 a0_2 a0_3 a0_4 a0_5 a0_6)) = some (r1, r2, r3, r4, r5, r6, r7, r8) := H
    have A7 := Aside0.mk A70
    clear A70
    by_cases c8 : t142 = true
    rotate_left
    · replace c8 := Bool.eq_false_iff.mpr c8
      subst c8
      have H1 : (base_Start.j0 k a1 a2 true a0_0 a0_1 a0_2 a0_3 a0_4 a0_5 a0_6) = some (r1, r2, r3, r4, r5, r6, r7, r8) := by rw [if_neg (show ¬ (false = true) by decide)] at H; exact H
      clear H
      have H := H1
      clear H1
      have H' := Aside0.mk H
      clear H
      have hnb21 := NB140_141.out
      have hnc21 := NB141_140.out
      have hcz22_0 : w6.cell? ⟨gb140, 0, none⟩ = some (.int .i64 a0_0) := (blk_cell BK140.out 0).trans rfl
      have hcz22_1 : w6.cell? ⟨gb140, 1, none⟩ = some (.int .i64 a0_1) := (blk_cell BK140.out 1).trans rfl
      have hcz22_2 : w6.cell? ⟨gb140, 2, none⟩ = some (.int .i64 a0_2) := (blk_cell BK140.out 2).trans rfl
      have hcz22_3 : w6.cell? ⟨gb140, 3, none⟩ = some (.int .i64 a0_3) := (blk_cell BK140.out 3).trans rfl
      have hcz22_4 : w6.cell? ⟨gb140, 4, none⟩ = some (.bool a0_4) := (blk_cell BK140.out 4).trans rfl
      have hcz22_5 : w6.cell? ⟨gb140, 5, none⟩ = some (.int .i64 a0_5) := (blk_cell BK140.out 5).trans rfl
      have hcz22_6 : w6.cell? ⟨gb140, 6, none⟩ = some (.int .i64 a0_6) := (blk_cell BK140.out 6).trans rfl
      have hfz22_0 := blk_frozen BK140.out 0
      have hfz22_1 := blk_frozen BK140.out 1
      have hfz22_2 := blk_frozen BK140.out 2
      have hfz22_3 := blk_frozen BK140.out 3
      have hfz22_4 := blk_frozen BK140.out 4
      have hfz22_5 := blk_frozen BK140.out 5
      have hfz22_6 := blk_frozen BK140.out 6
      as_aux_lemma =>
        go_wp2_with (first | ((with_reducible refine gate_callee (f := 16) rfl ?_); refine goesL_ (some 15) rfl rfl Try.func16 pmAx9_43_ rfl #[.agg #[.int .i64 a0_0, .int .i64 a0_1, .int .i64 a0_2, .int .i64 a0_3, .bool a0_4, .int .i64 a0_5, .int .i64 a0_6]] rfl pmAx9_14_ ?_; (with_reducible refine (track_Right.calls k a0_0 a0_1 a0_2 a0_3 a0_4 a0_5 a0_6 false _ A7.out).mono ?_); rintro e w23 ⟨rfl, hb⟩; refine ⟨_, rfl, ?_⟩; have n0_ := Aside0.mk (blk_below (g := gb140) (o := poAx9_0 a0_0 a0_1 a0_2 a0_3 a0_4 a0_5 a0_6) pmAx9_0_ hb); have n1_ := Aside0.mk (blk_below (g := gb141) (o := poAx9_1 0 0 0 false 0 0 0) pmAx9_1_ hb); have n2_ := Aside0.mk (below_step pmAx9_9_ hb); clear BK140; clear BK141; clear HB; have BK140 := n0_; have BK141 := n1_; have HB := n2_; clear n0_ n1_ n2_; (try clear hb); (try clear hb2); (try clear hk); (try clear hi)) | (with_reducible refine wp_loop_rounds 4 ?_) | (with_reducible refine rounds_go ?_))
        go_meet
        case rel => exact ⟨_, (true), (by first | rfl | (simp; done) | (simp [*]; done)), H', ⟨by first | omega | exact Nat.le_refl _⟩, ⟨pmAx9_0_⟩, ⟨pmAx9_1_⟩, ⟨pmAx9_9_⟩⟩
    subst c8
    have H1 : (if a2 = true then (if a1 < 0 then (base_Start.j0 k a1 a2 true a0_0 a0_1 a0_2 a0_3 a0_4 a0_5 a0_6) else ((fixed_Is.f a1).bind fun t143 => (base_Start.j0 k a1 a2 (!t143) a0_0 a0_1 a0_2 a0_3 a0_4 a0_5 a0_6))) else (base_Start.j0 k a1 a2 false a0_0 a0_1 a0_2 a0_3 a0_4 a0_5 a0_6)) = some (r1, r2, r3, r4, r5, r6, r7, r8) := by rw [if_pos rfl] at H; exact H
    clear H
    have H := H1
    clear H1
    by_cases c9 : a2 = true
    rotate_left
    · replace c9 := Bool.eq_false_iff.mpr c9
      subst c9
      have H1 : (base_Start.j0 k a1 false false a0_0 a0_1 a0_2 a0_3 a0_4 a0_5 a0_6) = some (r1, r2, r3, r4, r5, r6, r7, r8) := by rw [if_neg (show ¬ (false = true) by decide)] at H; exact H
      clear H
      have H := H1
      clear H1
      have H' := Aside0.mk H
      clear H
      have hnb18 := NB140_141.out
      have hnc18 := NB141_140.out
      have hcz19_0 : w6.cell? ⟨gb140, 0, none⟩ = some (.int .i64 a0_0) := (blk_cell BK140.out 0).trans rfl
      have hcz19_1 : w6.cell? ⟨gb140, 1, none⟩ = some (.int .i64 a0_1) := (blk_cell BK140.out 1).trans rfl
      have hcz19_2 : w6.cell? ⟨gb140, 2, none⟩ = some (.int .i64 a0_2) := (blk_cell BK140.out 2).trans rfl
      have hcz19_3 : w6.cell? ⟨gb140, 3, none⟩ = some (.int .i64 a0_3) := (blk_cell BK140.out 3).trans rfl
      have hcz19_4 : w6.cell? ⟨gb140, 4, none⟩ = some (.bool a0_4) := (blk_cell BK140.out 4).trans rfl
      have hcz19_5 : w6.cell? ⟨gb140, 5, none⟩ = some (.int .i64 a0_5) := (blk_cell BK140.out 5).trans rfl
      have hcz19_6 : w6.cell? ⟨gb140, 6, none⟩ = some (.int .i64 a0_6) := (blk_cell BK140.out 6).trans rfl
      have hfz19_0 := blk_frozen BK140.out 0
      have hfz19_1 := blk_frozen BK140.out 1
      have hfz19_2 := blk_frozen BK140.out 2
      have hfz19_3 := blk_frozen BK140.out 3
      have hfz19_4 := blk_frozen BK140.out 4
      have hfz19_5 := blk_frozen BK140.out 5
      have hfz19_6 := blk_frozen BK140.out 6
      as_aux_lemma =>
        go_wp2_with (first | ((with_reducible refine gate_callee (f := 16) rfl ?_); refine goesL_ (some 15) rfl rfl Try.func16 pmAx9_43_ rfl #[.agg #[.int .i64 a0_0, .int .i64 a0_1, .int .i64 a0_2, .int .i64 a0_3, .bool a0_4, .int .i64 a0_5, .int .i64 a0_6]] rfl pmAx9_14_ ?_; (with_reducible refine (track_Right.calls k a0_0 a0_1 a0_2 a0_3 a0_4 a0_5 a0_6 true _ A7.out).mono ?_); rintro e w20 ⟨rfl, hb⟩; refine ⟨_, rfl, ?_⟩; have n0_ := Aside0.mk (blk_below (g := gb140) (o := poAx9_0 a0_0 a0_1 a0_2 a0_3 a0_4 a0_5 a0_6) pmAx9_0_ hb); have n1_ := Aside0.mk (blk_below (g := gb141) (o := poAx9_1 0 0 0 false 0 0 0) pmAx9_1_ hb); have n2_ := Aside0.mk (below_step pmAx9_9_ hb); clear BK140; clear BK141; clear HB; have BK140 := n0_; have BK141 := n1_; have HB := n2_; clear n0_ n1_ n2_; (try clear hb); (try clear hb2); (try clear hk); (try clear hi)) | (with_reducible refine wp_loop_rounds 4 ?_) | (with_reducible refine rounds_go ?_))
        go_meet
        case rel => exact ⟨_, (false), (by first | rfl | (simp; done) | (simp [*]; done)), H', ⟨by first | omega | exact Nat.le_refl _⟩, ⟨pmAx9_0_⟩, ⟨pmAx9_1_⟩, ⟨pmAx9_9_⟩⟩
    subst c9
    have H1 : (if a1 < 0 then (base_Start.j0 k a1 true true a0_0 a0_1 a0_2 a0_3 a0_4 a0_5 a0_6) else ((fixed_Is.f a1).bind fun t143 => (base_Start.j0 k a1 true (!t143) a0_0 a0_1 a0_2 a0_3 a0_4 a0_5 a0_6))) = some (r1, r2, r3, r4, r5, r6, r7, r8) := by rw [if_pos rfl] at H; exact H
    clear H
    have H := H1
    clear H1
    by_cases c10 : a1 < 0
    · rw [if_pos c10] at H
      have c10b0 : decide (a1 < 0) = true := decide_eq_true c10
      clear c10
      (first | rw [c10b0] | (simp only [i64_w, i32_w]; rw [c10b0]) | skip)
      have H' := Aside0.mk H
      clear H
      have hnb11 := NB140_141.out
      have hnc11 := NB141_140.out
      have hcz12_0 : w6.cell? ⟨gb140, 0, none⟩ = some (.int .i64 a0_0) := (blk_cell BK140.out 0).trans rfl
      have hcz12_1 : w6.cell? ⟨gb140, 1, none⟩ = some (.int .i64 a0_1) := (blk_cell BK140.out 1).trans rfl
      have hcz12_2 : w6.cell? ⟨gb140, 2, none⟩ = some (.int .i64 a0_2) := (blk_cell BK140.out 2).trans rfl
      have hcz12_3 : w6.cell? ⟨gb140, 3, none⟩ = some (.int .i64 a0_3) := (blk_cell BK140.out 3).trans rfl
      have hcz12_4 : w6.cell? ⟨gb140, 4, none⟩ = some (.bool a0_4) := (blk_cell BK140.out 4).trans rfl
      have hcz12_5 : w6.cell? ⟨gb140, 5, none⟩ = some (.int .i64 a0_5) := (blk_cell BK140.out 5).trans rfl
      have hcz12_6 : w6.cell? ⟨gb140, 6, none⟩ = some (.int .i64 a0_6) := (blk_cell BK140.out 6).trans rfl
      have hfz12_0 := blk_frozen BK140.out 0
      have hfz12_1 := blk_frozen BK140.out 1
      have hfz12_2 := blk_frozen BK140.out 2
      have hfz12_3 := blk_frozen BK140.out 3
      have hfz12_4 := blk_frozen BK140.out 4
      have hfz12_5 := blk_frozen BK140.out 5
      have hfz12_6 := blk_frozen BK140.out 6
      as_aux_lemma =>
        go_wp2_with (first | ((with_reducible refine gate_callee (f := 16) rfl ?_); refine goesL_ (some 15) rfl rfl Try.func16 pmAx9_43_ rfl #[.agg #[.int .i64 a0_0, .int .i64 a0_1, .int .i64 a0_2, .int .i64 a0_3, .bool a0_4, .int .i64 a0_5, .int .i64 a0_6]] rfl pmAx9_14_ ?_; (with_reducible refine (track_Right.calls k a0_0 a0_1 a0_2 a0_3 a0_4 a0_5 a0_6 true _ A7.out).mono ?_); rintro e w13 ⟨rfl, hb⟩; refine ⟨_, rfl, ?_⟩; have n0_ := Aside0.mk (blk_below (g := gb140) (o := poAx9_0 a0_0 a0_1 a0_2 a0_3 a0_4 a0_5 a0_6) pmAx9_0_ hb); have n1_ := Aside0.mk (blk_below (g := gb141) (o := poAx9_1 0 0 0 false 0 0 0) pmAx9_1_ hb); have n2_ := Aside0.mk (below_step pmAx9_9_ hb); clear BK140; clear BK141; clear HB; have BK140 := n0_; have BK141 := n1_; have HB := n2_; clear n0_ n1_ n2_; (try clear hb); (try clear hb2); (try clear hk); (try clear hi)) | (with_reducible refine wp_loop_rounds 4 ?_) | (with_reducible refine rounds_go ?_))
        go_meet
        case rel => exact ⟨_, (true), (by first | rfl | (simp; done) | (simp [*]; done)), H', ⟨by first | omega | exact Nat.le_refl _⟩, ⟨pmAx9_0_⟩, ⟨pmAx9_1_⟩, ⟨pmAx9_9_⟩⟩
    rw [if_neg c10] at H
    have c10b0 : decide (a1 < 0) = false := decide_eq_false c10
    clear c10
    (first | rw [c10b0] | (simp only [i64_w, i32_w]; rw [c10b0]) | skip)
    replace H := Option.bind_eq_some_iff.mp H
    obtain ⟨t143, A140, H⟩ := H
    replace H : (base_Start.j0 k a1 true (!t143) a0_0 a0_1 a0_2 a0_3 a0_4 a0_5 a0_6) = some (r1, r2, r3, r4, r5, r6, r7, r8) := H
    have A14 := Aside0.mk A140
    clear A140
    have H' := Aside0.mk H
    clear H
    have hnb15 := NB140_141.out
    have hnc15 := NB141_140.out
    have hcz16_0 : w6.cell? ⟨gb140, 0, none⟩ = some (.int .i64 a0_0) := (blk_cell BK140.out 0).trans rfl
    have hcz16_1 : w6.cell? ⟨gb140, 1, none⟩ = some (.int .i64 a0_1) := (blk_cell BK140.out 1).trans rfl
    have hcz16_2 : w6.cell? ⟨gb140, 2, none⟩ = some (.int .i64 a0_2) := (blk_cell BK140.out 2).trans rfl
    have hcz16_3 : w6.cell? ⟨gb140, 3, none⟩ = some (.int .i64 a0_3) := (blk_cell BK140.out 3).trans rfl
    have hcz16_4 : w6.cell? ⟨gb140, 4, none⟩ = some (.bool a0_4) := (blk_cell BK140.out 4).trans rfl
    have hcz16_5 : w6.cell? ⟨gb140, 5, none⟩ = some (.int .i64 a0_5) := (blk_cell BK140.out 5).trans rfl
    have hcz16_6 : w6.cell? ⟨gb140, 6, none⟩ = some (.int .i64 a0_6) := (blk_cell BK140.out 6).trans rfl
    have hfz16_0 := blk_frozen BK140.out 0
    have hfz16_1 := blk_frozen BK140.out 1
    have hfz16_2 := blk_frozen BK140.out 2
    have hfz16_3 := blk_frozen BK140.out 3
    have hfz16_4 := blk_frozen BK140.out 4
    have hfz16_5 := blk_frozen BK140.out 5
    have hfz16_6 := blk_frozen BK140.out 6
    go_wp2_with (first | ((with_reducible refine gate_callee (f := 16) rfl ?_); refine goesL_ (some 15) rfl rfl Try.func16 pmAx9_43_ rfl #[.agg #[.int .i64 a0_0, .int .i64 a0_1, .int .i64 a0_2, .int .i64 a0_3, .bool a0_4, .int .i64 a0_5, .int .i64 a0_6]] rfl pmAx9_14_ ?_; (with_reducible refine (track_Right.calls k a0_0 a0_1 a0_2 a0_3 a0_4 a0_5 a0_6 true _ A7.out).mono ?_); rintro e w17 ⟨rfl, hb⟩; refine ⟨_, rfl, ?_⟩; have n0_ := Aside0.mk (blk_below (g := gb140) (o := poAx9_0 a0_0 a0_1 a0_2 a0_3 a0_4 a0_5 a0_6) pmAx9_0_ hb); have n1_ := Aside0.mk (blk_below (g := gb141) (o := poAx9_1 0 0 0 false 0 0 0) pmAx9_1_ hb); have n2_ := Aside0.mk (below_step pmAx9_9_ hb); clear BK140; clear BK141; clear HB; have BK140 := n0_; have BK141 := n1_; have HB := n2_; clear n0_ n1_ n2_; (try clear hb); (try clear hb2); (try clear hk); (try clear hi)) | (go_at_call 17; (with_reducible refine (fixed_Is.calls a1 t143 _ A14.out).mono ?_); rintro e w' ⟨rfl, ⟨nd, rfl⟩⟩) | (with_reducible refine wp_loop_rounds 4 ?_) | (with_reducible refine rounds_go ?_))
    go_meet
    case rel => exact ⟨_, (!t143), (by first | rfl | (simp; done) | (simp [*]; done)), H', ⟨by first | omega | exact Nat.le_refl _⟩, ⟨pmAx9_0_⟩, ⟨pmAx9_1_⟩, ⟨pmAx9_9_⟩⟩
  case rest =>
    clear HC4
    try clear c1
    try clear c2
    try clear p2
    try clear c6
    try clear c8
    try clear c9
    try clear c10
    try clear c10b0
    try clear c11
    try clear c15
    try clear c16
    try clear c18
    try clear c21
    try clear hcz12_0
    try clear hcz12_1
    try clear hcz12_2
    try clear hcz12_3
    try clear hcz12_4
    try clear hcz12_5
    try clear hcz12_6
    try clear hcz16_0
    try clear hcz16_1
    try clear hcz16_2
    try clear hcz16_3
    try clear hcz16_4
    try clear hcz16_5
    try clear hcz16_6
    try clear hcz19_0
    try clear hcz19_1
    try clear hcz19_2
    try clear hcz19_3
    try clear hcz19_4
    try clear hcz19_5
    try clear hcz19_6
    try clear hcz22_0
    try clear hcz22_1
    try clear hcz22_2
    try clear hcz22_3
    try clear hcz22_4
    try clear hcz22_5
    try clear hcz22_6
    try clear hfz12_0
    try clear hfz12_1
    try clear hfz12_2
    try clear hfz12_3
    try clear hfz12_4
    try clear hfz12_5
    try clear hfz12_6
    try clear hfz16_0
    try clear hfz16_1
    try clear hfz16_2
    try clear hfz16_3
    try clear hfz16_4
    try clear hfz16_5
    try clear hfz16_6
    try clear hfz19_0
    try clear hfz19_1
    try clear hfz19_2
    try clear hfz19_3
    try clear hfz19_4
    try clear hfz19_5
    try clear hfz19_6
    try clear hfz22_0
    try clear hfz22_1
    try clear hfz22_2
    try clear hfz22_3
    try clear hfz22_4
    try clear hfz22_5
    try clear hfz22_6
    obtain ⟨kq, x28_3, rfl, HA, HJ3, BK140, BK141, HB⟩ := hcut
    cases kq with
    | zero => exact absurd HA.out (by simp [base_Start.j0])
    | succ kj3 =>
      have H := HA.out
      clear HA
      simp only [base_Start.j0] at H
      by_cases c24 : x28_3 = true
      · subst c24
        have H1 : (some (0, 0, 0, false, 0, 0, 0, 2)) = some (r1, r2, r3, r4, r5, r6, r7, r8) := by rw [if_pos rfl] at H; exact H
        clear H
        have H := H1
        clear H1
        simp only [Option.some.injEq, Prod.mk.injEq] at H
        obtain ⟨rfl, rfl, rfl, rfl, rfl, rfl, rfl, rfl⟩ := H
        have hnb25 := NB141_140.out
        have hnc25 := NB140_141.out
        have hcz26_0 : wc.cell? ⟨gb141, 0, none⟩ = some (.int .i64 0) := (blk_cell BK141.out 0).trans rfl
        have hcz26_1 : wc.cell? ⟨gb141, 1, none⟩ = some (.int .i64 0) := (blk_cell BK141.out 1).trans rfl
        have hcz26_2 : wc.cell? ⟨gb141, 2, none⟩ = some (.int .i64 0) := (blk_cell BK141.out 2).trans rfl
        have hcz26_3 : wc.cell? ⟨gb141, 3, none⟩ = some (.bool false) := (blk_cell BK141.out 3).trans rfl
        have hcz26_4 : wc.cell? ⟨gb141, 4, none⟩ = some (.int .i64 0) := (blk_cell BK141.out 4).trans rfl
        have hcz26_5 : wc.cell? ⟨gb141, 5, none⟩ = some (.int .i64 0) := (blk_cell BK141.out 5).trans rfl
        have hcz26_6 : wc.cell? ⟨gb141, 6, none⟩ = some (.int .i64 0) := (blk_cell BK141.out 6).trans rfl
        have hfz26_0 := blk_frozen BK141.out 0
        have hfz26_1 := blk_frozen BK141.out 1
        have hfz26_2 := blk_frozen BK141.out 2
        have hfz26_3 := blk_frozen BK141.out 3
        have hfz26_4 := blk_frozen BK141.out 4
        have hfz26_5 := blk_frozen BK141.out 5
        have hfz26_6 := blk_frozen BK141.out 6
        as_aux_lemma =>
          go_wp2
          refine bodyPost_ret (results_ct rfl _ _ gb141 27 #[.int .i64 0, .int .i64 0, .int .i64 0, .bool false, .int .i64 0, .int .i64 0, .int .i64 0] (0, 0) _ rfl (by (with_reducible repeat (first | refine blk_drewN ?_ _ | refine blk_drew ?_ | refine blk_alloc ?_ _)); refine blk_put (cs := #[.int .i64 0, .int .i64 0, .int .i64 0, .bool false, .int .i64 0, .int .i64 0, .int .i64 0]) ?_ 6 _ rfl; (with_reducible repeat (first | refine blk_drewN ?_ _ | refine blk_drew ?_ | refine blk_alloc ?_ _)); refine blk_put (cs := #[.int .i64 0, .int .i64 0, .int .i64 0, .bool false, .int .i64 0, .int .i64 0, .int .i64 0]) ?_ 5 _ rfl; (with_reducible repeat (first | refine blk_drewN ?_ _ | refine blk_drew ?_ | refine blk_alloc ?_ _)); refine blk_put (cs := #[.int .i64 0, .int .i64 0, .int .i64 0, .bool false, .int .i64 0, .int .i64 0, .int .i64 0]) ?_ 4 _ rfl; (with_reducible repeat (first | refine blk_drewN ?_ _ | refine blk_drew ?_ | refine blk_alloc ?_ _)); refine blk_put (cs := #[.int .i64 0, .int .i64 0, .int .i64 0, .bool false, .int .i64 0, .int .i64 0, .int .i64 0]) ?_ 3 _ rfl; (with_reducible repeat (first | refine blk_drewN ?_ _ | refine blk_drew ?_ | refine blk_alloc ?_ _)); refine blk_put (cs := #[.int .i64 0, .int .i64 0, .int .i64 0, .bool false, .int .i64 0, .int .i64 0, .int .i64 0]) ?_ 2 _ rfl; (with_reducible repeat (first | refine blk_drewN ?_ _ | refine blk_drew ?_ | refine blk_alloc ?_ _)); refine blk_put (cs := #[.int .i64 0, .int .i64 0, .int .i64 0, .bool false, .int .i64 0, .int .i64 0, .int .i64 0]) ?_ 1 _ rfl; (with_reducible repeat (first | refine blk_drewN ?_ _ | refine blk_drew ?_ | refine blk_alloc ?_ _)); refine blk_put (cs := #[.int .i64 0, .int .i64 0, .int .i64 0, .bool false, .int .i64 0, .int .i64 0, .int .i64 0]) ?_ 0 _ rfl; (with_reducible repeat (first | refine blk_drewN ?_ _ | refine blk_drew ?_ | refine blk_alloc ?_ _)); exact BK141.out) Try.underlying27 rfl pmAx9_43_) rfl ?_
          exact ⟨by first | rfl | (simp [errW_none, errW_some] <;> rfl) | (simp [*, errW_none, errW_some] <;> rfl), by repeat (first | (with_reducible first | exact HB.out | apply below_alloc | apply pw_below_drewN | apply below_drew1 | refine below_set ?_ GE140.out | refine below_set ?_ GE141.out) | exact HB.out)⟩
      replace c24 := Bool.eq_false_iff.mpr c24
      subst c24
      have H1 : ((value_Resolve.f kj3 a0_0 a0_1 a1 a2).bind fun bt147 => (if bt147.2.2 = 0 then ((value_Resolve.f kj3 a0_2 a0_3 a1 a2).bind fun bt151 => (if bt151.2.2 = 0 then ((value_Resolve.f kj3 a0_5 a0_6 a1 a2).bind fun bt155 => (if bt155.2.2 = 0 then ((base_kind.f a0_0 a0_1 a2).bind fun t158 => ((base_kind.f a0_2 a0_3 a2).bind fun t159 => (if bt151.2.1 = true then (base_Start.j1 kj3 a0_0 a0_1 a0_2 a0_3 a0_4 a0_5 a0_6 bt147.1 bt151.1 bt155.1 bt147.2.1 bt151.2.1 bt155.2.1 t158 t159 0 false 0 bt147.1 bt151.1) else (base_Start.j1 kj3 a0_0 a0_1 a0_2 a0_3 a0_4 a0_5 a0_6 bt147.1 bt151.1 bt155.1 bt147.2.1 bt151.2.1 bt155.2.1 t158 t159 0 false 0 bt147.1 1125899906842624)))) else (some (0, 0, 0, false, 0, 0, 0, bt155.2.2)))) else (some (0, 0, 0, false, 0, 0, 0, bt151.2.2)))) else (some (0, 0, 0, false, 0, 0, 0, bt147.2.2)))) = some (r1, r2, r3, r4, r5, r6, r7, r8) := by rw [if_neg (show ¬ (false = true) by decide)] at H; exact H
      clear H
      have H := H1
      clear H1
      replace H := Option.bind_eq_some_iff.mp H
      obtain ⟨⟨t147, t148, t149⟩, A270, H⟩ := H
      replace H : (if t149 = 0 then ((value_Resolve.f kj3 a0_2 a0_3 a1 a2).bind fun bt151 => (if bt151.2.2 = 0 then ((value_Resolve.f kj3 a0_5 a0_6 a1 a2).bind fun bt155 => (if bt155.2.2 = 0 then ((base_kind.f a0_0 a0_1 a2).bind fun t158 => ((base_kind.f a0_2 a0_3 a2).bind fun t159 => (if bt151.2.1 = true then (base_Start.j1 kj3 a0_0 a0_1 a0_2 a0_3 a0_4 a0_5 a0_6 t147 bt151.1 bt155.1 t148 bt151.2.1 bt155.2.1 t158 t159 0 false 0 t147 bt151.1) else (base_Start.j1 kj3 a0_0 a0_1 a0_2 a0_3 a0_4 a0_5 a0_6 t147 bt151.1 bt155.1 t148 bt151.2.1 bt155.2.1 t158 t159 0 false 0 t147 1125899906842624)))) else (some (0, 0, 0, false, 0, 0, 0, bt155.2.2)))) else (some (0, 0, 0, false, 0, 0, 0, bt151.2.2)))) else (some (0, 0, 0, false, 0, 0, 0, t149))) = some (r1, r2, r3, r4, r5, r6, r7, r8) := H
      have A27 := Aside0.mk A270
      clear A270
      by_cases c28 : t149 = 0
      rotate_left
      · rw [if_neg c28] at H
        have c28b0 : (t149 == 0) = false := beq_eq_false_iff_ne.mpr c28
        have c28b1 : (t149 != 0) = true := bne_iff_ne.mpr c28
        simp only [Option.some.injEq, Prod.mk.injEq] at H
        obtain ⟨rfl, rfl, rfl, rfl, rfl, rfl, rfl, rfl⟩ := H
        go_wp2_with (first | ((with_reducible refine gate_dst (N := 8) rfl ?_); refine box_event ?hg (N := 8) ?hd (cs := #[.int .i64 0, .int .i64 0, .int .i64 0]) (t := 51) ?hr ?_; (case hd => rfl); (case hg => rfl); (case hr => first | (go_simp; done) | (go_simp; rfl)); intro gb144 hg w347 hbox hb; have n0_ := Aside0.mk (blk_below (g := gb140) (o := poAx9_0 a0_0 a0_1 a0_2 a0_3 a0_4 a0_5 a0_6) pmAx9_0_ hb); have n1_ := Aside0.mk (blk_below (g := gb141) (o := poAx9_1 0 0 0 false 0 0 0) pmAx9_1_ hb); have n2_ := Aside0.mk (below_step pmAx9_9_ hb); have n3_ := Aside0.mk (hbox); have n4_ := Aside0.mk ((pmAx9_79_ : w.heap.size ≤ gb144)); have n5_ := Aside0.mk ((pmAx9_79_ : w.heap.size ≤ gb144)); have n6_ := Aside0.mk ((pmAx9_25_ : gb140 ≠ gb144)); have n7_ := Aside0.mk ((pmAx9_26_ : gb144 ≠ gb140)); have n8_ := Aside0.mk ((pmAx9_28_ : gb141 ≠ gb144)); have n9_ := Aside0.mk ((pmAx9_29_ : gb144 ≠ gb141)); clear BK140; clear BK141; clear HB; have BK140 := n0_; have BK141 := n1_; have HB := n2_; have BK144 := n3_; have GW144 := n4_; have GE144 := n5_; have NB140_144 := n6_; have NB144_140 := n7_; have NB141_144 := n8_; have NB144_141 := n9_; clear n0_ n1_ n2_ n3_ n4_ n5_ n6_ n7_ n8_ n9_; clear hb hbox hg) | ((with_reducible refine gate_dst (N := 9) rfl ?_); refine box_event ?hg (N := 9) ?hd (cs := #[.bool false, .bool false, .bool false]) (t := 52) ?hr ?_; (case hd => rfl); (case hg => rfl); (case hr => first | (go_simp; done) | (go_simp; rfl)); intro gb145 hg w348 hbox hb; have n0_ := Aside0.mk (blk_below (g := gb140) (o := poAx9_0 a0_0 a0_1 a0_2 a0_3 a0_4 a0_5 a0_6) pmAx9_0_ hb); have n1_ := Aside0.mk (blk_below (g := gb141) (o := poAx9_1 0 0 0 false 0 0 0) pmAx9_1_ hb); have n2_ := Aside0.mk (blk_below (g := gb144) (o := poAx9_2 0 0 0) pmAx9_6_ hb); have n3_ := Aside0.mk (below_step pmAx9_17_ hb); have n4_ := Aside0.mk (hbox); have n5_ := Aside0.mk ((pmAx9_77_ : w.heap.size ≤ gb145)); have n6_ := Aside0.mk ((pmAx9_77_ : w.heap.size ≤ gb145)); have n7_ := Aside0.mk ((pmAx9_25_ : gb140 ≠ gb145)); have n8_ := Aside0.mk ((pmAx9_26_ : gb145 ≠ gb140)); have n9_ := Aside0.mk ((pmAx9_28_ : gb141 ≠ gb145)); have n10_ := Aside0.mk ((pmAx9_29_ : gb145 ≠ gb141)); have n11_ := Aside0.mk ((pmAx9_44_ : gb144 ≠ gb145)); have n12_ := Aside0.mk ((pmAx9_45_ : gb145 ≠ gb144)); clear BK140; clear BK141; clear BK144; clear HB; have BK140 := n0_; have BK141 := n1_; have BK144 := n2_; have HB := n3_; have BK145 := n4_; have GW145 := n5_; have GE145 := n6_; have NB140_145 := n7_; have NB145_140 := n8_; have NB141_145 := n9_; have NB145_141 := n10_; have NB144_145 := n11_; have NB145_144 := n12_; clear n0_ n1_ n2_ n3_ n4_ n5_ n6_ n7_ n8_ n9_ n10_ n11_ n12_; clear hb hbox hg; have hnb349 := NB140_141.out; have hnc349 := NB141_140.out; have hnb350 := NB140_144.out; have hnc350 := NB144_140.out; have hnb351 := NB140_145.out; have hnc351 := NB145_140.out; have hcz352_0 : w348.cell? ⟨gb140, 0, none⟩ = some (.int .i64 a0_0) := (blk_cell BK140.out 0).trans rfl; have hcz352_1 : w348.cell? ⟨gb140, 1, none⟩ = some (.int .i64 a0_1) := (blk_cell BK140.out 1).trans rfl; have hcz352_2 : w348.cell? ⟨gb140, 2, none⟩ = some (.int .i64 a0_2) := (blk_cell BK140.out 2).trans rfl; have hcz352_3 : w348.cell? ⟨gb140, 3, none⟩ = some (.int .i64 a0_3) := (blk_cell BK140.out 3).trans rfl; have hcz352_4 : w348.cell? ⟨gb140, 4, none⟩ = some (.bool a0_4) := (blk_cell BK140.out 4).trans rfl; have hcz352_5 : w348.cell? ⟨gb140, 5, none⟩ = some (.int .i64 a0_5) := (blk_cell BK140.out 5).trans rfl; have hcz352_6 : w348.cell? ⟨gb140, 6, none⟩ = some (.int .i64 a0_6) := (blk_cell BK140.out 6).trans rfl; have hfz352_0 := blk_frozen BK140.out 0; have hfz352_1 := blk_frozen BK140.out 1; have hfz352_2 := blk_frozen BK140.out 2; have hfz352_3 := blk_frozen BK140.out 3; have hfz352_4 := blk_frozen BK140.out 4; have hfz352_5 := blk_frozen BK140.out 5; have hfz352_6 := blk_frozen BK140.out 6) | ((with_reducible refine gate_dst (N := 11) rfl ?_); refine box_event ?hg (N := 11) ?hd (cs := #[.int .i64 0, .int .i64 0]) (t := 23) ?hr ?_; (case hd => rfl); (case hg => rfl); (case hr => first | (go_simp; done) | (go_simp; rfl)); intro gb146 hg w353 hbox hb; have n0_ := Aside0.mk (blk_below (g := gb140) (o := poAx9_0 a0_0 a0_1 a0_2 a0_3 a0_4 a0_5 a0_6) pmAx9_0_ hb); have n1_ := Aside0.mk (blk_below (g := gb141) (o := poAx9_1 0 0 0 false 0 0 0) pmAx9_1_ hb); have n2_ := Aside0.mk (blk_below (g := gb144) (o := poAx9_2 0 0 0) pmAx9_6_ hb); have n3_ := Aside0.mk (blk_below (g := gb145) (o := poAx9_3 false false false) pmAx9_10_ hb); have n4_ := Aside0.mk (below_step pmAx9_15_ hb); have n5_ := Aside0.mk (hbox); have n6_ := Aside0.mk ((pmAx9_78_ : w.heap.size ≤ gb146)); have n7_ := Aside0.mk ((pmAx9_78_ : w.heap.size ≤ gb146)); have n8_ := Aside0.mk ((pmAx9_25_ : gb140 ≠ gb146)); have n9_ := Aside0.mk ((pmAx9_26_ : gb146 ≠ gb140)); have n10_ := Aside0.mk ((pmAx9_28_ : gb141 ≠ gb146)); have n11_ := Aside0.mk ((pmAx9_29_ : gb146 ≠ gb141)); have n12_ := Aside0.mk ((pmAx9_44_ : gb144 ≠ gb146)); have n13_ := Aside0.mk ((pmAx9_45_ : gb146 ≠ gb144)); have n14_ := Aside0.mk ((pmAx9_74_ : gb145 ≠ gb146)); have n15_ := Aside0.mk ((pmAx9_75_ : gb146 ≠ gb145)); clear BK140; clear BK141; clear BK144; clear BK145; clear HB; have BK140 := n0_; have BK141 := n1_; have BK144 := n2_; have BK145 := n3_; have HB := n4_; have BK146 := n5_; have GW146 := n6_; have GE146 := n7_; have NB140_146 := n8_; have NB146_140 := n9_; have NB141_146 := n10_; have NB146_141 := n11_; have NB144_146 := n12_; have NB146_144 := n13_; have NB145_146 := n14_; have NB146_145 := n15_; clear n0_ n1_ n2_ n3_ n4_ n5_ n6_ n7_ n8_ n9_ n10_ n11_ n12_ n13_ n14_ n15_; clear hb hbox hg; have hnb354 := NB146_140.out; have hnc354 := NB140_146.out; have hnb355 := NB146_141.out; have hnc355 := NB141_146.out; have hnb356 := NB146_144.out; have hnc356 := NB144_146.out; have hnb357 := NB146_145.out; have hnc357 := NB145_146.out; have hcz358_0 : w353.cell? ⟨gb146, 0, none⟩ = some (.int .i64 0) := (blk_cell BK146.out 0).trans rfl; have hcz358_1 : w353.cell? ⟨gb146, 1, none⟩ = some (.int .i64 0) := (blk_cell BK146.out 1).trans rfl; have hfz358_0 := blk_frozen BK146.out 0; have hfz358_1 := blk_frozen BK146.out 1) | ((with_reducible refine gate_callee (f := 18) rfl ?_); refine goesL_ (some 47) rfl rfl Try.func18 pmAx9_43_ rfl #[.agg #[.int .i64 a0_0, .int .i64 a0_1], .int .i64 a1, .bool a2] rfl pmAx9_14_ ?_; (with_reducible refine (value_Resolve.calls kj3 a0_0 a0_1 a1 a2 t147 t148 t149 _ A27.out).mono ?_); rintro e w359 ⟨rfl, hb⟩; refine ⟨_, rfl, ?_⟩; have n0_ := Aside0.mk (blk_below (g := gb140) (o := poAx9_0 a0_0 a0_1 a0_2 a0_3 a0_4 a0_5 a0_6) pmAx9_30_ hb); have n1_ := Aside0.mk (blk_below (g := gb141) (o := poAx9_1 0 0 0 false 0 0 0) pmAx9_31_ hb); have n2_ := Aside0.mk (blk_below (g := gb144) (o := poAx9_2 0 0 0) pmAx9_32_ hb); have n3_ := Aside0.mk (blk_below (g := gb145) (o := poAx9_3 false false false) pmAx9_33_ hb); have n4_ := Aside0.mk (blk_below (g := gb146) (o := poAx9_4 a0_0 a0_1) pmAx9_27_ hb); have n5_ := Aside0.mk (below_step pmAx9_11_ hb); clear BK140; clear BK141; clear BK144; clear BK145; clear BK146; clear HB; have BK140 := n0_; have BK141 := n1_; have BK144 := n2_; have BK145 := n3_; have BK146 := n4_; have HB := n5_; clear n0_ n1_ n2_ n3_ n4_ n5_; (try clear hb); (try clear hb2); (try clear hk); (try clear hi); have hnb360 := NB144_141.out; have hnc360 := NB141_144.out; have hnb361 := NB144_145.out; have hnc361 := NB145_144.out; have hcz362_0 : w359.cell? ⟨gb144, 0, none⟩ = some (.int .i64 0) := (blk_cell BK144.out 0).trans rfl; have hcz362_1 : w359.cell? ⟨gb144, 1, none⟩ = some (.int .i64 0) := (blk_cell BK144.out 1).trans rfl; have hcz362_2 : w359.cell? ⟨gb144, 2, none⟩ = some (.int .i64 0) := (blk_cell BK144.out 2).trans rfl; have hfz362_0 := blk_frozen BK144.out 0; have hfz362_1 := blk_frozen BK144.out 1; have hfz362_2 := blk_frozen BK144.out 2; have hnb363 := NB145_141.out; have hnc363 := NB141_145.out; have hcz364_0 : w359.cell? ⟨gb145, 0, none⟩ = some (.bool false) := (blk_cell BK145.out 0).trans rfl; have hcz364_1 : w359.cell? ⟨gb145, 1, none⟩ = some (.bool false) := (blk_cell BK145.out 1).trans rfl; have hcz364_2 : w359.cell? ⟨gb145, 2, none⟩ = some (.bool false) := (blk_cell BK145.out 2).trans rfl; have hfz364_0 := blk_frozen BK145.out 0; have hfz364_1 := blk_frozen BK145.out 1; have hfz364_2 := blk_frozen BK145.out 2; have hcz365_0 : w359.cell? ⟨gb141, 0, none⟩ = some (.int .i64 0) := (blk_cell BK141.out 0).trans rfl; have hcz365_1 : w359.cell? ⟨gb141, 1, none⟩ = some (.int .i64 0) := (blk_cell BK141.out 1).trans rfl; have hcz365_2 : w359.cell? ⟨gb141, 2, none⟩ = some (.int .i64 0) := (blk_cell BK141.out 2).trans rfl; have hcz365_3 : w359.cell? ⟨gb141, 3, none⟩ = some (.bool false) := (blk_cell BK141.out 3).trans rfl; have hcz365_4 : w359.cell? ⟨gb141, 4, none⟩ = some (.int .i64 0) := (blk_cell BK141.out 4).trans rfl; have hcz365_5 : w359.cell? ⟨gb141, 5, none⟩ = some (.int .i64 0) := (blk_cell BK141.out 5).trans rfl; have hcz365_6 : w359.cell? ⟨gb141, 6, none⟩ = some (.int .i64 0) := (blk_cell BK141.out 6).trans rfl; have hfz365_0 := blk_frozen BK141.out 0; have hfz365_1 := blk_frozen BK141.out 1; have hfz365_2 := blk_frozen BK141.out 2; have hfz365_3 := blk_frozen BK141.out 3; have hfz365_4 := blk_frozen BK141.out 4; have hfz365_5 := blk_frozen BK141.out 5; have hfz365_6 := blk_frozen BK141.out 6) | (with_reducible refine wp_loop_rounds 4 ?_) | (with_reducible refine rounds_go ?_))
        refine bodyPost_ret (results_ct rfl _ _ gb141 27 #[.int .i64 0, .int .i64 0, .int .i64 0, .bool false, .int .i64 0, .int .i64 0, .int .i64 0] (0, 0) _ rfl pmAx9_8_ Try.underlying27 rfl pmAx9_43_) rfl ?_
        exact ⟨by first | rfl | (simp [errW_none, errW_some] <;> rfl) | (simp [*, errW_none, errW_some] <;> rfl), by repeat (first | (with_reducible first | exact HB.out | apply below_alloc | apply pw_below_drewN | apply below_drew1 | refine below_set ?_ GE140.out | refine below_set ?_ GE141.out | refine below_set ?_ GE144.out | refine below_set ?_ GE145.out | refine below_set ?_ GE146.out) | exact HB.out)⟩

      rw [if_pos c28] at H
      have c28b0 : (t149 == 0) = true := beq_iff_eq.mpr c28
      have c28b1 : (t149 != 0) = false := bne_eq_false_iff_eq.mpr c28
      clear c28
      replace H := Option.bind_eq_some_iff.mp H
      obtain ⟨⟨t151, t152, t153⟩, A290, H⟩ := H
      replace H : (if t153 = 0 then ((value_Resolve.f kj3 a0_5 a0_6 a1 a2).bind fun bt155 => (if bt155.2.2 = 0 then ((base_kind.f a0_0 a0_1 a2).bind fun t158 => ((base_kind.f a0_2 a0_3 a2).bind fun t159 => (if t152 = true then (base_Start.j1 kj3 a0_0 a0_1 a0_2 a0_3 a0_4 a0_5 a0_6 t147 t151 bt155.1 t148 t152 bt155.2.1 t158 t159 0 false 0 t147 t151) else (base_Start.j1 kj3 a0_0 a0_1 a0_2 a0_3 a0_4 a0_5 a0_6 t147 t151 bt155.1 t148 t152 bt155.2.1 t158 t159 0 false 0 t147 1125899906842624)))) else (some (0, 0, 0, false, 0, 0, 0, bt155.2.2)))) else (some (0, 0, 0, false, 0, 0, 0, t153))) = some (r1, r2, r3, r4, r5, r6, r7, r8) := H
      have A29 := Aside0.mk A290
      clear A290
      by_cases c30 : t153 = 0
      rotate_left
      · rw [if_neg c30] at H
        have c30b0 : (t153 == 0) = false := beq_eq_false_iff_ne.mpr c30
        have c30b1 : (t153 != 0) = true := bne_iff_ne.mpr c30
        simp only [Option.some.injEq, Prod.mk.injEq] at H
        obtain ⟨rfl, rfl, rfl, rfl, rfl, rfl, rfl, rfl⟩ := H
        go_wp2_with (first | ((with_reducible refine gate_dst (N := 8) rfl ?_); refine box_event ?hg (N := 8) ?hd (cs := #[.int .i64 0, .int .i64 0, .int .i64 0]) (t := 51) ?hr ?_; (case hd => rfl); (case hg => rfl); (case hr => first | (go_simp; done) | (go_simp; rfl)); intro gb144 hg w318 hbox hb; have n0_ := Aside0.mk (blk_below (g := gb140) (o := poAx9_0 a0_0 a0_1 a0_2 a0_3 a0_4 a0_5 a0_6) pmAx9_0_ hb); have n1_ := Aside0.mk (blk_below (g := gb141) (o := poAx9_1 0 0 0 false 0 0 0) pmAx9_1_ hb); have n2_ := Aside0.mk (below_step pmAx9_9_ hb); have n3_ := Aside0.mk (hbox); have n4_ := Aside0.mk ((pmAx9_79_ : w.heap.size ≤ gb144)); have n5_ := Aside0.mk ((pmAx9_79_ : w.heap.size ≤ gb144)); have n6_ := Aside0.mk ((pmAx9_25_ : gb140 ≠ gb144)); have n7_ := Aside0.mk ((pmAx9_26_ : gb144 ≠ gb140)); have n8_ := Aside0.mk ((pmAx9_28_ : gb141 ≠ gb144)); have n9_ := Aside0.mk ((pmAx9_29_ : gb144 ≠ gb141)); clear BK140; clear BK141; clear HB; have BK140 := n0_; have BK141 := n1_; have HB := n2_; have BK144 := n3_; have GW144 := n4_; have GE144 := n5_; have NB140_144 := n6_; have NB144_140 := n7_; have NB141_144 := n8_; have NB144_141 := n9_; clear n0_ n1_ n2_ n3_ n4_ n5_ n6_ n7_ n8_ n9_; clear hb hbox hg) | ((with_reducible refine gate_dst (N := 9) rfl ?_); refine box_event ?hg (N := 9) ?hd (cs := #[.bool false, .bool false, .bool false]) (t := 52) ?hr ?_; (case hd => rfl); (case hg => rfl); (case hr => first | (go_simp; done) | (go_simp; rfl)); intro gb145 hg w319 hbox hb; have n0_ := Aside0.mk (blk_below (g := gb140) (o := poAx9_0 a0_0 a0_1 a0_2 a0_3 a0_4 a0_5 a0_6) pmAx9_0_ hb); have n1_ := Aside0.mk (blk_below (g := gb141) (o := poAx9_1 0 0 0 false 0 0 0) pmAx9_1_ hb); have n2_ := Aside0.mk (blk_below (g := gb144) (o := poAx9_2 0 0 0) pmAx9_6_ hb); have n3_ := Aside0.mk (below_step pmAx9_17_ hb); have n4_ := Aside0.mk (hbox); have n5_ := Aside0.mk ((pmAx9_77_ : w.heap.size ≤ gb145)); have n6_ := Aside0.mk ((pmAx9_77_ : w.heap.size ≤ gb145)); have n7_ := Aside0.mk ((pmAx9_25_ : gb140 ≠ gb145)); have n8_ := Aside0.mk ((pmAx9_26_ : gb145 ≠ gb140)); have n9_ := Aside0.mk ((pmAx9_28_ : gb141 ≠ gb145)); have n10_ := Aside0.mk ((pmAx9_29_ : gb145 ≠ gb141)); have n11_ := Aside0.mk ((pmAx9_44_ : gb144 ≠ gb145)); have n12_ := Aside0.mk ((pmAx9_45_ : gb145 ≠ gb144)); clear BK140; clear BK141; clear BK144; clear HB; have BK140 := n0_; have BK141 := n1_; have BK144 := n2_; have HB := n3_; have BK145 := n4_; have GW145 := n5_; have GE145 := n6_; have NB140_145 := n7_; have NB145_140 := n8_; have NB141_145 := n9_; have NB145_141 := n10_; have NB144_145 := n11_; have NB145_144 := n12_; clear n0_ n1_ n2_ n3_ n4_ n5_ n6_ n7_ n8_ n9_ n10_ n11_ n12_; clear hb hbox hg; have hnb320 := NB140_141.out; have hnc320 := NB141_140.out; have hnb321 := NB140_144.out; have hnc321 := NB144_140.out; have hnb322 := NB140_145.out; have hnc322 := NB145_140.out; have hcz323_0 : w319.cell? ⟨gb140, 0, none⟩ = some (.int .i64 a0_0) := (blk_cell BK140.out 0).trans rfl; have hcz323_1 : w319.cell? ⟨gb140, 1, none⟩ = some (.int .i64 a0_1) := (blk_cell BK140.out 1).trans rfl; have hcz323_2 : w319.cell? ⟨gb140, 2, none⟩ = some (.int .i64 a0_2) := (blk_cell BK140.out 2).trans rfl; have hcz323_3 : w319.cell? ⟨gb140, 3, none⟩ = some (.int .i64 a0_3) := (blk_cell BK140.out 3).trans rfl; have hcz323_4 : w319.cell? ⟨gb140, 4, none⟩ = some (.bool a0_4) := (blk_cell BK140.out 4).trans rfl; have hcz323_5 : w319.cell? ⟨gb140, 5, none⟩ = some (.int .i64 a0_5) := (blk_cell BK140.out 5).trans rfl; have hcz323_6 : w319.cell? ⟨gb140, 6, none⟩ = some (.int .i64 a0_6) := (blk_cell BK140.out 6).trans rfl; have hfz323_0 := blk_frozen BK140.out 0; have hfz323_1 := blk_frozen BK140.out 1; have hfz323_2 := blk_frozen BK140.out 2; have hfz323_3 := blk_frozen BK140.out 3; have hfz323_4 := blk_frozen BK140.out 4; have hfz323_5 := blk_frozen BK140.out 5; have hfz323_6 := blk_frozen BK140.out 6) | ((with_reducible refine gate_dst (N := 11) rfl ?_); refine box_event ?hg (N := 11) ?hd (cs := #[.int .i64 0, .int .i64 0]) (t := 23) ?hr ?_; (case hd => rfl); (case hg => rfl); (case hr => first | (go_simp; done) | (go_simp; rfl)); intro gb146 hg w324 hbox hb; have n0_ := Aside0.mk (blk_below (g := gb140) (o := poAx9_0 a0_0 a0_1 a0_2 a0_3 a0_4 a0_5 a0_6) pmAx9_0_ hb); have n1_ := Aside0.mk (blk_below (g := gb141) (o := poAx9_1 0 0 0 false 0 0 0) pmAx9_1_ hb); have n2_ := Aside0.mk (blk_below (g := gb144) (o := poAx9_2 0 0 0) pmAx9_6_ hb); have n3_ := Aside0.mk (blk_below (g := gb145) (o := poAx9_3 false false false) pmAx9_10_ hb); have n4_ := Aside0.mk (below_step pmAx9_15_ hb); have n5_ := Aside0.mk (hbox); have n6_ := Aside0.mk ((pmAx9_78_ : w.heap.size ≤ gb146)); have n7_ := Aside0.mk ((pmAx9_78_ : w.heap.size ≤ gb146)); have n8_ := Aside0.mk ((pmAx9_25_ : gb140 ≠ gb146)); have n9_ := Aside0.mk ((pmAx9_26_ : gb146 ≠ gb140)); have n10_ := Aside0.mk ((pmAx9_28_ : gb141 ≠ gb146)); have n11_ := Aside0.mk ((pmAx9_29_ : gb146 ≠ gb141)); have n12_ := Aside0.mk ((pmAx9_44_ : gb144 ≠ gb146)); have n13_ := Aside0.mk ((pmAx9_45_ : gb146 ≠ gb144)); have n14_ := Aside0.mk ((pmAx9_74_ : gb145 ≠ gb146)); have n15_ := Aside0.mk ((pmAx9_75_ : gb146 ≠ gb145)); clear BK140; clear BK141; clear BK144; clear BK145; clear HB; have BK140 := n0_; have BK141 := n1_; have BK144 := n2_; have BK145 := n3_; have HB := n4_; have BK146 := n5_; have GW146 := n6_; have GE146 := n7_; have NB140_146 := n8_; have NB146_140 := n9_; have NB141_146 := n10_; have NB146_141 := n11_; have NB144_146 := n12_; have NB146_144 := n13_; have NB145_146 := n14_; have NB146_145 := n15_; clear n0_ n1_ n2_ n3_ n4_ n5_ n6_ n7_ n8_ n9_ n10_ n11_ n12_ n13_ n14_ n15_; clear hb hbox hg; have hnb325 := NB146_140.out; have hnc325 := NB140_146.out; have hnb326 := NB146_141.out; have hnc326 := NB141_146.out; have hnb327 := NB146_144.out; have hnc327 := NB144_146.out; have hnb328 := NB146_145.out; have hnc328 := NB145_146.out; have hcz329_0 : w324.cell? ⟨gb146, 0, none⟩ = some (.int .i64 0) := (blk_cell BK146.out 0).trans rfl; have hcz329_1 : w324.cell? ⟨gb146, 1, none⟩ = some (.int .i64 0) := (blk_cell BK146.out 1).trans rfl; have hfz329_0 := blk_frozen BK146.out 0; have hfz329_1 := blk_frozen BK146.out 1) | ((with_reducible refine gate_callee (f := 18) rfl ?_); refine goesL_ (some 47) rfl rfl Try.func18 pmAx9_43_ rfl #[.agg #[.int .i64 a0_0, .int .i64 a0_1], .int .i64 a1, .bool a2] rfl pmAx9_14_ ?_; (with_reducible refine (value_Resolve.calls kj3 a0_0 a0_1 a1 a2 t147 t148 t149 _ A27.out).mono ?_); rintro e w330 ⟨rfl, hb⟩; refine ⟨_, rfl, ?_⟩; have n0_ := Aside0.mk (blk_below (g := gb140) (o := poAx9_0 a0_0 a0_1 a0_2 a0_3 a0_4 a0_5 a0_6) pmAx9_30_ hb); have n1_ := Aside0.mk (blk_below (g := gb141) (o := poAx9_1 0 0 0 false 0 0 0) pmAx9_31_ hb); have n2_ := Aside0.mk (blk_below (g := gb144) (o := poAx9_2 0 0 0) pmAx9_32_ hb); have n3_ := Aside0.mk (blk_below (g := gb145) (o := poAx9_3 false false false) pmAx9_33_ hb); have n4_ := Aside0.mk (blk_below (g := gb146) (o := poAx9_4 a0_0 a0_1) pmAx9_27_ hb); have n5_ := Aside0.mk (below_step pmAx9_11_ hb); clear BK140; clear BK141; clear BK144; clear BK145; clear BK146; clear HB; have BK140 := n0_; have BK141 := n1_; have BK144 := n2_; have BK145 := n3_; have BK146 := n4_; have HB := n5_; clear n0_ n1_ n2_ n3_ n4_ n5_; (try clear hb); (try clear hb2); (try clear hk); (try clear hi); have hnb331 := NB144_141.out; have hnc331 := NB141_144.out; have hnb332 := NB144_145.out; have hnc332 := NB145_144.out; have hcz333_0 : w330.cell? ⟨gb144, 0, none⟩ = some (.int .i64 0) := (blk_cell BK144.out 0).trans rfl; have hcz333_1 : w330.cell? ⟨gb144, 1, none⟩ = some (.int .i64 0) := (blk_cell BK144.out 1).trans rfl; have hcz333_2 : w330.cell? ⟨gb144, 2, none⟩ = some (.int .i64 0) := (blk_cell BK144.out 2).trans rfl; have hfz333_0 := blk_frozen BK144.out 0; have hfz333_1 := blk_frozen BK144.out 1; have hfz333_2 := blk_frozen BK144.out 2; have hnb334 := NB145_141.out; have hnc334 := NB141_145.out; have hcz335_0 : w330.cell? ⟨gb145, 0, none⟩ = some (.bool false) := (blk_cell BK145.out 0).trans rfl; have hcz335_1 : w330.cell? ⟨gb145, 1, none⟩ = some (.bool false) := (blk_cell BK145.out 1).trans rfl; have hcz335_2 : w330.cell? ⟨gb145, 2, none⟩ = some (.bool false) := (blk_cell BK145.out 2).trans rfl; have hfz335_0 := blk_frozen BK145.out 0; have hfz335_1 := blk_frozen BK145.out 1; have hfz335_2 := blk_frozen BK145.out 2) | ((with_reducible refine gate_dst (N := 11) rfl ?_); refine box_event ?hg (N := 11) ?hd (cs := #[.int .i64 0, .int .i64 0]) (t := 23) ?hr ?_; (case hd => rfl); (case hg => rfl); (case hr => first | (go_simp; done) | (go_simp; rfl)); intro gb150 hg w336 hbox hb; have n0_ := Aside0.mk (blk_below (g := gb140) (o := poAx9_0 a0_0 a0_1 a0_2 a0_3 a0_4 a0_5 a0_6) pmAx9_2_ hb); have n1_ := Aside0.mk (blk_below (g := gb141) (o := poAx9_1 0 0 0 false 0 0 0) pmAx9_3_ hb); have n2_ := Aside0.mk (blk_below (g := gb144) (o := poAx9_2 t147 0 0) pmAx9_12_ hb); have n3_ := Aside0.mk (blk_below (g := gb145) (o := poAx9_3 t148 false false) pmAx9_13_ hb); have n4_ := Aside0.mk (blk_below (g := gb146) (o := poAx9_4 a0_0 a0_1) pmAx9_4_ hb); have n5_ := Aside0.mk (below_step pmAx9_11_ hb); have n6_ := Aside0.mk (hbox); have n7_ := Aside0.mk ((by rw [hg]; exact (below_size pmAx9_11_) : w.heap.size ≤ gb150)); have n8_ := Aside0.mk ((by rw [hg]; exact (below_size pmAx9_11_) : w.heap.size ≤ gb150)); have n9_ := Aside0.mk ((pmAx9_54_ : gb140 ≠ gb150)); have n10_ := Aside0.mk ((pmAx9_55_ : gb150 ≠ gb140)); have n11_ := Aside0.mk ((pmAx9_69_ : gb141 ≠ gb150)); have n12_ := Aside0.mk ((pmAx9_70_ : gb150 ≠ gb141)); have n13_ := Aside0.mk ((by rw [hg]; exact Nat.ne_of_lt (blk_lt (g := gb144) (o := poAx9_2 t147 0 0) pmAx9_12_) : gb144 ≠ gb150)); have n14_ := Aside0.mk ((by rw [hg]; exact Nat.ne_of_gt (blk_lt (g := gb144) (o := poAx9_2 t147 0 0) pmAx9_12_) : gb150 ≠ gb144)); have n15_ := Aside0.mk ((by rw [hg]; exact Nat.ne_of_lt (blk_lt (g := gb145) (o := poAx9_3 t148 false false) pmAx9_13_) : gb145 ≠ gb150)); have n16_ := Aside0.mk ((by rw [hg]; exact Nat.ne_of_gt (blk_lt (g := gb145) (o := poAx9_3 t148 false false) pmAx9_13_) : gb150 ≠ gb145)); have n17_ := Aside0.mk ((pmAx9_71_ : gb146 ≠ gb150)); have n18_ := Aside0.mk ((pmAx9_72_ : gb150 ≠ gb146)); clear BK140; clear BK141; clear BK144; clear BK145; clear BK146; clear HB; have BK140 := n0_; have BK141 := n1_; have BK144 := n2_; have BK145 := n3_; have BK146 := n4_; have HB := n5_; have BK150 := n6_; have GW150 := n7_; have GE150 := n8_; have NB140_150 := n9_; have NB150_140 := n10_; have NB141_150 := n11_; have NB150_141 := n12_; have NB144_150 := n13_; have NB150_144 := n14_; have NB145_150 := n15_; have NB150_145 := n16_; have NB146_150 := n17_; have NB150_146 := n18_; clear n0_ n1_ n2_ n3_ n4_ n5_ n6_ n7_ n8_ n9_ n10_ n11_ n12_ n13_ n14_ n15_ n16_ n17_ n18_; clear hb hbox hg; have hnb337 := NB150_140.out; have hnc337 := NB140_150.out; have hnb338 := NB150_141.out; have hnc338 := NB141_150.out; have hnb339 := NB150_144.out; have hnc339 := NB144_150.out; have hnb340 := NB150_145.out; have hnc340 := NB145_150.out; have hnb341 := NB150_146.out; have hnc341 := NB146_150.out; have hcz342_0 : w336.cell? ⟨gb150, 0, none⟩ = some (.int .i64 0) := (blk_cell BK150.out 0).trans rfl; have hcz342_1 : w336.cell? ⟨gb150, 1, none⟩ = some (.int .i64 0) := (blk_cell BK150.out 1).trans rfl; have hfz342_0 := blk_frozen BK150.out 0; have hfz342_1 := blk_frozen BK150.out 1) | ((with_reducible refine gate_callee (f := 18) rfl ?_); refine goesL_ (some 47) rfl rfl Try.func18 pmAx9_43_ rfl #[.agg #[.int .i64 a0_2, .int .i64 a0_3], .int .i64 a1, .bool a2] rfl pmAx9_14_ ?_; (with_reducible refine (value_Resolve.calls kj3 a0_2 a0_3 a1 a2 t151 t152 t153 _ A29.out).mono ?_); rintro e w343 ⟨rfl, hb⟩; refine ⟨_, rfl, ?_⟩; have n0_ := Aside0.mk (blk_below (g := gb140) (o := poAx9_0 a0_0 a0_1 a0_2 a0_3 a0_4 a0_5 a0_6) pmAx9_36_ hb); have n1_ := Aside0.mk (blk_below (g := gb141) (o := poAx9_1 0 0 0 false 0 0 0) pmAx9_37_ hb); have n2_ := Aside0.mk (blk_below (g := gb144) (o := poAx9_2 t147 0 0) pmAx9_38_ hb); have n3_ := Aside0.mk (blk_below (g := gb145) (o := poAx9_3 t148 false false) pmAx9_39_ hb); have n4_ := Aside0.mk (blk_below (g := gb146) (o := poAx9_4 a0_0 a0_1) pmAx9_40_ hb); have n5_ := Aside0.mk (blk_below (g := gb150) (o := poAx9_4 a0_2 a0_3) pmAx9_34_ hb); have n6_ := Aside0.mk (below_step pmAx9_16_ hb); clear BK140; clear BK141; clear BK144; clear BK145; clear BK146; clear BK150; clear HB; have BK140 := n0_; have BK141 := n1_; have BK144 := n2_; have BK145 := n3_; have BK146 := n4_; have BK150 := n5_; have HB := n6_; clear n0_ n1_ n2_ n3_ n4_ n5_ n6_; (try clear hb); (try clear hb2); (try clear hk); (try clear hi); have hcz344_0 : w343.cell? ⟨gb144, 0, none⟩ = some (.int .i64 t147) := (blk_cell BK144.out 0).trans rfl; have hcz344_1 : w343.cell? ⟨gb144, 1, none⟩ = some (.int .i64 0) := (blk_cell BK144.out 1).trans rfl; have hcz344_2 : w343.cell? ⟨gb144, 2, none⟩ = some (.int .i64 0) := (blk_cell BK144.out 2).trans rfl; have hfz344_0 := blk_frozen BK144.out 0; have hfz344_1 := blk_frozen BK144.out 1; have hfz344_2 := blk_frozen BK144.out 2; have hcz345_0 : w343.cell? ⟨gb145, 0, none⟩ = some (.bool t148) := (blk_cell BK145.out 0).trans rfl; have hcz345_1 : w343.cell? ⟨gb145, 1, none⟩ = some (.bool false) := (blk_cell BK145.out 1).trans rfl; have hcz345_2 : w343.cell? ⟨gb145, 2, none⟩ = some (.bool false) := (blk_cell BK145.out 2).trans rfl; have hfz345_0 := blk_frozen BK145.out 0; have hfz345_1 := blk_frozen BK145.out 1; have hfz345_2 := blk_frozen BK145.out 2; have hcz346_0 : w343.cell? ⟨gb141, 0, none⟩ = some (.int .i64 0) := (blk_cell BK141.out 0).trans rfl; have hcz346_1 : w343.cell? ⟨gb141, 1, none⟩ = some (.int .i64 0) := (blk_cell BK141.out 1).trans rfl; have hcz346_2 : w343.cell? ⟨gb141, 2, none⟩ = some (.int .i64 0) := (blk_cell BK141.out 2).trans rfl; have hcz346_3 : w343.cell? ⟨gb141, 3, none⟩ = some (.bool false) := (blk_cell BK141.out 3).trans rfl; have hcz346_4 : w343.cell? ⟨gb141, 4, none⟩ = some (.int .i64 0) := (blk_cell BK141.out 4).trans rfl; have hcz346_5 : w343.cell? ⟨gb141, 5, none⟩ = some (.int .i64 0) := (blk_cell BK141.out 5).trans rfl; have hcz346_6 : w343.cell? ⟨gb141, 6, none⟩ = some (.int .i64 0) := (blk_cell BK141.out 6).trans rfl; have hfz346_0 := blk_frozen BK141.out 0; have hfz346_1 := blk_frozen BK141.out 1; have hfz346_2 := blk_frozen BK141.out 2; have hfz346_3 := blk_frozen BK141.out 3; have hfz346_4 := blk_frozen BK141.out 4; have hfz346_5 := blk_frozen BK141.out 5; have hfz346_6 := blk_frozen BK141.out 6) | (with_reducible refine wp_loop_rounds 4 ?_) | (with_reducible refine rounds_go ?_))
        refine bodyPost_ret (results_ct rfl _ _ gb141 27 #[.int .i64 0, .int .i64 0, .int .i64 0, .bool false, .int .i64 0, .int .i64 0, .int .i64 0] (0, 0) _ rfl pmAx9_8_ Try.underlying27 rfl pmAx9_43_) rfl ?_
        exact ⟨by first | rfl | (simp [errW_none, errW_some] <;> rfl) | (simp [*, errW_none, errW_some] <;> rfl), by repeat (first | (with_reducible first | exact HB.out | apply below_alloc | apply pw_below_drewN | apply below_drew1 | refine below_set ?_ GE140.out | refine below_set ?_ GE141.out | refine below_set ?_ GE144.out | refine below_set ?_ GE145.out | refine below_set ?_ GE146.out | refine below_set ?_ GE150.out) | exact HB.out)⟩
      rw [if_pos c30] at H
      have c30b0 : (t153 == 0) = true := beq_iff_eq.mpr c30
      have c30b1 : (t153 != 0) = false := bne_eq_false_iff_eq.mpr c30
      clear c30
      replace H := Option.bind_eq_some_iff.mp H
      obtain ⟨⟨t155, t156, t157⟩, A310, H⟩ := H
      replace H : (if t157 = 0 then ((base_kind.f a0_0 a0_1 a2).bind fun t158 => ((base_kind.f a0_2 a0_3 a2).bind fun t159 => (if t152 = true then (base_Start.j1 kj3 a0_0 a0_1 a0_2 a0_3 a0_4 a0_5 a0_6 t147 t151 t155 t148 t152 t156 t158 t159 0 false 0 t147 t151) else (base_Start.j1 kj3 a0_0 a0_1 a0_2 a0_3 a0_4 a0_5 a0_6 t147 t151 t155 t148 t152 t156 t158 t159 0 false 0 t147 1125899906842624)))) else (some (0, 0, 0, false, 0, 0, 0, t157))) = some (r1, r2, r3, r4, r5, r6, r7, r8) := H
      have A31 := Aside0.mk A310
      clear A310
      by_cases c32 : t157 = 0
      rotate_left
      · rw [if_neg c32] at H
        have c32b0 : (t157 == 0) = false := beq_eq_false_iff_ne.mpr c32
        have c32b1 : (t157 != 0) = true := bne_iff_ne.mpr c32
        simp only [Option.some.injEq, Prod.mk.injEq] at H
        obtain ⟨rfl, rfl, rfl, rfl, rfl, rfl, rfl, rfl⟩ := H
        go_wp2_with (first | ((with_reducible refine gate_dst (N := 8) rfl ?_); refine box_event ?hg (N := 8) ?hd (cs := #[.int .i64 0, .int .i64 0, .int .i64 0]) (t := 51) ?hr ?_; (case hd => rfl); (case hg => rfl); (case hr => first | (go_simp; done) | (go_simp; rfl)); intro gb144 hg w278 hbox hb; have n0_ := Aside0.mk (blk_below (g := gb140) (o := poAx9_0 a0_0 a0_1 a0_2 a0_3 a0_4 a0_5 a0_6) pmAx9_0_ hb); have n1_ := Aside0.mk (blk_below (g := gb141) (o := poAx9_1 0 0 0 false 0 0 0) pmAx9_1_ hb); have n2_ := Aside0.mk (below_step pmAx9_9_ hb); have n3_ := Aside0.mk (hbox); have n4_ := Aside0.mk ((pmAx9_79_ : w.heap.size ≤ gb144)); have n5_ := Aside0.mk ((pmAx9_79_ : w.heap.size ≤ gb144)); have n6_ := Aside0.mk ((pmAx9_25_ : gb140 ≠ gb144)); have n7_ := Aside0.mk ((pmAx9_26_ : gb144 ≠ gb140)); have n8_ := Aside0.mk ((pmAx9_28_ : gb141 ≠ gb144)); have n9_ := Aside0.mk ((pmAx9_29_ : gb144 ≠ gb141)); clear BK140; clear BK141; clear HB; have BK140 := n0_; have BK141 := n1_; have HB := n2_; have BK144 := n3_; have GW144 := n4_; have GE144 := n5_; have NB140_144 := n6_; have NB144_140 := n7_; have NB141_144 := n8_; have NB144_141 := n9_; clear n0_ n1_ n2_ n3_ n4_ n5_ n6_ n7_ n8_ n9_; clear hb hbox hg) | ((with_reducible refine gate_dst (N := 9) rfl ?_); refine box_event ?hg (N := 9) ?hd (cs := #[.bool false, .bool false, .bool false]) (t := 52) ?hr ?_; (case hd => rfl); (case hg => rfl); (case hr => first | (go_simp; done) | (go_simp; rfl)); intro gb145 hg w279 hbox hb; have n0_ := Aside0.mk (blk_below (g := gb140) (o := poAx9_0 a0_0 a0_1 a0_2 a0_3 a0_4 a0_5 a0_6) pmAx9_0_ hb); have n1_ := Aside0.mk (blk_below (g := gb141) (o := poAx9_1 0 0 0 false 0 0 0) pmAx9_1_ hb); have n2_ := Aside0.mk (blk_below (g := gb144) (o := poAx9_2 0 0 0) pmAx9_6_ hb); have n3_ := Aside0.mk (below_step pmAx9_17_ hb); have n4_ := Aside0.mk (hbox); have n5_ := Aside0.mk ((pmAx9_77_ : w.heap.size ≤ gb145)); have n6_ := Aside0.mk ((pmAx9_77_ : w.heap.size ≤ gb145)); have n7_ := Aside0.mk ((pmAx9_25_ : gb140 ≠ gb145)); have n8_ := Aside0.mk ((pmAx9_26_ : gb145 ≠ gb140)); have n9_ := Aside0.mk ((pmAx9_28_ : gb141 ≠ gb145)); have n10_ := Aside0.mk ((pmAx9_29_ : gb145 ≠ gb141)); have n11_ := Aside0.mk ((pmAx9_44_ : gb144 ≠ gb145)); have n12_ := Aside0.mk ((pmAx9_45_ : gb145 ≠ gb144)); clear BK140; clear BK141; clear BK144; clear HB; have BK140 := n0_; have BK141 := n1_; have BK144 := n2_; have HB := n3_; have BK145 := n4_; have GW145 := n5_; have GE145 := n6_; have NB140_145 := n7_; have NB145_140 := n8_; have NB141_145 := n9_; have NB145_141 := n10_; have NB144_145 := n11_; have NB145_144 := n12_; clear n0_ n1_ n2_ n3_ n4_ n5_ n6_ n7_ n8_ n9_ n10_ n11_ n12_; clear hb hbox hg; have hnb280 := NB140_141.out; have hnc280 := NB141_140.out; have hnb281 := NB140_144.out; have hnc281 := NB144_140.out; have hnb282 := NB140_145.out; have hnc282 := NB145_140.out; have hcz283_0 : w279.cell? ⟨gb140, 0, none⟩ = some (.int .i64 a0_0) := (blk_cell BK140.out 0).trans rfl; have hcz283_1 : w279.cell? ⟨gb140, 1, none⟩ = some (.int .i64 a0_1) := (blk_cell BK140.out 1).trans rfl; have hcz283_2 : w279.cell? ⟨gb140, 2, none⟩ = some (.int .i64 a0_2) := (blk_cell BK140.out 2).trans rfl; have hcz283_3 : w279.cell? ⟨gb140, 3, none⟩ = some (.int .i64 a0_3) := (blk_cell BK140.out 3).trans rfl; have hcz283_4 : w279.cell? ⟨gb140, 4, none⟩ = some (.bool a0_4) := (blk_cell BK140.out 4).trans rfl; have hcz283_5 : w279.cell? ⟨gb140, 5, none⟩ = some (.int .i64 a0_5) := (blk_cell BK140.out 5).trans rfl; have hcz283_6 : w279.cell? ⟨gb140, 6, none⟩ = some (.int .i64 a0_6) := (blk_cell BK140.out 6).trans rfl; have hfz283_0 := blk_frozen BK140.out 0; have hfz283_1 := blk_frozen BK140.out 1; have hfz283_2 := blk_frozen BK140.out 2; have hfz283_3 := blk_frozen BK140.out 3; have hfz283_4 := blk_frozen BK140.out 4; have hfz283_5 := blk_frozen BK140.out 5; have hfz283_6 := blk_frozen BK140.out 6) | ((with_reducible refine gate_dst (N := 11) rfl ?_); refine box_event ?hg (N := 11) ?hd (cs := #[.int .i64 0, .int .i64 0]) (t := 23) ?hr ?_; (case hd => rfl); (case hg => rfl); (case hr => first | (go_simp; done) | (go_simp; rfl)); intro gb146 hg w284 hbox hb; have n0_ := Aside0.mk (blk_below (g := gb140) (o := poAx9_0 a0_0 a0_1 a0_2 a0_3 a0_4 a0_5 a0_6) pmAx9_0_ hb); have n1_ := Aside0.mk (blk_below (g := gb141) (o := poAx9_1 0 0 0 false 0 0 0) pmAx9_1_ hb); have n2_ := Aside0.mk (blk_below (g := gb144) (o := poAx9_2 0 0 0) pmAx9_6_ hb); have n3_ := Aside0.mk (blk_below (g := gb145) (o := poAx9_3 false false false) pmAx9_10_ hb); have n4_ := Aside0.mk (below_step pmAx9_15_ hb); have n5_ := Aside0.mk (hbox); have n6_ := Aside0.mk ((pmAx9_78_ : w.heap.size ≤ gb146)); have n7_ := Aside0.mk ((pmAx9_78_ : w.heap.size ≤ gb146)); have n8_ := Aside0.mk ((pmAx9_25_ : gb140 ≠ gb146)); have n9_ := Aside0.mk ((pmAx9_26_ : gb146 ≠ gb140)); have n10_ := Aside0.mk ((pmAx9_28_ : gb141 ≠ gb146)); have n11_ := Aside0.mk ((pmAx9_29_ : gb146 ≠ gb141)); have n12_ := Aside0.mk ((pmAx9_44_ : gb144 ≠ gb146)); have n13_ := Aside0.mk ((pmAx9_45_ : gb146 ≠ gb144)); have n14_ := Aside0.mk ((pmAx9_74_ : gb145 ≠ gb146)); have n15_ := Aside0.mk ((pmAx9_75_ : gb146 ≠ gb145)); clear BK140; clear BK141; clear BK144; clear BK145; clear HB; have BK140 := n0_; have BK141 := n1_; have BK144 := n2_; have BK145 := n3_; have HB := n4_; have BK146 := n5_; have GW146 := n6_; have GE146 := n7_; have NB140_146 := n8_; have NB146_140 := n9_; have NB141_146 := n10_; have NB146_141 := n11_; have NB144_146 := n12_; have NB146_144 := n13_; have NB145_146 := n14_; have NB146_145 := n15_; clear n0_ n1_ n2_ n3_ n4_ n5_ n6_ n7_ n8_ n9_ n10_ n11_ n12_ n13_ n14_ n15_; clear hb hbox hg; have hnb285 := NB146_140.out; have hnc285 := NB140_146.out; have hnb286 := NB146_141.out; have hnc286 := NB141_146.out; have hnb287 := NB146_144.out; have hnc287 := NB144_146.out; have hnb288 := NB146_145.out; have hnc288 := NB145_146.out; have hcz289_0 : w284.cell? ⟨gb146, 0, none⟩ = some (.int .i64 0) := (blk_cell BK146.out 0).trans rfl; have hcz289_1 : w284.cell? ⟨gb146, 1, none⟩ = some (.int .i64 0) := (blk_cell BK146.out 1).trans rfl; have hfz289_0 := blk_frozen BK146.out 0; have hfz289_1 := blk_frozen BK146.out 1) | ((with_reducible refine gate_callee (f := 18) rfl ?_); refine goesL_ (some 47) rfl rfl Try.func18 pmAx9_43_ rfl #[.agg #[.int .i64 a0_0, .int .i64 a0_1], .int .i64 a1, .bool a2] rfl pmAx9_14_ ?_; (with_reducible refine (value_Resolve.calls kj3 a0_0 a0_1 a1 a2 t147 t148 t149 _ A27.out).mono ?_); rintro e w290 ⟨rfl, hb⟩; refine ⟨_, rfl, ?_⟩; have n0_ := Aside0.mk (blk_below (g := gb140) (o := poAx9_0 a0_0 a0_1 a0_2 a0_3 a0_4 a0_5 a0_6) pmAx9_30_ hb); have n1_ := Aside0.mk (blk_below (g := gb141) (o := poAx9_1 0 0 0 false 0 0 0) pmAx9_31_ hb); have n2_ := Aside0.mk (blk_below (g := gb144) (o := poAx9_2 0 0 0) pmAx9_32_ hb); have n3_ := Aside0.mk (blk_below (g := gb145) (o := poAx9_3 false false false) pmAx9_33_ hb); have n4_ := Aside0.mk (blk_below (g := gb146) (o := poAx9_4 a0_0 a0_1) pmAx9_27_ hb); have n5_ := Aside0.mk (below_step pmAx9_11_ hb); clear BK140; clear BK141; clear BK144; clear BK145; clear BK146; clear HB; have BK140 := n0_; have BK141 := n1_; have BK144 := n2_; have BK145 := n3_; have BK146 := n4_; have HB := n5_; clear n0_ n1_ n2_ n3_ n4_ n5_; (try clear hb); (try clear hb2); (try clear hk); (try clear hi); have hnb291 := NB144_141.out; have hnc291 := NB141_144.out; have hnb292 := NB144_145.out; have hnc292 := NB145_144.out; have hcz293_0 : w290.cell? ⟨gb144, 0, none⟩ = some (.int .i64 0) := (blk_cell BK144.out 0).trans rfl; have hcz293_1 : w290.cell? ⟨gb144, 1, none⟩ = some (.int .i64 0) := (blk_cell BK144.out 1).trans rfl; have hcz293_2 : w290.cell? ⟨gb144, 2, none⟩ = some (.int .i64 0) := (blk_cell BK144.out 2).trans rfl; have hfz293_0 := blk_frozen BK144.out 0; have hfz293_1 := blk_frozen BK144.out 1; have hfz293_2 := blk_frozen BK144.out 2; have hnb294 := NB145_141.out; have hnc294 := NB141_145.out; have hcz295_0 : w290.cell? ⟨gb145, 0, none⟩ = some (.bool false) := (blk_cell BK145.out 0).trans rfl; have hcz295_1 : w290.cell? ⟨gb145, 1, none⟩ = some (.bool false) := (blk_cell BK145.out 1).trans rfl; have hcz295_2 : w290.cell? ⟨gb145, 2, none⟩ = some (.bool false) := (blk_cell BK145.out 2).trans rfl; have hfz295_0 := blk_frozen BK145.out 0; have hfz295_1 := blk_frozen BK145.out 1; have hfz295_2 := blk_frozen BK145.out 2) | ((with_reducible refine gate_dst (N := 11) rfl ?_); refine box_event ?hg (N := 11) ?hd (cs := #[.int .i64 0, .int .i64 0]) (t := 23) ?hr ?_; (case hd => rfl); (case hg => rfl); (case hr => first | (go_simp; done) | (go_simp; rfl)); intro gb150 hg w296 hbox hb; have n0_ := Aside0.mk (blk_below (g := gb140) (o := poAx9_0 a0_0 a0_1 a0_2 a0_3 a0_4 a0_5 a0_6) pmAx9_2_ hb); have n1_ := Aside0.mk (blk_below (g := gb141) (o := poAx9_1 0 0 0 false 0 0 0) pmAx9_3_ hb); have n2_ := Aside0.mk (blk_below (g := gb144) (o := poAx9_2 t147 0 0) pmAx9_12_ hb); have n3_ := Aside0.mk (blk_below (g := gb145) (o := poAx9_3 t148 false false) pmAx9_13_ hb); have n4_ := Aside0.mk (blk_below (g := gb146) (o := poAx9_4 a0_0 a0_1) pmAx9_4_ hb); have n5_ := Aside0.mk (below_step pmAx9_11_ hb); have n6_ := Aside0.mk (hbox); have n7_ := Aside0.mk ((by rw [hg]; exact (below_size pmAx9_11_) : w.heap.size ≤ gb150)); have n8_ := Aside0.mk ((by rw [hg]; exact (below_size pmAx9_11_) : w.heap.size ≤ gb150)); have n9_ := Aside0.mk ((pmAx9_54_ : gb140 ≠ gb150)); have n10_ := Aside0.mk ((pmAx9_55_ : gb150 ≠ gb140)); have n11_ := Aside0.mk ((pmAx9_69_ : gb141 ≠ gb150)); have n12_ := Aside0.mk ((pmAx9_70_ : gb150 ≠ gb141)); have n13_ := Aside0.mk ((by rw [hg]; exact Nat.ne_of_lt (blk_lt (g := gb144) (o := poAx9_2 t147 0 0) pmAx9_12_) : gb144 ≠ gb150)); have n14_ := Aside0.mk ((by rw [hg]; exact Nat.ne_of_gt (blk_lt (g := gb144) (o := poAx9_2 t147 0 0) pmAx9_12_) : gb150 ≠ gb144)); have n15_ := Aside0.mk ((by rw [hg]; exact Nat.ne_of_lt (blk_lt (g := gb145) (o := poAx9_3 t148 false false) pmAx9_13_) : gb145 ≠ gb150)); have n16_ := Aside0.mk ((by rw [hg]; exact Nat.ne_of_gt (blk_lt (g := gb145) (o := poAx9_3 t148 false false) pmAx9_13_) : gb150 ≠ gb145)); have n17_ := Aside0.mk ((pmAx9_71_ : gb146 ≠ gb150)); have n18_ := Aside0.mk ((pmAx9_72_ : gb150 ≠ gb146)); clear BK140; clear BK141; clear BK144; clear BK145; clear BK146; clear HB; have BK140 := n0_; have BK141 := n1_; have BK144 := n2_; have BK145 := n3_; have BK146 := n4_; have HB := n5_; have BK150 := n6_; have GW150 := n7_; have GE150 := n8_; have NB140_150 := n9_; have NB150_140 := n10_; have NB141_150 := n11_; have NB150_141 := n12_; have NB144_150 := n13_; have NB150_144 := n14_; have NB145_150 := n15_; have NB150_145 := n16_; have NB146_150 := n17_; have NB150_146 := n18_; clear n0_ n1_ n2_ n3_ n4_ n5_ n6_ n7_ n8_ n9_ n10_ n11_ n12_ n13_ n14_ n15_ n16_ n17_ n18_; clear hb hbox hg; have hnb297 := NB150_140.out; have hnc297 := NB140_150.out; have hnb298 := NB150_141.out; have hnc298 := NB141_150.out; have hnb299 := NB150_144.out; have hnc299 := NB144_150.out; have hnb300 := NB150_145.out; have hnc300 := NB145_150.out; have hnb301 := NB150_146.out; have hnc301 := NB146_150.out; have hcz302_0 : w296.cell? ⟨gb150, 0, none⟩ = some (.int .i64 0) := (blk_cell BK150.out 0).trans rfl; have hcz302_1 : w296.cell? ⟨gb150, 1, none⟩ = some (.int .i64 0) := (blk_cell BK150.out 1).trans rfl; have hfz302_0 := blk_frozen BK150.out 0; have hfz302_1 := blk_frozen BK150.out 1) | ((with_reducible refine gate_callee (f := 18) rfl ?_); refine goesL_ (some 47) rfl rfl Try.func18 pmAx9_43_ rfl #[.agg #[.int .i64 a0_2, .int .i64 a0_3], .int .i64 a1, .bool a2] rfl pmAx9_14_ ?_; (with_reducible refine (value_Resolve.calls kj3 a0_2 a0_3 a1 a2 t151 t152 t153 _ A29.out).mono ?_); rintro e w303 ⟨rfl, hb⟩; refine ⟨_, rfl, ?_⟩; have n0_ := Aside0.mk (blk_below (g := gb140) (o := poAx9_0 a0_0 a0_1 a0_2 a0_3 a0_4 a0_5 a0_6) pmAx9_36_ hb); have n1_ := Aside0.mk (blk_below (g := gb141) (o := poAx9_1 0 0 0 false 0 0 0) pmAx9_37_ hb); have n2_ := Aside0.mk (blk_below (g := gb144) (o := poAx9_2 t147 0 0) pmAx9_38_ hb); have n3_ := Aside0.mk (blk_below (g := gb145) (o := poAx9_3 t148 false false) pmAx9_39_ hb); have n4_ := Aside0.mk (blk_below (g := gb146) (o := poAx9_4 a0_0 a0_1) pmAx9_40_ hb); have n5_ := Aside0.mk (blk_below (g := gb150) (o := poAx9_4 a0_2 a0_3) pmAx9_34_ hb); have n6_ := Aside0.mk (below_step pmAx9_16_ hb); clear BK140; clear BK141; clear BK144; clear BK145; clear BK146; clear BK150; clear HB; have BK140 := n0_; have BK141 := n1_; have BK144 := n2_; have BK145 := n3_; have BK146 := n4_; have BK150 := n5_; have HB := n6_; clear n0_ n1_ n2_ n3_ n4_ n5_ n6_; (try clear hb); (try clear hb2); (try clear hk); (try clear hi); have hcz304_0 : w303.cell? ⟨gb144, 0, none⟩ = some (.int .i64 t147) := (blk_cell BK144.out 0).trans rfl; have hcz304_1 : w303.cell? ⟨gb144, 1, none⟩ = some (.int .i64 0) := (blk_cell BK144.out 1).trans rfl; have hcz304_2 : w303.cell? ⟨gb144, 2, none⟩ = some (.int .i64 0) := (blk_cell BK144.out 2).trans rfl; have hfz304_0 := blk_frozen BK144.out 0; have hfz304_1 := blk_frozen BK144.out 1; have hfz304_2 := blk_frozen BK144.out 2; have hcz305_0 : w303.cell? ⟨gb145, 0, none⟩ = some (.bool t148) := (blk_cell BK145.out 0).trans rfl; have hcz305_1 : w303.cell? ⟨gb145, 1, none⟩ = some (.bool false) := (blk_cell BK145.out 1).trans rfl; have hcz305_2 : w303.cell? ⟨gb145, 2, none⟩ = some (.bool false) := (blk_cell BK145.out 2).trans rfl; have hfz305_0 := blk_frozen BK145.out 0; have hfz305_1 := blk_frozen BK145.out 1; have hfz305_2 := blk_frozen BK145.out 2) | ((with_reducible refine gate_dst (N := 11) rfl ?_); refine box_event ?hg (N := 11) ?hd (cs := #[.int .i64 0, .int .i64 0]) (t := 23) ?hr ?_; (case hd => rfl); (case hg => rfl); (case hr => first | (go_simp; done) | (go_simp; rfl)); intro gb154 hg w306 hbox hb; have n0_ := Aside0.mk (blk_below (g := gb140) (o := poAx9_0 a0_0 a0_1 a0_2 a0_3 a0_4 a0_5 a0_6) pmAx9_2_ hb); have n1_ := Aside0.mk (blk_below (g := gb141) (o := poAx9_1 0 0 0 false 0 0 0) pmAx9_3_ hb); have n2_ := Aside0.mk (blk_below (g := gb144) (o := poAx9_2 t147 t151 0) pmAx9_20_ hb); have n3_ := Aside0.mk (blk_below (g := gb145) (o := poAx9_3 t148 t152 false) pmAx9_21_ hb); have n4_ := Aside0.mk (blk_below (g := gb146) (o := poAx9_4 a0_0 a0_1) pmAx9_4_ hb); have n5_ := Aside0.mk (blk_below (g := gb150) (o := poAx9_4 a0_2 a0_3) pmAx9_19_ hb); have n6_ := Aside0.mk (below_step pmAx9_16_ hb); have n7_ := Aside0.mk (hbox); have n8_ := Aside0.mk ((by rw [hg]; exact (below_size pmAx9_16_) : w.heap.size ≤ gb154)); have n9_ := Aside0.mk ((by rw [hg]; exact (below_size pmAx9_16_) : w.heap.size ≤ gb154)); have n10_ := Aside0.mk ((pmAx9_54_ : gb140 ≠ gb154)); have n11_ := Aside0.mk ((pmAx9_55_ : gb154 ≠ gb140)); have n12_ := Aside0.mk ((pmAx9_69_ : gb141 ≠ gb154)); have n13_ := Aside0.mk ((pmAx9_70_ : gb154 ≠ gb141)); have n14_ := Aside0.mk ((by rw [hg]; exact Nat.ne_of_lt (blk_lt (g := gb144) (o := poAx9_2 t147 t151 0) pmAx9_20_) : gb144 ≠ gb154)); have n15_ := Aside0.mk ((by rw [hg]; exact Nat.ne_of_gt (blk_lt (g := gb144) (o := poAx9_2 t147 t151 0) pmAx9_20_) : gb154 ≠ gb144)); have n16_ := Aside0.mk ((by rw [hg]; exact Nat.ne_of_lt (blk_lt (g := gb145) (o := poAx9_3 t148 t152 false) pmAx9_21_) : gb145 ≠ gb154)); have n17_ := Aside0.mk ((by rw [hg]; exact Nat.ne_of_gt (blk_lt (g := gb145) (o := poAx9_3 t148 t152 false) pmAx9_21_) : gb154 ≠ gb145)); have n18_ := Aside0.mk ((pmAx9_71_ : gb146 ≠ gb154)); have n19_ := Aside0.mk ((pmAx9_72_ : gb154 ≠ gb146)); have n20_ := Aside0.mk ((by rw [hg]; exact Nat.ne_of_lt (blk_lt (g := gb150) (o := poAx9_4 a0_2 a0_3) pmAx9_19_) : gb150 ≠ gb154)); have n21_ := Aside0.mk ((by rw [hg]; exact Nat.ne_of_gt (blk_lt (g := gb150) (o := poAx9_4 a0_2 a0_3) pmAx9_19_) : gb154 ≠ gb150)); clear BK140; clear BK141; clear BK144; clear BK145; clear BK146; clear BK150; clear HB; have BK140 := n0_; have BK141 := n1_; have BK144 := n2_; have BK145 := n3_; have BK146 := n4_; have BK150 := n5_; have HB := n6_; have BK154 := n7_; have GW154 := n8_; have GE154 := n9_; have NB140_154 := n10_; have NB154_140 := n11_; have NB141_154 := n12_; have NB154_141 := n13_; have NB144_154 := n14_; have NB154_144 := n15_; have NB145_154 := n16_; have NB154_145 := n17_; have NB146_154 := n18_; have NB154_146 := n19_; have NB150_154 := n20_; have NB154_150 := n21_; clear n0_ n1_ n2_ n3_ n4_ n5_ n6_ n7_ n8_ n9_ n10_ n11_ n12_ n13_ n14_ n15_ n16_ n17_ n18_ n19_ n20_ n21_; clear hb hbox hg; have hnb307 := NB154_140.out; have hnc307 := NB140_154.out; have hnb308 := NB154_141.out; have hnc308 := NB141_154.out; have hnb309 := NB154_144.out; have hnc309 := NB144_154.out; have hnb310 := NB154_145.out; have hnc310 := NB145_154.out; have hnb311 := NB154_146.out; have hnc311 := NB146_154.out; have hnb312 := NB154_150.out; have hnc312 := NB150_154.out; have hcz313_0 : w306.cell? ⟨gb154, 0, none⟩ = some (.int .i64 0) := (blk_cell BK154.out 0).trans rfl; have hcz313_1 : w306.cell? ⟨gb154, 1, none⟩ = some (.int .i64 0) := (blk_cell BK154.out 1).trans rfl; have hfz313_0 := blk_frozen BK154.out 0; have hfz313_1 := blk_frozen BK154.out 1) | ((with_reducible refine gate_callee (f := 18) rfl ?_); refine goesL_ (some 47) rfl rfl Try.func18 pmAx9_43_ rfl #[.agg #[.int .i64 a0_5, .int .i64 a0_6], .int .i64 a1, .bool a2] rfl pmAx9_14_ ?_; (with_reducible refine (value_Resolve.calls kj3 a0_5 a0_6 a1 a2 t155 t156 t157 _ A31.out).mono ?_); rintro e w314 ⟨rfl, hb⟩; refine ⟨_, rfl, ?_⟩; have n0_ := Aside0.mk (blk_below (g := gb140) (o := poAx9_0 a0_0 a0_1 a0_2 a0_3 a0_4 a0_5 a0_6) pmAx9_56_ hb); have n1_ := Aside0.mk (blk_below (g := gb141) (o := poAx9_1 0 0 0 false 0 0 0) pmAx9_57_ hb); have n2_ := Aside0.mk (blk_below (g := gb144) (o := poAx9_2 t147 t151 0) pmAx9_58_ hb); have n3_ := Aside0.mk (blk_below (g := gb145) (o := poAx9_3 t148 t152 false) pmAx9_59_ hb); have n4_ := Aside0.mk (blk_below (g := gb146) (o := poAx9_4 a0_0 a0_1) pmAx9_60_ hb); have n5_ := Aside0.mk (blk_below (g := gb150) (o := poAx9_4 a0_2 a0_3) pmAx9_61_ hb); have n6_ := Aside0.mk (blk_below (g := gb154) (o := poAx9_4 a0_5 a0_6) pmAx9_53_ hb); have n7_ := Aside0.mk (below_step pmAx9_7_ hb); clear BK140; clear BK141; clear BK144; clear BK145; clear BK146; clear BK150; clear BK154; clear HB; have BK140 := n0_; have BK141 := n1_; have BK144 := n2_; have BK145 := n3_; have BK146 := n4_; have BK150 := n5_; have BK154 := n6_; have HB := n7_; clear n0_ n1_ n2_ n3_ n4_ n5_ n6_ n7_; (try clear hb); (try clear hb2); (try clear hk); (try clear hi); have hcz315_0 : w314.cell? ⟨gb144, 0, none⟩ = some (.int .i64 t147) := (blk_cell BK144.out 0).trans rfl; have hcz315_1 : w314.cell? ⟨gb144, 1, none⟩ = some (.int .i64 t151) := (blk_cell BK144.out 1).trans rfl; have hcz315_2 : w314.cell? ⟨gb144, 2, none⟩ = some (.int .i64 0) := (blk_cell BK144.out 2).trans rfl; have hfz315_0 := blk_frozen BK144.out 0; have hfz315_1 := blk_frozen BK144.out 1; have hfz315_2 := blk_frozen BK144.out 2; have hcz316_0 : w314.cell? ⟨gb145, 0, none⟩ = some (.bool t148) := (blk_cell BK145.out 0).trans rfl; have hcz316_1 : w314.cell? ⟨gb145, 1, none⟩ = some (.bool t152) := (blk_cell BK145.out 1).trans rfl; have hcz316_2 : w314.cell? ⟨gb145, 2, none⟩ = some (.bool false) := (blk_cell BK145.out 2).trans rfl; have hfz316_0 := blk_frozen BK145.out 0; have hfz316_1 := blk_frozen BK145.out 1; have hfz316_2 := blk_frozen BK145.out 2; have hcz317_0 : w314.cell? ⟨gb141, 0, none⟩ = some (.int .i64 0) := (blk_cell BK141.out 0).trans rfl; have hcz317_1 : w314.cell? ⟨gb141, 1, none⟩ = some (.int .i64 0) := (blk_cell BK141.out 1).trans rfl; have hcz317_2 : w314.cell? ⟨gb141, 2, none⟩ = some (.int .i64 0) := (blk_cell BK141.out 2).trans rfl; have hcz317_3 : w314.cell? ⟨gb141, 3, none⟩ = some (.bool false) := (blk_cell BK141.out 3).trans rfl; have hcz317_4 : w314.cell? ⟨gb141, 4, none⟩ = some (.int .i64 0) := (blk_cell BK141.out 4).trans rfl; have hcz317_5 : w314.cell? ⟨gb141, 5, none⟩ = some (.int .i64 0) := (blk_cell BK141.out 5).trans rfl; have hcz317_6 : w314.cell? ⟨gb141, 6, none⟩ = some (.int .i64 0) := (blk_cell BK141.out 6).trans rfl; have hfz317_0 := blk_frozen BK141.out 0; have hfz317_1 := blk_frozen BK141.out 1; have hfz317_2 := blk_frozen BK141.out 2; have hfz317_3 := blk_frozen BK141.out 3; have hfz317_4 := blk_frozen BK141.out 4; have hfz317_5 := blk_frozen BK141.out 5; have hfz317_6 := blk_frozen BK141.out 6) | (with_reducible refine wp_loop_rounds 4 ?_) | (with_reducible refine rounds_go ?_))
        refine bodyPost_ret (results_ct rfl _ _ gb141 27 #[.int .i64 0, .int .i64 0, .int .i64 0, .bool false, .int .i64 0, .int .i64 0, .int .i64 0] (0, 0) _ rfl pmAx9_8_ Try.underlying27 rfl pmAx9_43_) rfl ?_
        exact ⟨by first | rfl | (simp [errW_none, errW_some] <;> rfl) | (simp [*, errW_none, errW_some] <;> rfl), by repeat (first | (with_reducible first | exact HB.out | apply below_alloc | apply pw_below_drewN | apply below_drew1 | refine below_set ?_ GE140.out | refine below_set ?_ GE141.out | refine below_set ?_ GE144.out | refine below_set ?_ GE145.out | refine below_set ?_ GE146.out | refine below_set ?_ GE150.out | refine below_set ?_ GE154.out) | exact HB.out)⟩
      rw [if_pos c32] at H
      have c32b0 : (t157 == 0) = true := beq_iff_eq.mpr c32
      have c32b1 : (t157 != 0) = false := bne_eq_false_iff_eq.mpr c32
      clear c32
      replace H := Option.bind_eq_some_iff.mp H
      obtain ⟨t158, A330, H⟩ := H
      replace H : ((base_kind.f a0_2 a0_3 a2).bind fun t159 => (if t152 = true then (base_Start.j1 kj3 a0_0 a0_1 a0_2 a0_3 a0_4 a0_5 a0_6 t147 t151 t155 t148 t152 t156 t158 t159 0 false 0 t147 t151) else (base_Start.j1 kj3 a0_0 a0_1 a0_2 a0_3 a0_4 a0_5 a0_6 t147 t151 t155 t148 t152 t156 t158 t159 0 false 0 t147 1125899906842624))) = some (r1, r2, r3, r4, r5, r6, r7, r8) := H
      have A33 := Aside0.mk A330
      clear A330
      replace H := Option.bind_eq_some_iff.mp H
      obtain ⟨t159, A340, H⟩ := H
      replace H : (if t152 = true then (base_Start.j1 kj3 a0_0 a0_1 a0_2 a0_3 a0_4 a0_5 a0_6 t147 t151 t155 t148 t152 t156 t158 t159 0 false 0 t147 t151) else (base_Start.j1 kj3 a0_0 a0_1 a0_2 a0_3 a0_4 a0_5 a0_6 t147 t151 t155 t148 t152 t156 t158 t159 0 false 0 t147 1125899906842624)) = some (r1, r2, r3, r4, r5, r6, r7, r8) := H
      have A34 := Aside0.mk A340
      clear A340
      have HC35 := Aside0.mk H
      clear H
      try go_wp2_with (first | ((with_reducible refine gate_dst (N := 8) rfl ?_); refine box_event ?hg (N := 8) ?hd (cs := #[.int .i64 0, .int .i64 0, .int .i64 0]) (t := 51) ?hr ?_; (case hd => rfl); (case hg => rfl); (case hr => first | (go_simp; done) | (go_simp; rfl)); intro gb144 hg w36 hbox hb; have n0_ := Aside0.mk (blk_below (g := gb140) (o := poAx9_0 a0_0 a0_1 a0_2 a0_3 a0_4 a0_5 a0_6) pmAx9_0_ hb); have n1_ := Aside0.mk (blk_below (g := gb141) (o := poAx9_1 0 0 0 false 0 0 0) pmAx9_1_ hb); have n2_ := Aside0.mk (below_step pmAx9_9_ hb); have n3_ := Aside0.mk (hbox); have n4_ := Aside0.mk ((pmAx9_79_ : w.heap.size ≤ gb144)); have n5_ := Aside0.mk ((pmAx9_79_ : w.heap.size ≤ gb144)); have n6_ := Aside0.mk ((pmAx9_25_ : gb140 ≠ gb144)); have n7_ := Aside0.mk ((pmAx9_26_ : gb144 ≠ gb140)); have n8_ := Aside0.mk ((pmAx9_28_ : gb141 ≠ gb144)); have n9_ := Aside0.mk ((pmAx9_29_ : gb144 ≠ gb141)); clear BK140; clear BK141; clear HB; have BK140 := n0_; have BK141 := n1_; have HB := n2_; have BK144 := n3_; have GW144 := n4_; have GE144 := n5_; have NB140_144 := n6_; have NB144_140 := n7_; have NB141_144 := n8_; have NB144_141 := n9_; clear n0_ n1_ n2_ n3_ n4_ n5_ n6_ n7_ n8_ n9_; clear hb hbox hg) | ((with_reducible refine gate_dst (N := 9) rfl ?_); refine box_event ?hg (N := 9) ?hd (cs := #[.bool false, .bool false, .bool false]) (t := 52) ?hr ?_; (case hd => rfl); (case hg => rfl); (case hr => first | (go_simp; done) | (go_simp; rfl)); intro gb145 hg w37 hbox hb; have n0_ := Aside0.mk (blk_below (g := gb140) (o := poAx9_0 a0_0 a0_1 a0_2 a0_3 a0_4 a0_5 a0_6) pmAx9_0_ hb); have n1_ := Aside0.mk (blk_below (g := gb141) (o := poAx9_1 0 0 0 false 0 0 0) pmAx9_1_ hb); have n2_ := Aside0.mk (blk_below (g := gb144) (o := poAx9_2 0 0 0) pmAx9_6_ hb); have n3_ := Aside0.mk (below_step pmAx9_17_ hb); have n4_ := Aside0.mk (hbox); have n5_ := Aside0.mk ((pmAx9_77_ : w.heap.size ≤ gb145)); have n6_ := Aside0.mk ((pmAx9_77_ : w.heap.size ≤ gb145)); have n7_ := Aside0.mk ((pmAx9_25_ : gb140 ≠ gb145)); have n8_ := Aside0.mk ((pmAx9_26_ : gb145 ≠ gb140)); have n9_ := Aside0.mk ((pmAx9_28_ : gb141 ≠ gb145)); have n10_ := Aside0.mk ((pmAx9_29_ : gb145 ≠ gb141)); have n11_ := Aside0.mk ((pmAx9_44_ : gb144 ≠ gb145)); have n12_ := Aside0.mk ((pmAx9_45_ : gb145 ≠ gb144)); clear BK140; clear BK141; clear BK144; clear HB; have BK140 := n0_; have BK141 := n1_; have BK144 := n2_; have HB := n3_; have BK145 := n4_; have GW145 := n5_; have GE145 := n6_; have NB140_145 := n7_; have NB145_140 := n8_; have NB141_145 := n9_; have NB145_141 := n10_; have NB144_145 := n11_; have NB145_144 := n12_; clear n0_ n1_ n2_ n3_ n4_ n5_ n6_ n7_ n8_ n9_ n10_ n11_ n12_; clear hb hbox hg; have hnb38 := NB140_141.out; have hnc38 := NB141_140.out; have hnb39 := NB140_144.out; have hnc39 := NB144_140.out; have hnb40 := NB140_145.out; have hnc40 := NB145_140.out; have hcz41_0 : w37.cell? ⟨gb140, 0, none⟩ = some (.int .i64 a0_0) := (blk_cell BK140.out 0).trans rfl; have hcz41_1 : w37.cell? ⟨gb140, 1, none⟩ = some (.int .i64 a0_1) := (blk_cell BK140.out 1).trans rfl; have hcz41_2 : w37.cell? ⟨gb140, 2, none⟩ = some (.int .i64 a0_2) := (blk_cell BK140.out 2).trans rfl; have hcz41_3 : w37.cell? ⟨gb140, 3, none⟩ = some (.int .i64 a0_3) := (blk_cell BK140.out 3).trans rfl; have hcz41_4 : w37.cell? ⟨gb140, 4, none⟩ = some (.bool a0_4) := (blk_cell BK140.out 4).trans rfl; have hcz41_5 : w37.cell? ⟨gb140, 5, none⟩ = some (.int .i64 a0_5) := (blk_cell BK140.out 5).trans rfl; have hcz41_6 : w37.cell? ⟨gb140, 6, none⟩ = some (.int .i64 a0_6) := (blk_cell BK140.out 6).trans rfl; have hfz41_0 := blk_frozen BK140.out 0; have hfz41_1 := blk_frozen BK140.out 1; have hfz41_2 := blk_frozen BK140.out 2; have hfz41_3 := blk_frozen BK140.out 3; have hfz41_4 := blk_frozen BK140.out 4; have hfz41_5 := blk_frozen BK140.out 5; have hfz41_6 := blk_frozen BK140.out 6) | ((with_reducible refine gate_dst (N := 11) rfl ?_); refine box_event ?hg (N := 11) ?hd (cs := #[.int .i64 0, .int .i64 0]) (t := 23) ?hr ?_; (case hd => rfl); (case hg => rfl); (case hr => first | (go_simp; done) | (go_simp; rfl)); intro gb146 hg w42 hbox hb; have n0_ := Aside0.mk (blk_below (g := gb140) (o := poAx9_0 a0_0 a0_1 a0_2 a0_3 a0_4 a0_5 a0_6) pmAx9_0_ hb); have n1_ := Aside0.mk (blk_below (g := gb141) (o := poAx9_1 0 0 0 false 0 0 0) pmAx9_1_ hb); have n2_ := Aside0.mk (blk_below (g := gb144) (o := poAx9_2 0 0 0) pmAx9_6_ hb); have n3_ := Aside0.mk (blk_below (g := gb145) (o := poAx9_3 false false false) pmAx9_10_ hb); have n4_ := Aside0.mk (below_step pmAx9_15_ hb); have n5_ := Aside0.mk (hbox); have n6_ := Aside0.mk ((pmAx9_78_ : w.heap.size ≤ gb146)); have n7_ := Aside0.mk ((pmAx9_78_ : w.heap.size ≤ gb146)); have n8_ := Aside0.mk ((pmAx9_25_ : gb140 ≠ gb146)); have n9_ := Aside0.mk ((pmAx9_26_ : gb146 ≠ gb140)); have n10_ := Aside0.mk ((pmAx9_28_ : gb141 ≠ gb146)); have n11_ := Aside0.mk ((pmAx9_29_ : gb146 ≠ gb141)); have n12_ := Aside0.mk ((pmAx9_44_ : gb144 ≠ gb146)); have n13_ := Aside0.mk ((pmAx9_45_ : gb146 ≠ gb144)); have n14_ := Aside0.mk ((pmAx9_74_ : gb145 ≠ gb146)); have n15_ := Aside0.mk ((pmAx9_75_ : gb146 ≠ gb145)); clear BK140; clear BK141; clear BK144; clear BK145; clear HB; have BK140 := n0_; have BK141 := n1_; have BK144 := n2_; have BK145 := n3_; have HB := n4_; have BK146 := n5_; have GW146 := n6_; have GE146 := n7_; have NB140_146 := n8_; have NB146_140 := n9_; have NB141_146 := n10_; have NB146_141 := n11_; have NB144_146 := n12_; have NB146_144 := n13_; have NB145_146 := n14_; have NB146_145 := n15_; clear n0_ n1_ n2_ n3_ n4_ n5_ n6_ n7_ n8_ n9_ n10_ n11_ n12_ n13_ n14_ n15_; clear hb hbox hg; have hnb43 := NB146_140.out; have hnc43 := NB140_146.out; have hnb44 := NB146_141.out; have hnc44 := NB141_146.out; have hnb45 := NB146_144.out; have hnc45 := NB144_146.out; have hnb46 := NB146_145.out; have hnc46 := NB145_146.out; have hcz47_0 : w42.cell? ⟨gb146, 0, none⟩ = some (.int .i64 0) := (blk_cell BK146.out 0).trans rfl; have hcz47_1 : w42.cell? ⟨gb146, 1, none⟩ = some (.int .i64 0) := (blk_cell BK146.out 1).trans rfl; have hfz47_0 := blk_frozen BK146.out 0; have hfz47_1 := blk_frozen BK146.out 1) | ((with_reducible refine gate_callee (f := 18) rfl ?_); refine goesL_ (some 47) rfl rfl Try.func18 pmAx9_43_ rfl #[.agg #[.int .i64 a0_0, .int .i64 a0_1], .int .i64 a1, .bool a2] rfl pmAx9_14_ ?_; (with_reducible refine (value_Resolve.calls kj3 a0_0 a0_1 a1 a2 t147 t148 t149 _ A27.out).mono ?_); rintro e w48 ⟨rfl, hb⟩; refine ⟨_, rfl, ?_⟩; have n0_ := Aside0.mk (blk_below (g := gb140) (o := poAx9_0 a0_0 a0_1 a0_2 a0_3 a0_4 a0_5 a0_6) pmAx9_30_ hb); have n1_ := Aside0.mk (blk_below (g := gb141) (o := poAx9_1 0 0 0 false 0 0 0) pmAx9_31_ hb); have n2_ := Aside0.mk (blk_below (g := gb144) (o := poAx9_2 0 0 0) pmAx9_32_ hb); have n3_ := Aside0.mk (blk_below (g := gb145) (o := poAx9_3 false false false) pmAx9_33_ hb); have n4_ := Aside0.mk (blk_below (g := gb146) (o := poAx9_4 a0_0 a0_1) pmAx9_27_ hb); have n5_ := Aside0.mk (below_step pmAx9_11_ hb); clear BK140; clear BK141; clear BK144; clear BK145; clear BK146; clear HB; have BK140 := n0_; have BK141 := n1_; have BK144 := n2_; have BK145 := n3_; have BK146 := n4_; have HB := n5_; clear n0_ n1_ n2_ n3_ n4_ n5_; (try clear hb); (try clear hb2); (try clear hk); (try clear hi); have hnb49 := NB144_141.out; have hnc49 := NB141_144.out; have hnb50 := NB144_145.out; have hnc50 := NB145_144.out; have hcz51_0 : w48.cell? ⟨gb144, 0, none⟩ = some (.int .i64 0) := (blk_cell BK144.out 0).trans rfl; have hcz51_1 : w48.cell? ⟨gb144, 1, none⟩ = some (.int .i64 0) := (blk_cell BK144.out 1).trans rfl; have hcz51_2 : w48.cell? ⟨gb144, 2, none⟩ = some (.int .i64 0) := (blk_cell BK144.out 2).trans rfl; have hfz51_0 := blk_frozen BK144.out 0; have hfz51_1 := blk_frozen BK144.out 1; have hfz51_2 := blk_frozen BK144.out 2; have hnb52 := NB145_141.out; have hnc52 := NB141_145.out; have hcz53_0 : w48.cell? ⟨gb145, 0, none⟩ = some (.bool false) := (blk_cell BK145.out 0).trans rfl; have hcz53_1 : w48.cell? ⟨gb145, 1, none⟩ = some (.bool false) := (blk_cell BK145.out 1).trans rfl; have hcz53_2 : w48.cell? ⟨gb145, 2, none⟩ = some (.bool false) := (blk_cell BK145.out 2).trans rfl; have hfz53_0 := blk_frozen BK145.out 0; have hfz53_1 := blk_frozen BK145.out 1; have hfz53_2 := blk_frozen BK145.out 2) | ((with_reducible refine gate_dst (N := 11) rfl ?_); refine box_event ?hg (N := 11) ?hd (cs := #[.int .i64 0, .int .i64 0]) (t := 23) ?hr ?_; (case hd => rfl); (case hg => rfl); (case hr => first | (go_simp; done) | (go_simp; rfl)); intro gb150 hg w54 hbox hb; have n0_ := Aside0.mk (blk_below (g := gb140) (o := poAx9_0 a0_0 a0_1 a0_2 a0_3 a0_4 a0_5 a0_6) pmAx9_2_ hb); have n1_ := Aside0.mk (blk_below (g := gb141) (o := poAx9_1 0 0 0 false 0 0 0) pmAx9_3_ hb); have n2_ := Aside0.mk (blk_below (g := gb144) (o := poAx9_2 t147 0 0) pmAx9_12_ hb); have n3_ := Aside0.mk (blk_below (g := gb145) (o := poAx9_3 t148 false false) pmAx9_13_ hb); have n4_ := Aside0.mk (blk_below (g := gb146) (o := poAx9_4 a0_0 a0_1) pmAx9_4_ hb); have n5_ := Aside0.mk (below_step pmAx9_11_ hb); have n6_ := Aside0.mk (hbox); have n7_ := Aside0.mk ((by rw [hg]; exact (below_size pmAx9_11_) : w.heap.size ≤ gb150)); have n8_ := Aside0.mk ((by rw [hg]; exact (below_size pmAx9_11_) : w.heap.size ≤ gb150)); have n9_ := Aside0.mk ((pmAx9_54_ : gb140 ≠ gb150)); have n10_ := Aside0.mk ((pmAx9_55_ : gb150 ≠ gb140)); have n11_ := Aside0.mk ((pmAx9_69_ : gb141 ≠ gb150)); have n12_ := Aside0.mk ((pmAx9_70_ : gb150 ≠ gb141)); have n13_ := Aside0.mk ((by rw [hg]; exact Nat.ne_of_lt (blk_lt (g := gb144) (o := poAx9_2 t147 0 0) pmAx9_12_) : gb144 ≠ gb150)); have n14_ := Aside0.mk ((by rw [hg]; exact Nat.ne_of_gt (blk_lt (g := gb144) (o := poAx9_2 t147 0 0) pmAx9_12_) : gb150 ≠ gb144)); have n15_ := Aside0.mk ((by rw [hg]; exact Nat.ne_of_lt (blk_lt (g := gb145) (o := poAx9_3 t148 false false) pmAx9_13_) : gb145 ≠ gb150)); have n16_ := Aside0.mk ((by rw [hg]; exact Nat.ne_of_gt (blk_lt (g := gb145) (o := poAx9_3 t148 false false) pmAx9_13_) : gb150 ≠ gb145)); have n17_ := Aside0.mk ((pmAx9_71_ : gb146 ≠ gb150)); have n18_ := Aside0.mk ((pmAx9_72_ : gb150 ≠ gb146)); clear BK140; clear BK141; clear BK144; clear BK145; clear BK146; clear HB; have BK140 := n0_; have BK141 := n1_; have BK144 := n2_; have BK145 := n3_; have BK146 := n4_; have HB := n5_; have BK150 := n6_; have GW150 := n7_; have GE150 := n8_; have NB140_150 := n9_; have NB150_140 := n10_; have NB141_150 := n11_; have NB150_141 := n12_; have NB144_150 := n13_; have NB150_144 := n14_; have NB145_150 := n15_; have NB150_145 := n16_; have NB146_150 := n17_; have NB150_146 := n18_; clear n0_ n1_ n2_ n3_ n4_ n5_ n6_ n7_ n8_ n9_ n10_ n11_ n12_ n13_ n14_ n15_ n16_ n17_ n18_; clear hb hbox hg; have hnb55 := NB150_140.out; have hnc55 := NB140_150.out; have hnb56 := NB150_141.out; have hnc56 := NB141_150.out; have hnb57 := NB150_144.out; have hnc57 := NB144_150.out; have hnb58 := NB150_145.out; have hnc58 := NB145_150.out; have hnb59 := NB150_146.out; have hnc59 := NB146_150.out; have hcz60_0 : w54.cell? ⟨gb150, 0, none⟩ = some (.int .i64 0) := (blk_cell BK150.out 0).trans rfl; have hcz60_1 : w54.cell? ⟨gb150, 1, none⟩ = some (.int .i64 0) := (blk_cell BK150.out 1).trans rfl; have hfz60_0 := blk_frozen BK150.out 0; have hfz60_1 := blk_frozen BK150.out 1) | ((with_reducible refine gate_callee (f := 18) rfl ?_); refine goesL_ (some 47) rfl rfl Try.func18 pmAx9_43_ rfl #[.agg #[.int .i64 a0_2, .int .i64 a0_3], .int .i64 a1, .bool a2] rfl pmAx9_14_ ?_; (with_reducible refine (value_Resolve.calls kj3 a0_2 a0_3 a1 a2 t151 t152 t153 _ A29.out).mono ?_); rintro e w61 ⟨rfl, hb⟩; refine ⟨_, rfl, ?_⟩; have n0_ := Aside0.mk (blk_below (g := gb140) (o := poAx9_0 a0_0 a0_1 a0_2 a0_3 a0_4 a0_5 a0_6) pmAx9_36_ hb); have n1_ := Aside0.mk (blk_below (g := gb141) (o := poAx9_1 0 0 0 false 0 0 0) pmAx9_37_ hb); have n2_ := Aside0.mk (blk_below (g := gb144) (o := poAx9_2 t147 0 0) pmAx9_38_ hb); have n3_ := Aside0.mk (blk_below (g := gb145) (o := poAx9_3 t148 false false) pmAx9_39_ hb); have n4_ := Aside0.mk (blk_below (g := gb146) (o := poAx9_4 a0_0 a0_1) pmAx9_40_ hb); have n5_ := Aside0.mk (blk_below (g := gb150) (o := poAx9_4 a0_2 a0_3) pmAx9_34_ hb); have n6_ := Aside0.mk (below_step pmAx9_16_ hb); clear BK140; clear BK141; clear BK144; clear BK145; clear BK146; clear BK150; clear HB; have BK140 := n0_; have BK141 := n1_; have BK144 := n2_; have BK145 := n3_; have BK146 := n4_; have BK150 := n5_; have HB := n6_; clear n0_ n1_ n2_ n3_ n4_ n5_ n6_; (try clear hb); (try clear hb2); (try clear hk); (try clear hi); have hcz62_0 : w61.cell? ⟨gb144, 0, none⟩ = some (.int .i64 t147) := (blk_cell BK144.out 0).trans rfl; have hcz62_1 : w61.cell? ⟨gb144, 1, none⟩ = some (.int .i64 0) := (blk_cell BK144.out 1).trans rfl; have hcz62_2 : w61.cell? ⟨gb144, 2, none⟩ = some (.int .i64 0) := (blk_cell BK144.out 2).trans rfl; have hfz62_0 := blk_frozen BK144.out 0; have hfz62_1 := blk_frozen BK144.out 1; have hfz62_2 := blk_frozen BK144.out 2; have hcz63_0 : w61.cell? ⟨gb145, 0, none⟩ = some (.bool t148) := (blk_cell BK145.out 0).trans rfl; have hcz63_1 : w61.cell? ⟨gb145, 1, none⟩ = some (.bool false) := (blk_cell BK145.out 1).trans rfl; have hcz63_2 : w61.cell? ⟨gb145, 2, none⟩ = some (.bool false) := (blk_cell BK145.out 2).trans rfl; have hfz63_0 := blk_frozen BK145.out 0; have hfz63_1 := blk_frozen BK145.out 1; have hfz63_2 := blk_frozen BK145.out 2) | ((with_reducible refine gate_dst (N := 11) rfl ?_); refine box_event ?hg (N := 11) ?hd (cs := #[.int .i64 0, .int .i64 0]) (t := 23) ?hr ?_; (case hd => rfl); (case hg => rfl); (case hr => first | (go_simp; done) | (go_simp; rfl)); intro gb154 hg w64 hbox hb; have n0_ := Aside0.mk (blk_below (g := gb140) (o := poAx9_0 a0_0 a0_1 a0_2 a0_3 a0_4 a0_5 a0_6) pmAx9_2_ hb); have n1_ := Aside0.mk (blk_below (g := gb141) (o := poAx9_1 0 0 0 false 0 0 0) pmAx9_3_ hb); have n2_ := Aside0.mk (blk_below (g := gb144) (o := poAx9_2 t147 t151 0) pmAx9_20_ hb); have n3_ := Aside0.mk (blk_below (g := gb145) (o := poAx9_3 t148 t152 false) pmAx9_21_ hb); have n4_ := Aside0.mk (blk_below (g := gb146) (o := poAx9_4 a0_0 a0_1) pmAx9_4_ hb); have n5_ := Aside0.mk (blk_below (g := gb150) (o := poAx9_4 a0_2 a0_3) pmAx9_19_ hb); have n6_ := Aside0.mk (below_step pmAx9_16_ hb); have n7_ := Aside0.mk (hbox); have n8_ := Aside0.mk ((by rw [hg]; exact (below_size pmAx9_16_) : w.heap.size ≤ gb154)); have n9_ := Aside0.mk ((by rw [hg]; exact (below_size pmAx9_16_) : w.heap.size ≤ gb154)); have n10_ := Aside0.mk ((pmAx9_54_ : gb140 ≠ gb154)); have n11_ := Aside0.mk ((pmAx9_55_ : gb154 ≠ gb140)); have n12_ := Aside0.mk ((pmAx9_69_ : gb141 ≠ gb154)); have n13_ := Aside0.mk ((pmAx9_70_ : gb154 ≠ gb141)); have n14_ := Aside0.mk ((by rw [hg]; exact Nat.ne_of_lt (blk_lt (g := gb144) (o := poAx9_2 t147 t151 0) pmAx9_20_) : gb144 ≠ gb154)); have n15_ := Aside0.mk ((by rw [hg]; exact Nat.ne_of_gt (blk_lt (g := gb144) (o := poAx9_2 t147 t151 0) pmAx9_20_) : gb154 ≠ gb144)); have n16_ := Aside0.mk ((by rw [hg]; exact Nat.ne_of_lt (blk_lt (g := gb145) (o := poAx9_3 t148 t152 false) pmAx9_21_) : gb145 ≠ gb154)); have n17_ := Aside0.mk ((by rw [hg]; exact Nat.ne_of_gt (blk_lt (g := gb145) (o := poAx9_3 t148 t152 false) pmAx9_21_) : gb154 ≠ gb145)); have n18_ := Aside0.mk ((pmAx9_71_ : gb146 ≠ gb154)); have n19_ := Aside0.mk ((pmAx9_72_ : gb154 ≠ gb146)); have n20_ := Aside0.mk ((by rw [hg]; exact Nat.ne_of_lt (blk_lt (g := gb150) (o := poAx9_4 a0_2 a0_3) pmAx9_19_) : gb150 ≠ gb154)); have n21_ := Aside0.mk ((by rw [hg]; exact Nat.ne_of_gt (blk_lt (g := gb150) (o := poAx9_4 a0_2 a0_3) pmAx9_19_) : gb154 ≠ gb150)); clear BK140; clear BK141; clear BK144; clear BK145; clear BK146; clear BK150; clear HB; have BK140 := n0_; have BK141 := n1_; have BK144 := n2_; have BK145 := n3_; have BK146 := n4_; have BK150 := n5_; have HB := n6_; have BK154 := n7_; have GW154 := n8_; have GE154 := n9_; have NB140_154 := n10_; have NB154_140 := n11_; have NB141_154 := n12_; have NB154_141 := n13_; have NB144_154 := n14_; have NB154_144 := n15_; have NB145_154 := n16_; have NB154_145 := n17_; have NB146_154 := n18_; have NB154_146 := n19_; have NB150_154 := n20_; have NB154_150 := n21_; clear n0_ n1_ n2_ n3_ n4_ n5_ n6_ n7_ n8_ n9_ n10_ n11_ n12_ n13_ n14_ n15_ n16_ n17_ n18_ n19_ n20_ n21_; clear hb hbox hg; have hnb65 := NB154_140.out; have hnc65 := NB140_154.out; have hnb66 := NB154_141.out; have hnc66 := NB141_154.out; have hnb67 := NB154_144.out; have hnc67 := NB144_154.out; have hnb68 := NB154_145.out; have hnc68 := NB145_154.out; have hnb69 := NB154_146.out; have hnc69 := NB146_154.out; have hnb70 := NB154_150.out; have hnc70 := NB150_154.out; have hcz71_0 : w64.cell? ⟨gb154, 0, none⟩ = some (.int .i64 0) := (blk_cell BK154.out 0).trans rfl; have hcz71_1 : w64.cell? ⟨gb154, 1, none⟩ = some (.int .i64 0) := (blk_cell BK154.out 1).trans rfl; have hfz71_0 := blk_frozen BK154.out 0; have hfz71_1 := blk_frozen BK154.out 1) | ((with_reducible refine gate_callee (f := 18) rfl ?_); refine goesL_ (some 47) rfl rfl Try.func18 pmAx9_43_ rfl #[.agg #[.int .i64 a0_5, .int .i64 a0_6], .int .i64 a1, .bool a2] rfl pmAx9_14_ ?_; (with_reducible refine (value_Resolve.calls kj3 a0_5 a0_6 a1 a2 t155 t156 t157 _ A31.out).mono ?_); rintro e w72 ⟨rfl, hb⟩; refine ⟨_, rfl, ?_⟩; have n0_ := Aside0.mk (blk_below (g := gb140) (o := poAx9_0 a0_0 a0_1 a0_2 a0_3 a0_4 a0_5 a0_6) pmAx9_56_ hb); have n1_ := Aside0.mk (blk_below (g := gb141) (o := poAx9_1 0 0 0 false 0 0 0) pmAx9_57_ hb); have n2_ := Aside0.mk (blk_below (g := gb144) (o := poAx9_2 t147 t151 0) pmAx9_58_ hb); have n3_ := Aside0.mk (blk_below (g := gb145) (o := poAx9_3 t148 t152 false) pmAx9_59_ hb); have n4_ := Aside0.mk (blk_below (g := gb146) (o := poAx9_4 a0_0 a0_1) pmAx9_60_ hb); have n5_ := Aside0.mk (blk_below (g := gb150) (o := poAx9_4 a0_2 a0_3) pmAx9_61_ hb); have n6_ := Aside0.mk (blk_below (g := gb154) (o := poAx9_4 a0_5 a0_6) pmAx9_53_ hb); have n7_ := Aside0.mk (below_step pmAx9_7_ hb); clear BK140; clear BK141; clear BK144; clear BK145; clear BK146; clear BK150; clear BK154; clear HB; have BK140 := n0_; have BK141 := n1_; have BK144 := n2_; have BK145 := n3_; have BK146 := n4_; have BK150 := n5_; have BK154 := n6_; have HB := n7_; clear n0_ n1_ n2_ n3_ n4_ n5_ n6_ n7_; (try clear hb); (try clear hb2); (try clear hk); (try clear hi); have hcz73_0 : w72.cell? ⟨gb144, 0, none⟩ = some (.int .i64 t147) := (blk_cell BK144.out 0).trans rfl; have hcz73_1 : w72.cell? ⟨gb144, 1, none⟩ = some (.int .i64 t151) := (blk_cell BK144.out 1).trans rfl; have hcz73_2 : w72.cell? ⟨gb144, 2, none⟩ = some (.int .i64 0) := (blk_cell BK144.out 2).trans rfl; have hfz73_0 := blk_frozen BK144.out 0; have hfz73_1 := blk_frozen BK144.out 1; have hfz73_2 := blk_frozen BK144.out 2; have hcz74_0 : w72.cell? ⟨gb145, 0, none⟩ = some (.bool t148) := (blk_cell BK145.out 0).trans rfl; have hcz74_1 : w72.cell? ⟨gb145, 1, none⟩ = some (.bool t152) := (blk_cell BK145.out 1).trans rfl; have hcz74_2 : w72.cell? ⟨gb145, 2, none⟩ = some (.bool false) := (blk_cell BK145.out 2).trans rfl; have hfz74_0 := blk_frozen BK145.out 0; have hfz74_1 := blk_frozen BK145.out 1; have hfz74_2 := blk_frozen BK145.out 2) | (with_reducible refine wp_loop_rounds 4 ?_) | (with_reducible refine rounds_go ?_))
      have n0_ : Aside0 (((w72.setCell ⟨gb144, 2, none⟩ (.int .i64 t155)).setCell ⟨gb145, 2, none⟩ (.bool t156)).heap[gb140]? = some (.cells #[.int .i64 a0_0, .int .i64 a0_1, .int .i64 a0_2, .int .i64 a0_3, .bool a0_4, .int .i64 a0_5, .int .i64 a0_6] 25 (0, 0))) := ⟨pmAx9_2_⟩
      have n1_ : Aside0 (((w72.setCell ⟨gb144, 2, none⟩ (.int .i64 t155)).setCell ⟨gb145, 2, none⟩ (.bool t156)).heap[gb141]? = some (.cells #[.int .i64 0, .int .i64 0, .int .i64 0, .bool false, .int .i64 0, .int .i64 0, .int .i64 0] 27 (0, 0))) := ⟨pmAx9_3_⟩
      have n2_ : Aside0 (((w72.setCell ⟨gb144, 2, none⟩ (.int .i64 t155)).setCell ⟨gb145, 2, none⟩ (.bool t156)).heap[gb144]? = some (.cells #[.int .i64 t147, .int .i64 t151, .int .i64 t155] 51 (0, 0))) := ⟨by (with_reducible repeat (first | refine blk_drewN ?_ _ | refine blk_drew ?_ | refine blk_alloc ?_ _)); refine blk_far ?_ NB144_145.out _; (with_reducible repeat (first | refine blk_drewN ?_ _ | refine blk_drew ?_ | refine blk_alloc ?_ _)); refine blk_put (cs := #[.int .i64 t147, .int .i64 t151, .int .i64 0]) ?_ 2 _ rfl; (with_reducible repeat (first | refine blk_drewN ?_ _ | refine blk_drew ?_ | refine blk_alloc ?_ _)); exact BK144.out⟩
      have n3_ : Aside0 (((w72.setCell ⟨gb144, 2, none⟩ (.int .i64 t155)).setCell ⟨gb145, 2, none⟩ (.bool t156)).heap[gb145]? = some (.cells #[.bool t148, .bool t152, .bool t156] 52 (0, 0))) := ⟨by (with_reducible repeat (first | refine blk_drewN ?_ _ | refine blk_drew ?_ | refine blk_alloc ?_ _)); refine blk_put (cs := #[.bool t148, .bool t152, .bool false]) ?_ 2 _ rfl; (with_reducible repeat (first | refine blk_drewN ?_ _ | refine blk_drew ?_ | refine blk_alloc ?_ _)); refine blk_far ?_ NB145_144.out _; (with_reducible repeat (first | refine blk_drewN ?_ _ | refine blk_drew ?_ | refine blk_alloc ?_ _)); exact BK145.out⟩
      have n4_ : Aside0 (((w72.setCell ⟨gb144, 2, none⟩ (.int .i64 t155)).setCell ⟨gb145, 2, none⟩ (.bool t156)).heap[gb146]? = some (.cells #[.int .i64 a0_0, .int .i64 a0_1] 23 (0, 0))) := ⟨pmAx9_4_⟩
      have n5_ : Aside0 (((w72.setCell ⟨gb144, 2, none⟩ (.int .i64 t155)).setCell ⟨gb145, 2, none⟩ (.bool t156)).heap[gb150]? = some (.cells #[.int .i64 a0_2, .int .i64 a0_3] 23 (0, 0))) := ⟨pmAx9_19_⟩
      have n6_ : Aside0 (((w72.setCell ⟨gb144, 2, none⟩ (.int .i64 t155)).setCell ⟨gb145, 2, none⟩ (.bool t156)).heap[gb154]? = some (.cells #[.int .i64 a0_5, .int .i64 a0_6] 23 (0, 0))) := ⟨by (with_reducible repeat (first | refine blk_drewN ?_ _ | refine blk_drew ?_ | refine blk_alloc ?_ _)); refine blk_far ?_ NB154_145.out _; (with_reducible repeat (first | refine blk_drewN ?_ _ | refine blk_drew ?_ | refine blk_alloc ?_ _)); refine blk_far ?_ NB154_144.out _; (with_reducible repeat (first | refine blk_drewN ?_ _ | refine blk_drew ?_ | refine blk_alloc ?_ _)); exact BK154.out⟩
      have n7_ : Aside0 (Below w.heap.size w ((w72.setCell ⟨gb144, 2, none⟩ (.int .i64 t155)).setCell ⟨gb145, 2, none⟩ (.bool t156))) := ⟨pmAx9_7_⟩
      (try clear BK140)
      (try clear BK141)
      (try clear BK144)
      (try clear BK145)
      (try clear BK146)
      (try clear BK150)
      (try clear BK154)
      (try clear HB)
      generalize ((w72.setCell ⟨gb144, 2, none⟩ (.int .i64 t155)).setCell ⟨gb145, 2, none⟩ (.bool t156)) = w75 at n0_ n1_ n2_ n3_ n4_ n5_ n6_ n7_ ⊢
      have BK140 := n0_
      have BK141 := n1_
      have BK144 := n2_
      have BK145 := n3_
      have BK146 := n4_
      have BK150 := n5_
      have BK154 := n6_
      have HB := n7_
      clear n0_ n1_ n2_ n3_ n4_ n5_ n6_ n7_
      replace BK140 := Aside0.mk (blk_drew BK140.out)
      replace BK141 := Aside0.mk (blk_drew BK141.out)
      replace BK144 := Aside0.mk (blk_drew BK144.out)
      replace BK145 := Aside0.mk (blk_drew BK145.out)
      replace BK146 := Aside0.mk (blk_drew BK146.out)
      replace BK150 := Aside0.mk (blk_drew BK150.out)
      replace BK154 := Aside0.mk (blk_drew BK154.out)
      replace HB := Aside0.mk (below_drew1 HB.out)
      refine start_ (n := 13) (S := fun w' => w'.cell? ⟨gb140, 0, none⟩ = some (.int .i64 a0_0) ∧ w'.cell? ⟨gb140, 1, none⟩ = some (.int .i64 a0_1) ∧ w'.cell? ⟨gb140, 2, none⟩ = some (.int .i64 a0_2) ∧ w'.cell? ⟨gb140, 3, none⟩ = some (.int .i64 a0_3) ∧ w'.cell? ⟨gb140, 4, none⟩ = some (.bool a0_4) ∧ w'.cell? ⟨gb140, 5, none⟩ = some (.int .i64 a0_5) ∧ w'.cell? ⟨gb140, 6, none⟩ = some (.int .i64 a0_6) ∧ w'.cell? ⟨gb144, 0, none⟩ = some (.int .i64 t147) ∧ w'.cell? ⟨gb144, 1, none⟩ = some (.int .i64 t151) ∧ w'.cell? ⟨gb144, 2, none⟩ = some (.int .i64 t155)) (ds := []) #[false, false, false, false, false, false, false, false, false, false, false, false, false] pmAx9_43_ rfl rfl ⟨(blk_cell BK140.out 0).trans rfl, (blk_cell BK140.out 1).trans rfl, (blk_cell BK140.out 2).trans rfl, (blk_cell BK140.out 3).trans rfl, (blk_cell BK140.out 4).trans rfl, (blk_cell BK140.out 5).trans rfl, (blk_cell BK140.out 6).trans rfl, (blk_cell BK144.out 0).trans rfl, (blk_cell BK144.out 1).trans rfl, (blk_cell BK144.out 2).trans rfl⟩ (fun hHeld => ?_); refine with_tabW base_Start.tab13 base_Start.bits13 (fun HT_ HW_ => ?_)
      generalize w75.drew = w76 at BK140 BK141 BK144 BK145 BK146 BK150 BK154 HB hHeld ⊢
      refine pure_ (i := 0) (N := some 58) (v := ?_) (a' := ?_) #[true, false, false, false, false, false, false, false, false, false, false, false, false] rfl rfl (any_of HT_.out pmAx9_43_) (fun _ _ _ h => h) (Or.inl ⟨by rfl, ?_⟩) ?_ ?_
      rotate_left
      · intro w'
        go_simp
        with_reducible rfl
      rotate_left
      · simp only [Act.put, List.setIfInBounds_toArray, List.set_cons_zero, List.set_cons_succ, i64_w, i32_w]
        rfl
      refine pure_ (i := 2) (N := some 60) (v := ?_) (a' := ?_) #[true, false, true, false, false, false, false, false, false, false, false, false, false] rfl rfl (any_of HT_.out pmAx9_43_) (fun _ _ _ h => h) (Or.inl ⟨by rfl, ?_⟩) ?_ ?_
      rotate_left
      · intro w'
        go_simp
        with_reducible rfl
      rotate_left
      · simp only [Act.put, List.setIfInBounds_toArray, List.set_cons_zero, List.set_cons_succ, i64_w, i32_w]
        rfl
      refine pure_ (i := 4) (N := some 62) (v := ?_) (a' := ?_) #[true, false, true, false, true, false, false, false, false, false, false, false, false] rfl rfl (any_of HT_.out pmAx9_43_) (fun _ _ _ h => h) (Or.inl ⟨by rfl, ?_⟩) ?_ ?_
      rotate_left
      · intro w'
        go_simp
        with_reducible rfl
      rotate_left
      · simp only [Act.put, List.setIfInBounds_toArray, List.set_cons_zero, List.set_cons_succ, i64_w, i32_w]
        rfl
      refine pure_ (i := 6) (N := some 64) (v := ?_) (a' := ?_) #[true, false, true, false, true, false, true, false, false, false, false, false, false] rfl rfl (any_of HT_.out pmAx9_43_) (fun _ _ _ h => h) (Or.inl ⟨by rfl, ?_⟩) ?_ ?_
      rotate_left
      · intro w'
        go_simp
        with_reducible rfl
      rotate_left
      · simp only [Act.put, List.setIfInBounds_toArray, List.set_cons_zero, List.set_cons_succ, i64_w, i32_w]
        rfl
      refine pure_ (i := 8) (N := some 66) (v := ?_) (a' := ?_) #[true, false, true, false, true, false, true, false, true, false, false, false, false] rfl rfl (any_of HT_.out pmAx9_43_) (fun _ _ _ h => h) (Or.inl ⟨by rfl, ?_⟩) ?_ ?_
      rotate_left
      · intro w'
        go_simp
        with_reducible rfl
      rotate_left
      · simp only [Act.put, List.setIfInBounds_toArray, List.set_cons_zero, List.set_cons_succ, i64_w, i32_w]
        rfl
      refine take_ (i := 1) (N := some 59) (v := ?_) (a' := ?_) #[true, true, true, false, true, false, true, false, true, false, false, false, false] rfl rfl (take_ofW HT_.out HW_.out pmAx9_43_) (fun _ _ _ h => h) (Or.inl ⟨by rfl, ?_⟩) hHeld ?_ ?_
      rotate_left
      · rintro w' ⟨s0, s1, s2, s3, s4, s5, s6, s7, s8, s9⟩
        go_simp
        with_reducible rfl
      rotate_left
      · simp only [Act.put, List.setIfInBounds_toArray, List.set_cons_zero, List.set_cons_succ, i64_w, i32_w]
        rfl
      refine take_ (i := 5) (N := some 63) (v := ?_) (a' := ?_) #[true, true, true, false, true, true, true, false, true, false, false, false, false] rfl rfl (take_ofW HT_.out HW_.out pmAx9_43_) (fun _ _ _ h => h) (Or.inl ⟨by rfl, ?_⟩) hHeld ?_ ?_
      rotate_left
      · rintro w' ⟨s0, s1, s2, s3, s4, s5, s6, s7, s8, s9⟩
        go_simp
        with_reducible rfl
      rotate_left
      · simp only [Act.put, List.setIfInBounds_toArray, List.set_cons_zero, List.set_cons_succ, i64_w, i32_w]
        rfl
      refine take_ (i := 9) (N := some 67) (v := ?_) (a' := ?_) #[true, true, true, false, true, true, true, false, true, true, false, false, false] rfl rfl (take_ofW HT_.out HW_.out pmAx9_43_) (fun _ _ _ h => h) (Or.inl ⟨by rfl, ?_⟩) hHeld ?_ ?_
      rotate_left
      · rintro w' ⟨s0, s1, s2, s3, s4, s5, s6, s7, s8, s9⟩
        go_simp
        with_reducible rfl
      rotate_left
      · simp only [Act.put, List.setIfInBounds_toArray, List.set_cons_zero, List.set_cons_succ, i64_w, i32_w]
        rfl
      refine join_ (σ := Nat) 1 pbAx9_0 (fun s_ => [(61, .int .i64 t158), (65, .int .i64 t159), (13, .pointer (some ⟨s_, 0, none⟩)), (68, .agg #[.int .i64 t158, .int .i64 t159, .int .i64 0, .bool false, .int .i64 0, .int .i64 t147, .int .i64 1125899906842624])]) (fun s_ w' => (w'.cell? ⟨gb140, 0, none⟩ = some (.int .i64 a0_0) ∧ w'.cell? ⟨gb140, 1, none⟩ = some (.int .i64 a0_1) ∧ w'.cell? ⟨gb140, 2, none⟩ = some (.int .i64 a0_2) ∧ w'.cell? ⟨gb140, 3, none⟩ = some (.int .i64 a0_3) ∧ w'.cell? ⟨gb140, 4, none⟩ = some (.bool a0_4) ∧ w'.cell? ⟨gb140, 5, none⟩ = some (.int .i64 a0_5) ∧ w'.cell? ⟨gb140, 6, none⟩ = some (.int .i64 a0_6) ∧ w'.cell? ⟨gb144, 0, none⟩ = some (.int .i64 t147) ∧ w'.cell? ⟨gb144, 1, none⟩ = some (.int .i64 t151) ∧ w'.cell? ⟨gb144, 2, none⟩ = some (.int .i64 t155)) ∧ (w'.heap[gb140]? = some (.cells #[.int .i64 a0_0, .int .i64 a0_1, .int .i64 a0_2, .int .i64 a0_3, .bool a0_4, .int .i64 a0_5, .int .i64 a0_6] 25 (0, 0))) ∧ (w'.heap[gb141]? = some (.cells #[.int .i64 0, .int .i64 0, .int .i64 0, .bool false, .int .i64 0, .int .i64 0, .int .i64 0] 27 (0, 0))) ∧ (w'.heap[gb144]? = some (.cells #[.int .i64 t147, .int .i64 t151, .int .i64 t155] 51 (0, 0))) ∧ (w'.heap[gb145]? = some (.cells #[.bool t148, .bool t152, .bool t156] 52 (0, 0))) ∧ (w'.heap[gb146]? = some (.cells #[.int .i64 a0_0, .int .i64 a0_1] 23 (0, 0))) ∧ (w'.heap[gb150]? = some (.cells #[.int .i64 a0_2, .int .i64 a0_3] 23 (0, 0))) ∧ (w'.heap[gb154]? = some (.cells #[.int .i64 a0_5, .int .i64 a0_6] 23 (0, 0))) ∧ (w'.heap[s_]? = some (.cells #[.int .i64 0, .int .i64 0, .int .i64 0, .bool false, .int .i64 0, .int .i64 0, .int .i64 0] 27 (0, 0))) ∧ (w.heap.size ≤ s_) ∧ (w.heap.size ≤ s_) ∧ (gb140 ≠ s_) ∧ (s_ ≠ gb140) ∧ (gb141 ≠ s_) ∧ (s_ ≠ gb141) ∧ (gb144 ≠ s_) ∧ (s_ ≠ gb144) ∧ (gb145 ≠ s_) ∧ (s_ ≠ gb145) ∧ (gb146 ≠ s_) ∧ (s_ ≠ gb146) ∧ (gb150 ≠ s_) ∧ (s_ ≠ gb150) ∧ (gb154 ≠ s_) ∧ (s_ ≠ gb154) ∧ (Below w.heap.size w w')) ?_ ?_
      rotate_left
      · intro hCont
        refine two_ (i := 3) (j := 11) (Ni := some 61) (Nj := some 13) #[true, true, true, true, true, true, true, false, true, true, false, false, false] #[true, true, true, false, true, true, true, false, true, true, false, true, false] rfl rfl rfl rfl (two_of HT_.out pmAx9_43_) (by decide) (by decide) (fun K hK => ?_) (fun K hK => ?_)
        · skip
          refine goes_ Try.func19 pmAx9_43_ rfl #[.agg #[.int .i64 a0_0, .int .i64 a0_1], .bool a2] (by rfl) rfl rfl pmAx9_14_ ?_
          with_reducible refine (base_kind.calls a0_0 a0_1 a2 t158 _ A33.out).mono ?_
          rintro e w77 ⟨rfl, hb⟩
          refine ⟨_, rfl, ?_⟩
          replace BK140 := Aside0.mk (blk_below (g := gb140) (o := poAx9_0 a0_0 a0_1 a0_2 a0_3 a0_4 a0_5 a0_6) pmAx9_0_ hb)
          replace BK141 := Aside0.mk (blk_below (g := gb141) (o := poAx9_1 0 0 0 false 0 0 0) pmAx9_1_ hb)
          replace BK144 := Aside0.mk (blk_below (g := gb144) (o := poAx9_2 t147 t151 t155) pmAx9_6_ hb)
          replace BK145 := Aside0.mk (blk_below (g := gb145) (o := poAx9_3 t148 t152 t156) pmAx9_10_ hb)
          replace BK146 := Aside0.mk (blk_below (g := gb146) (o := poAx9_4 a0_0 a0_1) pmAx9_22_ hb)
          replace BK150 := Aside0.mk (blk_below (g := gb150) (o := poAx9_4 a0_2 a0_3) pmAx9_23_ hb)
          replace BK154 := Aside0.mk (blk_below (g := gb154) (o := poAx9_4 a0_5 a0_6) pmAx9_24_ hb)
          replace HB := Aside0.mk (below_step pmAx9_7_ hb)
          (try clear hb)
          (try clear hb2)
          (try clear hk)
          (try clear hi)
          refine hK.out _ _ pmAx9_18_ (fun hHeld => ?_)
          clear hK K
          refine norm_ (a' := ?_) ?_ ?_
          rotate_left
          · show Act.put _ (some 61) _ = _
            simp only [Act.put, List.setIfInBounds_toArray, List.set_cons_zero, List.set_cons_succ, i64_w, i32_w]
            rfl
          refine two_ (i := 7) (j := 11) (Ni := some 65) (Nj := some 13) #[true, true, true, true, true, true, true, true, true, true, false, false, false] #[true, true, true, true, true, true, true, false, true, true, false, true, false] rfl rfl rfl rfl (two_of HT_.out pmAx9_43_) (by decide) (by decide) (fun K hK => ?_) (fun K hK => ?_)
          · skip
            refine goes_ Try.func19 pmAx9_43_ rfl #[.agg #[.int .i64 a0_2, .int .i64 a0_3], .bool a2] (by rfl) rfl rfl pmAx9_14_ ?_
            with_reducible refine (base_kind.calls a0_2 a0_3 a2 t159 _ A34.out).mono ?_
            rintro e w78 ⟨rfl, hb⟩
            refine ⟨_, rfl, ?_⟩
            replace BK140 := Aside0.mk (blk_below (g := gb140) (o := poAx9_0 a0_0 a0_1 a0_2 a0_3 a0_4 a0_5 a0_6) pmAx9_0_ hb)
            replace BK141 := Aside0.mk (blk_below (g := gb141) (o := poAx9_1 0 0 0 false 0 0 0) pmAx9_1_ hb)
            replace BK144 := Aside0.mk (blk_below (g := gb144) (o := poAx9_2 t147 t151 t155) pmAx9_6_ hb)
            replace BK145 := Aside0.mk (blk_below (g := gb145) (o := poAx9_3 t148 t152 t156) pmAx9_10_ hb)
            replace BK146 := Aside0.mk (blk_below (g := gb146) (o := poAx9_4 a0_0 a0_1) pmAx9_22_ hb)
            replace BK150 := Aside0.mk (blk_below (g := gb150) (o := poAx9_4 a0_2 a0_3) pmAx9_23_ hb)
            replace BK154 := Aside0.mk (blk_below (g := gb154) (o := poAx9_4 a0_5 a0_6) pmAx9_24_ hb)
            replace HB := Aside0.mk (below_step pmAx9_7_ hb)
            (try clear hb)
            (try clear hb2)
            (try clear hk)
            (try clear hi)
            refine hK.out _ _ pmAx9_18_ (fun hHeld => ?_)
            clear hK K
            refine norm_ (a' := ?_) ?_ ?_
            rotate_left
            · show Act.put _ (some 65) _ = _
              simp only [Act.put, List.setIfInBounds_toArray, List.set_cons_zero, List.set_cons_succ, i64_w, i32_w]
              rfl
            refine pure_ (i := 10) (N := some 68) (v := ?_) (a' := ?_) #[true, true, true, true, true, true, true, true, true, true, true, false, false] rfl rfl (any_of HT_.out pmAx9_43_) (fun _ _ _ h => h) (Or.inl ⟨by rfl, ?_⟩) ?_ ?_
            rotate_left
            · intro w'
              go_simp
              with_reducible rfl
            rotate_left
            · simp only [Act.put, List.setIfInBounds_toArray, List.set_cons_zero, List.set_cons_succ, i64_w, i32_w]
              rfl
            refine one_ (i := 11) (N := some 13) pbAx9_0 rfl rfl (one_of HT_.out pmAx9_43_) (by decide) (fun K hK => ?_)
            refine box_step ?hg (N := 13) ?hd (cs := #[.int .i64 0, .int .i64 0, .int .i64 0, .bool false, .int .i64 0, .int .i64 0, .int .i64 0]) (t := 27) ?hr ?_; (case hd => rfl); (case hg => rfl); (case hr => first | (go_simp; done) | (go_simp; rfl))
            intro gb160 hg w79 hbox hb
            have n0_ := Aside0.mk (blk_below (g := gb140) (o := poAx9_0 a0_0 a0_1 a0_2 a0_3 a0_4 a0_5 a0_6) pmAx9_0_ hb)
            have n1_ := Aside0.mk (blk_below (g := gb141) (o := poAx9_1 0 0 0 false 0 0 0) pmAx9_1_ hb)
            have n2_ := Aside0.mk (blk_below (g := gb144) (o := poAx9_2 t147 t151 t155) pmAx9_6_ hb)
            have n3_ := Aside0.mk (blk_below (g := gb145) (o := poAx9_3 t148 t152 t156) pmAx9_10_ hb)
            have n4_ := Aside0.mk (blk_below (g := gb146) (o := poAx9_4 a0_0 a0_1) pmAx9_22_ hb)
            have n5_ := Aside0.mk (blk_below (g := gb150) (o := poAx9_4 a0_2 a0_3) pmAx9_23_ hb)
            have n6_ := Aside0.mk (blk_below (g := gb154) (o := poAx9_4 a0_5 a0_6) pmAx9_24_ hb)
            have n7_ := Aside0.mk (below_step pmAx9_7_ hb)
            have n8_ := Aside0.mk (hbox)
            have n9_ := Aside0.mk ((by rw [hg]; exact (below_size pmAx9_7_) : w.heap.size ≤ gb160))
            have n10_ := Aside0.mk ((by rw [hg]; exact (below_size pmAx9_7_) : w.heap.size ≤ gb160))
            have n11_ := Aside0.mk ((pmAx9_25_ : gb140 ≠ gb160))
            have n12_ := Aside0.mk ((pmAx9_26_ : gb160 ≠ gb140))
            have n13_ := Aside0.mk ((pmAx9_28_ : gb141 ≠ gb160))
            have n14_ := Aside0.mk ((pmAx9_29_ : gb160 ≠ gb141))
            have n15_ := Aside0.mk ((by rw [hg]; exact Nat.ne_of_lt (blk_lt (g := gb144) (o := poAx9_2 t147 t151 t155) pmAx9_6_) : gb144 ≠ gb160))
            have n16_ := Aside0.mk ((by rw [hg]; exact Nat.ne_of_gt (blk_lt (g := gb144) (o := poAx9_2 t147 t151 t155) pmAx9_6_) : gb160 ≠ gb144))
            have n17_ := Aside0.mk ((by rw [hg]; exact Nat.ne_of_lt (blk_lt (g := gb145) (o := poAx9_3 t148 t152 t156) pmAx9_10_) : gb145 ≠ gb160))
            have n18_ := Aside0.mk ((by rw [hg]; exact Nat.ne_of_gt (blk_lt (g := gb145) (o := poAx9_3 t148 t152 t156) pmAx9_10_) : gb160 ≠ gb145))
            have n19_ := Aside0.mk ((by rw [hg]; exact Nat.ne_of_lt (blk_lt (g := gb146) (o := poAx9_4 a0_0 a0_1) pmAx9_22_) : gb146 ≠ gb160))
            have n20_ := Aside0.mk ((by rw [hg]; exact Nat.ne_of_gt (blk_lt (g := gb146) (o := poAx9_4 a0_0 a0_1) pmAx9_22_) : gb160 ≠ gb146))
            have n21_ := Aside0.mk ((by rw [hg]; exact Nat.ne_of_lt (blk_lt (g := gb150) (o := poAx9_4 a0_2 a0_3) pmAx9_23_) : gb150 ≠ gb160))
            have n22_ := Aside0.mk ((by rw [hg]; exact Nat.ne_of_gt (blk_lt (g := gb150) (o := poAx9_4 a0_2 a0_3) pmAx9_23_) : gb160 ≠ gb150))
            have n23_ := Aside0.mk ((by rw [hg]; exact Nat.ne_of_lt (blk_lt (g := gb154) (o := poAx9_4 a0_5 a0_6) pmAx9_24_) : gb154 ≠ gb160))
            have n24_ := Aside0.mk ((by rw [hg]; exact Nat.ne_of_gt (blk_lt (g := gb154) (o := poAx9_4 a0_5 a0_6) pmAx9_24_) : gb160 ≠ gb154))
            clear BK140 BK141 BK144 BK145 BK146 BK150 BK154 HB
            have BK140 := n0_
            have BK141 := n1_
            have BK144 := n2_
            have BK145 := n3_
            have BK146 := n4_
            have BK150 := n5_
            have BK154 := n6_
            have HB := n7_
            have BK160 := n8_
            have GW160 := n9_
            have GE160 := n10_
            have NB140_160 := n11_
            have NB160_140 := n12_
            have NB141_160 := n13_
            have NB160_141 := n14_
            have NB144_160 := n15_
            have NB160_144 := n16_
            have NB145_160 := n17_
            have NB160_145 := n18_
            have NB146_160 := n19_
            have NB160_146 := n20_
            have NB150_160 := n21_
            have NB160_150 := n22_
            have NB154_160 := n23_
            have NB160_154 := n24_
            clear n0_ n1_ n2_ n3_ n4_ n5_ n6_ n7_ n8_ n9_ n10_ n11_ n12_ n13_ n14_ n15_ n16_ n17_ n18_ n19_ n20_ n21_ n22_ n23_ n24_ hb hbox hg
            refine hK.out _ _ pmAx9_18_ (fun hHeld => ?_)
            clear hK K
            refine norm_ (a' := ?_) ?_ ?_
            rotate_left
            · show Act.put _ (some 13) _ = _
              simp only [Act.put, List.setIfInBounds_toArray, List.set_cons_zero, List.set_cons_succ, i64_w, i32_w]
              rfl
            exact norm_ (by simp only [putAll, Act.put, List.setIfInBounds_toArray, List.set_cons_zero, List.set_cons_succ]) (hCont (gb160) _ ⟨hHeld, pmAx9_0_, pmAx9_1_, pmAx9_6_, pmAx9_10_, pmAx9_22_, pmAx9_23_, pmAx9_24_, pmAx9_35_, GW160.out, GE160.out, NB140_160.out, NB160_140.out, NB141_160.out, NB160_141.out, NB144_160.out, NB160_144.out, NB145_160.out, NB160_145.out, NB146_160.out, NB160_146.out, NB150_160.out, NB160_150.out, NB154_160.out, NB160_154.out, pmAx9_5_⟩)
          · skip
            refine box_step ?hg (N := 13) ?hd (cs := #[.int .i64 0, .int .i64 0, .int .i64 0, .bool false, .int .i64 0, .int .i64 0, .int .i64 0]) (t := 27) ?hr ?_; (case hd => rfl); (case hg => rfl); (case hr => first | (go_simp; done) | (go_simp; rfl))
            intro gb160 hg w78 hbox hb
            have n0_ := Aside0.mk (blk_below (g := gb140) (o := poAx9_0 a0_0 a0_1 a0_2 a0_3 a0_4 a0_5 a0_6) pmAx9_0_ hb)
            have n1_ := Aside0.mk (blk_below (g := gb141) (o := poAx9_1 0 0 0 false 0 0 0) pmAx9_1_ hb)
            have n2_ := Aside0.mk (blk_below (g := gb144) (o := poAx9_2 t147 t151 t155) pmAx9_6_ hb)
            have n3_ := Aside0.mk (blk_below (g := gb145) (o := poAx9_3 t148 t152 t156) pmAx9_10_ hb)
            have n4_ := Aside0.mk (blk_below (g := gb146) (o := poAx9_4 a0_0 a0_1) pmAx9_22_ hb)
            have n5_ := Aside0.mk (blk_below (g := gb150) (o := poAx9_4 a0_2 a0_3) pmAx9_23_ hb)
            have n6_ := Aside0.mk (blk_below (g := gb154) (o := poAx9_4 a0_5 a0_6) pmAx9_24_ hb)
            have n7_ := Aside0.mk (below_step pmAx9_7_ hb)
            have n8_ := Aside0.mk (hbox)
            have n9_ := Aside0.mk ((by rw [hg]; exact (below_size pmAx9_7_) : w.heap.size ≤ gb160))
            have n10_ := Aside0.mk ((by rw [hg]; exact (below_size pmAx9_7_) : w.heap.size ≤ gb160))
            have n11_ := Aside0.mk ((pmAx9_25_ : gb140 ≠ gb160))
            have n12_ := Aside0.mk ((pmAx9_26_ : gb160 ≠ gb140))
            have n13_ := Aside0.mk ((pmAx9_28_ : gb141 ≠ gb160))
            have n14_ := Aside0.mk ((pmAx9_29_ : gb160 ≠ gb141))
            have n15_ := Aside0.mk ((by rw [hg]; exact Nat.ne_of_lt (blk_lt (g := gb144) (o := poAx9_2 t147 t151 t155) pmAx9_6_) : gb144 ≠ gb160))
            have n16_ := Aside0.mk ((by rw [hg]; exact Nat.ne_of_gt (blk_lt (g := gb144) (o := poAx9_2 t147 t151 t155) pmAx9_6_) : gb160 ≠ gb144))
            have n17_ := Aside0.mk ((by rw [hg]; exact Nat.ne_of_lt (blk_lt (g := gb145) (o := poAx9_3 t148 t152 t156) pmAx9_10_) : gb145 ≠ gb160))
            have n18_ := Aside0.mk ((by rw [hg]; exact Nat.ne_of_gt (blk_lt (g := gb145) (o := poAx9_3 t148 t152 t156) pmAx9_10_) : gb160 ≠ gb145))
            have n19_ := Aside0.mk ((by rw [hg]; exact Nat.ne_of_lt (blk_lt (g := gb146) (o := poAx9_4 a0_0 a0_1) pmAx9_22_) : gb146 ≠ gb160))
            have n20_ := Aside0.mk ((by rw [hg]; exact Nat.ne_of_gt (blk_lt (g := gb146) (o := poAx9_4 a0_0 a0_1) pmAx9_22_) : gb160 ≠ gb146))
            have n21_ := Aside0.mk ((by rw [hg]; exact Nat.ne_of_lt (blk_lt (g := gb150) (o := poAx9_4 a0_2 a0_3) pmAx9_23_) : gb150 ≠ gb160))
            have n22_ := Aside0.mk ((by rw [hg]; exact Nat.ne_of_gt (blk_lt (g := gb150) (o := poAx9_4 a0_2 a0_3) pmAx9_23_) : gb160 ≠ gb150))
            have n23_ := Aside0.mk ((by rw [hg]; exact Nat.ne_of_lt (blk_lt (g := gb154) (o := poAx9_4 a0_5 a0_6) pmAx9_24_) : gb154 ≠ gb160))
            have n24_ := Aside0.mk ((by rw [hg]; exact Nat.ne_of_gt (blk_lt (g := gb154) (o := poAx9_4 a0_5 a0_6) pmAx9_24_) : gb160 ≠ gb154))
            clear BK140 BK141 BK144 BK145 BK146 BK150 BK154 HB
            have BK140 := n0_
            have BK141 := n1_
            have BK144 := n2_
            have BK145 := n3_
            have BK146 := n4_
            have BK150 := n5_
            have BK154 := n6_
            have HB := n7_
            have BK160 := n8_
            have GW160 := n9_
            have GE160 := n10_
            have NB140_160 := n11_
            have NB160_140 := n12_
            have NB141_160 := n13_
            have NB160_141 := n14_
            have NB144_160 := n15_
            have NB160_144 := n16_
            have NB145_160 := n17_
            have NB160_145 := n18_
            have NB146_160 := n19_
            have NB160_146 := n20_
            have NB150_160 := n21_
            have NB160_150 := n22_
            have NB154_160 := n23_
            have NB160_154 := n24_
            clear n0_ n1_ n2_ n3_ n4_ n5_ n6_ n7_ n8_ n9_ n10_ n11_ n12_ n13_ n14_ n15_ n16_ n17_ n18_ n19_ n20_ n21_ n22_ n23_ n24_ hb hbox hg
            refine hK.out _ _ pmAx9_18_ (fun hHeld => ?_)
            clear hK K
            refine norm_ (a' := ?_) ?_ ?_
            rotate_left
            · show Act.put _ (some 13) _ = _
              simp only [Act.put, List.setIfInBounds_toArray, List.set_cons_zero, List.set_cons_succ, i64_w, i32_w]
              rfl
            refine one_ (i := 7) (N := some 65) #[true, true, true, true, true, true, true, true, true, true, false, true, false] rfl rfl (one_of HT_.out pmAx9_43_) (by decide) (fun K hK => ?_)
            refine goes_ Try.func19 pmAx9_43_ rfl #[.agg #[.int .i64 a0_2, .int .i64 a0_3], .bool a2] (by rfl) rfl rfl pmAx9_14_ ?_
            with_reducible refine (base_kind.calls a0_2 a0_3 a2 t159 _ A34.out).mono ?_
            rintro e w79 ⟨rfl, hb⟩
            refine ⟨_, rfl, ?_⟩
            replace BK140 := Aside0.mk (blk_below (g := gb140) (o := poAx9_0 a0_0 a0_1 a0_2 a0_3 a0_4 a0_5 a0_6) pmAx9_0_ hb)
            replace BK141 := Aside0.mk (blk_below (g := gb141) (o := poAx9_1 0 0 0 false 0 0 0) pmAx9_1_ hb)
            replace BK144 := Aside0.mk (blk_below (g := gb144) (o := poAx9_2 t147 t151 t155) pmAx9_6_ hb)
            replace BK145 := Aside0.mk (blk_below (g := gb145) (o := poAx9_3 t148 t152 t156) pmAx9_10_ hb)
            replace BK146 := Aside0.mk (blk_below (g := gb146) (o := poAx9_4 a0_0 a0_1) pmAx9_22_ hb)
            replace BK150 := Aside0.mk (blk_below (g := gb150) (o := poAx9_4 a0_2 a0_3) pmAx9_23_ hb)
            replace BK154 := Aside0.mk (blk_below (g := gb154) (o := poAx9_4 a0_5 a0_6) pmAx9_24_ hb)
            replace BK160 := Aside0.mk (blk_below (g := gb160) (o := poAx9_1 0 0 0 false 0 0 0) pmAx9_35_ hb)
            replace HB := Aside0.mk (below_step pmAx9_5_ hb)
            (try clear hb)
            (try clear hb2)
            (try clear hk)
            (try clear hi)
            refine hK.out _ _ pmAx9_18_ (fun hHeld => ?_)
            clear hK K
            refine norm_ (a' := ?_) ?_ ?_
            rotate_left
            · show Act.put _ (some 65) _ = _
              simp only [Act.put, List.setIfInBounds_toArray, List.set_cons_zero, List.set_cons_succ, i64_w, i32_w]
              rfl
            refine pure_ (i := 10) (N := some 68) (v := ?_) (a' := ?_) pbAx9_0 rfl rfl (any_of HT_.out pmAx9_43_) (fun _ _ _ h => h) (Or.inl ⟨by rfl, ?_⟩) ?_ ?_
            rotate_left
            · intro w'
              go_simp
              with_reducible rfl
            rotate_left
            · simp only [Act.put, List.setIfInBounds_toArray, List.set_cons_zero, List.set_cons_succ, i64_w, i32_w]
              rfl
            exact norm_ (by simp only [putAll, Act.put, List.setIfInBounds_toArray, List.set_cons_zero, List.set_cons_succ]) (hCont (gb160) _ ⟨hHeld, pmAx9_0_, pmAx9_1_, pmAx9_6_, pmAx9_10_, pmAx9_22_, pmAx9_23_, pmAx9_24_, pmAx9_35_, GW160.out, GE160.out, NB140_160.out, NB160_140.out, NB141_160.out, NB160_141.out, NB144_160.out, NB160_144.out, NB145_160.out, NB160_145.out, NB146_160.out, NB160_146.out, NB150_160.out, NB160_150.out, NB154_160.out, NB160_154.out, pmAx9_5_⟩)
        · skip
          refine box_step ?hg (N := 13) ?hd (cs := #[.int .i64 0, .int .i64 0, .int .i64 0, .bool false, .int .i64 0, .int .i64 0, .int .i64 0]) (t := 27) ?hr ?_; (case hd => rfl); (case hg => rfl); (case hr => first | (go_simp; done) | (go_simp; rfl))
          intro gb160 hg w77 hbox hb
          have n0_ := Aside0.mk (blk_below (g := gb140) (o := poAx9_0 a0_0 a0_1 a0_2 a0_3 a0_4 a0_5 a0_6) pmAx9_0_ hb)
          have n1_ := Aside0.mk (blk_below (g := gb141) (o := poAx9_1 0 0 0 false 0 0 0) pmAx9_1_ hb)
          have n2_ := Aside0.mk (blk_below (g := gb144) (o := poAx9_2 t147 t151 t155) pmAx9_6_ hb)
          have n3_ := Aside0.mk (blk_below (g := gb145) (o := poAx9_3 t148 t152 t156) pmAx9_10_ hb)
          have n4_ := Aside0.mk (blk_below (g := gb146) (o := poAx9_4 a0_0 a0_1) pmAx9_22_ hb)
          have n5_ := Aside0.mk (blk_below (g := gb150) (o := poAx9_4 a0_2 a0_3) pmAx9_23_ hb)
          have n6_ := Aside0.mk (blk_below (g := gb154) (o := poAx9_4 a0_5 a0_6) pmAx9_24_ hb)
          have n7_ := Aside0.mk (below_step pmAx9_7_ hb)
          have n8_ := Aside0.mk (hbox)
          have n9_ := Aside0.mk ((by rw [hg]; exact (below_size pmAx9_7_) : w.heap.size ≤ gb160))
          have n10_ := Aside0.mk ((by rw [hg]; exact (below_size pmAx9_7_) : w.heap.size ≤ gb160))
          have n11_ := Aside0.mk ((pmAx9_25_ : gb140 ≠ gb160))
          have n12_ := Aside0.mk ((pmAx9_26_ : gb160 ≠ gb140))
          have n13_ := Aside0.mk ((pmAx9_28_ : gb141 ≠ gb160))
          have n14_ := Aside0.mk ((pmAx9_29_ : gb160 ≠ gb141))
          have n15_ := Aside0.mk ((by rw [hg]; exact Nat.ne_of_lt (blk_lt (g := gb144) (o := poAx9_2 t147 t151 t155) pmAx9_6_) : gb144 ≠ gb160))
          have n16_ := Aside0.mk ((by rw [hg]; exact Nat.ne_of_gt (blk_lt (g := gb144) (o := poAx9_2 t147 t151 t155) pmAx9_6_) : gb160 ≠ gb144))
          have n17_ := Aside0.mk ((by rw [hg]; exact Nat.ne_of_lt (blk_lt (g := gb145) (o := poAx9_3 t148 t152 t156) pmAx9_10_) : gb145 ≠ gb160))
          have n18_ := Aside0.mk ((by rw [hg]; exact Nat.ne_of_gt (blk_lt (g := gb145) (o := poAx9_3 t148 t152 t156) pmAx9_10_) : gb160 ≠ gb145))
          have n19_ := Aside0.mk ((by rw [hg]; exact Nat.ne_of_lt (blk_lt (g := gb146) (o := poAx9_4 a0_0 a0_1) pmAx9_22_) : gb146 ≠ gb160))
          have n20_ := Aside0.mk ((by rw [hg]; exact Nat.ne_of_gt (blk_lt (g := gb146) (o := poAx9_4 a0_0 a0_1) pmAx9_22_) : gb160 ≠ gb146))
          have n21_ := Aside0.mk ((by rw [hg]; exact Nat.ne_of_lt (blk_lt (g := gb150) (o := poAx9_4 a0_2 a0_3) pmAx9_23_) : gb150 ≠ gb160))
          have n22_ := Aside0.mk ((by rw [hg]; exact Nat.ne_of_gt (blk_lt (g := gb150) (o := poAx9_4 a0_2 a0_3) pmAx9_23_) : gb160 ≠ gb150))
          have n23_ := Aside0.mk ((by rw [hg]; exact Nat.ne_of_lt (blk_lt (g := gb154) (o := poAx9_4 a0_5 a0_6) pmAx9_24_) : gb154 ≠ gb160))
          have n24_ := Aside0.mk ((by rw [hg]; exact Nat.ne_of_gt (blk_lt (g := gb154) (o := poAx9_4 a0_5 a0_6) pmAx9_24_) : gb160 ≠ gb154))
          clear BK140 BK141 BK144 BK145 BK146 BK150 BK154 HB
          have BK140 := n0_
          have BK141 := n1_
          have BK144 := n2_
          have BK145 := n3_
          have BK146 := n4_
          have BK150 := n5_
          have BK154 := n6_
          have HB := n7_
          have BK160 := n8_
          have GW160 := n9_
          have GE160 := n10_
          have NB140_160 := n11_
          have NB160_140 := n12_
          have NB141_160 := n13_
          have NB160_141 := n14_
          have NB144_160 := n15_
          have NB160_144 := n16_
          have NB145_160 := n17_
          have NB160_145 := n18_
          have NB146_160 := n19_
          have NB160_146 := n20_
          have NB150_160 := n21_
          have NB160_150 := n22_
          have NB154_160 := n23_
          have NB160_154 := n24_
          clear n0_ n1_ n2_ n3_ n4_ n5_ n6_ n7_ n8_ n9_ n10_ n11_ n12_ n13_ n14_ n15_ n16_ n17_ n18_ n19_ n20_ n21_ n22_ n23_ n24_ hb hbox hg
          refine hK.out _ _ pmAx9_18_ (fun hHeld => ?_)
          clear hK K
          refine norm_ (a' := ?_) ?_ ?_
          rotate_left
          · show Act.put _ (some 13) _ = _
            simp only [Act.put, List.setIfInBounds_toArray, List.set_cons_zero, List.set_cons_succ, i64_w, i32_w]
            rfl
          refine one_ (i := 3) (N := some 61) #[true, true, true, true, true, true, true, false, true, true, false, true, false] rfl rfl (one_of HT_.out pmAx9_43_) (by decide) (fun K hK => ?_)
          refine goes_ Try.func19 pmAx9_43_ rfl #[.agg #[.int .i64 a0_0, .int .i64 a0_1], .bool a2] (by rfl) rfl rfl pmAx9_14_ ?_
          with_reducible refine (base_kind.calls a0_0 a0_1 a2 t158 _ A33.out).mono ?_
          rintro e w78 ⟨rfl, hb⟩
          refine ⟨_, rfl, ?_⟩
          replace BK140 := Aside0.mk (blk_below (g := gb140) (o := poAx9_0 a0_0 a0_1 a0_2 a0_3 a0_4 a0_5 a0_6) pmAx9_0_ hb)
          replace BK141 := Aside0.mk (blk_below (g := gb141) (o := poAx9_1 0 0 0 false 0 0 0) pmAx9_1_ hb)
          replace BK144 := Aside0.mk (blk_below (g := gb144) (o := poAx9_2 t147 t151 t155) pmAx9_6_ hb)
          replace BK145 := Aside0.mk (blk_below (g := gb145) (o := poAx9_3 t148 t152 t156) pmAx9_10_ hb)
          replace BK146 := Aside0.mk (blk_below (g := gb146) (o := poAx9_4 a0_0 a0_1) pmAx9_22_ hb)
          replace BK150 := Aside0.mk (blk_below (g := gb150) (o := poAx9_4 a0_2 a0_3) pmAx9_23_ hb)
          replace BK154 := Aside0.mk (blk_below (g := gb154) (o := poAx9_4 a0_5 a0_6) pmAx9_24_ hb)
          replace BK160 := Aside0.mk (blk_below (g := gb160) (o := poAx9_1 0 0 0 false 0 0 0) pmAx9_35_ hb)
          replace HB := Aside0.mk (below_step pmAx9_5_ hb)
          (try clear hb)
          (try clear hb2)
          (try clear hk)
          (try clear hi)
          refine hK.out _ _ pmAx9_18_ (fun hHeld => ?_)
          clear hK K
          refine norm_ (a' := ?_) ?_ ?_
          rotate_left
          · show Act.put _ (some 61) _ = _
            simp only [Act.put, List.setIfInBounds_toArray, List.set_cons_zero, List.set_cons_succ, i64_w, i32_w]
            rfl
          refine one_ (i := 7) (N := some 65) #[true, true, true, true, true, true, true, true, true, true, false, true, false] rfl rfl (one_of HT_.out pmAx9_43_) (by decide) (fun K hK => ?_)
          refine goes_ Try.func19 pmAx9_43_ rfl #[.agg #[.int .i64 a0_2, .int .i64 a0_3], .bool a2] (by rfl) rfl rfl pmAx9_14_ ?_
          with_reducible refine (base_kind.calls a0_2 a0_3 a2 t159 _ A34.out).mono ?_
          rintro e w79 ⟨rfl, hb⟩
          refine ⟨_, rfl, ?_⟩
          replace BK140 := Aside0.mk (blk_below (g := gb140) (o := poAx9_0 a0_0 a0_1 a0_2 a0_3 a0_4 a0_5 a0_6) pmAx9_0_ hb)
          replace BK141 := Aside0.mk (blk_below (g := gb141) (o := poAx9_1 0 0 0 false 0 0 0) pmAx9_1_ hb)
          replace BK144 := Aside0.mk (blk_below (g := gb144) (o := poAx9_2 t147 t151 t155) pmAx9_6_ hb)
          replace BK145 := Aside0.mk (blk_below (g := gb145) (o := poAx9_3 t148 t152 t156) pmAx9_10_ hb)
          replace BK146 := Aside0.mk (blk_below (g := gb146) (o := poAx9_4 a0_0 a0_1) pmAx9_22_ hb)
          replace BK150 := Aside0.mk (blk_below (g := gb150) (o := poAx9_4 a0_2 a0_3) pmAx9_23_ hb)
          replace BK154 := Aside0.mk (blk_below (g := gb154) (o := poAx9_4 a0_5 a0_6) pmAx9_24_ hb)
          replace BK160 := Aside0.mk (blk_below (g := gb160) (o := poAx9_1 0 0 0 false 0 0 0) pmAx9_35_ hb)
          replace HB := Aside0.mk (below_step pmAx9_5_ hb)
          (try clear hb)
          (try clear hb2)
          (try clear hk)
          (try clear hi)
          refine hK.out _ _ pmAx9_18_ (fun hHeld => ?_)
          clear hK K
          refine norm_ (a' := ?_) ?_ ?_
          rotate_left
          · show Act.put _ (some 65) _ = _
            simp only [Act.put, List.setIfInBounds_toArray, List.set_cons_zero, List.set_cons_succ, i64_w, i32_w]
            rfl
          refine pure_ (i := 10) (N := some 68) (v := ?_) (a' := ?_) pbAx9_0 rfl rfl (any_of HT_.out pmAx9_43_) (fun _ _ _ h => h) (Or.inl ⟨by rfl, ?_⟩) ?_ ?_
          rotate_left
          · intro w'
            go_simp
            with_reducible rfl
          rotate_left
          · simp only [Act.put, List.setIfInBounds_toArray, List.set_cons_zero, List.set_cons_succ, i64_w, i32_w]
            rfl
          exact norm_ (by simp only [putAll, Act.put, List.setIfInBounds_toArray, List.set_cons_zero, List.set_cons_succ]) (hCont (gb160) _ ⟨hHeld, pmAx9_0_, pmAx9_1_, pmAx9_6_, pmAx9_10_, pmAx9_22_, pmAx9_23_, pmAx9_24_, pmAx9_35_, GW160.out, GE160.out, NB140_160.out, NB160_140.out, NB141_160.out, NB160_141.out, NB144_160.out, NB160_144.out, NB145_160.out, NB160_145.out, NB146_160.out, NB160_146.out, NB150_160.out, NB160_150.out, NB154_160.out, NB160_154.out, pmAx9_5_⟩)
      rintro gb160 w80 ⟨hS_, h0_, h1_, h2_, h3_, h4_, h5_, h6_, h7_, h8_, h9_, h10_, h11_, h12_, h13_, h14_, h15_, h16_, h17_, h18_, h19_, h20_, h21_, h22_, h23_, h24_⟩
      have n0_ : Aside0 (w80.heap[gb140]? = some (.cells #[.int .i64 a0_0, .int .i64 a0_1, .int .i64 a0_2, .int .i64 a0_3, .bool a0_4, .int .i64 a0_5, .int .i64 a0_6] 25 (0, 0))) := ⟨h0_⟩
      have n1_ : Aside0 (w80.heap[gb141]? = some (.cells #[.int .i64 0, .int .i64 0, .int .i64 0, .bool false, .int .i64 0, .int .i64 0, .int .i64 0] 27 (0, 0))) := ⟨h1_⟩
      have n2_ : Aside0 (w80.heap[gb144]? = some (.cells #[.int .i64 t147, .int .i64 t151, .int .i64 t155] 51 (0, 0))) := ⟨h2_⟩
      have n3_ : Aside0 (w80.heap[gb145]? = some (.cells #[.bool t148, .bool t152, .bool t156] 52 (0, 0))) := ⟨h3_⟩
      have n4_ : Aside0 (w80.heap[gb146]? = some (.cells #[.int .i64 a0_0, .int .i64 a0_1] 23 (0, 0))) := ⟨h4_⟩
      have n5_ : Aside0 (w80.heap[gb150]? = some (.cells #[.int .i64 a0_2, .int .i64 a0_3] 23 (0, 0))) := ⟨h5_⟩
      have n6_ : Aside0 (w80.heap[gb154]? = some (.cells #[.int .i64 a0_5, .int .i64 a0_6] 23 (0, 0))) := ⟨h6_⟩
      have n7_ : Aside0 (w80.heap[gb160]? = some (.cells #[.int .i64 0, .int .i64 0, .int .i64 0, .bool false, .int .i64 0, .int .i64 0, .int .i64 0] 27 (0, 0))) := ⟨h7_⟩
      have n8_ : Aside0 (w.heap.size ≤ gb160) := ⟨h8_⟩
      have n9_ : Aside0 (w.heap.size ≤ gb160) := ⟨h9_⟩
      have n10_ : Aside0 (gb140 ≠ gb160) := ⟨h10_⟩
      have n11_ : Aside0 (gb160 ≠ gb140) := ⟨h11_⟩
      have n12_ : Aside0 (gb141 ≠ gb160) := ⟨h12_⟩
      have n13_ : Aside0 (gb160 ≠ gb141) := ⟨h13_⟩
      have n14_ : Aside0 (gb144 ≠ gb160) := ⟨h14_⟩
      have n15_ : Aside0 (gb160 ≠ gb144) := ⟨h15_⟩
      have n16_ : Aside0 (gb145 ≠ gb160) := ⟨h16_⟩
      have n17_ : Aside0 (gb160 ≠ gb145) := ⟨h17_⟩
      have n18_ : Aside0 (gb146 ≠ gb160) := ⟨h18_⟩
      have n19_ : Aside0 (gb160 ≠ gb146) := ⟨h19_⟩
      have n20_ : Aside0 (gb150 ≠ gb160) := ⟨h20_⟩
      have n21_ : Aside0 (gb160 ≠ gb150) := ⟨h21_⟩
      have n22_ : Aside0 (gb154 ≠ gb160) := ⟨h22_⟩
      have n23_ : Aside0 (gb160 ≠ gb154) := ⟨h23_⟩
      have n24_ : Aside0 (Below w.heap.size w w80) := ⟨h24_⟩
      clear BK140 BK141 BK144 BK145 BK146 BK150 BK154 HB h0_ h1_ h2_ h3_ h4_ h5_ h6_ h7_ h8_ h9_ h10_ h11_ h12_ h13_ h14_ h15_ h16_ h17_ h18_ h19_ h20_ h21_ h22_ h23_ h24_
      have BK140 := n0_
      have BK141 := n1_
      have BK144 := n2_
      have BK145 := n3_
      have BK146 := n4_
      have BK150 := n5_
      have BK154 := n6_
      have BK160 := n7_
      have GW160 := n8_
      have GE160 := n9_
      have NB140_160 := n10_
      have NB160_140 := n11_
      have NB141_160 := n12_
      have NB160_141 := n13_
      have NB144_160 := n14_
      have NB160_144 := n15_
      have NB145_160 := n16_
      have NB160_145 := n17_
      have NB146_160 := n18_
      have NB160_146 := n19_
      have NB150_160 := n20_
      have NB160_150 := n21_
      have NB154_160 := n22_
      have NB160_154 := n23_
      have HB := n24_
      clear n0_ n1_ n2_ n3_ n4_ n5_ n6_ n7_ n8_ n9_ n10_ n11_ n12_ n13_ n14_ n15_ n16_ n17_ n18_ n19_ n20_ n21_ n22_ n23_ n24_
      have hHeld : w80.cell? ⟨gb140, 0, none⟩ = some (.int .i64 a0_0) ∧ w80.cell? ⟨gb140, 1, none⟩ = some (.int .i64 a0_1) ∧ w80.cell? ⟨gb140, 2, none⟩ = some (.int .i64 a0_2) ∧ w80.cell? ⟨gb140, 3, none⟩ = some (.int .i64 a0_3) ∧ w80.cell? ⟨gb140, 4, none⟩ = some (.bool a0_4) ∧ w80.cell? ⟨gb140, 5, none⟩ = some (.int .i64 a0_5) ∧ w80.cell? ⟨gb140, 6, none⟩ = some (.int .i64 a0_6) ∧ w80.cell? ⟨gb144, 0, none⟩ = some (.int .i64 t147) ∧ w80.cell? ⟨gb144, 1, none⟩ = some (.int .i64 t151) ∧ w80.cell? ⟨gb144, 2, none⟩ = some (.int .i64 t155) := hS_
      refine norm_ (a' := ?_) ?_ ?_
      rotate_left
      · simp only [putAll, Act.put, List.setIfInBounds_toArray, List.set_cons_zero, List.set_cons_succ]
        rfl
      refine one_ (i := 12) (N := none) #[true, true, true, true, true, true, true, true, true, true, true, true, true] rfl rfl (one_of HT_.out pmAx9_43_) (by decide) (fun K hK => ?_)
      have hs81 : w80.cell? ⟨gb160, 0, none⟩ = some (.int .i64 0) := (blk_cell BK160.out 0).trans rfl
      have hfs81 := blk_frozen BK160.out 0
      have hns81_0 := NB140_160.out
      have hns81_1 := NB141_160.out
      have hns81_2 := NB144_160.out
      have hns81_3 := NB145_160.out
      have hns81_4 := NB146_160.out
      have hns81_5 := NB150_160.out
      have hns81_6 := NB154_160.out
      have hms81_0 := NB160_140.out
      have hms81_1 := NB160_141.out
      have hms81_2 := NB160_144.out
      have hms81_3 := NB160_145.out
      have hms81_4 := NB160_146.out
      have hms81_5 := NB160_150.out
      have hms81_6 := NB160_154.out
      have hs82 : w80.cell? ⟨gb160, 1, none⟩ = some (.int .i64 0) := (blk_cell BK160.out 1).trans rfl
      have hfs82 := blk_frozen BK160.out 1
      have hns82_0 := NB140_160.out
      have hns82_1 := NB141_160.out
      have hns82_2 := NB144_160.out
      have hns82_3 := NB145_160.out
      have hns82_4 := NB146_160.out
      have hns82_5 := NB150_160.out
      have hns82_6 := NB154_160.out
      have hms82_0 := NB160_140.out
      have hms82_1 := NB160_141.out
      have hms82_2 := NB160_144.out
      have hms82_3 := NB160_145.out
      have hms82_4 := NB160_146.out
      have hms82_5 := NB160_150.out
      have hms82_6 := NB160_154.out
      have hs83 : w80.cell? ⟨gb160, 2, none⟩ = some (.int .i64 0) := (blk_cell BK160.out 2).trans rfl
      have hfs83 := blk_frozen BK160.out 2
      have hns83_0 := NB140_160.out
      have hns83_1 := NB141_160.out
      have hns83_2 := NB144_160.out
      have hns83_3 := NB145_160.out
      have hns83_4 := NB146_160.out
      have hns83_5 := NB150_160.out
      have hns83_6 := NB154_160.out
      have hms83_0 := NB160_140.out
      have hms83_1 := NB160_141.out
      have hms83_2 := NB160_144.out
      have hms83_3 := NB160_145.out
      have hms83_4 := NB160_146.out
      have hms83_5 := NB160_150.out
      have hms83_6 := NB160_154.out
      have hs84 : w80.cell? ⟨gb160, 3, none⟩ = some (.bool false) := (blk_cell BK160.out 3).trans rfl
      have hfs84 := blk_frozen BK160.out 3
      have hns84_0 := NB140_160.out
      have hns84_1 := NB141_160.out
      have hns84_2 := NB144_160.out
      have hns84_3 := NB145_160.out
      have hns84_4 := NB146_160.out
      have hns84_5 := NB150_160.out
      have hns84_6 := NB154_160.out
      have hms84_0 := NB160_140.out
      have hms84_1 := NB160_141.out
      have hms84_2 := NB160_144.out
      have hms84_3 := NB160_145.out
      have hms84_4 := NB160_146.out
      have hms84_5 := NB160_150.out
      have hms84_6 := NB160_154.out
      have hs85 : w80.cell? ⟨gb160, 4, none⟩ = some (.int .i64 0) := (blk_cell BK160.out 4).trans rfl
      have hfs85 := blk_frozen BK160.out 4
      have hns85_0 := NB140_160.out
      have hns85_1 := NB141_160.out
      have hns85_2 := NB144_160.out
      have hns85_3 := NB145_160.out
      have hns85_4 := NB146_160.out
      have hns85_5 := NB150_160.out
      have hns85_6 := NB154_160.out
      have hms85_0 := NB160_140.out
      have hms85_1 := NB160_141.out
      have hms85_2 := NB160_144.out
      have hms85_3 := NB160_145.out
      have hms85_4 := NB160_146.out
      have hms85_5 := NB160_150.out
      have hms85_6 := NB160_154.out
      have hs86 : w80.cell? ⟨gb160, 5, none⟩ = some (.int .i64 0) := (blk_cell BK160.out 5).trans rfl
      have hfs86 := blk_frozen BK160.out 5
      have hns86_0 := NB140_160.out
      have hns86_1 := NB141_160.out
      have hns86_2 := NB144_160.out
      have hns86_3 := NB145_160.out
      have hns86_4 := NB146_160.out
      have hns86_5 := NB150_160.out
      have hns86_6 := NB154_160.out
      have hms86_0 := NB160_140.out
      have hms86_1 := NB160_141.out
      have hms86_2 := NB160_144.out
      have hms86_3 := NB160_145.out
      have hms86_4 := NB160_146.out
      have hms86_5 := NB160_150.out
      have hms86_6 := NB160_154.out
      have hs87 : w80.cell? ⟨gb160, 6, none⟩ = some (.int .i64 0) := (blk_cell BK160.out 6).trans rfl
      have hfs87 := blk_frozen BK160.out 6
      have hns87_0 := NB140_160.out
      have hns87_1 := NB141_160.out
      have hns87_2 := NB144_160.out
      have hns87_3 := NB145_160.out
      have hns87_4 := NB146_160.out
      have hns87_5 := NB150_160.out
      have hns87_6 := NB154_160.out
      have hms87_0 := NB160_140.out
      have hms87_1 := NB160_141.out
      have hms87_2 := NB160_144.out
      have hms87_3 := NB160_145.out
      have hms87_4 := NB160_146.out
      have hms87_5 := NB160_150.out
      have hms87_6 := NB160_154.out
      refine skip_ (w1 := ?_) (by rfl) rfl ?_ ?_
      rotate_left
      · go_simp
        rfl
      refine hK.out _ _ (by exact ⟨((cell_far (p := ⟨gb160, _, none⟩) NB140_160.out _).trans (((cell_far (p := ⟨gb160, _, none⟩) NB140_160.out _).trans (((cell_far (p := ⟨gb160, _, none⟩) NB140_160.out _).trans (((cell_far (p := ⟨gb160, _, none⟩) NB140_160.out _).trans (((cell_far (p := ⟨gb160, _, none⟩) NB140_160.out _).trans (((cell_far (p := ⟨gb160, _, none⟩) NB140_160.out _).trans (((cell_far (p := ⟨gb160, _, none⟩) NB140_160.out _).trans (hHeld.1)))))))))))))), ((cell_far (p := ⟨gb160, _, none⟩) NB140_160.out _).trans (((cell_far (p := ⟨gb160, _, none⟩) NB140_160.out _).trans (((cell_far (p := ⟨gb160, _, none⟩) NB140_160.out _).trans (((cell_far (p := ⟨gb160, _, none⟩) NB140_160.out _).trans (((cell_far (p := ⟨gb160, _, none⟩) NB140_160.out _).trans (((cell_far (p := ⟨gb160, _, none⟩) NB140_160.out _).trans (((cell_far (p := ⟨gb160, _, none⟩) NB140_160.out _).trans (hHeld.2.1)))))))))))))), ((cell_far (p := ⟨gb160, _, none⟩) NB140_160.out _).trans (((cell_far (p := ⟨gb160, _, none⟩) NB140_160.out _).trans (((cell_far (p := ⟨gb160, _, none⟩) NB140_160.out _).trans (((cell_far (p := ⟨gb160, _, none⟩) NB140_160.out _).trans (((cell_far (p := ⟨gb160, _, none⟩) NB140_160.out _).trans (((cell_far (p := ⟨gb160, _, none⟩) NB140_160.out _).trans (((cell_far (p := ⟨gb160, _, none⟩) NB140_160.out _).trans (hHeld.2.2.1)))))))))))))), ((cell_far (p := ⟨gb160, _, none⟩) NB140_160.out _).trans (((cell_far (p := ⟨gb160, _, none⟩) NB140_160.out _).trans (((cell_far (p := ⟨gb160, _, none⟩) NB140_160.out _).trans (((cell_far (p := ⟨gb160, _, none⟩) NB140_160.out _).trans (((cell_far (p := ⟨gb160, _, none⟩) NB140_160.out _).trans (((cell_far (p := ⟨gb160, _, none⟩) NB140_160.out _).trans (((cell_far (p := ⟨gb160, _, none⟩) NB140_160.out _).trans (hHeld.2.2.2.1)))))))))))))), ((cell_far (p := ⟨gb160, _, none⟩) NB140_160.out _).trans (((cell_far (p := ⟨gb160, _, none⟩) NB140_160.out _).trans (((cell_far (p := ⟨gb160, _, none⟩) NB140_160.out _).trans (((cell_far (p := ⟨gb160, _, none⟩) NB140_160.out _).trans (((cell_far (p := ⟨gb160, _, none⟩) NB140_160.out _).trans (((cell_far (p := ⟨gb160, _, none⟩) NB140_160.out _).trans (((cell_far (p := ⟨gb160, _, none⟩) NB140_160.out _).trans (hHeld.2.2.2.2.1)))))))))))))), ((cell_far (p := ⟨gb160, _, none⟩) NB140_160.out _).trans (((cell_far (p := ⟨gb160, _, none⟩) NB140_160.out _).trans (((cell_far (p := ⟨gb160, _, none⟩) NB140_160.out _).trans (((cell_far (p := ⟨gb160, _, none⟩) NB140_160.out _).trans (((cell_far (p := ⟨gb160, _, none⟩) NB140_160.out _).trans (((cell_far (p := ⟨gb160, _, none⟩) NB140_160.out _).trans (((cell_far (p := ⟨gb160, _, none⟩) NB140_160.out _).trans (hHeld.2.2.2.2.2.1)))))))))))))), ((cell_far (p := ⟨gb160, _, none⟩) NB140_160.out _).trans (((cell_far (p := ⟨gb160, _, none⟩) NB140_160.out _).trans (((cell_far (p := ⟨gb160, _, none⟩) NB140_160.out _).trans (((cell_far (p := ⟨gb160, _, none⟩) NB140_160.out _).trans (((cell_far (p := ⟨gb160, _, none⟩) NB140_160.out _).trans (((cell_far (p := ⟨gb160, _, none⟩) NB140_160.out _).trans (((cell_far (p := ⟨gb160, _, none⟩) NB140_160.out _).trans (hHeld.2.2.2.2.2.2.1)))))))))))))), ((cell_far (p := ⟨gb160, _, none⟩) NB144_160.out _).trans (((cell_far (p := ⟨gb160, _, none⟩) NB144_160.out _).trans (((cell_far (p := ⟨gb160, _, none⟩) NB144_160.out _).trans (((cell_far (p := ⟨gb160, _, none⟩) NB144_160.out _).trans (((cell_far (p := ⟨gb160, _, none⟩) NB144_160.out _).trans (((cell_far (p := ⟨gb160, _, none⟩) NB144_160.out _).trans (((cell_far (p := ⟨gb160, _, none⟩) NB144_160.out _).trans (hHeld.2.2.2.2.2.2.2.1)))))))))))))), ((cell_far (p := ⟨gb160, _, none⟩) NB144_160.out _).trans (((cell_far (p := ⟨gb160, _, none⟩) NB144_160.out _).trans (((cell_far (p := ⟨gb160, _, none⟩) NB144_160.out _).trans (((cell_far (p := ⟨gb160, _, none⟩) NB144_160.out _).trans (((cell_far (p := ⟨gb160, _, none⟩) NB144_160.out _).trans (((cell_far (p := ⟨gb160, _, none⟩) NB144_160.out _).trans (((cell_far (p := ⟨gb160, _, none⟩) NB144_160.out _).trans (hHeld.2.2.2.2.2.2.2.2.1)))))))))))))), ((cell_far (p := ⟨gb160, _, none⟩) NB144_160.out _).trans (((cell_far (p := ⟨gb160, _, none⟩) NB144_160.out _).trans (((cell_far (p := ⟨gb160, _, none⟩) NB144_160.out _).trans (((cell_far (p := ⟨gb160, _, none⟩) NB144_160.out _).trans (((cell_far (p := ⟨gb160, _, none⟩) NB144_160.out _).trans (((cell_far (p := ⟨gb160, _, none⟩) NB144_160.out _).trans (((cell_far (p := ⟨gb160, _, none⟩) NB144_160.out _).trans (hHeld.2.2.2.2.2.2.2.2.2))))))))))))))⟩) (fun hHeld => ?_)
      clear hK K
      refine done_ (done_of HT_.out pmAx9_43_) ?_
      have hnb88 := NB145_160.out
      have hnc88 := NB160_145.out
      have hcz89_0 : w80.cell? ⟨gb145, 0, none⟩ = some (.bool t148) := (blk_cell BK145.out 0).trans rfl
      have hcz89_1 : w80.cell? ⟨gb145, 1, none⟩ = some (.bool t152) := (blk_cell BK145.out 1).trans rfl
      have hcz89_2 : w80.cell? ⟨gb145, 2, none⟩ = some (.bool t156) := (blk_cell BK145.out 2).trans rfl
      have hfz89_0 := blk_frozen BK145.out 0
      have hfz89_1 := blk_frozen BK145.out 1
      have hfz89_2 := blk_frozen BK145.out 2
      go_upto_if 70 with (first | fail | (with_reducible refine wp_loop_rounds 4 ?_) | (with_reducible refine rounds_go ?_))
      go_cut [] (fun wc => ∃ (kq : Nat) (x161006_34 : Int), Aside0 (base_Start.j1 kq a0_0 a0_1 a0_2 a0_3 a0_4 a0_5 a0_6 t147 t151 t155 t148 t152 t156 t158 t159 0 false 0 t147 x161006_34 = some (r1, r2, r3, r4, r5, r6, r7, r8)) ∧ Aside0 (kq ≤ kj3) ∧ Aside0 (wc.heap[gb140]? = some (.cells #[.int .i64 a0_0, .int .i64 a0_1, .int .i64 a0_2, .int .i64 a0_3, .bool a0_4, .int .i64 a0_5, .int .i64 a0_6] 25 (0, 0))) ∧ Aside0 (wc.heap[gb141]? = some (.cells #[.int .i64 0, .int .i64 0, .int .i64 0, .bool false, .int .i64 0, .int .i64 0, .int .i64 0] 27 (0, 0))) ∧ Aside0 (wc.heap[gb144]? = some (.cells #[.int .i64 t147, .int .i64 t151, .int .i64 t155] 51 (0, 0))) ∧ Aside0 (wc.heap[gb145]? = some (.cells #[.bool t148, .bool t152, .bool t156] 52 (0, 0))) ∧ Aside0 (wc.heap[gb146]? = some (.cells #[.int .i64 a0_0, .int .i64 a0_1] 23 (0, 0))) ∧ Aside0 (wc.heap[gb150]? = some (.cells #[.int .i64 a0_2, .int .i64 a0_3] 23 (0, 0))) ∧ Aside0 (wc.heap[gb154]? = some (.cells #[.int .i64 a0_5, .int .i64 a0_6] 23 (0, 0))) ∧ Aside0 (wc.heap[gb160]? = some (.cells #[.int .i64 t158, .int .i64 t159, .int .i64 0, .bool false, .int .i64 0, .int .i64 t147, .int .i64 x161006_34] 27 (0, 0))) ∧ Aside0 (Below w.heap.size w wc))
      case first =>
        have H := HC35.out
        clear HC35
        by_cases c90 : t152 = true
        rotate_left
        · replace c90 := Bool.eq_false_iff.mpr c90
          subst c90
          have H1 : (base_Start.j1 kj3 a0_0 a0_1 a0_2 a0_3 a0_4 a0_5 a0_6 t147 t151 t155 t148 false t156 t158 t159 0 false 0 t147 1125899906842624) = some (r1, r2, r3, r4, r5, r6, r7, r8) := by rw [if_neg (show ¬ (false = true) by decide)] at H; exact H
          clear H
          have H := H1
          clear H1
          have H' := Aside0.mk H
          clear H
          go_wp2
          go_meet
          case rel => exact ⟨_, (1125899906842624), H', ⟨by have := HJ3.out; first | omega | exact Nat.le_refl _⟩, ⟨by (with_reducible repeat (first | refine blk_drewN ?_ _ | refine blk_drew ?_ | refine blk_alloc ?_ _)); refine blk_far ?_ NB140_160.out _; (with_reducible repeat (first | refine blk_drewN ?_ _ | refine blk_drew ?_ | refine blk_alloc ?_ _)); refine blk_far ?_ NB140_160.out _; (with_reducible repeat (first | refine blk_drewN ?_ _ | refine blk_drew ?_ | refine blk_alloc ?_ _)); refine blk_far ?_ NB140_160.out _; (with_reducible repeat (first | refine blk_drewN ?_ _ | refine blk_drew ?_ | refine blk_alloc ?_ _)); refine blk_far ?_ NB140_160.out _; (with_reducible repeat (first | refine blk_drewN ?_ _ | refine blk_drew ?_ | refine blk_alloc ?_ _)); refine blk_far ?_ NB140_160.out _; (with_reducible repeat (first | refine blk_drewN ?_ _ | refine blk_drew ?_ | refine blk_alloc ?_ _)); refine blk_far ?_ NB140_160.out _; (with_reducible repeat (first | refine blk_drewN ?_ _ | refine blk_drew ?_ | refine blk_alloc ?_ _)); refine blk_far ?_ NB140_160.out _; (with_reducible repeat (first | refine blk_drewN ?_ _ | refine blk_drew ?_ | refine blk_alloc ?_ _)); exact BK140.out⟩, ⟨by (with_reducible repeat (first | refine blk_drewN ?_ _ | refine blk_drew ?_ | refine blk_alloc ?_ _)); refine blk_far ?_ NB141_160.out _; (with_reducible repeat (first | refine blk_drewN ?_ _ | refine blk_drew ?_ | refine blk_alloc ?_ _)); refine blk_far ?_ NB141_160.out _; (with_reducible repeat (first | refine blk_drewN ?_ _ | refine blk_drew ?_ | refine blk_alloc ?_ _)); refine blk_far ?_ NB141_160.out _; (with_reducible repeat (first | refine blk_drewN ?_ _ | refine blk_drew ?_ | refine blk_alloc ?_ _)); refine blk_far ?_ NB141_160.out _; (with_reducible repeat (first | refine blk_drewN ?_ _ | refine blk_drew ?_ | refine blk_alloc ?_ _)); refine blk_far ?_ NB141_160.out _; (with_reducible repeat (first | refine blk_drewN ?_ _ | refine blk_drew ?_ | refine blk_alloc ?_ _)); refine blk_far ?_ NB141_160.out _; (with_reducible repeat (first | refine blk_drewN ?_ _ | refine blk_drew ?_ | refine blk_alloc ?_ _)); refine blk_far ?_ NB141_160.out _; (with_reducible repeat (first | refine blk_drewN ?_ _ | refine blk_drew ?_ | refine blk_alloc ?_ _)); exact BK141.out⟩, ⟨by (with_reducible repeat (first | refine blk_drewN ?_ _ | refine blk_drew ?_ | refine blk_alloc ?_ _)); refine blk_far ?_ NB144_160.out _; (with_reducible repeat (first | refine blk_drewN ?_ _ | refine blk_drew ?_ | refine blk_alloc ?_ _)); refine blk_far ?_ NB144_160.out _; (with_reducible repeat (first | refine blk_drewN ?_ _ | refine blk_drew ?_ | refine blk_alloc ?_ _)); refine blk_far ?_ NB144_160.out _; (with_reducible repeat (first | refine blk_drewN ?_ _ | refine blk_drew ?_ | refine blk_alloc ?_ _)); refine blk_far ?_ NB144_160.out _; (with_reducible repeat (first | refine blk_drewN ?_ _ | refine blk_drew ?_ | refine blk_alloc ?_ _)); refine blk_far ?_ NB144_160.out _; (with_reducible repeat (first | refine blk_drewN ?_ _ | refine blk_drew ?_ | refine blk_alloc ?_ _)); refine blk_far ?_ NB144_160.out _; (with_reducible repeat (first | refine blk_drewN ?_ _ | refine blk_drew ?_ | refine blk_alloc ?_ _)); refine blk_far ?_ NB144_160.out _; (with_reducible repeat (first | refine blk_drewN ?_ _ | refine blk_drew ?_ | refine blk_alloc ?_ _)); exact BK144.out⟩, ⟨by (with_reducible repeat (first | refine blk_drewN ?_ _ | refine blk_drew ?_ | refine blk_alloc ?_ _)); refine blk_far ?_ NB145_160.out _; (with_reducible repeat (first | refine blk_drewN ?_ _ | refine blk_drew ?_ | refine blk_alloc ?_ _)); refine blk_far ?_ NB145_160.out _; (with_reducible repeat (first | refine blk_drewN ?_ _ | refine blk_drew ?_ | refine blk_alloc ?_ _)); refine blk_far ?_ NB145_160.out _; (with_reducible repeat (first | refine blk_drewN ?_ _ | refine blk_drew ?_ | refine blk_alloc ?_ _)); refine blk_far ?_ NB145_160.out _; (with_reducible repeat (first | refine blk_drewN ?_ _ | refine blk_drew ?_ | refine blk_alloc ?_ _)); refine blk_far ?_ NB145_160.out _; (with_reducible repeat (first | refine blk_drewN ?_ _ | refine blk_drew ?_ | refine blk_alloc ?_ _)); refine blk_far ?_ NB145_160.out _; (with_reducible repeat (first | refine blk_drewN ?_ _ | refine blk_drew ?_ | refine blk_alloc ?_ _)); refine blk_far ?_ NB145_160.out _; (with_reducible repeat (first | refine blk_drewN ?_ _ | refine blk_drew ?_ | refine blk_alloc ?_ _)); exact BK145.out⟩, ⟨by (with_reducible repeat (first | refine blk_drewN ?_ _ | refine blk_drew ?_ | refine blk_alloc ?_ _)); refine blk_far ?_ NB146_160.out _; (with_reducible repeat (first | refine blk_drewN ?_ _ | refine blk_drew ?_ | refine blk_alloc ?_ _)); refine blk_far ?_ NB146_160.out _; (with_reducible repeat (first | refine blk_drewN ?_ _ | refine blk_drew ?_ | refine blk_alloc ?_ _)); refine blk_far ?_ NB146_160.out _; (with_reducible repeat (first | refine blk_drewN ?_ _ | refine blk_drew ?_ | refine blk_alloc ?_ _)); refine blk_far ?_ NB146_160.out _; (with_reducible repeat (first | refine blk_drewN ?_ _ | refine blk_drew ?_ | refine blk_alloc ?_ _)); refine blk_far ?_ NB146_160.out _; (with_reducible repeat (first | refine blk_drewN ?_ _ | refine blk_drew ?_ | refine blk_alloc ?_ _)); refine blk_far ?_ NB146_160.out _; (with_reducible repeat (first | refine blk_drewN ?_ _ | refine blk_drew ?_ | refine blk_alloc ?_ _)); refine blk_far ?_ NB146_160.out _; (with_reducible repeat (first | refine blk_drewN ?_ _ | refine blk_drew ?_ | refine blk_alloc ?_ _)); exact BK146.out⟩, ⟨by (with_reducible repeat (first | refine blk_drewN ?_ _ | refine blk_drew ?_ | refine blk_alloc ?_ _)); refine blk_far ?_ NB150_160.out _; (with_reducible repeat (first | refine blk_drewN ?_ _ | refine blk_drew ?_ | refine blk_alloc ?_ _)); refine blk_far ?_ NB150_160.out _; (with_reducible repeat (first | refine blk_drewN ?_ _ | refine blk_drew ?_ | refine blk_alloc ?_ _)); refine blk_far ?_ NB150_160.out _; (with_reducible repeat (first | refine blk_drewN ?_ _ | refine blk_drew ?_ | refine blk_alloc ?_ _)); refine blk_far ?_ NB150_160.out _; (with_reducible repeat (first | refine blk_drewN ?_ _ | refine blk_drew ?_ | refine blk_alloc ?_ _)); refine blk_far ?_ NB150_160.out _; (with_reducible repeat (first | refine blk_drewN ?_ _ | refine blk_drew ?_ | refine blk_alloc ?_ _)); refine blk_far ?_ NB150_160.out _; (with_reducible repeat (first | refine blk_drewN ?_ _ | refine blk_drew ?_ | refine blk_alloc ?_ _)); refine blk_far ?_ NB150_160.out _; (with_reducible repeat (first | refine blk_drewN ?_ _ | refine blk_drew ?_ | refine blk_alloc ?_ _)); exact BK150.out⟩, ⟨by (with_reducible repeat (first | refine blk_drewN ?_ _ | refine blk_drew ?_ | refine blk_alloc ?_ _)); refine blk_far ?_ NB154_160.out _; (with_reducible repeat (first | refine blk_drewN ?_ _ | refine blk_drew ?_ | refine blk_alloc ?_ _)); refine blk_far ?_ NB154_160.out _; (with_reducible repeat (first | refine blk_drewN ?_ _ | refine blk_drew ?_ | refine blk_alloc ?_ _)); refine blk_far ?_ NB154_160.out _; (with_reducible repeat (first | refine blk_drewN ?_ _ | refine blk_drew ?_ | refine blk_alloc ?_ _)); refine blk_far ?_ NB154_160.out _; (with_reducible repeat (first | refine blk_drewN ?_ _ | refine blk_drew ?_ | refine blk_alloc ?_ _)); refine blk_far ?_ NB154_160.out _; (with_reducible repeat (first | refine blk_drewN ?_ _ | refine blk_drew ?_ | refine blk_alloc ?_ _)); refine blk_far ?_ NB154_160.out _; (with_reducible repeat (first | refine blk_drewN ?_ _ | refine blk_drew ?_ | refine blk_alloc ?_ _)); refine blk_far ?_ NB154_160.out _; (with_reducible repeat (first | refine blk_drewN ?_ _ | refine blk_drew ?_ | refine blk_alloc ?_ _)); exact BK154.out⟩, ⟨by (with_reducible repeat (first | refine blk_drewN ?_ _ | refine blk_drew ?_ | refine blk_alloc ?_ _)); refine blk_put (cs := #[.int .i64 t158, .int .i64 t159, .int .i64 0, .bool false, .int .i64 0, .int .i64 t147, .int .i64 0]) ?_ 6 _ rfl; (with_reducible repeat (first | refine blk_drewN ?_ _ | refine blk_drew ?_ | refine blk_alloc ?_ _)); refine blk_put (cs := #[.int .i64 t158, .int .i64 t159, .int .i64 0, .bool false, .int .i64 0, .int .i64 0, .int .i64 0]) ?_ 5 _ rfl; (with_reducible repeat (first | refine blk_drewN ?_ _ | refine blk_drew ?_ | refine blk_alloc ?_ _)); refine blk_put (cs := #[.int .i64 t158, .int .i64 t159, .int .i64 0, .bool false, .int .i64 0, .int .i64 0, .int .i64 0]) ?_ 4 _ rfl; (with_reducible repeat (first | refine blk_drewN ?_ _ | refine blk_drew ?_ | refine blk_alloc ?_ _)); refine blk_put (cs := #[.int .i64 t158, .int .i64 t159, .int .i64 0, .bool false, .int .i64 0, .int .i64 0, .int .i64 0]) ?_ 3 _ rfl; (with_reducible repeat (first | refine blk_drewN ?_ _ | refine blk_drew ?_ | refine blk_alloc ?_ _)); refine blk_put (cs := #[.int .i64 t158, .int .i64 t159, .int .i64 0, .bool false, .int .i64 0, .int .i64 0, .int .i64 0]) ?_ 2 _ rfl; (with_reducible repeat (first | refine blk_drewN ?_ _ | refine blk_drew ?_ | refine blk_alloc ?_ _)); refine blk_put (cs := #[.int .i64 t158, .int .i64 0, .int .i64 0, .bool false, .int .i64 0, .int .i64 0, .int .i64 0]) ?_ 1 _ rfl; (with_reducible repeat (first | refine blk_drewN ?_ _ | refine blk_drew ?_ | refine blk_alloc ?_ _)); refine blk_put (cs := #[.int .i64 0, .int .i64 0, .int .i64 0, .bool false, .int .i64 0, .int .i64 0, .int .i64 0]) ?_ 0 _ rfl; (with_reducible repeat (first | refine blk_drewN ?_ _ | refine blk_drew ?_ | refine blk_alloc ?_ _)); exact BK160.out⟩, ⟨pmAx9_5_⟩⟩
        subst c90
        have H1 : (base_Start.j1 kj3 a0_0 a0_1 a0_2 a0_3 a0_4 a0_5 a0_6 t147 t151 t155 t148 true t156 t158 t159 0 false 0 t147 t151) = some (r1, r2, r3, r4, r5, r6, r7, r8) := by rw [if_pos rfl] at H; exact H
        clear H
        have H := H1
        clear H1
        have H' := Aside0.mk H
        clear H
        have hnb91 := NB144_140.out
        have hnc91 := NB140_144.out
        have hnb92 := NB144_141.out
        have hnc92 := NB141_144.out
        have hnb93 := NB144_145.out
        have hnc93 := NB145_144.out
        have hnb94 := NB144_146.out
        have hnc94 := NB146_144.out
        have hnb95 := NB144_150.out
        have hnc95 := NB150_144.out
        have hnb96 := NB144_154.out
        have hnc96 := NB154_144.out
        have hnb97 := NB144_160.out
        have hnc97 := NB160_144.out
        have hcz98_0 : w80.cell? ⟨gb144, 0, none⟩ = some (.int .i64 t147) := (blk_cell BK144.out 0).trans rfl
        have hcz98_1 : w80.cell? ⟨gb144, 1, none⟩ = some (.int .i64 t151) := (blk_cell BK144.out 1).trans rfl
        have hcz98_2 : w80.cell? ⟨gb144, 2, none⟩ = some (.int .i64 t155) := (blk_cell BK144.out 2).trans rfl
        have hfz98_0 := blk_frozen BK144.out 0
        have hfz98_1 := blk_frozen BK144.out 1
        have hfz98_2 := blk_frozen BK144.out 2
        have hnb99 := NB160_140.out
        have hnc99 := NB140_160.out
        have hnb100 := NB160_141.out
        have hnc100 := NB141_160.out
        have hnb101 := NB160_145.out
        have hnc101 := NB145_160.out
        have hnb102 := NB160_146.out
        have hnc102 := NB146_160.out
        have hnb103 := NB160_150.out
        have hnc103 := NB150_160.out
        have hnb104 := NB160_154.out
        have hnc104 := NB154_160.out
        have hcz105_0 : w80.cell? ⟨gb160, 0, none⟩ = some (.int .i64 0) := (blk_cell BK160.out 0).trans rfl
        have hcz105_1 : w80.cell? ⟨gb160, 1, none⟩ = some (.int .i64 0) := (blk_cell BK160.out 1).trans rfl
        have hcz105_2 : w80.cell? ⟨gb160, 2, none⟩ = some (.int .i64 0) := (blk_cell BK160.out 2).trans rfl
        have hcz105_3 : w80.cell? ⟨gb160, 3, none⟩ = some (.bool false) := (blk_cell BK160.out 3).trans rfl
        have hcz105_4 : w80.cell? ⟨gb160, 4, none⟩ = some (.int .i64 0) := (blk_cell BK160.out 4).trans rfl
        have hcz105_5 : w80.cell? ⟨gb160, 5, none⟩ = some (.int .i64 0) := (blk_cell BK160.out 5).trans rfl
        have hcz105_6 : w80.cell? ⟨gb160, 6, none⟩ = some (.int .i64 0) := (blk_cell BK160.out 6).trans rfl
        have hfz105_0 := blk_frozen BK160.out 0
        have hfz105_1 := blk_frozen BK160.out 1
        have hfz105_2 := blk_frozen BK160.out 2
        have hfz105_3 := blk_frozen BK160.out 3
        have hfz105_4 := blk_frozen BK160.out 4
        have hfz105_5 := blk_frozen BK160.out 5
        have hfz105_6 := blk_frozen BK160.out 6
        go_wp2
        go_meet
        case rel => exact ⟨_, (t151), H', ⟨by have := HJ3.out; first | omega | exact Nat.le_refl _⟩, ⟨by (with_reducible repeat (first | refine blk_drewN ?_ _ | refine blk_drew ?_ | refine blk_alloc ?_ _)); refine blk_far ?_ NB140_160.out _; (with_reducible repeat (first | refine blk_drewN ?_ _ | refine blk_drew ?_ | refine blk_alloc ?_ _)); refine blk_far ?_ NB140_160.out _; (with_reducible repeat (first | refine blk_drewN ?_ _ | refine blk_drew ?_ | refine blk_alloc ?_ _)); refine blk_far ?_ NB140_160.out _; (with_reducible repeat (first | refine blk_drewN ?_ _ | refine blk_drew ?_ | refine blk_alloc ?_ _)); refine blk_far ?_ NB140_160.out _; (with_reducible repeat (first | refine blk_drewN ?_ _ | refine blk_drew ?_ | refine blk_alloc ?_ _)); refine blk_far ?_ NB140_160.out _; (with_reducible repeat (first | refine blk_drewN ?_ _ | refine blk_drew ?_ | refine blk_alloc ?_ _)); refine blk_far ?_ NB140_160.out _; (with_reducible repeat (first | refine blk_drewN ?_ _ | refine blk_drew ?_ | refine blk_alloc ?_ _)); refine blk_far ?_ NB140_160.out _; (with_reducible repeat (first | refine blk_drewN ?_ _ | refine blk_drew ?_ | refine blk_alloc ?_ _)); refine blk_far ?_ NB140_160.out _; (with_reducible repeat (first | refine blk_drewN ?_ _ | refine blk_drew ?_ | refine blk_alloc ?_ _)); exact BK140.out⟩, ⟨by (with_reducible repeat (first | refine blk_drewN ?_ _ | refine blk_drew ?_ | refine blk_alloc ?_ _)); refine blk_far ?_ NB141_160.out _; (with_reducible repeat (first | refine blk_drewN ?_ _ | refine blk_drew ?_ | refine blk_alloc ?_ _)); refine blk_far ?_ NB141_160.out _; (with_reducible repeat (first | refine blk_drewN ?_ _ | refine blk_drew ?_ | refine blk_alloc ?_ _)); refine blk_far ?_ NB141_160.out _; (with_reducible repeat (first | refine blk_drewN ?_ _ | refine blk_drew ?_ | refine blk_alloc ?_ _)); refine blk_far ?_ NB141_160.out _; (with_reducible repeat (first | refine blk_drewN ?_ _ | refine blk_drew ?_ | refine blk_alloc ?_ _)); refine blk_far ?_ NB141_160.out _; (with_reducible repeat (first | refine blk_drewN ?_ _ | refine blk_drew ?_ | refine blk_alloc ?_ _)); refine blk_far ?_ NB141_160.out _; (with_reducible repeat (first | refine blk_drewN ?_ _ | refine blk_drew ?_ | refine blk_alloc ?_ _)); refine blk_far ?_ NB141_160.out _; (with_reducible repeat (first | refine blk_drewN ?_ _ | refine blk_drew ?_ | refine blk_alloc ?_ _)); refine blk_far ?_ NB141_160.out _; (with_reducible repeat (first | refine blk_drewN ?_ _ | refine blk_drew ?_ | refine blk_alloc ?_ _)); exact BK141.out⟩, ⟨by (with_reducible repeat (first | refine blk_drewN ?_ _ | refine blk_drew ?_ | refine blk_alloc ?_ _)); refine blk_far ?_ NB144_160.out _; (with_reducible repeat (first | refine blk_drewN ?_ _ | refine blk_drew ?_ | refine blk_alloc ?_ _)); refine blk_far ?_ NB144_160.out _; (with_reducible repeat (first | refine blk_drewN ?_ _ | refine blk_drew ?_ | refine blk_alloc ?_ _)); refine blk_far ?_ NB144_160.out _; (with_reducible repeat (first | refine blk_drewN ?_ _ | refine blk_drew ?_ | refine blk_alloc ?_ _)); refine blk_far ?_ NB144_160.out _; (with_reducible repeat (first | refine blk_drewN ?_ _ | refine blk_drew ?_ | refine blk_alloc ?_ _)); refine blk_far ?_ NB144_160.out _; (with_reducible repeat (first | refine blk_drewN ?_ _ | refine blk_drew ?_ | refine blk_alloc ?_ _)); refine blk_far ?_ NB144_160.out _; (with_reducible repeat (first | refine blk_drewN ?_ _ | refine blk_drew ?_ | refine blk_alloc ?_ _)); refine blk_far ?_ NB144_160.out _; (with_reducible repeat (first | refine blk_drewN ?_ _ | refine blk_drew ?_ | refine blk_alloc ?_ _)); refine blk_far ?_ NB144_160.out _; (with_reducible repeat (first | refine blk_drewN ?_ _ | refine blk_drew ?_ | refine blk_alloc ?_ _)); exact BK144.out⟩, ⟨by (with_reducible repeat (first | refine blk_drewN ?_ _ | refine blk_drew ?_ | refine blk_alloc ?_ _)); refine blk_far ?_ NB145_160.out _; (with_reducible repeat (first | refine blk_drewN ?_ _ | refine blk_drew ?_ | refine blk_alloc ?_ _)); refine blk_far ?_ NB145_160.out _; (with_reducible repeat (first | refine blk_drewN ?_ _ | refine blk_drew ?_ | refine blk_alloc ?_ _)); refine blk_far ?_ NB145_160.out _; (with_reducible repeat (first | refine blk_drewN ?_ _ | refine blk_drew ?_ | refine blk_alloc ?_ _)); refine blk_far ?_ NB145_160.out _; (with_reducible repeat (first | refine blk_drewN ?_ _ | refine blk_drew ?_ | refine blk_alloc ?_ _)); refine blk_far ?_ NB145_160.out _; (with_reducible repeat (first | refine blk_drewN ?_ _ | refine blk_drew ?_ | refine blk_alloc ?_ _)); refine blk_far ?_ NB145_160.out _; (with_reducible repeat (first | refine blk_drewN ?_ _ | refine blk_drew ?_ | refine blk_alloc ?_ _)); refine blk_far ?_ NB145_160.out _; (with_reducible repeat (first | refine blk_drewN ?_ _ | refine blk_drew ?_ | refine blk_alloc ?_ _)); refine blk_far ?_ NB145_160.out _; (with_reducible repeat (first | refine blk_drewN ?_ _ | refine blk_drew ?_ | refine blk_alloc ?_ _)); exact BK145.out⟩, ⟨by (with_reducible repeat (first | refine blk_drewN ?_ _ | refine blk_drew ?_ | refine blk_alloc ?_ _)); refine blk_far ?_ NB146_160.out _; (with_reducible repeat (first | refine blk_drewN ?_ _ | refine blk_drew ?_ | refine blk_alloc ?_ _)); refine blk_far ?_ NB146_160.out _; (with_reducible repeat (first | refine blk_drewN ?_ _ | refine blk_drew ?_ | refine blk_alloc ?_ _)); refine blk_far ?_ NB146_160.out _; (with_reducible repeat (first | refine blk_drewN ?_ _ | refine blk_drew ?_ | refine blk_alloc ?_ _)); refine blk_far ?_ NB146_160.out _; (with_reducible repeat (first | refine blk_drewN ?_ _ | refine blk_drew ?_ | refine blk_alloc ?_ _)); refine blk_far ?_ NB146_160.out _; (with_reducible repeat (first | refine blk_drewN ?_ _ | refine blk_drew ?_ | refine blk_alloc ?_ _)); refine blk_far ?_ NB146_160.out _; (with_reducible repeat (first | refine blk_drewN ?_ _ | refine blk_drew ?_ | refine blk_alloc ?_ _)); refine blk_far ?_ NB146_160.out _; (with_reducible repeat (first | refine blk_drewN ?_ _ | refine blk_drew ?_ | refine blk_alloc ?_ _)); refine blk_far ?_ NB146_160.out _; (with_reducible repeat (first | refine blk_drewN ?_ _ | refine blk_drew ?_ | refine blk_alloc ?_ _)); exact BK146.out⟩, ⟨by (with_reducible repeat (first | refine blk_drewN ?_ _ | refine blk_drew ?_ | refine blk_alloc ?_ _)); refine blk_far ?_ NB150_160.out _; (with_reducible repeat (first | refine blk_drewN ?_ _ | refine blk_drew ?_ | refine blk_alloc ?_ _)); refine blk_far ?_ NB150_160.out _; (with_reducible repeat (first | refine blk_drewN ?_ _ | refine blk_drew ?_ | refine blk_alloc ?_ _)); refine blk_far ?_ NB150_160.out _; (with_reducible repeat (first | refine blk_drewN ?_ _ | refine blk_drew ?_ | refine blk_alloc ?_ _)); refine blk_far ?_ NB150_160.out _; (with_reducible repeat (first | refine blk_drewN ?_ _ | refine blk_drew ?_ | refine blk_alloc ?_ _)); refine blk_far ?_ NB150_160.out _; (with_reducible repeat (first | refine blk_drewN ?_ _ | refine blk_drew ?_ | refine blk_alloc ?_ _)); refine blk_far ?_ NB150_160.out _; (with_reducible repeat (first | refine blk_drewN ?_ _ | refine blk_drew ?_ | refine blk_alloc ?_ _)); refine blk_far ?_ NB150_160.out _; (with_reducible repeat (first | refine blk_drewN ?_ _ | refine blk_drew ?_ | refine blk_alloc ?_ _)); refine blk_far ?_ NB150_160.out _; (with_reducible repeat (first | refine blk_drewN ?_ _ | refine blk_drew ?_ | refine blk_alloc ?_ _)); exact BK150.out⟩, ⟨by (with_reducible repeat (first | refine blk_drewN ?_ _ | refine blk_drew ?_ | refine blk_alloc ?_ _)); refine blk_far ?_ NB154_160.out _; (with_reducible repeat (first | refine blk_drewN ?_ _ | refine blk_drew ?_ | refine blk_alloc ?_ _)); refine blk_far ?_ NB154_160.out _; (with_reducible repeat (first | refine blk_drewN ?_ _ | refine blk_drew ?_ | refine blk_alloc ?_ _)); refine blk_far ?_ NB154_160.out _; (with_reducible repeat (first | refine blk_drewN ?_ _ | refine blk_drew ?_ | refine blk_alloc ?_ _)); refine blk_far ?_ NB154_160.out _; (with_reducible repeat (first | refine blk_drewN ?_ _ | refine blk_drew ?_ | refine blk_alloc ?_ _)); refine blk_far ?_ NB154_160.out _; (with_reducible repeat (first | refine blk_drewN ?_ _ | refine blk_drew ?_ | refine blk_alloc ?_ _)); refine blk_far ?_ NB154_160.out _; (with_reducible repeat (first | refine blk_drewN ?_ _ | refine blk_drew ?_ | refine blk_alloc ?_ _)); refine blk_far ?_ NB154_160.out _; (with_reducible repeat (first | refine blk_drewN ?_ _ | refine blk_drew ?_ | refine blk_alloc ?_ _)); refine blk_far ?_ NB154_160.out _; (with_reducible repeat (first | refine blk_drewN ?_ _ | refine blk_drew ?_ | refine blk_alloc ?_ _)); exact BK154.out⟩, ⟨by (with_reducible repeat (first | refine blk_drewN ?_ _ | refine blk_drew ?_ | refine blk_alloc ?_ _)); refine blk_put (cs := #[.int .i64 t158, .int .i64 t159, .int .i64 0, .bool false, .int .i64 0, .int .i64 t147, .int .i64 1125899906842624]) ?_ 6 _ rfl; (with_reducible repeat (first | refine blk_drewN ?_ _ | refine blk_drew ?_ | refine blk_alloc ?_ _)); refine blk_put (cs := #[.int .i64 t158, .int .i64 t159, .int .i64 0, .bool false, .int .i64 0, .int .i64 t147, .int .i64 0]) ?_ 6 _ rfl; (with_reducible repeat (first | refine blk_drewN ?_ _ | refine blk_drew ?_ | refine blk_alloc ?_ _)); refine blk_put (cs := #[.int .i64 t158, .int .i64 t159, .int .i64 0, .bool false, .int .i64 0, .int .i64 0, .int .i64 0]) ?_ 5 _ rfl; (with_reducible repeat (first | refine blk_drewN ?_ _ | refine blk_drew ?_ | refine blk_alloc ?_ _)); refine blk_put (cs := #[.int .i64 t158, .int .i64 t159, .int .i64 0, .bool false, .int .i64 0, .int .i64 0, .int .i64 0]) ?_ 4 _ rfl; (with_reducible repeat (first | refine blk_drewN ?_ _ | refine blk_drew ?_ | refine blk_alloc ?_ _)); refine blk_put (cs := #[.int .i64 t158, .int .i64 t159, .int .i64 0, .bool false, .int .i64 0, .int .i64 0, .int .i64 0]) ?_ 3 _ rfl; (with_reducible repeat (first | refine blk_drewN ?_ _ | refine blk_drew ?_ | refine blk_alloc ?_ _)); refine blk_put (cs := #[.int .i64 t158, .int .i64 t159, .int .i64 0, .bool false, .int .i64 0, .int .i64 0, .int .i64 0]) ?_ 2 _ rfl; (with_reducible repeat (first | refine blk_drewN ?_ _ | refine blk_drew ?_ | refine blk_alloc ?_ _)); refine blk_put (cs := #[.int .i64 t158, .int .i64 0, .int .i64 0, .bool false, .int .i64 0, .int .i64 0, .int .i64 0]) ?_ 1 _ rfl; (with_reducible repeat (first | refine blk_drewN ?_ _ | refine blk_drew ?_ | refine blk_alloc ?_ _)); refine blk_put (cs := #[.int .i64 0, .int .i64 0, .int .i64 0, .bool false, .int .i64 0, .int .i64 0, .int .i64 0]) ?_ 0 _ rfl; (with_reducible repeat (first | refine blk_drewN ?_ _ | refine blk_drew ?_ | refine blk_alloc ?_ _)); exact BK160.out⟩, ⟨pmAx9_5_⟩⟩
      case rest =>
        clear HC35
        try clear c1
        try clear p2
        try clear c8
        try clear c9
        try clear c10
        try clear c19
        try clear c88
        try clear c90
        try clear c91
        try clear c92
        try clear c93
        try clear c94
        try clear c95
        try clear c96
        try clear c97
        try clear c99
        try clear c100
        try clear c101
        try clear c102
        try clear c103
        try clear c104
        try clear hcz105_0
        try clear hcz105_1
        try clear hcz105_2
        try clear hcz105_3
        try clear hcz105_4
        try clear hcz105_5
        try clear hcz105_6
        try clear hcz89_0
        try clear hcz89_1
        try clear hcz89_2
        try clear hcz98_0
        try clear hcz98_1
        try clear hcz98_2
        try clear hfz105_0
        try clear hfz105_1
        try clear hfz105_2
        try clear hfz105_3
        try clear hfz105_4
        try clear hfz105_5
        try clear hfz105_6
        try clear hfz89_0
        try clear hfz89_1
        try clear hfz89_2
        try clear hfz98_0
        try clear hfz98_1
        try clear hfz98_2
        obtain ⟨kq, x161006_34, HA, HJ34, BK140, BK141, BK144, BK145, BK146, BK150, BK154, BK160, HB⟩ := hcut
        cases kq with
        | zero => exact absurd HA.out (by simp [base_Start.j1])
        | succ kj34 =>
          have H := HA.out
          clear HA
          simp only [base_Start.j1] at H
          by_cases c106 : t159 = 5
          rotate_left
          · rw [if_neg c106] at H
            have c106b0 : (t159 == 5) = false := beq_eq_false_iff_ne.mpr c106
            have c106b1 : (t159 != 5) = true := bne_iff_ne.mpr c106
            by_cases c193 : a0_4 = true
            rotate_left
            · replace c193 := Bool.eq_false_iff.mpr c193
              subst c193
              have H1 : ((base_Raise.f t158 t159 0 false 0 t147 x161006_34).bind fun bt196 => (some (bt196.1, bt196.2.1, bt196.2.2.1, bt196.2.2.2.1, bt196.2.2.2.2.1, bt196.2.2.2.2.2.1, bt196.2.2.2.2.2.2, 0))) = some (r1, r2, r3, r4, r5, r6, r7, r8) := by rw [if_neg (show ¬ (false = true) by decide)] at H; exact H
              clear H
              have H := H1
              clear H1
              replace H := Option.bind_eq_some_iff.mp H
              obtain ⟨⟨t196, t197, t198, t199, t200, t201, t202⟩, A2550, H⟩ := H
              replace H : (some (t196, t197, t198, t199, t200, t201, t202, 0)) = some (r1, r2, r3, r4, r5, r6, r7, r8) := H
              have A255 := Aside0.mk A2550
              clear A2550
              simp only [Option.some.injEq, Prod.mk.injEq] at H
              obtain ⟨rfl, rfl, rfl, rfl, rfl, rfl, rfl, rfl⟩ := H
              have hnb256 := NB160_140.out
              have hnc256 := NB140_160.out
              have hnb257 := NB160_141.out
              have hnc257 := NB141_160.out
              have hnb258 := NB160_144.out
              have hnc258 := NB144_160.out
              have hnb259 := NB160_145.out
              have hnc259 := NB145_160.out
              have hnb260 := NB160_146.out
              have hnc260 := NB146_160.out
              have hnb261 := NB160_150.out
              have hnc261 := NB150_160.out
              have hnb262 := NB160_154.out
              have hnc262 := NB154_160.out
              have hcz263_0 : wc.cell? ⟨gb160, 0, none⟩ = some (.int .i64 t158) := (blk_cell BK160.out 0).trans rfl
              have hcz263_1 : wc.cell? ⟨gb160, 1, none⟩ = some (.int .i64 t159) := (blk_cell BK160.out 1).trans rfl
              have hcz263_2 : wc.cell? ⟨gb160, 2, none⟩ = some (.int .i64 0) := (blk_cell BK160.out 2).trans rfl
              have hcz263_3 : wc.cell? ⟨gb160, 3, none⟩ = some (.bool false) := (blk_cell BK160.out 3).trans rfl
              have hcz263_4 : wc.cell? ⟨gb160, 4, none⟩ = some (.int .i64 0) := (blk_cell BK160.out 4).trans rfl
              have hcz263_5 : wc.cell? ⟨gb160, 5, none⟩ = some (.int .i64 t147) := (blk_cell BK160.out 5).trans rfl
              have hcz263_6 : wc.cell? ⟨gb160, 6, none⟩ = some (.int .i64 x161006_34) := (blk_cell BK160.out 6).trans rfl
              have hfz263_0 := blk_frozen BK160.out 0
              have hfz263_1 := blk_frozen BK160.out 1
              have hfz263_2 := blk_frozen BK160.out 2
              have hfz263_3 := blk_frozen BK160.out 3
              have hfz263_4 := blk_frozen BK160.out 4
              have hfz263_5 := blk_frozen BK160.out 5
              have hfz263_6 := blk_frozen BK160.out 6
              have hnb264 := NB140_141.out
              have hnc264 := NB141_140.out
              have hnb265 := NB140_144.out
              have hnc265 := NB144_140.out
              have hnb266 := NB140_145.out
              have hnc266 := NB145_140.out
              have hnb267 := NB140_146.out
              have hnc267 := NB146_140.out
              have hnb268 := NB140_150.out
              have hnc268 := NB150_140.out
              have hnb269 := NB140_154.out
              have hnc269 := NB154_140.out
              have hcz270_0 : wc.cell? ⟨gb140, 0, none⟩ = some (.int .i64 a0_0) := (blk_cell BK140.out 0).trans rfl
              have hcz270_1 : wc.cell? ⟨gb140, 1, none⟩ = some (.int .i64 a0_1) := (blk_cell BK140.out 1).trans rfl
              have hcz270_2 : wc.cell? ⟨gb140, 2, none⟩ = some (.int .i64 a0_2) := (blk_cell BK140.out 2).trans rfl
              have hcz270_3 : wc.cell? ⟨gb140, 3, none⟩ = some (.int .i64 a0_3) := (blk_cell BK140.out 3).trans rfl
              have hcz270_4 : wc.cell? ⟨gb140, 4, none⟩ = some (.bool false) := (blk_cell BK140.out 4).trans rfl
              have hcz270_5 : wc.cell? ⟨gb140, 5, none⟩ = some (.int .i64 a0_5) := (blk_cell BK140.out 5).trans rfl
              have hcz270_6 : wc.cell? ⟨gb140, 6, none⟩ = some (.int .i64 a0_6) := (blk_cell BK140.out 6).trans rfl
              have hfz270_0 := blk_frozen BK140.out 0
              have hfz270_1 := blk_frozen BK140.out 1
              have hfz270_2 := blk_frozen BK140.out 2
              have hfz270_3 := blk_frozen BK140.out 3
              have hfz270_4 := blk_frozen BK140.out 4
              have hfz270_5 := blk_frozen BK140.out 5
              have hfz270_6 := blk_frozen BK140.out 6
              as_aux_lemma =>
                go_wp2_with (first | ((with_reducible refine gate_callee (f := 11) rfl ?_); refine goesL_ (some 92) rfl rfl Try.func11 pmAx9_43_ rfl #[.agg #[.int .i64 t158, .int .i64 t159, .int .i64 0, .bool false, .int .i64 0, .int .i64 t147, .int .i64 x161006_34]] rfl pmAx9_14_ ?_; (with_reducible refine (base_Raise.calls t158 t159 0 false 0 t147 x161006_34 t196 t197 t198 t199 t200 t201 t202 _ A255.out).mono ?_); rintro e w271 ⟨rfl, hb⟩; refine ⟨_, rfl, ?_⟩; have n0_ := Aside0.mk (blk_below (g := gb140) (o := poAx9_0 a0_0 a0_1 a0_2 a0_3 false a0_5 a0_6) pmAx9_0_ hb); have n1_ := Aside0.mk (blk_below (g := gb141) (o := poAx9_1 0 0 0 false 0 0 0) pmAx9_1_ hb); have n2_ := Aside0.mk (blk_below (g := gb144) (o := poAx9_2 t147 t151 t155) pmAx9_6_ hb); have n3_ := Aside0.mk (blk_below (g := gb145) (o := poAx9_3 t148 t152 t156) pmAx9_10_ hb); have n4_ := Aside0.mk (blk_below (g := gb146) (o := poAx9_4 a0_0 a0_1) pmAx9_22_ hb); have n5_ := Aside0.mk (blk_below (g := gb150) (o := poAx9_4 a0_2 a0_3) pmAx9_23_ hb); have n6_ := Aside0.mk (blk_below (g := gb154) (o := poAx9_4 a0_5 a0_6) pmAx9_24_ hb); have n7_ := Aside0.mk (blk_below (g := gb160) (o := poAx9_1 t158 t159 0 false 0 t147 x161006_34) pmAx9_35_ hb); have n8_ := Aside0.mk (below_step pmAx9_5_ hb); clear BK140; clear BK141; clear BK144; clear BK145; clear BK146; clear BK150; clear BK154; clear BK160; clear HB; have BK140 := n0_; have BK141 := n1_; have BK144 := n2_; have BK145 := n3_; have BK146 := n4_; have BK150 := n5_; have BK154 := n6_; have BK160 := n7_; have HB := n8_; clear n0_ n1_ n2_ n3_ n4_ n5_ n6_ n7_ n8_; (try clear hb); (try clear hb2); (try clear hk); (try clear hi); have hnb272 := NB141_144.out; have hnc272 := NB144_141.out; have hnb273 := NB141_145.out; have hnc273 := NB145_141.out; have hnb274 := NB141_146.out; have hnc274 := NB146_141.out; have hnb275 := NB141_150.out; have hnc275 := NB150_141.out; have hnb276 := NB141_154.out; have hnc276 := NB154_141.out; have hcz277_0 : w271.cell? ⟨gb141, 0, none⟩ = some (.int .i64 0) := (blk_cell BK141.out 0).trans rfl; have hcz277_1 : w271.cell? ⟨gb141, 1, none⟩ = some (.int .i64 0) := (blk_cell BK141.out 1).trans rfl; have hcz277_2 : w271.cell? ⟨gb141, 2, none⟩ = some (.int .i64 0) := (blk_cell BK141.out 2).trans rfl; have hcz277_3 : w271.cell? ⟨gb141, 3, none⟩ = some (.bool false) := (blk_cell BK141.out 3).trans rfl; have hcz277_4 : w271.cell? ⟨gb141, 4, none⟩ = some (.int .i64 0) := (blk_cell BK141.out 4).trans rfl; have hcz277_5 : w271.cell? ⟨gb141, 5, none⟩ = some (.int .i64 0) := (blk_cell BK141.out 5).trans rfl; have hcz277_6 : w271.cell? ⟨gb141, 6, none⟩ = some (.int .i64 0) := (blk_cell BK141.out 6).trans rfl; have hfz277_0 := blk_frozen BK141.out 0; have hfz277_1 := blk_frozen BK141.out 1; have hfz277_2 := blk_frozen BK141.out 2; have hfz277_3 := blk_frozen BK141.out 3; have hfz277_4 := blk_frozen BK141.out 4; have hfz277_5 := blk_frozen BK141.out 5; have hfz277_6 := blk_frozen BK141.out 6) | (with_reducible refine wp_loop_rounds 4 ?_) | (with_reducible refine rounds_go ?_))
                refine bodyPost_ret (results_ct rfl _ _ gb141 27 #[.int .i64 t196, .int .i64 t197, .int .i64 t198, .bool t199, .int .i64 t200, .int .i64 t201, .int .i64 t202] (0, 0) _ rfl (by (with_reducible repeat (first | refine blk_drewN ?_ _ | refine blk_drew ?_ | refine blk_alloc ?_ _)); refine blk_put (cs := #[.int .i64 t196, .int .i64 t197, .int .i64 t198, .bool t199, .int .i64 t200, .int .i64 t201, .int .i64 0]) ?_ 6 _ rfl; (with_reducible repeat (first | refine blk_drewN ?_ _ | refine blk_drew ?_ | refine blk_alloc ?_ _)); refine blk_put (cs := #[.int .i64 t196, .int .i64 t197, .int .i64 t198, .bool t199, .int .i64 t200, .int .i64 0, .int .i64 0]) ?_ 5 _ rfl; (with_reducible repeat (first | refine blk_drewN ?_ _ | refine blk_drew ?_ | refine blk_alloc ?_ _)); refine blk_put (cs := #[.int .i64 t196, .int .i64 t197, .int .i64 t198, .bool t199, .int .i64 0, .int .i64 0, .int .i64 0]) ?_ 4 _ rfl; (with_reducible repeat (first | refine blk_drewN ?_ _ | refine blk_drew ?_ | refine blk_alloc ?_ _)); refine blk_put (cs := #[.int .i64 t196, .int .i64 t197, .int .i64 t198, .bool false, .int .i64 0, .int .i64 0, .int .i64 0]) ?_ 3 _ rfl; (with_reducible repeat (first | refine blk_drewN ?_ _ | refine blk_drew ?_ | refine blk_alloc ?_ _)); refine blk_put (cs := #[.int .i64 t196, .int .i64 t197, .int .i64 0, .bool false, .int .i64 0, .int .i64 0, .int .i64 0]) ?_ 2 _ rfl; (with_reducible repeat (first | refine blk_drewN ?_ _ | refine blk_drew ?_ | refine blk_alloc ?_ _)); refine blk_put (cs := #[.int .i64 t196, .int .i64 0, .int .i64 0, .bool false, .int .i64 0, .int .i64 0, .int .i64 0]) ?_ 1 _ rfl; (with_reducible repeat (first | refine blk_drewN ?_ _ | refine blk_drew ?_ | refine blk_alloc ?_ _)); refine blk_put (cs := #[.int .i64 0, .int .i64 0, .int .i64 0, .bool false, .int .i64 0, .int .i64 0, .int .i64 0]) ?_ 0 _ rfl; (with_reducible repeat (first | refine blk_drewN ?_ _ | refine blk_drew ?_ | refine blk_alloc ?_ _)); exact BK141.out) Try.underlying27 rfl pmAx9_43_) rfl ?_
                exact ⟨by first | rfl | (simp [errW_none, errW_some] <;> rfl) | (simp [*, errW_none, errW_some] <;> rfl), by repeat (first | (with_reducible first | exact HB.out | apply below_alloc | apply pw_below_drewN | apply below_drew1 | refine below_set ?_ GE140.out | refine below_set ?_ GE141.out | refine below_set ?_ GE144.out | refine below_set ?_ GE145.out | refine below_set ?_ GE146.out | refine below_set ?_ GE150.out | refine below_set ?_ GE154.out | refine below_set ?_ GE160.out) | exact HB.out)⟩
            subst c193
            have H1 : (if t156 = true then ((base_Raise.f t158 t159 0 true t155 t147 x161006_34).bind fun bt182 => (some (bt182.1, bt182.2.1, bt182.2.2.1, bt182.2.2.2.1, bt182.2.2.2.2.1, bt182.2.2.2.2.2.1, bt182.2.2.2.2.2.2, 0))) else ((base_Raise.f t158 t159 0 false 0 t147 x161006_34).bind fun bt189 => (some (bt189.1, bt189.2.1, bt189.2.2.1, bt189.2.2.2.1, bt189.2.2.2.2.1, bt189.2.2.2.2.2.1, bt189.2.2.2.2.2.2, 0)))) = some (r1, r2, r3, r4, r5, r6, r7, r8) := by rw [if_pos rfl] at H; exact H
            clear H
            have H := H1
            clear H1
            by_cases c194 : t156 = true
            rotate_left
            · replace c194 := Bool.eq_false_iff.mpr c194
              subst c194
              have H1 : ((base_Raise.f t158 t159 0 false 0 t147 x161006_34).bind fun bt189 => (some (bt189.1, bt189.2.1, bt189.2.2.1, bt189.2.2.2.1, bt189.2.2.2.2.1, bt189.2.2.2.2.2.1, bt189.2.2.2.2.2.2, 0))) = some (r1, r2, r3, r4, r5, r6, r7, r8) := by rw [if_neg (show ¬ (false = true) by decide)] at H; exact H
              clear H
              have H := H1
              clear H1
              replace H := Option.bind_eq_some_iff.mp H
              obtain ⟨⟨t189, t190, t191, t192, t193, t194, t195⟩, A2270, H⟩ := H
              replace H : (some (t189, t190, t191, t192, t193, t194, t195, 0)) = some (r1, r2, r3, r4, r5, r6, r7, r8) := H
              have A227 := Aside0.mk A2270
              clear A2270
              simp only [Option.some.injEq, Prod.mk.injEq] at H
              obtain ⟨rfl, rfl, rfl, rfl, rfl, rfl, rfl, rfl⟩ := H
              have hnb228 := NB160_140.out
              have hnc228 := NB140_160.out
              have hnb229 := NB160_141.out
              have hnc229 := NB141_160.out
              have hnb230 := NB160_144.out
              have hnc230 := NB144_160.out
              have hnb231 := NB160_145.out
              have hnc231 := NB145_160.out
              have hnb232 := NB160_146.out
              have hnc232 := NB146_160.out
              have hnb233 := NB160_150.out
              have hnc233 := NB150_160.out
              have hnb234 := NB160_154.out
              have hnc234 := NB154_160.out
              have hcz235_0 : wc.cell? ⟨gb160, 0, none⟩ = some (.int .i64 t158) := (blk_cell BK160.out 0).trans rfl
              have hcz235_1 : wc.cell? ⟨gb160, 1, none⟩ = some (.int .i64 t159) := (blk_cell BK160.out 1).trans rfl
              have hcz235_2 : wc.cell? ⟨gb160, 2, none⟩ = some (.int .i64 0) := (blk_cell BK160.out 2).trans rfl
              have hcz235_3 : wc.cell? ⟨gb160, 3, none⟩ = some (.bool false) := (blk_cell BK160.out 3).trans rfl
              have hcz235_4 : wc.cell? ⟨gb160, 4, none⟩ = some (.int .i64 0) := (blk_cell BK160.out 4).trans rfl
              have hcz235_5 : wc.cell? ⟨gb160, 5, none⟩ = some (.int .i64 t147) := (blk_cell BK160.out 5).trans rfl
              have hcz235_6 : wc.cell? ⟨gb160, 6, none⟩ = some (.int .i64 x161006_34) := (blk_cell BK160.out 6).trans rfl
              have hfz235_0 := blk_frozen BK160.out 0
              have hfz235_1 := blk_frozen BK160.out 1
              have hfz235_2 := blk_frozen BK160.out 2
              have hfz235_3 := blk_frozen BK160.out 3
              have hfz235_4 := blk_frozen BK160.out 4
              have hfz235_5 := blk_frozen BK160.out 5
              have hfz235_6 := blk_frozen BK160.out 6
              have hnb236 := NB140_141.out
              have hnc236 := NB141_140.out
              have hnb237 := NB140_144.out
              have hnc237 := NB144_140.out
              have hnb238 := NB140_145.out
              have hnc238 := NB145_140.out
              have hnb239 := NB140_146.out
              have hnc239 := NB146_140.out
              have hnb240 := NB140_150.out
              have hnc240 := NB150_140.out
              have hnb241 := NB140_154.out
              have hnc241 := NB154_140.out
              have hcz242_0 : wc.cell? ⟨gb140, 0, none⟩ = some (.int .i64 a0_0) := (blk_cell BK140.out 0).trans rfl
              have hcz242_1 : wc.cell? ⟨gb140, 1, none⟩ = some (.int .i64 a0_1) := (blk_cell BK140.out 1).trans rfl
              have hcz242_2 : wc.cell? ⟨gb140, 2, none⟩ = some (.int .i64 a0_2) := (blk_cell BK140.out 2).trans rfl
              have hcz242_3 : wc.cell? ⟨gb140, 3, none⟩ = some (.int .i64 a0_3) := (blk_cell BK140.out 3).trans rfl
              have hcz242_4 : wc.cell? ⟨gb140, 4, none⟩ = some (.bool true) := (blk_cell BK140.out 4).trans rfl
              have hcz242_5 : wc.cell? ⟨gb140, 5, none⟩ = some (.int .i64 a0_5) := (blk_cell BK140.out 5).trans rfl
              have hcz242_6 : wc.cell? ⟨gb140, 6, none⟩ = some (.int .i64 a0_6) := (blk_cell BK140.out 6).trans rfl
              have hfz242_0 := blk_frozen BK140.out 0
              have hfz242_1 := blk_frozen BK140.out 1
              have hfz242_2 := blk_frozen BK140.out 2
              have hfz242_3 := blk_frozen BK140.out 3
              have hfz242_4 := blk_frozen BK140.out 4
              have hfz242_5 := blk_frozen BK140.out 5
              have hfz242_6 := blk_frozen BK140.out 6
              have hnb243 := NB145_141.out
              have hnc243 := NB141_145.out
              have hnb244 := NB145_144.out
              have hnc244 := NB144_145.out
              have hnb245 := NB145_146.out
              have hnc245 := NB146_145.out
              have hnb246 := NB145_150.out
              have hnc246 := NB150_145.out
              have hnb247 := NB145_154.out
              have hnc247 := NB154_145.out
              have hcz248_0 : wc.cell? ⟨gb145, 0, none⟩ = some (.bool t148) := (blk_cell BK145.out 0).trans rfl
              have hcz248_1 : wc.cell? ⟨gb145, 1, none⟩ = some (.bool t152) := (blk_cell BK145.out 1).trans rfl
              have hcz248_2 : wc.cell? ⟨gb145, 2, none⟩ = some (.bool false) := (blk_cell BK145.out 2).trans rfl
              have hfz248_0 := blk_frozen BK145.out 0
              have hfz248_1 := blk_frozen BK145.out 1
              have hfz248_2 := blk_frozen BK145.out 2
              as_aux_lemma =>
                go_wp2_with (first | ((with_reducible refine gate_callee (f := 11) rfl ?_); refine goesL_ (some 92) rfl rfl Try.func11 pmAx9_43_ rfl #[.agg #[.int .i64 t158, .int .i64 t159, .int .i64 0, .bool false, .int .i64 0, .int .i64 t147, .int .i64 x161006_34]] rfl pmAx9_14_ ?_; (with_reducible refine (base_Raise.calls t158 t159 0 false 0 t147 x161006_34 t189 t190 t191 t192 t193 t194 t195 _ A227.out).mono ?_); rintro e w249 ⟨rfl, hb⟩; refine ⟨_, rfl, ?_⟩; have n0_ := Aside0.mk (blk_below (g := gb140) (o := poAx9_0 a0_0 a0_1 a0_2 a0_3 true a0_5 a0_6) pmAx9_0_ hb); have n1_ := Aside0.mk (blk_below (g := gb141) (o := poAx9_1 0 0 0 false 0 0 0) pmAx9_1_ hb); have n2_ := Aside0.mk (blk_below (g := gb144) (o := poAx9_2 t147 t151 t155) pmAx9_6_ hb); have n3_ := Aside0.mk (blk_below (g := gb145) (o := poAx9_3 t148 t152 false) pmAx9_10_ hb); have n4_ := Aside0.mk (blk_below (g := gb146) (o := poAx9_4 a0_0 a0_1) pmAx9_22_ hb); have n5_ := Aside0.mk (blk_below (g := gb150) (o := poAx9_4 a0_2 a0_3) pmAx9_23_ hb); have n6_ := Aside0.mk (blk_below (g := gb154) (o := poAx9_4 a0_5 a0_6) pmAx9_24_ hb); have n7_ := Aside0.mk (blk_below (g := gb160) (o := poAx9_1 t158 t159 0 false 0 t147 x161006_34) pmAx9_35_ hb); have n8_ := Aside0.mk (below_step pmAx9_5_ hb); clear BK140; clear BK141; clear BK144; clear BK145; clear BK146; clear BK150; clear BK154; clear BK160; clear HB; have BK140 := n0_; have BK141 := n1_; have BK144 := n2_; have BK145 := n3_; have BK146 := n4_; have BK150 := n5_; have BK154 := n6_; have BK160 := n7_; have HB := n8_; clear n0_ n1_ n2_ n3_ n4_ n5_ n6_ n7_ n8_; (try clear hb); (try clear hb2); (try clear hk); (try clear hi); have hnb250 := NB141_144.out; have hnc250 := NB144_141.out; have hnb251 := NB141_146.out; have hnc251 := NB146_141.out; have hnb252 := NB141_150.out; have hnc252 := NB150_141.out; have hnb253 := NB141_154.out; have hnc253 := NB154_141.out; have hcz254_0 : w249.cell? ⟨gb141, 0, none⟩ = some (.int .i64 0) := (blk_cell BK141.out 0).trans rfl; have hcz254_1 : w249.cell? ⟨gb141, 1, none⟩ = some (.int .i64 0) := (blk_cell BK141.out 1).trans rfl; have hcz254_2 : w249.cell? ⟨gb141, 2, none⟩ = some (.int .i64 0) := (blk_cell BK141.out 2).trans rfl; have hcz254_3 : w249.cell? ⟨gb141, 3, none⟩ = some (.bool false) := (blk_cell BK141.out 3).trans rfl; have hcz254_4 : w249.cell? ⟨gb141, 4, none⟩ = some (.int .i64 0) := (blk_cell BK141.out 4).trans rfl; have hcz254_5 : w249.cell? ⟨gb141, 5, none⟩ = some (.int .i64 0) := (blk_cell BK141.out 5).trans rfl; have hcz254_6 : w249.cell? ⟨gb141, 6, none⟩ = some (.int .i64 0) := (blk_cell BK141.out 6).trans rfl; have hfz254_0 := blk_frozen BK141.out 0; have hfz254_1 := blk_frozen BK141.out 1; have hfz254_2 := blk_frozen BK141.out 2; have hfz254_3 := blk_frozen BK141.out 3; have hfz254_4 := blk_frozen BK141.out 4; have hfz254_5 := blk_frozen BK141.out 5; have hfz254_6 := blk_frozen BK141.out 6) | (with_reducible refine wp_loop_rounds 4 ?_) | (with_reducible refine rounds_go ?_))
                refine bodyPost_ret (results_ct rfl _ _ gb141 27 #[.int .i64 t189, .int .i64 t190, .int .i64 t191, .bool t192, .int .i64 t193, .int .i64 t194, .int .i64 t195] (0, 0) _ rfl (by (with_reducible repeat (first | refine blk_drewN ?_ _ | refine blk_drew ?_ | refine blk_alloc ?_ _)); refine blk_put (cs := #[.int .i64 t189, .int .i64 t190, .int .i64 t191, .bool t192, .int .i64 t193, .int .i64 t194, .int .i64 0]) ?_ 6 _ rfl; (with_reducible repeat (first | refine blk_drewN ?_ _ | refine blk_drew ?_ | refine blk_alloc ?_ _)); refine blk_put (cs := #[.int .i64 t189, .int .i64 t190, .int .i64 t191, .bool t192, .int .i64 t193, .int .i64 0, .int .i64 0]) ?_ 5 _ rfl; (with_reducible repeat (first | refine blk_drewN ?_ _ | refine blk_drew ?_ | refine blk_alloc ?_ _)); refine blk_put (cs := #[.int .i64 t189, .int .i64 t190, .int .i64 t191, .bool t192, .int .i64 0, .int .i64 0, .int .i64 0]) ?_ 4 _ rfl; (with_reducible repeat (first | refine blk_drewN ?_ _ | refine blk_drew ?_ | refine blk_alloc ?_ _)); refine blk_put (cs := #[.int .i64 t189, .int .i64 t190, .int .i64 t191, .bool false, .int .i64 0, .int .i64 0, .int .i64 0]) ?_ 3 _ rfl; (with_reducible repeat (first | refine blk_drewN ?_ _ | refine blk_drew ?_ | refine blk_alloc ?_ _)); refine blk_put (cs := #[.int .i64 t189, .int .i64 t190, .int .i64 0, .bool false, .int .i64 0, .int .i64 0, .int .i64 0]) ?_ 2 _ rfl; (with_reducible repeat (first | refine blk_drewN ?_ _ | refine blk_drew ?_ | refine blk_alloc ?_ _)); refine blk_put (cs := #[.int .i64 t189, .int .i64 0, .int .i64 0, .bool false, .int .i64 0, .int .i64 0, .int .i64 0]) ?_ 1 _ rfl; (with_reducible repeat (first | refine blk_drewN ?_ _ | refine blk_drew ?_ | refine blk_alloc ?_ _)); refine blk_put (cs := #[.int .i64 0, .int .i64 0, .int .i64 0, .bool false, .int .i64 0, .int .i64 0, .int .i64 0]) ?_ 0 _ rfl; (with_reducible repeat (first | refine blk_drewN ?_ _ | refine blk_drew ?_ | refine blk_alloc ?_ _)); exact BK141.out) Try.underlying27 rfl pmAx9_43_) rfl ?_
                exact ⟨by first | rfl | (simp [errW_none, errW_some] <;> rfl) | (simp [*, errW_none, errW_some] <;> rfl), by repeat (first | (with_reducible first | exact HB.out | apply below_alloc | apply pw_below_drewN | apply below_drew1 | refine below_set ?_ GE140.out | refine below_set ?_ GE141.out | refine below_set ?_ GE144.out | refine below_set ?_ GE145.out | refine below_set ?_ GE146.out | refine below_set ?_ GE150.out | refine below_set ?_ GE154.out | refine below_set ?_ GE160.out) | exact HB.out)⟩
            subst c194
            have H1 : ((base_Raise.f t158 t159 0 true t155 t147 x161006_34).bind fun bt182 => (some (bt182.1, bt182.2.1, bt182.2.2.1, bt182.2.2.2.1, bt182.2.2.2.2.1, bt182.2.2.2.2.2.1, bt182.2.2.2.2.2.2, 0))) = some (r1, r2, r3, r4, r5, r6, r7, r8) := by rw [if_pos rfl] at H; exact H
            clear H
            have H := H1
            clear H1
            replace H := Option.bind_eq_some_iff.mp H
            obtain ⟨⟨t182, t183, t184, t185, t186, t187, t188⟩, A1950, H⟩ := H
            replace H : (some (t182, t183, t184, t185, t186, t187, t188, 0)) = some (r1, r2, r3, r4, r5, r6, r7, r8) := H
            have A195 := Aside0.mk A1950
            clear A1950
            simp only [Option.some.injEq, Prod.mk.injEq] at H
            obtain ⟨rfl, rfl, rfl, rfl, rfl, rfl, rfl, rfl⟩ := H
            have hnb196 := NB160_140.out
            have hnc196 := NB140_160.out
            have hnb197 := NB160_141.out
            have hnc197 := NB141_160.out
            have hnb198 := NB160_144.out
            have hnc198 := NB144_160.out
            have hnb199 := NB160_145.out
            have hnc199 := NB145_160.out
            have hnb200 := NB160_146.out
            have hnc200 := NB146_160.out
            have hnb201 := NB160_150.out
            have hnc201 := NB150_160.out
            have hnb202 := NB160_154.out
            have hnc202 := NB154_160.out
            have hcz203_0 : wc.cell? ⟨gb160, 0, none⟩ = some (.int .i64 t158) := (blk_cell BK160.out 0).trans rfl
            have hcz203_1 : wc.cell? ⟨gb160, 1, none⟩ = some (.int .i64 t159) := (blk_cell BK160.out 1).trans rfl
            have hcz203_2 : wc.cell? ⟨gb160, 2, none⟩ = some (.int .i64 0) := (blk_cell BK160.out 2).trans rfl
            have hcz203_3 : wc.cell? ⟨gb160, 3, none⟩ = some (.bool false) := (blk_cell BK160.out 3).trans rfl
            have hcz203_4 : wc.cell? ⟨gb160, 4, none⟩ = some (.int .i64 0) := (blk_cell BK160.out 4).trans rfl
            have hcz203_5 : wc.cell? ⟨gb160, 5, none⟩ = some (.int .i64 t147) := (blk_cell BK160.out 5).trans rfl
            have hcz203_6 : wc.cell? ⟨gb160, 6, none⟩ = some (.int .i64 x161006_34) := (blk_cell BK160.out 6).trans rfl
            have hfz203_0 := blk_frozen BK160.out 0
            have hfz203_1 := blk_frozen BK160.out 1
            have hfz203_2 := blk_frozen BK160.out 2
            have hfz203_3 := blk_frozen BK160.out 3
            have hfz203_4 := blk_frozen BK160.out 4
            have hfz203_5 := blk_frozen BK160.out 5
            have hfz203_6 := blk_frozen BK160.out 6
            have hnb204 := NB140_141.out
            have hnc204 := NB141_140.out
            have hnb205 := NB140_144.out
            have hnc205 := NB144_140.out
            have hnb206 := NB140_145.out
            have hnc206 := NB145_140.out
            have hnb207 := NB140_146.out
            have hnc207 := NB146_140.out
            have hnb208 := NB140_150.out
            have hnc208 := NB150_140.out
            have hnb209 := NB140_154.out
            have hnc209 := NB154_140.out
            have hcz210_0 : wc.cell? ⟨gb140, 0, none⟩ = some (.int .i64 a0_0) := (blk_cell BK140.out 0).trans rfl
            have hcz210_1 : wc.cell? ⟨gb140, 1, none⟩ = some (.int .i64 a0_1) := (blk_cell BK140.out 1).trans rfl
            have hcz210_2 : wc.cell? ⟨gb140, 2, none⟩ = some (.int .i64 a0_2) := (blk_cell BK140.out 2).trans rfl
            have hcz210_3 : wc.cell? ⟨gb140, 3, none⟩ = some (.int .i64 a0_3) := (blk_cell BK140.out 3).trans rfl
            have hcz210_4 : wc.cell? ⟨gb140, 4, none⟩ = some (.bool true) := (blk_cell BK140.out 4).trans rfl
            have hcz210_5 : wc.cell? ⟨gb140, 5, none⟩ = some (.int .i64 a0_5) := (blk_cell BK140.out 5).trans rfl
            have hcz210_6 : wc.cell? ⟨gb140, 6, none⟩ = some (.int .i64 a0_6) := (blk_cell BK140.out 6).trans rfl
            have hfz210_0 := blk_frozen BK140.out 0
            have hfz210_1 := blk_frozen BK140.out 1
            have hfz210_2 := blk_frozen BK140.out 2
            have hfz210_3 := blk_frozen BK140.out 3
            have hfz210_4 := blk_frozen BK140.out 4
            have hfz210_5 := blk_frozen BK140.out 5
            have hfz210_6 := blk_frozen BK140.out 6
            have hnb211 := NB145_141.out
            have hnc211 := NB141_145.out
            have hnb212 := NB145_144.out
            have hnc212 := NB144_145.out
            have hnb213 := NB145_146.out
            have hnc213 := NB146_145.out
            have hnb214 := NB145_150.out
            have hnc214 := NB150_145.out
            have hnb215 := NB145_154.out
            have hnc215 := NB154_145.out
            have hcz216_0 : wc.cell? ⟨gb145, 0, none⟩ = some (.bool t148) := (blk_cell BK145.out 0).trans rfl
            have hcz216_1 : wc.cell? ⟨gb145, 1, none⟩ = some (.bool t152) := (blk_cell BK145.out 1).trans rfl
            have hcz216_2 : wc.cell? ⟨gb145, 2, none⟩ = some (.bool true) := (blk_cell BK145.out 2).trans rfl
            have hfz216_0 := blk_frozen BK145.out 0
            have hfz216_1 := blk_frozen BK145.out 1
            have hfz216_2 := blk_frozen BK145.out 2
            try go_wp2
            replace BK140 := Aside0.mk (blk_drew BK140.out)
            replace BK141 := Aside0.mk (blk_drew BK141.out)
            replace BK144 := Aside0.mk (blk_drew BK144.out)
            replace BK145 := Aside0.mk (blk_drew BK145.out)
            replace BK146 := Aside0.mk (blk_drew BK146.out)
            replace BK150 := Aside0.mk (blk_drew BK150.out)
            replace BK154 := Aside0.mk (blk_drew BK154.out)
            replace BK160 := Aside0.mk (blk_drew BK160.out)
            replace HB := Aside0.mk (below_drew1 HB.out)
            refine start_ (n := 6) (S := fun w' => w'.cell? ⟨gb144, 0, none⟩ = some (.int .i64 t147) ∧ w'.cell? ⟨gb144, 1, none⟩ = some (.int .i64 t151) ∧ w'.cell? ⟨gb144, 2, none⟩ = some (.int .i64 t155)) (ds := []) #[false, false, false, false, false, false] pmAx9_43_ rfl rfl ⟨(blk_cell BK144.out 0).trans rfl, (blk_cell BK144.out 1).trans rfl, (blk_cell BK144.out 2).trans rfl⟩ (fun hHeld => ?_)
            generalize wc.drew = w217 at BK140 BK141 BK144 BK145 BK146 BK150 BK154 BK160 HB hHeld ⊢
            refine pure_ (i := 0) (N := some 87) (v := ?_) (a' := ?_) #[true, false, false, false, false, false] rfl rfl pmAx9_43_ (fun _ _ _ h => h) (Or.inl ⟨by rfl, ?_⟩) ?_ ?_
            rotate_left
            · intro w'
              go_simp
              with_reducible rfl
            rotate_left
            · simp only [Act.put, List.setIfInBounds_toArray, List.set_cons_zero, List.set_cons_succ, i64_w, i32_w]
              rfl
            refine pure_ (i := 2) (N := some 89) (v := ?_) (a' := ?_) #[true, false, true, false, false, false] rfl rfl pmAx9_43_ (fun _ _ _ h => h) (Or.inl ⟨by rfl, ?_⟩) ?_ ?_
            rotate_left
            · intro w'
              go_simp
              with_reducible rfl
            rotate_left
            · simp only [Act.put, List.setIfInBounds_toArray, List.set_cons_zero, List.set_cons_succ, i64_w, i32_w]
              rfl
            refine take_ (i := 1) (N := some 88) (v := ?_) (a' := ?_) #[true, true, true, false, false, false] rfl rfl pmAx9_43_ (fun _ _ _ h => h) (Or.inl ⟨by rfl, ?_⟩) hHeld ?_ ?_
            rotate_left
            · rintro w' ⟨s0, s1, s2⟩
              go_simp
              with_reducible rfl
            rotate_left
            · simp only [Act.put, List.setIfInBounds_toArray, List.set_cons_zero, List.set_cons_succ, i64_w, i32_w]
              rfl
            refine one_ (i := 3) (N := none) #[true, true, true, true, false, false] rfl rfl pmAx9_43_ (by decide) (fun K hK => ?_)
            have hs218 : w217.cell? ⟨gb160, 3, none⟩ = some (.bool false) := (blk_cell BK160.out 3).trans rfl
            have hfs218 := blk_frozen BK160.out 3
            have hns218_0 := NB140_160.out
            have hns218_1 := NB141_160.out
            have hns218_2 := NB144_160.out
            have hns218_3 := NB145_160.out
            have hns218_4 := NB146_160.out
            have hns218_5 := NB150_160.out
            have hns218_6 := NB154_160.out
            have hms218_0 := NB160_140.out
            have hms218_1 := NB160_141.out
            have hms218_2 := NB160_144.out
            have hms218_3 := NB160_145.out
            have hms218_4 := NB160_146.out
            have hms218_5 := NB160_150.out
            have hms218_6 := NB160_154.out
            refine skip_ (w1 := ?_) (by rfl) rfl ?_ ?_
            rotate_left
            · go_simp
              rfl
            refine hK.out _ _ pmAx9_42_ (fun hHeld => ?_)
            clear hK K
            refine pure_ (i := 4) (N := some 90) (v := ?_) (a' := ?_) #[true, true, true, true, true, false] rfl rfl pmAx9_43_ (fun _ _ _ h => h) (Or.inl ⟨by rfl, ?_⟩) ?_ ?_
            rotate_left
            · intro w'
              go_simp
              with_reducible rfl
            rotate_left
            · simp only [Act.put, List.setIfInBounds_toArray, List.set_cons_zero, List.set_cons_succ, i64_w, i32_w]
              rfl
            refine one_ (i := 5) (N := none) #[true, true, true, true, true, true] rfl rfl pmAx9_43_ (by decide) (fun K hK => ?_)
            have hs219 : w217.cell? ⟨gb160, 4, none⟩ = some (.int .i64 0) := (blk_cell BK160.out 4).trans rfl
            have hfs219 := blk_frozen BK160.out 4
            have hns219_0 := NB140_160.out
            have hns219_1 := NB141_160.out
            have hns219_2 := NB144_160.out
            have hns219_3 := NB145_160.out
            have hns219_4 := NB146_160.out
            have hns219_5 := NB150_160.out
            have hns219_6 := NB154_160.out
            have hms219_0 := NB160_140.out
            have hms219_1 := NB160_141.out
            have hms219_2 := NB160_144.out
            have hms219_3 := NB160_145.out
            have hms219_4 := NB160_146.out
            have hms219_5 := NB160_150.out
            have hms219_6 := NB160_154.out
            refine skip_ (w1 := ?_) (by rfl) rfl ?_ ?_
            rotate_left
            · go_simp
              rfl
            refine hK.out _ _ pmAx9_42_ (fun hHeld => ?_)
            clear hK K
            refine done_ pmAx9_43_ ?_
            have hcz220_0 : w217.cell? ⟨gb160, 0, none⟩ = some (.int .i64 t158) := (blk_cell BK160.out 0).trans rfl
            have hcz220_1 : w217.cell? ⟨gb160, 1, none⟩ = some (.int .i64 t159) := (blk_cell BK160.out 1).trans rfl
            have hcz220_2 : w217.cell? ⟨gb160, 2, none⟩ = some (.int .i64 0) := (blk_cell BK160.out 2).trans rfl
            have hcz220_3 : w217.cell? ⟨gb160, 3, none⟩ = some (.bool false) := (blk_cell BK160.out 3).trans rfl
            have hcz220_4 : w217.cell? ⟨gb160, 4, none⟩ = some (.int .i64 0) := (blk_cell BK160.out 4).trans rfl
            have hcz220_5 : w217.cell? ⟨gb160, 5, none⟩ = some (.int .i64 t147) := (blk_cell BK160.out 5).trans rfl
            have hcz220_6 : w217.cell? ⟨gb160, 6, none⟩ = some (.int .i64 x161006_34) := (blk_cell BK160.out 6).trans rfl
            have hfz220_0 := blk_frozen BK160.out 0
            have hfz220_1 := blk_frozen BK160.out 1
            have hfz220_2 := blk_frozen BK160.out 2
            have hfz220_3 := blk_frozen BK160.out 3
            have hfz220_4 := blk_frozen BK160.out 4
            have hfz220_5 := blk_frozen BK160.out 5
            have hfz220_6 := blk_frozen BK160.out 6
            try go_wp2_with (first | ((with_reducible refine gate_callee (f := 11) rfl ?_); refine goesL_ (some 92) rfl rfl Try.func11 pmAx9_43_ rfl #[.agg #[.int .i64 t158, .int .i64 t159, .int .i64 0, .bool true, .int .i64 t155, .int .i64 t147, .int .i64 x161006_34]] rfl pmAx9_14_ ?_; (with_reducible refine (base_Raise.calls t158 t159 0 true t155 t147 x161006_34 t182 t183 t184 t185 t186 t187 t188 _ A195.out).mono ?_); rintro e w221 ⟨rfl, hb⟩; refine ⟨_, rfl, ?_⟩; have n0_ := Aside0.mk (blk_below (g := gb140) (o := poAx9_0 a0_0 a0_1 a0_2 a0_3 true a0_5 a0_6) pmAx9_62_ hb); have n1_ := Aside0.mk (blk_below (g := gb141) (o := poAx9_1 0 0 0 false 0 0 0) pmAx9_63_ hb); have n2_ := Aside0.mk (blk_below (g := gb144) (o := poAx9_2 t147 t151 t155) pmAx9_64_ hb); have n3_ := Aside0.mk (blk_below (g := gb145) (o := poAx9_3 t148 t152 true) pmAx9_65_ hb); have n4_ := Aside0.mk (blk_below (g := gb146) (o := poAx9_4 a0_0 a0_1) pmAx9_66_ hb); have n5_ := Aside0.mk (blk_below (g := gb150) (o := poAx9_4 a0_2 a0_3) pmAx9_67_ hb); have n6_ := Aside0.mk (blk_below (g := gb154) (o := poAx9_4 a0_5 a0_6) pmAx9_68_ hb); have n7_ := Aside0.mk (blk_below (g := gb160) (o := poAx9_1 t158 t159 0 true t155 t147 x161006_34) (by (with_reducible repeat (first | refine blk_drewN ?_ _ | refine blk_drew ?_ | refine blk_alloc ?_ _)); refine blk_put (cs := #[.int .i64 t158, .int .i64 t159, .int .i64 0, .bool true, .int .i64 0, .int .i64 t147, .int .i64 x161006_34]) ?_ 4 _ rfl; (with_reducible repeat (first | refine blk_drewN ?_ _ | refine blk_drew ?_ | refine blk_alloc ?_ _)); refine blk_put (cs := #[.int .i64 t158, .int .i64 t159, .int .i64 0, .bool false, .int .i64 0, .int .i64 t147, .int .i64 x161006_34]) ?_ 3 _ rfl; (with_reducible repeat (first | refine blk_drewN ?_ _ | refine blk_drew ?_ | refine blk_alloc ?_ _)); exact BK160.out) hb); have n8_ := Aside0.mk (below_step pmAx9_5_ hb); clear BK140; clear BK141; clear BK144; clear BK145; clear BK146; clear BK150; clear BK154; clear BK160; clear HB; have BK140 := n0_; have BK141 := n1_; have BK144 := n2_; have BK145 := n3_; have BK146 := n4_; have BK150 := n5_; have BK154 := n6_; have BK160 := n7_; have HB := n8_; clear n0_ n1_ n2_ n3_ n4_ n5_ n6_ n7_ n8_; (try clear hb); (try clear hb2); (try clear hk); (try clear hi); have hnb222 := NB141_144.out; have hnc222 := NB144_141.out; have hnb223 := NB141_146.out; have hnc223 := NB146_141.out; have hnb224 := NB141_150.out; have hnc224 := NB150_141.out; have hnb225 := NB141_154.out; have hnc225 := NB154_141.out; have hcz226_0 : w221.cell? ⟨gb141, 0, none⟩ = some (.int .i64 0) := (blk_cell BK141.out 0).trans rfl; have hcz226_1 : w221.cell? ⟨gb141, 1, none⟩ = some (.int .i64 0) := (blk_cell BK141.out 1).trans rfl; have hcz226_2 : w221.cell? ⟨gb141, 2, none⟩ = some (.int .i64 0) := (blk_cell BK141.out 2).trans rfl; have hcz226_3 : w221.cell? ⟨gb141, 3, none⟩ = some (.bool false) := (blk_cell BK141.out 3).trans rfl; have hcz226_4 : w221.cell? ⟨gb141, 4, none⟩ = some (.int .i64 0) := (blk_cell BK141.out 4).trans rfl; have hcz226_5 : w221.cell? ⟨gb141, 5, none⟩ = some (.int .i64 0) := (blk_cell BK141.out 5).trans rfl; have hcz226_6 : w221.cell? ⟨gb141, 6, none⟩ = some (.int .i64 0) := (blk_cell BK141.out 6).trans rfl; have hfz226_0 := blk_frozen BK141.out 0; have hfz226_1 := blk_frozen BK141.out 1; have hfz226_2 := blk_frozen BK141.out 2; have hfz226_3 := blk_frozen BK141.out 3; have hfz226_4 := blk_frozen BK141.out 4; have hfz226_5 := blk_frozen BK141.out 5; have hfz226_6 := blk_frozen BK141.out 6) | (with_reducible refine wp_loop_rounds 4 ?_) | (with_reducible refine rounds_go ?_))
            refine bodyPost_ret (results_ct rfl _ _ gb141 27 #[.int .i64 t182, .int .i64 t183, .int .i64 t184, .bool t185, .int .i64 t186, .int .i64 t187, .int .i64 t188] (0, 0) _ rfl (by (with_reducible repeat (first | refine blk_drewN ?_ _ | refine blk_drew ?_ | refine blk_alloc ?_ _)); refine blk_put (cs := #[.int .i64 t182, .int .i64 t183, .int .i64 t184, .bool t185, .int .i64 t186, .int .i64 t187, .int .i64 0]) ?_ 6 _ rfl; (with_reducible repeat (first | refine blk_drewN ?_ _ | refine blk_drew ?_ | refine blk_alloc ?_ _)); refine blk_put (cs := #[.int .i64 t182, .int .i64 t183, .int .i64 t184, .bool t185, .int .i64 t186, .int .i64 0, .int .i64 0]) ?_ 5 _ rfl; (with_reducible repeat (first | refine blk_drewN ?_ _ | refine blk_drew ?_ | refine blk_alloc ?_ _)); refine blk_put (cs := #[.int .i64 t182, .int .i64 t183, .int .i64 t184, .bool t185, .int .i64 0, .int .i64 0, .int .i64 0]) ?_ 4 _ rfl; (with_reducible repeat (first | refine blk_drewN ?_ _ | refine blk_drew ?_ | refine blk_alloc ?_ _)); refine blk_put (cs := #[.int .i64 t182, .int .i64 t183, .int .i64 t184, .bool false, .int .i64 0, .int .i64 0, .int .i64 0]) ?_ 3 _ rfl; (with_reducible repeat (first | refine blk_drewN ?_ _ | refine blk_drew ?_ | refine blk_alloc ?_ _)); refine blk_put (cs := #[.int .i64 t182, .int .i64 t183, .int .i64 0, .bool false, .int .i64 0, .int .i64 0, .int .i64 0]) ?_ 2 _ rfl; (with_reducible repeat (first | refine blk_drewN ?_ _ | refine blk_drew ?_ | refine blk_alloc ?_ _)); refine blk_put (cs := #[.int .i64 t182, .int .i64 0, .int .i64 0, .bool false, .int .i64 0, .int .i64 0, .int .i64 0]) ?_ 1 _ rfl; (with_reducible repeat (first | refine blk_drewN ?_ _ | refine blk_drew ?_ | refine blk_alloc ?_ _)); refine blk_put (cs := #[.int .i64 0, .int .i64 0, .int .i64 0, .bool false, .int .i64 0, .int .i64 0, .int .i64 0]) ?_ 0 _ rfl; (with_reducible repeat (first | refine blk_drewN ?_ _ | refine blk_drew ?_ | refine blk_alloc ?_ _)); exact BK141.out) Try.underlying27 rfl pmAx9_43_) rfl ?_
            exact ⟨by first | rfl | (simp [errW_none, errW_some] <;> rfl) | (simp [*, errW_none, errW_some] <;> rfl), by repeat (first | (with_reducible first | exact HB.out | apply below_alloc | apply pw_below_drewN | apply below_drew1 | refine below_set ?_ GE140.out | refine below_set ?_ GE141.out | refine below_set ?_ GE144.out | refine below_set ?_ GE145.out | refine below_set ?_ GE146.out | refine below_set ?_ GE150.out | refine below_set ?_ GE154.out | refine below_set ?_ GE160.out) | exact HB.out)⟩
          rw [if_pos c106] at H
          have c106b0 : (t159 == 5) = true := beq_iff_eq.mpr c106
          have c106b1 : (t159 != 5) = false := bne_eq_false_iff_eq.mpr c106
          clear c106
          by_cases c107 : a0_4 = true
          rotate_left
          · replace c107 := Bool.eq_false_iff.mpr c107
            subst c107
            have H1 : ((base_Raise.f t158 t159 a0_3 false 0 t147 x161006_34).bind fun bt175 => (some (bt175.1, bt175.2.1, bt175.2.2.1, bt175.2.2.2.1, bt175.2.2.2.2.1, bt175.2.2.2.2.2.1, bt175.2.2.2.2.2.2, 0))) = some (r1, r2, r3, r4, r5, r6, r7, r8) := by rw [if_neg (show ¬ (false = true) by decide)] at H; exact H
            clear H
            have H := H1
            clear H1
            replace H := Option.bind_eq_some_iff.mp H
            obtain ⟨⟨t175, t176, t177, t178, t179, t180, t181⟩, A1700, H⟩ := H
            replace H : (some (t175, t176, t177, t178, t179, t180, t181, 0)) = some (r1, r2, r3, r4, r5, r6, r7, r8) := H
            have A170 := Aside0.mk A1700
            clear A1700
            simp only [Option.some.injEq, Prod.mk.injEq] at H
            obtain ⟨rfl, rfl, rfl, rfl, rfl, rfl, rfl, rfl⟩ := H
            have hnb171 := NB160_140.out
            have hnc171 := NB140_160.out
            have hnb172 := NB160_141.out
            have hnc172 := NB141_160.out
            have hnb173 := NB160_144.out
            have hnc173 := NB144_160.out
            have hnb174 := NB160_145.out
            have hnc174 := NB145_160.out
            have hnb175 := NB160_146.out
            have hnc175 := NB146_160.out
            have hnb176 := NB160_150.out
            have hnc176 := NB150_160.out
            have hnb177 := NB160_154.out
            have hnc177 := NB154_160.out
            have hcz178_0 : wc.cell? ⟨gb160, 0, none⟩ = some (.int .i64 t158) := (blk_cell BK160.out 0).trans rfl
            have hcz178_1 : wc.cell? ⟨gb160, 1, none⟩ = some (.int .i64 t159) := (blk_cell BK160.out 1).trans rfl
            have hcz178_2 : wc.cell? ⟨gb160, 2, none⟩ = some (.int .i64 0) := (blk_cell BK160.out 2).trans rfl
            have hcz178_3 : wc.cell? ⟨gb160, 3, none⟩ = some (.bool false) := (blk_cell BK160.out 3).trans rfl
            have hcz178_4 : wc.cell? ⟨gb160, 4, none⟩ = some (.int .i64 0) := (blk_cell BK160.out 4).trans rfl
            have hcz178_5 : wc.cell? ⟨gb160, 5, none⟩ = some (.int .i64 t147) := (blk_cell BK160.out 5).trans rfl
            have hcz178_6 : wc.cell? ⟨gb160, 6, none⟩ = some (.int .i64 x161006_34) := (blk_cell BK160.out 6).trans rfl
            have hfz178_0 := blk_frozen BK160.out 0
            have hfz178_1 := blk_frozen BK160.out 1
            have hfz178_2 := blk_frozen BK160.out 2
            have hfz178_3 := blk_frozen BK160.out 3
            have hfz178_4 := blk_frozen BK160.out 4
            have hfz178_5 := blk_frozen BK160.out 5
            have hfz178_6 := blk_frozen BK160.out 6
            have hnb179 := NB140_141.out
            have hnc179 := NB141_140.out
            have hnb180 := NB140_144.out
            have hnc180 := NB144_140.out
            have hnb181 := NB140_145.out
            have hnc181 := NB145_140.out
            have hnb182 := NB140_146.out
            have hnc182 := NB146_140.out
            have hnb183 := NB140_150.out
            have hnc183 := NB150_140.out
            have hnb184 := NB140_154.out
            have hnc184 := NB154_140.out
            have hcz185_0 : wc.cell? ⟨gb140, 0, none⟩ = some (.int .i64 a0_0) := (blk_cell BK140.out 0).trans rfl
            have hcz185_1 : wc.cell? ⟨gb140, 1, none⟩ = some (.int .i64 a0_1) := (blk_cell BK140.out 1).trans rfl
            have hcz185_2 : wc.cell? ⟨gb140, 2, none⟩ = some (.int .i64 a0_2) := (blk_cell BK140.out 2).trans rfl
            have hcz185_3 : wc.cell? ⟨gb140, 3, none⟩ = some (.int .i64 a0_3) := (blk_cell BK140.out 3).trans rfl
            have hcz185_4 : wc.cell? ⟨gb140, 4, none⟩ = some (.bool false) := (blk_cell BK140.out 4).trans rfl
            have hcz185_5 : wc.cell? ⟨gb140, 5, none⟩ = some (.int .i64 a0_5) := (blk_cell BK140.out 5).trans rfl
            have hcz185_6 : wc.cell? ⟨gb140, 6, none⟩ = some (.int .i64 a0_6) := (blk_cell BK140.out 6).trans rfl
            have hfz185_0 := blk_frozen BK140.out 0
            have hfz185_1 := blk_frozen BK140.out 1
            have hfz185_2 := blk_frozen BK140.out 2
            have hfz185_3 := blk_frozen BK140.out 3
            have hfz185_4 := blk_frozen BK140.out 4
            have hfz185_5 := blk_frozen BK140.out 5
            have hfz185_6 := blk_frozen BK140.out 6
            as_aux_lemma =>
              go_wp2_with (first | ((with_reducible refine gate_callee (f := 11) rfl ?_); refine goesL_ (some 92) rfl rfl Try.func11 pmAx9_43_ rfl #[.agg #[.int .i64 t158, .int .i64 t159, .int .i64 a0_3, .bool false, .int .i64 0, .int .i64 t147, .int .i64 x161006_34]] rfl pmAx9_14_ ?_; (with_reducible refine (base_Raise.calls t158 t159 a0_3 false 0 t147 x161006_34 t175 t176 t177 t178 t179 t180 t181 _ A170.out).mono ?_); rintro e w186 ⟨rfl, hb⟩; refine ⟨_, rfl, ?_⟩; have n0_ := Aside0.mk (blk_below (g := gb140) (o := poAx9_0 a0_0 a0_1 a0_2 a0_3 false a0_5 a0_6) pmAx9_46_ hb); have n1_ := Aside0.mk (blk_below (g := gb141) (o := poAx9_1 0 0 0 false 0 0 0) pmAx9_47_ hb); have n2_ := Aside0.mk (blk_below (g := gb144) (o := poAx9_2 t147 t151 t155) pmAx9_48_ hb); have n3_ := Aside0.mk (blk_below (g := gb145) (o := poAx9_3 t148 t152 t156) pmAx9_49_ hb); have n4_ := Aside0.mk (blk_below (g := gb146) (o := poAx9_4 a0_0 a0_1) pmAx9_50_ hb); have n5_ := Aside0.mk (blk_below (g := gb150) (o := poAx9_4 a0_2 a0_3) pmAx9_51_ hb); have n6_ := Aside0.mk (blk_below (g := gb154) (o := poAx9_4 a0_5 a0_6) pmAx9_52_ hb); have n7_ := Aside0.mk (blk_below (g := gb160) (o := poAx9_1 t158 t159 a0_3 false 0 t147 x161006_34) pmAx9_41_ hb); have n8_ := Aside0.mk (below_step pmAx9_5_ hb); clear BK140; clear BK141; clear BK144; clear BK145; clear BK146; clear BK150; clear BK154; clear BK160; clear HB; have BK140 := n0_; have BK141 := n1_; have BK144 := n2_; have BK145 := n3_; have BK146 := n4_; have BK150 := n5_; have BK154 := n6_; have BK160 := n7_; have HB := n8_; clear n0_ n1_ n2_ n3_ n4_ n5_ n6_ n7_ n8_; (try clear hb); (try clear hb2); (try clear hk); (try clear hi); have hnb187 := NB141_144.out; have hnc187 := NB144_141.out; have hnb188 := NB141_145.out; have hnc188 := NB145_141.out; have hnb189 := NB141_146.out; have hnc189 := NB146_141.out; have hnb190 := NB141_150.out; have hnc190 := NB150_141.out; have hnb191 := NB141_154.out; have hnc191 := NB154_141.out; have hcz192_0 : w186.cell? ⟨gb141, 0, none⟩ = some (.int .i64 0) := (blk_cell BK141.out 0).trans rfl; have hcz192_1 : w186.cell? ⟨gb141, 1, none⟩ = some (.int .i64 0) := (blk_cell BK141.out 1).trans rfl; have hcz192_2 : w186.cell? ⟨gb141, 2, none⟩ = some (.int .i64 0) := (blk_cell BK141.out 2).trans rfl; have hcz192_3 : w186.cell? ⟨gb141, 3, none⟩ = some (.bool false) := (blk_cell BK141.out 3).trans rfl; have hcz192_4 : w186.cell? ⟨gb141, 4, none⟩ = some (.int .i64 0) := (blk_cell BK141.out 4).trans rfl; have hcz192_5 : w186.cell? ⟨gb141, 5, none⟩ = some (.int .i64 0) := (blk_cell BK141.out 5).trans rfl; have hcz192_6 : w186.cell? ⟨gb141, 6, none⟩ = some (.int .i64 0) := (blk_cell BK141.out 6).trans rfl; have hfz192_0 := blk_frozen BK141.out 0; have hfz192_1 := blk_frozen BK141.out 1; have hfz192_2 := blk_frozen BK141.out 2; have hfz192_3 := blk_frozen BK141.out 3; have hfz192_4 := blk_frozen BK141.out 4; have hfz192_5 := blk_frozen BK141.out 5; have hfz192_6 := blk_frozen BK141.out 6) | (with_reducible refine wp_loop_rounds 4 ?_) | (with_reducible refine rounds_go ?_))
              refine bodyPost_ret (results_ct rfl _ _ gb141 27 #[.int .i64 t175, .int .i64 t176, .int .i64 t177, .bool t178, .int .i64 t179, .int .i64 t180, .int .i64 t181] (0, 0) _ rfl (by (with_reducible repeat (first | refine blk_drewN ?_ _ | refine blk_drew ?_ | refine blk_alloc ?_ _)); refine blk_put (cs := #[.int .i64 t175, .int .i64 t176, .int .i64 t177, .bool t178, .int .i64 t179, .int .i64 t180, .int .i64 0]) ?_ 6 _ rfl; (with_reducible repeat (first | refine blk_drewN ?_ _ | refine blk_drew ?_ | refine blk_alloc ?_ _)); refine blk_put (cs := #[.int .i64 t175, .int .i64 t176, .int .i64 t177, .bool t178, .int .i64 t179, .int .i64 0, .int .i64 0]) ?_ 5 _ rfl; (with_reducible repeat (first | refine blk_drewN ?_ _ | refine blk_drew ?_ | refine blk_alloc ?_ _)); refine blk_put (cs := #[.int .i64 t175, .int .i64 t176, .int .i64 t177, .bool t178, .int .i64 0, .int .i64 0, .int .i64 0]) ?_ 4 _ rfl; (with_reducible repeat (first | refine blk_drewN ?_ _ | refine blk_drew ?_ | refine blk_alloc ?_ _)); refine blk_put (cs := #[.int .i64 t175, .int .i64 t176, .int .i64 t177, .bool false, .int .i64 0, .int .i64 0, .int .i64 0]) ?_ 3 _ rfl; (with_reducible repeat (first | refine blk_drewN ?_ _ | refine blk_drew ?_ | refine blk_alloc ?_ _)); refine blk_put (cs := #[.int .i64 t175, .int .i64 t176, .int .i64 0, .bool false, .int .i64 0, .int .i64 0, .int .i64 0]) ?_ 2 _ rfl; (with_reducible repeat (first | refine blk_drewN ?_ _ | refine blk_drew ?_ | refine blk_alloc ?_ _)); refine blk_put (cs := #[.int .i64 t175, .int .i64 0, .int .i64 0, .bool false, .int .i64 0, .int .i64 0, .int .i64 0]) ?_ 1 _ rfl; (with_reducible repeat (first | refine blk_drewN ?_ _ | refine blk_drew ?_ | refine blk_alloc ?_ _)); refine blk_put (cs := #[.int .i64 0, .int .i64 0, .int .i64 0, .bool false, .int .i64 0, .int .i64 0, .int .i64 0]) ?_ 0 _ rfl; (with_reducible repeat (first | refine blk_drewN ?_ _ | refine blk_drew ?_ | refine blk_alloc ?_ _)); exact BK141.out) Try.underlying27 rfl pmAx9_43_) rfl ?_
              exact ⟨by first | rfl | (simp [errW_none, errW_some] <;> rfl) | (simp [*, errW_none, errW_some] <;> rfl), by repeat (first | (with_reducible first | exact HB.out | apply below_alloc | apply pw_below_drewN | apply below_drew1 | refine below_set ?_ GE140.out | refine below_set ?_ GE141.out | refine below_set ?_ GE144.out | refine below_set ?_ GE145.out | refine below_set ?_ GE146.out | refine below_set ?_ GE150.out | refine below_set ?_ GE154.out | refine below_set ?_ GE160.out) | exact HB.out)⟩
          subst c107
          have H1 : (if t156 = true then ((base_Raise.f t158 t159 a0_3 true t155 t147 x161006_34).bind fun bt161 => (some (bt161.1, bt161.2.1, bt161.2.2.1, bt161.2.2.2.1, bt161.2.2.2.2.1, bt161.2.2.2.2.2.1, bt161.2.2.2.2.2.2, 0))) else ((base_Raise.f t158 t159 a0_3 false 0 t147 x161006_34).bind fun bt168 => (some (bt168.1, bt168.2.1, bt168.2.2.1, bt168.2.2.2.1, bt168.2.2.2.2.1, bt168.2.2.2.2.2.1, bt168.2.2.2.2.2.2, 0)))) = some (r1, r2, r3, r4, r5, r6, r7, r8) := by rw [if_pos rfl] at H; exact H
          clear H
          have H := H1
          clear H1
          by_cases c108 : t156 = true
          rotate_left
          · replace c108 := Bool.eq_false_iff.mpr c108
            subst c108
            have H1 : ((base_Raise.f t158 t159 a0_3 false 0 t147 x161006_34).bind fun bt168 => (some (bt168.1, bt168.2.1, bt168.2.2.1, bt168.2.2.2.1, bt168.2.2.2.2.1, bt168.2.2.2.2.2.1, bt168.2.2.2.2.2.2, 0))) = some (r1, r2, r3, r4, r5, r6, r7, r8) := by rw [if_neg (show ¬ (false = true) by decide)] at H; exact H
            clear H
            have H := H1
            clear H1
            replace H := Option.bind_eq_some_iff.mp H
            obtain ⟨⟨t168, t169, t170, t171, t172, t173, t174⟩, A1420, H⟩ := H
            replace H : (some (t168, t169, t170, t171, t172, t173, t174, 0)) = some (r1, r2, r3, r4, r5, r6, r7, r8) := H
            have A142 := Aside0.mk A1420
            clear A1420
            simp only [Option.some.injEq, Prod.mk.injEq] at H
            obtain ⟨rfl, rfl, rfl, rfl, rfl, rfl, rfl, rfl⟩ := H
            have hnb143 := NB160_140.out
            have hnc143 := NB140_160.out
            have hnb144 := NB160_141.out
            have hnc144 := NB141_160.out
            have hnb145 := NB160_144.out
            have hnc145 := NB144_160.out
            have hnb146 := NB160_145.out
            have hnc146 := NB145_160.out
            have hnb147 := NB160_146.out
            have hnc147 := NB146_160.out
            have hnb148 := NB160_150.out
            have hnc148 := NB150_160.out
            have hnb149 := NB160_154.out
            have hnc149 := NB154_160.out
            have hcz150_0 : wc.cell? ⟨gb160, 0, none⟩ = some (.int .i64 t158) := (blk_cell BK160.out 0).trans rfl
            have hcz150_1 : wc.cell? ⟨gb160, 1, none⟩ = some (.int .i64 t159) := (blk_cell BK160.out 1).trans rfl
            have hcz150_2 : wc.cell? ⟨gb160, 2, none⟩ = some (.int .i64 0) := (blk_cell BK160.out 2).trans rfl
            have hcz150_3 : wc.cell? ⟨gb160, 3, none⟩ = some (.bool false) := (blk_cell BK160.out 3).trans rfl
            have hcz150_4 : wc.cell? ⟨gb160, 4, none⟩ = some (.int .i64 0) := (blk_cell BK160.out 4).trans rfl
            have hcz150_5 : wc.cell? ⟨gb160, 5, none⟩ = some (.int .i64 t147) := (blk_cell BK160.out 5).trans rfl
            have hcz150_6 : wc.cell? ⟨gb160, 6, none⟩ = some (.int .i64 x161006_34) := (blk_cell BK160.out 6).trans rfl
            have hfz150_0 := blk_frozen BK160.out 0
            have hfz150_1 := blk_frozen BK160.out 1
            have hfz150_2 := blk_frozen BK160.out 2
            have hfz150_3 := blk_frozen BK160.out 3
            have hfz150_4 := blk_frozen BK160.out 4
            have hfz150_5 := blk_frozen BK160.out 5
            have hfz150_6 := blk_frozen BK160.out 6
            have hnb151 := NB140_141.out
            have hnc151 := NB141_140.out
            have hnb152 := NB140_144.out
            have hnc152 := NB144_140.out
            have hnb153 := NB140_145.out
            have hnc153 := NB145_140.out
            have hnb154 := NB140_146.out
            have hnc154 := NB146_140.out
            have hnb155 := NB140_150.out
            have hnc155 := NB150_140.out
            have hnb156 := NB140_154.out
            have hnc156 := NB154_140.out
            have hcz157_0 : wc.cell? ⟨gb140, 0, none⟩ = some (.int .i64 a0_0) := (blk_cell BK140.out 0).trans rfl
            have hcz157_1 : wc.cell? ⟨gb140, 1, none⟩ = some (.int .i64 a0_1) := (blk_cell BK140.out 1).trans rfl
            have hcz157_2 : wc.cell? ⟨gb140, 2, none⟩ = some (.int .i64 a0_2) := (blk_cell BK140.out 2).trans rfl
            have hcz157_3 : wc.cell? ⟨gb140, 3, none⟩ = some (.int .i64 a0_3) := (blk_cell BK140.out 3).trans rfl
            have hcz157_4 : wc.cell? ⟨gb140, 4, none⟩ = some (.bool true) := (blk_cell BK140.out 4).trans rfl
            have hcz157_5 : wc.cell? ⟨gb140, 5, none⟩ = some (.int .i64 a0_5) := (blk_cell BK140.out 5).trans rfl
            have hcz157_6 : wc.cell? ⟨gb140, 6, none⟩ = some (.int .i64 a0_6) := (blk_cell BK140.out 6).trans rfl
            have hfz157_0 := blk_frozen BK140.out 0
            have hfz157_1 := blk_frozen BK140.out 1
            have hfz157_2 := blk_frozen BK140.out 2
            have hfz157_3 := blk_frozen BK140.out 3
            have hfz157_4 := blk_frozen BK140.out 4
            have hfz157_5 := blk_frozen BK140.out 5
            have hfz157_6 := blk_frozen BK140.out 6
            have hnb158 := NB145_141.out
            have hnc158 := NB141_145.out
            have hnb159 := NB145_144.out
            have hnc159 := NB144_145.out
            have hnb160 := NB145_146.out
            have hnc160 := NB146_145.out
            have hnb161 := NB145_150.out
            have hnc161 := NB150_145.out
            have hnb162 := NB145_154.out
            have hnc162 := NB154_145.out
            have hcz163_0 : wc.cell? ⟨gb145, 0, none⟩ = some (.bool t148) := (blk_cell BK145.out 0).trans rfl
            have hcz163_1 : wc.cell? ⟨gb145, 1, none⟩ = some (.bool t152) := (blk_cell BK145.out 1).trans rfl
            have hcz163_2 : wc.cell? ⟨gb145, 2, none⟩ = some (.bool false) := (blk_cell BK145.out 2).trans rfl
            have hfz163_0 := blk_frozen BK145.out 0
            have hfz163_1 := blk_frozen BK145.out 1
            have hfz163_2 := blk_frozen BK145.out 2
            as_aux_lemma =>
              go_wp2_with (first | ((with_reducible refine gate_callee (f := 11) rfl ?_); refine goesL_ (some 92) rfl rfl Try.func11 pmAx9_43_ rfl #[.agg #[.int .i64 t158, .int .i64 t159, .int .i64 a0_3, .bool false, .int .i64 0, .int .i64 t147, .int .i64 x161006_34]] rfl pmAx9_14_ ?_; (with_reducible refine (base_Raise.calls t158 t159 a0_3 false 0 t147 x161006_34 t168 t169 t170 t171 t172 t173 t174 _ A142.out).mono ?_); rintro e w164 ⟨rfl, hb⟩; refine ⟨_, rfl, ?_⟩; have n0_ := Aside0.mk (blk_below (g := gb140) (o := poAx9_0 a0_0 a0_1 a0_2 a0_3 true a0_5 a0_6) pmAx9_46_ hb); have n1_ := Aside0.mk (blk_below (g := gb141) (o := poAx9_1 0 0 0 false 0 0 0) pmAx9_47_ hb); have n2_ := Aside0.mk (blk_below (g := gb144) (o := poAx9_2 t147 t151 t155) pmAx9_48_ hb); have n3_ := Aside0.mk (blk_below (g := gb145) (o := poAx9_3 t148 t152 false) pmAx9_49_ hb); have n4_ := Aside0.mk (blk_below (g := gb146) (o := poAx9_4 a0_0 a0_1) pmAx9_50_ hb); have n5_ := Aside0.mk (blk_below (g := gb150) (o := poAx9_4 a0_2 a0_3) pmAx9_51_ hb); have n6_ := Aside0.mk (blk_below (g := gb154) (o := poAx9_4 a0_5 a0_6) pmAx9_52_ hb); have n7_ := Aside0.mk (blk_below (g := gb160) (o := poAx9_1 t158 t159 a0_3 false 0 t147 x161006_34) pmAx9_41_ hb); have n8_ := Aside0.mk (below_step pmAx9_5_ hb); clear BK140; clear BK141; clear BK144; clear BK145; clear BK146; clear BK150; clear BK154; clear BK160; clear HB; have BK140 := n0_; have BK141 := n1_; have BK144 := n2_; have BK145 := n3_; have BK146 := n4_; have BK150 := n5_; have BK154 := n6_; have BK160 := n7_; have HB := n8_; clear n0_ n1_ n2_ n3_ n4_ n5_ n6_ n7_ n8_; (try clear hb); (try clear hb2); (try clear hk); (try clear hi); have hnb165 := NB141_144.out; have hnc165 := NB144_141.out; have hnb166 := NB141_146.out; have hnc166 := NB146_141.out; have hnb167 := NB141_150.out; have hnc167 := NB150_141.out; have hnb168 := NB141_154.out; have hnc168 := NB154_141.out; have hcz169_0 : w164.cell? ⟨gb141, 0, none⟩ = some (.int .i64 0) := (blk_cell BK141.out 0).trans rfl; have hcz169_1 : w164.cell? ⟨gb141, 1, none⟩ = some (.int .i64 0) := (blk_cell BK141.out 1).trans rfl; have hcz169_2 : w164.cell? ⟨gb141, 2, none⟩ = some (.int .i64 0) := (blk_cell BK141.out 2).trans rfl; have hcz169_3 : w164.cell? ⟨gb141, 3, none⟩ = some (.bool false) := (blk_cell BK141.out 3).trans rfl; have hcz169_4 : w164.cell? ⟨gb141, 4, none⟩ = some (.int .i64 0) := (blk_cell BK141.out 4).trans rfl; have hcz169_5 : w164.cell? ⟨gb141, 5, none⟩ = some (.int .i64 0) := (blk_cell BK141.out 5).trans rfl; have hcz169_6 : w164.cell? ⟨gb141, 6, none⟩ = some (.int .i64 0) := (blk_cell BK141.out 6).trans rfl; have hfz169_0 := blk_frozen BK141.out 0; have hfz169_1 := blk_frozen BK141.out 1; have hfz169_2 := blk_frozen BK141.out 2; have hfz169_3 := blk_frozen BK141.out 3; have hfz169_4 := blk_frozen BK141.out 4; have hfz169_5 := blk_frozen BK141.out 5; have hfz169_6 := blk_frozen BK141.out 6) | (with_reducible refine wp_loop_rounds 4 ?_) | (with_reducible refine rounds_go ?_))
              refine bodyPost_ret (results_ct rfl _ _ gb141 27 #[.int .i64 t168, .int .i64 t169, .int .i64 t170, .bool t171, .int .i64 t172, .int .i64 t173, .int .i64 t174] (0, 0) _ rfl (by (with_reducible repeat (first | refine blk_drewN ?_ _ | refine blk_drew ?_ | refine blk_alloc ?_ _)); refine blk_put (cs := #[.int .i64 t168, .int .i64 t169, .int .i64 t170, .bool t171, .int .i64 t172, .int .i64 t173, .int .i64 0]) ?_ 6 _ rfl; (with_reducible repeat (first | refine blk_drewN ?_ _ | refine blk_drew ?_ | refine blk_alloc ?_ _)); refine blk_put (cs := #[.int .i64 t168, .int .i64 t169, .int .i64 t170, .bool t171, .int .i64 t172, .int .i64 0, .int .i64 0]) ?_ 5 _ rfl; (with_reducible repeat (first | refine blk_drewN ?_ _ | refine blk_drew ?_ | refine blk_alloc ?_ _)); refine blk_put (cs := #[.int .i64 t168, .int .i64 t169, .int .i64 t170, .bool t171, .int .i64 0, .int .i64 0, .int .i64 0]) ?_ 4 _ rfl; (with_reducible repeat (first | refine blk_drewN ?_ _ | refine blk_drew ?_ | refine blk_alloc ?_ _)); refine blk_put (cs := #[.int .i64 t168, .int .i64 t169, .int .i64 t170, .bool false, .int .i64 0, .int .i64 0, .int .i64 0]) ?_ 3 _ rfl; (with_reducible repeat (first | refine blk_drewN ?_ _ | refine blk_drew ?_ | refine blk_alloc ?_ _)); refine blk_put (cs := #[.int .i64 t168, .int .i64 t169, .int .i64 0, .bool false, .int .i64 0, .int .i64 0, .int .i64 0]) ?_ 2 _ rfl; (with_reducible repeat (first | refine blk_drewN ?_ _ | refine blk_drew ?_ | refine blk_alloc ?_ _)); refine blk_put (cs := #[.int .i64 t168, .int .i64 0, .int .i64 0, .bool false, .int .i64 0, .int .i64 0, .int .i64 0]) ?_ 1 _ rfl; (with_reducible repeat (first | refine blk_drewN ?_ _ | refine blk_drew ?_ | refine blk_alloc ?_ _)); refine blk_put (cs := #[.int .i64 0, .int .i64 0, .int .i64 0, .bool false, .int .i64 0, .int .i64 0, .int .i64 0]) ?_ 0 _ rfl; (with_reducible repeat (first | refine blk_drewN ?_ _ | refine blk_drew ?_ | refine blk_alloc ?_ _)); exact BK141.out) Try.underlying27 rfl pmAx9_43_) rfl ?_
              exact ⟨by first | rfl | (simp [errW_none, errW_some] <;> rfl) | (simp [*, errW_none, errW_some] <;> rfl), by repeat (first | (with_reducible first | exact HB.out | apply below_alloc | apply pw_below_drewN | apply below_drew1 | refine below_set ?_ GE140.out | refine below_set ?_ GE141.out | refine below_set ?_ GE144.out | refine below_set ?_ GE145.out | refine below_set ?_ GE146.out | refine below_set ?_ GE150.out | refine below_set ?_ GE154.out | refine below_set ?_ GE160.out) | exact HB.out)⟩
          subst c108
          have H1 : ((base_Raise.f t158 t159 a0_3 true t155 t147 x161006_34).bind fun bt161 => (some (bt161.1, bt161.2.1, bt161.2.2.1, bt161.2.2.2.1, bt161.2.2.2.2.1, bt161.2.2.2.2.2.1, bt161.2.2.2.2.2.2, 0))) = some (r1, r2, r3, r4, r5, r6, r7, r8) := by rw [if_pos rfl] at H; exact H
          clear H
          have H := H1
          clear H1
          replace H := Option.bind_eq_some_iff.mp H
          obtain ⟨⟨t161, t162, t163, t164, t165, t166, t167⟩, A1090, H⟩ := H
          replace H : (some (t161, t162, t163, t164, t165, t166, t167, 0)) = some (r1, r2, r3, r4, r5, r6, r7, r8) := H
          have A109 := Aside0.mk A1090
          clear A1090
          simp only [Option.some.injEq, Prod.mk.injEq] at H
          obtain ⟨rfl, rfl, rfl, rfl, rfl, rfl, rfl, rfl⟩ := H
          have hnb110 := NB160_140.out
          have hnc110 := NB140_160.out
          have hnb111 := NB160_141.out
          have hnc111 := NB141_160.out
          have hnb112 := NB160_144.out
          have hnc112 := NB144_160.out
          have hnb113 := NB160_145.out
          have hnc113 := NB145_160.out
          have hnb114 := NB160_146.out
          have hnc114 := NB146_160.out
          have hnb115 := NB160_150.out
          have hnc115 := NB150_160.out
          have hnb116 := NB160_154.out
          have hnc116 := NB154_160.out
          have hcz117_0 : wc.cell? ⟨gb160, 0, none⟩ = some (.int .i64 t158) := (blk_cell BK160.out 0).trans rfl
          have hcz117_1 : wc.cell? ⟨gb160, 1, none⟩ = some (.int .i64 t159) := (blk_cell BK160.out 1).trans rfl
          have hcz117_2 : wc.cell? ⟨gb160, 2, none⟩ = some (.int .i64 0) := (blk_cell BK160.out 2).trans rfl
          have hcz117_3 : wc.cell? ⟨gb160, 3, none⟩ = some (.bool false) := (blk_cell BK160.out 3).trans rfl
          have hcz117_4 : wc.cell? ⟨gb160, 4, none⟩ = some (.int .i64 0) := (blk_cell BK160.out 4).trans rfl
          have hcz117_5 : wc.cell? ⟨gb160, 5, none⟩ = some (.int .i64 t147) := (blk_cell BK160.out 5).trans rfl
          have hcz117_6 : wc.cell? ⟨gb160, 6, none⟩ = some (.int .i64 x161006_34) := (blk_cell BK160.out 6).trans rfl
          have hfz117_0 := blk_frozen BK160.out 0
          have hfz117_1 := blk_frozen BK160.out 1
          have hfz117_2 := blk_frozen BK160.out 2
          have hfz117_3 := blk_frozen BK160.out 3
          have hfz117_4 := blk_frozen BK160.out 4
          have hfz117_5 := blk_frozen BK160.out 5
          have hfz117_6 := blk_frozen BK160.out 6
          have hnb118 := NB140_141.out
          have hnc118 := NB141_140.out
          have hnb119 := NB140_144.out
          have hnc119 := NB144_140.out
          have hnb120 := NB140_145.out
          have hnc120 := NB145_140.out
          have hnb121 := NB140_146.out
          have hnc121 := NB146_140.out
          have hnb122 := NB140_150.out
          have hnc122 := NB150_140.out
          have hnb123 := NB140_154.out
          have hnc123 := NB154_140.out
          have hcz124_0 : wc.cell? ⟨gb140, 0, none⟩ = some (.int .i64 a0_0) := (blk_cell BK140.out 0).trans rfl
          have hcz124_1 : wc.cell? ⟨gb140, 1, none⟩ = some (.int .i64 a0_1) := (blk_cell BK140.out 1).trans rfl
          have hcz124_2 : wc.cell? ⟨gb140, 2, none⟩ = some (.int .i64 a0_2) := (blk_cell BK140.out 2).trans rfl
          have hcz124_3 : wc.cell? ⟨gb140, 3, none⟩ = some (.int .i64 a0_3) := (blk_cell BK140.out 3).trans rfl
          have hcz124_4 : wc.cell? ⟨gb140, 4, none⟩ = some (.bool true) := (blk_cell BK140.out 4).trans rfl
          have hcz124_5 : wc.cell? ⟨gb140, 5, none⟩ = some (.int .i64 a0_5) := (blk_cell BK140.out 5).trans rfl
          have hcz124_6 : wc.cell? ⟨gb140, 6, none⟩ = some (.int .i64 a0_6) := (blk_cell BK140.out 6).trans rfl
          have hfz124_0 := blk_frozen BK140.out 0
          have hfz124_1 := blk_frozen BK140.out 1
          have hfz124_2 := blk_frozen BK140.out 2
          have hfz124_3 := blk_frozen BK140.out 3
          have hfz124_4 := blk_frozen BK140.out 4
          have hfz124_5 := blk_frozen BK140.out 5
          have hfz124_6 := blk_frozen BK140.out 6
          have hnb125 := NB145_141.out
          have hnc125 := NB141_145.out
          have hnb126 := NB145_144.out
          have hnc126 := NB144_145.out
          have hnb127 := NB145_146.out
          have hnc127 := NB146_145.out
          have hnb128 := NB145_150.out
          have hnc128 := NB150_145.out
          have hnb129 := NB145_154.out
          have hnc129 := NB154_145.out
          have hcz130_0 : wc.cell? ⟨gb145, 0, none⟩ = some (.bool t148) := (blk_cell BK145.out 0).trans rfl
          have hcz130_1 : wc.cell? ⟨gb145, 1, none⟩ = some (.bool t152) := (blk_cell BK145.out 1).trans rfl
          have hcz130_2 : wc.cell? ⟨gb145, 2, none⟩ = some (.bool true) := (blk_cell BK145.out 2).trans rfl
          have hfz130_0 := blk_frozen BK145.out 0
          have hfz130_1 := blk_frozen BK145.out 1
          have hfz130_2 := blk_frozen BK145.out 2
          try go_wp2
          have n0_ : Aside0 ((wc.setCell ⟨gb160, 2, none⟩ (.int .i64 a0_3)).heap[gb140]? = some (.cells #[.int .i64 a0_0, .int .i64 a0_1, .int .i64 a0_2, .int .i64 a0_3, .bool true, .int .i64 a0_5, .int .i64 a0_6] 25 (0, 0))) := ⟨pmAx9_46_⟩
          have n1_ : Aside0 ((wc.setCell ⟨gb160, 2, none⟩ (.int .i64 a0_3)).heap[gb141]? = some (.cells #[.int .i64 0, .int .i64 0, .int .i64 0, .bool false, .int .i64 0, .int .i64 0, .int .i64 0] 27 (0, 0))) := ⟨pmAx9_47_⟩
          have n2_ : Aside0 ((wc.setCell ⟨gb160, 2, none⟩ (.int .i64 a0_3)).heap[gb144]? = some (.cells #[.int .i64 t147, .int .i64 t151, .int .i64 t155] 51 (0, 0))) := ⟨pmAx9_48_⟩
          have n3_ : Aside0 ((wc.setCell ⟨gb160, 2, none⟩ (.int .i64 a0_3)).heap[gb145]? = some (.cells #[.bool t148, .bool t152, .bool true] 52 (0, 0))) := ⟨pmAx9_49_⟩
          have n4_ : Aside0 ((wc.setCell ⟨gb160, 2, none⟩ (.int .i64 a0_3)).heap[gb146]? = some (.cells #[.int .i64 a0_0, .int .i64 a0_1] 23 (0, 0))) := ⟨pmAx9_50_⟩
          have n5_ : Aside0 ((wc.setCell ⟨gb160, 2, none⟩ (.int .i64 a0_3)).heap[gb150]? = some (.cells #[.int .i64 a0_2, .int .i64 a0_3] 23 (0, 0))) := ⟨pmAx9_51_⟩
          have n6_ : Aside0 ((wc.setCell ⟨gb160, 2, none⟩ (.int .i64 a0_3)).heap[gb154]? = some (.cells #[.int .i64 a0_5, .int .i64 a0_6] 23 (0, 0))) := ⟨pmAx9_52_⟩
          have n7_ : Aside0 ((wc.setCell ⟨gb160, 2, none⟩ (.int .i64 a0_3)).heap[gb160]? = some (.cells #[.int .i64 t158, .int .i64 t159, .int .i64 a0_3, .bool false, .int .i64 0, .int .i64 t147, .int .i64 x161006_34] 27 (0, 0))) := ⟨pmAx9_41_⟩
          have n8_ : Aside0 (Below w.heap.size w (wc.setCell ⟨gb160, 2, none⟩ (.int .i64 a0_3))) := ⟨pmAx9_5_⟩
          (try clear BK140)
          (try clear BK141)
          (try clear BK144)
          (try clear BK145)
          (try clear BK146)
          (try clear BK150)
          (try clear BK154)
          (try clear BK160)
          (try clear HB)
          generalize (wc.setCell ⟨gb160, 2, none⟩ (.int .i64 a0_3)) = w131 at n0_ n1_ n2_ n3_ n4_ n5_ n6_ n7_ n8_ ⊢
          have BK140 := n0_
          have BK141 := n1_
          have BK144 := n2_
          have BK145 := n3_
          have BK146 := n4_
          have BK150 := n5_
          have BK154 := n6_
          have BK160 := n7_
          have HB := n8_
          clear n0_ n1_ n2_ n3_ n4_ n5_ n6_ n7_ n8_
          replace BK140 := Aside0.mk (blk_drew BK140.out)
          replace BK141 := Aside0.mk (blk_drew BK141.out)
          replace BK144 := Aside0.mk (blk_drew BK144.out)
          replace BK145 := Aside0.mk (blk_drew BK145.out)
          replace BK146 := Aside0.mk (blk_drew BK146.out)
          replace BK150 := Aside0.mk (blk_drew BK150.out)
          replace BK154 := Aside0.mk (blk_drew BK154.out)
          replace BK160 := Aside0.mk (blk_drew BK160.out)
          replace HB := Aside0.mk (below_drew1 HB.out)
          refine start_ (n := 6) (S := fun w' => w'.cell? ⟨gb144, 0, none⟩ = some (.int .i64 t147) ∧ w'.cell? ⟨gb144, 1, none⟩ = some (.int .i64 t151) ∧ w'.cell? ⟨gb144, 2, none⟩ = some (.int .i64 t155)) (ds := []) #[false, false, false, false, false, false] pmAx9_43_ rfl rfl ⟨(blk_cell BK144.out 0).trans rfl, (blk_cell BK144.out 1).trans rfl, (blk_cell BK144.out 2).trans rfl⟩ (fun hHeld => ?_)
          generalize w131.drew = w132 at BK140 BK141 BK144 BK145 BK146 BK150 BK154 BK160 HB hHeld ⊢
          refine pure_ (i := 0) (N := some 87) (v := ?_) (a' := ?_) #[true, false, false, false, false, false] rfl rfl pmAx9_43_ (fun _ _ _ h => h) (Or.inl ⟨by rfl, ?_⟩) ?_ ?_
          rotate_left
          · intro w'
            go_simp
            with_reducible rfl
          rotate_left
          · simp only [Act.put, List.setIfInBounds_toArray, List.set_cons_zero, List.set_cons_succ, i64_w, i32_w]
            rfl
          refine pure_ (i := 2) (N := some 89) (v := ?_) (a' := ?_) #[true, false, true, false, false, false] rfl rfl pmAx9_43_ (fun _ _ _ h => h) (Or.inl ⟨by rfl, ?_⟩) ?_ ?_
          rotate_left
          · intro w'
            go_simp
            with_reducible rfl
          rotate_left
          · simp only [Act.put, List.setIfInBounds_toArray, List.set_cons_zero, List.set_cons_succ, i64_w, i32_w]
            rfl
          refine take_ (i := 1) (N := some 88) (v := ?_) (a' := ?_) #[true, true, true, false, false, false] rfl rfl pmAx9_43_ (fun _ _ _ h => h) (Or.inl ⟨by rfl, ?_⟩) hHeld ?_ ?_
          rotate_left
          · rintro w' ⟨s0, s1, s2⟩
            go_simp
            with_reducible rfl
          rotate_left
          · simp only [Act.put, List.setIfInBounds_toArray, List.set_cons_zero, List.set_cons_succ, i64_w, i32_w]
            rfl
          refine one_ (i := 3) (N := none) #[true, true, true, true, false, false] rfl rfl pmAx9_43_ (by decide) (fun K hK => ?_)
          have hs133 : w132.cell? ⟨gb160, 3, none⟩ = some (.bool false) := (blk_cell BK160.out 3).trans rfl
          have hfs133 := blk_frozen BK160.out 3
          have hns133_0 := NB140_160.out
          have hns133_1 := NB141_160.out
          have hns133_2 := NB144_160.out
          have hns133_3 := NB145_160.out
          have hns133_4 := NB146_160.out
          have hns133_5 := NB150_160.out
          have hns133_6 := NB154_160.out
          have hms133_0 := NB160_140.out
          have hms133_1 := NB160_141.out
          have hms133_2 := NB160_144.out
          have hms133_3 := NB160_145.out
          have hms133_4 := NB160_146.out
          have hms133_5 := NB160_150.out
          have hms133_6 := NB160_154.out
          refine skip_ (w1 := ?_) (by rfl) rfl ?_ ?_
          rotate_left
          · go_simp
            rfl
          refine hK.out _ _ pmAx9_42_ (fun hHeld => ?_)
          clear hK K
          refine pure_ (i := 4) (N := some 90) (v := ?_) (a' := ?_) #[true, true, true, true, true, false] rfl rfl pmAx9_43_ (fun _ _ _ h => h) (Or.inl ⟨by rfl, ?_⟩) ?_ ?_
          rotate_left
          · intro w'
            go_simp
            with_reducible rfl
          rotate_left
          · simp only [Act.put, List.setIfInBounds_toArray, List.set_cons_zero, List.set_cons_succ, i64_w, i32_w]
            rfl
          refine one_ (i := 5) (N := none) #[true, true, true, true, true, true] rfl rfl pmAx9_43_ (by decide) (fun K hK => ?_)
          have hs134 : w132.cell? ⟨gb160, 4, none⟩ = some (.int .i64 0) := (blk_cell BK160.out 4).trans rfl
          have hfs134 := blk_frozen BK160.out 4
          have hns134_0 := NB140_160.out
          have hns134_1 := NB141_160.out
          have hns134_2 := NB144_160.out
          have hns134_3 := NB145_160.out
          have hns134_4 := NB146_160.out
          have hns134_5 := NB150_160.out
          have hns134_6 := NB154_160.out
          have hms134_0 := NB160_140.out
          have hms134_1 := NB160_141.out
          have hms134_2 := NB160_144.out
          have hms134_3 := NB160_145.out
          have hms134_4 := NB160_146.out
          have hms134_5 := NB160_150.out
          have hms134_6 := NB160_154.out
          refine skip_ (w1 := ?_) (by rfl) rfl ?_ ?_
          rotate_left
          · go_simp
            rfl
          refine hK.out _ _ pmAx9_42_ (fun hHeld => ?_)
          clear hK K
          refine done_ pmAx9_43_ ?_
          have hcz135_0 : w132.cell? ⟨gb160, 0, none⟩ = some (.int .i64 t158) := (blk_cell BK160.out 0).trans rfl
          have hcz135_1 : w132.cell? ⟨gb160, 1, none⟩ = some (.int .i64 t159) := (blk_cell BK160.out 1).trans rfl
          have hcz135_2 : w132.cell? ⟨gb160, 2, none⟩ = some (.int .i64 a0_3) := (blk_cell BK160.out 2).trans rfl
          have hcz135_3 : w132.cell? ⟨gb160, 3, none⟩ = some (.bool false) := (blk_cell BK160.out 3).trans rfl
          have hcz135_4 : w132.cell? ⟨gb160, 4, none⟩ = some (.int .i64 0) := (blk_cell BK160.out 4).trans rfl
          have hcz135_5 : w132.cell? ⟨gb160, 5, none⟩ = some (.int .i64 t147) := (blk_cell BK160.out 5).trans rfl
          have hcz135_6 : w132.cell? ⟨gb160, 6, none⟩ = some (.int .i64 x161006_34) := (blk_cell BK160.out 6).trans rfl
          have hfz135_0 := blk_frozen BK160.out 0
          have hfz135_1 := blk_frozen BK160.out 1
          have hfz135_2 := blk_frozen BK160.out 2
          have hfz135_3 := blk_frozen BK160.out 3
          have hfz135_4 := blk_frozen BK160.out 4
          have hfz135_5 := blk_frozen BK160.out 5
          have hfz135_6 := blk_frozen BK160.out 6
          try go_wp2_with (first | ((with_reducible refine gate_callee (f := 11) rfl ?_); refine goesL_ (some 92) rfl rfl Try.func11 pmAx9_43_ rfl #[.agg #[.int .i64 t158, .int .i64 t159, .int .i64 a0_3, .bool true, .int .i64 t155, .int .i64 t147, .int .i64 x161006_34]] rfl pmAx9_14_ ?_; (with_reducible refine (base_Raise.calls t158 t159 a0_3 true t155 t147 x161006_34 t161 t162 t163 t164 t165 t166 t167 _ A109.out).mono ?_); rintro e w136 ⟨rfl, hb⟩; refine ⟨_, rfl, ?_⟩; have n0_ := Aside0.mk (blk_below (g := gb140) (o := poAx9_0 a0_0 a0_1 a0_2 a0_3 true a0_5 a0_6) pmAx9_62_ hb); have n1_ := Aside0.mk (blk_below (g := gb141) (o := poAx9_1 0 0 0 false 0 0 0) pmAx9_63_ hb); have n2_ := Aside0.mk (blk_below (g := gb144) (o := poAx9_2 t147 t151 t155) pmAx9_64_ hb); have n3_ := Aside0.mk (blk_below (g := gb145) (o := poAx9_3 t148 t152 true) pmAx9_65_ hb); have n4_ := Aside0.mk (blk_below (g := gb146) (o := poAx9_4 a0_0 a0_1) pmAx9_66_ hb); have n5_ := Aside0.mk (blk_below (g := gb150) (o := poAx9_4 a0_2 a0_3) pmAx9_67_ hb); have n6_ := Aside0.mk (blk_below (g := gb154) (o := poAx9_4 a0_5 a0_6) pmAx9_68_ hb); have n7_ := Aside0.mk (blk_below (g := gb160) (o := poAx9_1 t158 t159 a0_3 true t155 t147 x161006_34) (by (with_reducible repeat (first | refine blk_drewN ?_ _ | refine blk_drew ?_ | refine blk_alloc ?_ _)); refine blk_put (cs := #[.int .i64 t158, .int .i64 t159, .int .i64 a0_3, .bool true, .int .i64 0, .int .i64 t147, .int .i64 x161006_34]) ?_ 4 _ rfl; (with_reducible repeat (first | refine blk_drewN ?_ _ | refine blk_drew ?_ | refine blk_alloc ?_ _)); refine blk_put (cs := #[.int .i64 t158, .int .i64 t159, .int .i64 a0_3, .bool false, .int .i64 0, .int .i64 t147, .int .i64 x161006_34]) ?_ 3 _ rfl; (with_reducible repeat (first | refine blk_drewN ?_ _ | refine blk_drew ?_ | refine blk_alloc ?_ _)); exact BK160.out) hb); have n8_ := Aside0.mk (below_step pmAx9_5_ hb); clear BK140; clear BK141; clear BK144; clear BK145; clear BK146; clear BK150; clear BK154; clear BK160; clear HB; have BK140 := n0_; have BK141 := n1_; have BK144 := n2_; have BK145 := n3_; have BK146 := n4_; have BK150 := n5_; have BK154 := n6_; have BK160 := n7_; have HB := n8_; clear n0_ n1_ n2_ n3_ n4_ n5_ n6_ n7_ n8_; (try clear hb); (try clear hb2); (try clear hk); (try clear hi); have hnb137 := NB141_144.out; have hnc137 := NB144_141.out; have hnb138 := NB141_146.out; have hnc138 := NB146_141.out; have hnb139 := NB141_150.out; have hnc139 := NB150_141.out; have hnb140 := NB141_154.out; have hnc140 := NB154_141.out; have hcz141_0 : w136.cell? ⟨gb141, 0, none⟩ = some (.int .i64 0) := (blk_cell BK141.out 0).trans rfl; have hcz141_1 : w136.cell? ⟨gb141, 1, none⟩ = some (.int .i64 0) := (blk_cell BK141.out 1).trans rfl; have hcz141_2 : w136.cell? ⟨gb141, 2, none⟩ = some (.int .i64 0) := (blk_cell BK141.out 2).trans rfl; have hcz141_3 : w136.cell? ⟨gb141, 3, none⟩ = some (.bool false) := (blk_cell BK141.out 3).trans rfl; have hcz141_4 : w136.cell? ⟨gb141, 4, none⟩ = some (.int .i64 0) := (blk_cell BK141.out 4).trans rfl; have hcz141_5 : w136.cell? ⟨gb141, 5, none⟩ = some (.int .i64 0) := (blk_cell BK141.out 5).trans rfl; have hcz141_6 : w136.cell? ⟨gb141, 6, none⟩ = some (.int .i64 0) := (blk_cell BK141.out 6).trans rfl; have hfz141_0 := blk_frozen BK141.out 0; have hfz141_1 := blk_frozen BK141.out 1; have hfz141_2 := blk_frozen BK141.out 2; have hfz141_3 := blk_frozen BK141.out 3; have hfz141_4 := blk_frozen BK141.out 4; have hfz141_5 := blk_frozen BK141.out 5; have hfz141_6 := blk_frozen BK141.out 6) | (with_reducible refine wp_loop_rounds 4 ?_) | (with_reducible refine rounds_go ?_))
          refine bodyPost_ret (results_ct rfl _ _ gb141 27 #[.int .i64 t161, .int .i64 t162, .int .i64 t163, .bool t164, .int .i64 t165, .int .i64 t166, .int .i64 t167] (0, 0) _ rfl (by (with_reducible repeat (first | refine blk_drewN ?_ _ | refine blk_drew ?_ | refine blk_alloc ?_ _)); refine blk_put (cs := #[.int .i64 t161, .int .i64 t162, .int .i64 t163, .bool t164, .int .i64 t165, .int .i64 t166, .int .i64 0]) ?_ 6 _ rfl; (with_reducible repeat (first | refine blk_drewN ?_ _ | refine blk_drew ?_ | refine blk_alloc ?_ _)); refine blk_put (cs := #[.int .i64 t161, .int .i64 t162, .int .i64 t163, .bool t164, .int .i64 t165, .int .i64 0, .int .i64 0]) ?_ 5 _ rfl; (with_reducible repeat (first | refine blk_drewN ?_ _ | refine blk_drew ?_ | refine blk_alloc ?_ _)); refine blk_put (cs := #[.int .i64 t161, .int .i64 t162, .int .i64 t163, .bool t164, .int .i64 0, .int .i64 0, .int .i64 0]) ?_ 4 _ rfl; (with_reducible repeat (first | refine blk_drewN ?_ _ | refine blk_drew ?_ | refine blk_alloc ?_ _)); refine blk_put (cs := #[.int .i64 t161, .int .i64 t162, .int .i64 t163, .bool false, .int .i64 0, .int .i64 0, .int .i64 0]) ?_ 3 _ rfl; (with_reducible repeat (first | refine blk_drewN ?_ _ | refine blk_drew ?_ | refine blk_alloc ?_ _)); refine blk_put (cs := #[.int .i64 t161, .int .i64 t162, .int .i64 0, .bool false, .int .i64 0, .int .i64 0, .int .i64 0]) ?_ 2 _ rfl; (with_reducible repeat (first | refine blk_drewN ?_ _ | refine blk_drew ?_ | refine blk_alloc ?_ _)); refine blk_put (cs := #[.int .i64 t161, .int .i64 0, .int .i64 0, .bool false, .int .i64 0, .int .i64 0, .int .i64 0]) ?_ 1 _ rfl; (with_reducible repeat (first | refine blk_drewN ?_ _ | refine blk_drew ?_ | refine blk_alloc ?_ _)); refine blk_put (cs := #[.int .i64 0, .int .i64 0, .int .i64 0, .bool false, .int .i64 0, .int .i64 0, .int .i64 0]) ?_ 0 _ rfl; (with_reducible repeat (first | refine blk_drewN ?_ _ | refine blk_drew ?_ | refine blk_alloc ?_ _)); exact BK141.out) Try.underlying27 rfl pmAx9_43_) rfl ?_
          exact ⟨by first | rfl | (simp [errW_none, errW_some] <;> rfl) | (simp [*, errW_none, errW_some] <;> rfl), by repeat (first | (with_reducible first | exact HB.out | apply below_alloc | apply pw_below_drewN | apply below_drew1 | refine below_set ?_ GE140.out | refine below_set ?_ GE141.out | refine below_set ?_ GE144.out | refine below_set ?_ GE145.out | refine below_set ?_ GE146.out | refine below_set ?_ GE150.out | refine below_set ?_ GE154.out | refine below_set ?_ GE160.out) | exact HB.out)⟩
end Go.Proofs.Ytmgmidipijpkdaa.PA
