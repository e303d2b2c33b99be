-- written by a program of this session (a print of the translation with changes of its own)
import Derived.Test.YtckpmhclngoefaaPCx0
import Derived.Test.YtckpmhclngoefaaPCx1
import Derived.Test.YtckpmhclngoefaaPCx2
import Derived.Test.YtckpmhclngoefaaPCx3
import Derived.Test.YtckpmhclngoefaaPCx4
namespace Go.Proofs.Ytckpmhclngoefaa.PC
open Go.RowKit Go.Proofs.YtckpmhclngoefaaW.PrintWords Go.Proofs.YtckpmhclngoefaaW.PrintLast Go.Proofs.YtckpmhclngoefaaW.PrintMore
abbrev pbCx5_0 : Array Bool := #[false, false, false, false, false, false, false, false, false, false, false, false, false, false, false, false, false, false, false, false, false, false, false, false, false, false, false, false, false, false, false, false, false, false, false, false, false, false, false, false, false, false, false, false, false, false]
abbrev pbCx5_1 : Array Bool := #[true, false, false, false, false, false, false, false, false, false, false, false, false, false, false, false, false, false, false, false, false, false, false, false, false, false, false, false, false, false, false, false, false, false, false, false, false, false, false, false, false, false, false, false, false, false]
abbrev pbCx5_2 : Array Bool := #[true, true, false, false, false, false, false, false, false, false, false, false, false, false, false, false, false, false, false, false, false, false, false, false, false, false, false, false, false, false, false, false, false, false, false, false, false, false, false, false, false, false, false, false, false, false]
abbrev pbCx5_3 : Array Bool := #[true, true, false, true, false, false, false, false, false, false, false, false, false, false, false, false, false, false, false, false, false, false, false, false, false, false, false, false, false, false, false, false, false, false, false, false, false, false, false, false, false, false, false, false, false, false]
abbrev pbCx5_4 : Array Bool := #[true, true, false, true, true, false, false, false, false, false, false, false, false, false, false, false, false, false, false, false, false, false, false, false, false, false, false, false, false, false, false, false, false, false, false, false, false, false, false, false, false, false, false, false, false, false]
abbrev pbCx5_5 : Array Bool := #[true, true, true, true, true, false, false, false, false, false, false, false, false, false, false, false, false, false, false, false, false, false, false, false, false, false, false, false, false, false, false, false, false, false, false, false, false, false, false, false, false, false, false, false, false, false]
abbrev pbCx5_6 : Array Bool := #[true, true, true, true, true, true, false, false, false, false, false, false, false, false, false, false, false, false, false, false, false, false, false, false, false, false, false, false, false, false, false, false, false, false, false, false, false, false, false, false, false, false, false, false, false, false]
abbrev pbCx5_7 : Array Bool := #[true, true, true, true, true, true, true, false, false, false, false, false, false, false, false, false, false, false, false, false, false, false, false, false, false, false, false, false, false, false, false, false, false, false, false, false, false, false, false, false, false, false, false, false, false, false]
abbrev pbCx5_8 : Array Bool := #[true, true, true, true, true, true, true, true, false, false, false, false, false, false, false, false, false, false, false, false, false, false, false, false, false, false, false, false, false, false, false, false, false, false, false, false, false, false, false, false, false, false, false, false, false, false]
abbrev pbCx5_9 : Array Bool := #[true, true, true, true, true, true, true, true, true, false, false, false, false, false, false, false, false, false, false, false, false, false, false, false, false, false, false, false, false, false, false, false, false, false, false, false, false, false, false, false, false, false, false, false, false, false]
abbrev pbCx5_10 : Array Bool := #[true, true, true, true, true, true, true, true, true, true, false, false, false, false, false, false, false, false, false, false, false, false, false, false, false, false, false, false, false, false, false, false, false, false, false, false, false, false, false, false, false, false, false, false, false, false]
abbrev pbCx5_11 : Array Bool := #[true, true, true, true, true, true, true, true, true, true, false, true, false, false, false, false, false, false, false, false, false, false, false, false, false, false, false, false, false, false, false, false, false, false, false, false, false, false, false, false, false, false, false, false, false, false]
abbrev pbCx5_12 : Array Bool := #[true, true, true, true, true, true, true, true, true, true, false, true, true, false, false, false, false, false, false, false, false, false, false, false, false, false, false, false, false, false, false, false, false, false, false, false, false, false, false, false, false, false, false, false, false, false]
abbrev pbCx5_13 : Array Bool := #[true, true, true, true, true, true, true, true, true, true, true, true, true, false, false, false, false, false, false, false, false, false, false, false, false, false, false, false, false, false, false, false, false, false, false, false, false, false, false, false, false, false, false, false, false, false]
abbrev pbCx5_14 : Array Bool := #[true, true, true, true, true, true, true, true, true, true, true, true, true, true, false, false, false, false, false, false, false, false, false, false, false, false, false, false, false, false, false, false, false, false, false, false, false, false, false, false, false, false, false, false, false, false]
abbrev pbCx5_15 : Array Bool := #[true, true, true, true, true, true, true, true, true, true, true, true, true, true, true, false, false, false, false, false, false, false, false, false, false, false, false, false, false, false, false, false, false, false, false, false, false, false, false, false, false, false, false, false, false, false]
abbrev pbCx5_16 : Array Bool := #[true, true, true, true, true, true, true, true, true, true, true, true, true, true, true, true, false, false, false, false, false, false, false, false, false, false, false, false, false, false, false, false, false, false, false, false, false, false, false, false, false, false, false, false, false, false]
abbrev pbCx5_17 : Array Bool := #[true, true, true, true, true, true, true, true, true, true, true, true, true, true, true, true, true, false, false, false, false, false, false, false, false, false, false, false, false, false, false, false, false, false, false, false, false, false, false, false, false, false, false, false, false, false]
abbrev pbCx5_18 : Array Bool := #[true, true, true, true, true, true, true, true, true, true, true, true, true, true, true, true, true, true, false, false, false, false, false, false, false, false, false, false, false, false, false, false, false, false, false, false, false, false, false, false, false, false, false, false, false, false]
abbrev pbCx5_19 : Array Bool := #[true, true, true, true, true, true, true, true, true, true, true, true, true, true, true, true, true, true, false, false, true, false, false, false, false, false, false, false, false, false, false, false, false, false, false, false, false, false, false, false, false, false, false, false, false, false]
abbrev pbCx5_20 : Array Bool := #[true, true, true, true, true, true, true, true, true, true, true, true, true, true, true, true, true, true, true, false, true, false, false, false, false, false, false, false, false, false, false, false, false, false, false, false, false, false, false, false, false, false, false, false, false, false]
abbrev pbCx5_21 : Array Bool := #[true, true, true, true, true, true, true, true, true, true, true, true, true, true, true, true, true, true, true, false, true, true, false, false, false, false, false, false, false, false, false, false, false, false, false, false, false, false, false, false, false, false, false, false, false, false]
abbrev pbCx5_22 : Array Bool := #[true, true, true, true, true, true, true, true, true, true, true, true, true, true, true, true, true, true, true, true, true, true, false, false, false, false, false, false, false, false, false, false, false, false, false, false, false, false, false, false, false, false, false, false, false, false]
abbrev pbCx5_23 : Array Bool := #[true, true, true, true, true, true, true, true, true, true, true, true, true, true, true, true, true, true, true, true, true, true, true, false, false, false, false, false, false, false, false, false, false, false, false, false, false, false, false, false, false, false, false, false, false, false]
abbrev pbCx5_24 : Array Bool := #[true, true, true, true, true, true, true, true, true, true, true, true, true, true, true, true, true, true, true, true, true, true, true, true, false, false, false, false, false, false, false, false, false, false, false, false, false, false, false, false, false, false, false, false, false, false]
abbrev pbCx5_25 : Array Bool := #[true, true, true, true, true, true, true, true, true, true, true, true, true, true, true, true, true, true, true, true, true, true, true, true, true, false, false, false, false, false, false, false, false, false, false, false, false, false, false, false, false, false, false, false, false, false]
abbrev pbCx5_26 : Array Bool := #[true, true, true, true, true, true, true, true, true, true, true, true, true, true, true, true, true, true, true, true, true, true, true, true, true, true, false, false, false, false, false, false, false, false, false, false, false, false, false, false, false, false, false, false, false, false]
abbrev pbCx5_27 : Array Bool := #[true, true, true, true, true, true, true, true, true, true, true, true, true, true, true, true, true, true, true, true, true, true, true, true, true, true, true, false, false, false, false, false, false, false, false, false, false, false, false, false, false, false, false, false, false, false]
abbrev pbCx5_28 : Array Bool := #[true, true, true, true, true, true, true, true, true, true, true, true, true, true, true, true, true, true, true, true, true, true, true, true, true, true, true, false, true, false, false, false, false, false, false, false, false, false, false, false, false, false, false, false, false, false]
abbrev pbCx5_29 : Array Bool := #[true, true, true, true, true, true, true, true, true, true, true, true, true, true, true, true, true, true, true, true, true, true, true, true, true, true, true, true, true, false, false, false, false, false, false, false, false, false, false, false, false, false, false, false, false, false]
abbrev pbCx5_30 : Array Bool := #[true, true, true, true, true, true, true, true, true, true, true, true, true, true, true, true, true, true, true, true, true, true, true, true, true, true, true, true, true, true, false, false, false, false, false, false, false, false, false, false, false, false, false, false, false, false]
abbrev pbCx5_31 : Array Bool := #[true, true, true, true, true, true, true, true, true, true, true, true, true, true, true, true, true, true, true, true, true, true, true, true, true, true, true, true, true, true, true, false, false, false, false, false, false, false, false, false, false, false, false, false, false, false]
abbrev pbCx5_32 : Array Bool := #[true, true, true, true, true, true, true, true, true, true, true, true, true, true, true, true, true, true, true, true, true, true, true, true, true, true, true, true, true, true, true, true, false, false, false, false, false, false, false, false, false, false, false, false, false, false]
abbrev pbCx5_33 : Array Bool := #[true, true, true, true, true, true, true, true, true, true, true, true, true, true, true, true, true, true, true, true, true, true, true, true, true, true, true, true, true, true, true, true, true, false, false, false, false, false, false, false, false, false, false, false, false, false]
abbrev pbCx5_34 : Array Bool := #[true, true, true, true, true, true, true, true, true, true, true, true, true, true, true, true, true, true, true, true, true, true, true, true, true, true, true, true, true, true, true, true, true, true, false, false, false, false, false, false, false, false, false, false, false, false]
abbrev pbCx5_35 : Array Bool := #[true, true, true, true, true, true, true, true, true, true, true, true, true, true, true, true, true, true, true, true, true, true, true, true, true, true, true, true, true, true, true, true, true, true, true, false, false, false, false, false, false, false, false, false, false, false]
abbrev pbCx5_36 : Array Bool := #[true, true, true, true, true, true, true, true, true, true, true, true, true, true, true, true, true, true, true, true, true, true, true, true, true, true, true, true, true, true, true, true, true, true, true, true, false, false, false, false, false, false, false, false, false, false]
abbrev pbCx5_37 : Array Bool := #[true, true, true, true, true, true, true, true, true, true, true, true, true, true, true, true, true, true, true, true, true, true, true, true, true, true, true, true, true, true, true, true, true, true, true, true, true, false, false, false, false, false, false, false, false, false]
abbrev pbCx5_38 : Array Bool := #[true, true, true, true, true, true, true, true, true, true, true, true, true, true, true, true, true, true, true, true, true, true, true, true, true, true, true, true, true, true, true, true, true, true, true, true, true, true, false, false, false, false, false, false, false, false]
abbrev pbCx5_39 : Array Bool := #[true, true, true, true, true, true, true, true, true, true, true, true, true, true, true, true, true, true, true, true, true, true, true, true, true, true, true, true, true, true, true, true, true, true, true, true, true, true, true, false, false, false, false, false, false, false]
abbrev pbCx5_40 : Array Bool := #[true, true, true, true, true, true, true, true, true, true, true, true, true, true, true, true, true, true, true, true, true, true, true, true, true, true, true, true, true, true, true, true, true, true, true, true, true, true, true, true, false, false, false, false, false, false]
abbrev pbCx5_41 : Array Bool := #[true, true, true, true, true, true, true, true, true, true, true, true, true, true, true, true, true, true, true, true, true, true, true, true, true, true, true, true, true, true, true, true, true, true, true, true, true, true, true, true, true, false, false, false, false, false]
abbrev pbCx5_42 : Array Bool := #[true, true, true, true, true, true, true, true, true, true, true, true, true, true, true, true, true, true, true, true, true, true, true, true, true, true, true, true, true, true, true, true, true, true, true, true, true, true, true, true, true, true, false, false, false, false]
abbrev pbCx5_43 : Array Bool := #[true, true, true, true, true, true, true, true, true, true, true, true, true, true, true, true, true, true, true, true, true, true, true, true, true, true, true, true, true, true, true, true, true, true, true, true, true, true, true, true, true, true, true, false, false, false]
abbrev pbCx5_44 : Array Bool := #[true, true, true, true, true, true, true, true, true, true, true, true, true, true, true, true, true, true, true, true, true, true, true, true, true, true, true, true, true, true, true, true, true, true, true, true, true, true, true, true, true, true, true, true, false, false]
abbrev pbCx5_45 : Array Bool := #[true, true, true, true, true, true, true, true, true, true, true, true, true, true, true, true, true, true, true, true, true, true, true, true, true, true, true, true, true, true, true, true, true, true, true, true, true, true, true, true, true, true, true, true, true, false]
abbrev pbCx5_46 : Array Bool := #[true, true, true, true, true, true, true, true, true, true, true, true, true, true, true, true, true, true, true, true, true, true, true, true, true, true, true, true, true, true, true, true, true, true, true, true, true, true, true, true, true, true, true, true, true, true]
abbrev pbCx5_47 : Array Bool := #[true, true, true, true, true, true, true, true, true, true, true, true, true, true, true, true, true, true, true, true, true, true, true, true, true, true, true, true, false, false, false, false, false, false, false, false, false, false, false, false, false, false, false, false, false, false]
abbrev poCx5_0 (a0 : Int) (a1 : Int) (a2 : Int) (a3 : Int) : Obj := .cells #[.int .i64 a0, .int .i64 a1, .int .i64 a2, .int .i64 a3] 24 (0, 0)
abbrev pwCx5_0 (w26 : World) (gb174 : Nat) (gb175 : Nat) (t166 : Int) (t167 : Int) (t168 : Int) (t169 : Int) (t170 : Int) (t171 : Int) (t172 : Int) (t173 : Int) : World := ((((((((w26.setCell ⟨gb174, 0, none⟩ (.int .i64 t166)).setCell ⟨gb174, 1, none⟩ (.int .i64 t167)).setCell ⟨gb174, 2, none⟩ (.int .i64 t168)).setCell ⟨gb174, 3, none⟩ (.int .i64 t169)).setCell ⟨gb175, 0, none⟩ (.int .i64 t170)).setCell ⟨gb175, 1, none⟩ (.int .i64 t171)).setCell ⟨gb175, 2, none⟩ (.int .i64 t172)).setCell ⟨gb175, 3, none⟩ (.int .i64 t173))
theorem pmCx5_0_ {P : Prop} (h : P := by repeat (first | (with_reducible first | exact HB.out | apply below_alloc | apply pw_below_drewN | apply below_drew1 | refine below_set ?_ GE153.out | refine below_set ?_ GE154.out | refine below_set ?_ GE164.out | refine below_set ?_ GE165.out | refine below_set ?_ GE174.out | refine below_set ?_ GE175.out) | exact HB.out)) : P := h
theorem pmCx5_1_ {P : Prop} (h : P := by exact ⟨(blk_cell BK153.out 0).trans rfl, (blk_cell BK153.out 1).trans rfl, (blk_cell BK153.out 2).trans rfl, (blk_cell BK153.out 3).trans rfl, (blk_cell BK154.out 0).trans rfl, (blk_cell BK154.out 1).trans rfl, (blk_cell BK154.out 2).trans rfl, (blk_cell BK154.out 3).trans rfl, (blk_cell BK164.out 0).trans rfl, (blk_cell BK164.out 1).trans rfl, (blk_cell BK164.out 2).trans rfl, (blk_cell BK164.out 3).trans rfl, (blk_cell BK174.out 0).trans rfl, (blk_cell BK174.out 1).trans rfl, (blk_cell BK174.out 2).trans rfl, (blk_cell BK174.out 3).trans rfl, (blk_cell BK165.out 0).trans rfl, (blk_cell BK165.out 1).trans rfl, (blk_cell BK165.out 2).trans rfl, (blk_cell BK165.out 3).trans rfl, (blk_cell BK175.out 0).trans rfl, (blk_cell BK175.out 1).trans rfl, (blk_cell BK175.out 2).trans rfl, (blk_cell BK175.out 3).trans rfl⟩) : P := h
theorem pmCx5_2_ {P : Prop} (h : P := by (with_reducible repeat (first | refine blk_drewN ?_ _ | refine blk_drew ?_ | refine blk_alloc ?_ _)); refine blk_far ?_ NB174_175.out _; (with_reducible repeat (first | refine blk_drewN ?_ _ | refine blk_drew ?_ | refine blk_alloc ?_ _)); refine blk_far ?_ NB174_175.out _; (with_reducible repeat (first | refine blk_drewN ?_ _ | refine blk_drew ?_ | refine blk_alloc ?_ _)); refine blk_far ?_ NB174_175.out _; (with_reducible repeat (first | refine blk_drewN ?_ _ | refine blk_drew ?_ | refine blk_alloc ?_ _)); refine blk_far ?_ NB174_175.out _; (with_reducible repeat (first | refine blk_drewN ?_ _ | refine blk_drew ?_ | refine blk_alloc ?_ _)); refine blk_put (cs := #[.int .i64 t166, .int .i64 t167, .int .i64 t168, .int .i64 0]) ?_ 3 _ rfl; (with_reducible repeat (first | refine blk_drewN ?_ _ | refine blk_drew ?_ | refine blk_alloc ?_ _)); refine blk_put (cs := #[.int .i64 t166, .int .i64 t167, .int .i64 0, .int .i64 0]) ?_ 2 _ rfl; (with_reducible repeat (first | refine blk_drewN ?_ _ | refine blk_drew ?_ | refine blk_alloc ?_ _)); refine blk_put (cs := #[.int .i64 t166, .int .i64 0, .int .i64 0, .int .i64 0]) ?_ 1 _ rfl; (with_reducible repeat (first | refine blk_drewN ?_ _ | refine blk_drew ?_ | refine blk_alloc ?_ _)); refine blk_put (cs := #[.int .i64 0, .int .i64 0, .int .i64 0, .int .i64 0]) ?_ 0 _ rfl; (with_reducible repeat (first | refine blk_drewN ?_ _ | refine blk_drew ?_ | refine blk_alloc ?_ _)); exact BK174.out) : P := h
theorem pmCx5_3_ {P : Prop} (h : P := by (with_reducible repeat (first | refine blk_drewN ?_ _ | refine blk_drew ?_ | refine blk_alloc ?_ _)); refine blk_put (cs := #[.int .i64 t170, .int .i64 t171, .int .i64 t172, .int .i64 0]) ?_ 3 _ rfl; (with_reducible repeat (first | refine blk_drewN ?_ _ | refine blk_drew ?_ | refine blk_alloc ?_ _)); refine blk_put (cs := #[.int .i64 t170, .int .i64 t171, .int .i64 0, .int .i64 0]) ?_ 2 _ rfl; (with_reducible repeat (first | refine blk_drewN ?_ _ | refine blk_drew ?_ | refine blk_alloc ?_ _)); refine blk_put (cs := #[.int .i64 t170, .int .i64 0, .int .i64 0, .int .i64 0]) ?_ 1 _ rfl; (with_reducible repeat (first | refine blk_drewN ?_ _ | refine blk_drew ?_ | refine blk_alloc ?_ _)); refine blk_put (cs := #[.int .i64 0, .int .i64 0, .int .i64 0, .int .i64 0]) ?_ 0 _ rfl; (with_reducible repeat (first | refine blk_drewN ?_ _ | refine blk_drew ?_ | refine blk_alloc ?_ _)); refine blk_far ?_ NB175_174.out _; (with_reducible repeat (first | refine blk_drewN ?_ _ | refine blk_drew ?_ | refine blk_alloc ?_ _)); refine blk_far ?_ NB175_174.out _; (with_reducible repeat (first | refine blk_drewN ?_ _ | refine blk_drew ?_ | refine blk_alloc ?_ _)); refine blk_far ?_ NB175_174.out _; (with_reducible repeat (first | refine blk_drewN ?_ _ | refine blk_drew ?_ | refine blk_alloc ?_ _)); refine blk_far ?_ NB175_174.out _; (with_reducible repeat (first | refine blk_drewN ?_ _ | refine blk_drew ?_ | refine blk_alloc ?_ _)); exact BK175.out) : P := h
theorem pmCx5_4_ {P : Prop} (h : P := by (with_reducible repeat (first | refine blk_drewN ?_ _ | refine blk_drew ?_ | refine blk_alloc ?_ _)); exact BK153.out) : P := h
theorem pmCx5_5_ {P : Prop} (h : P := by (with_reducible repeat (first | refine blk_drewN ?_ _ | refine blk_drew ?_ | refine blk_alloc ?_ _)); exact BK154.out) : P := h
theorem pmCx5_6_ {P : Prop} (h : P := by (with_reducible repeat (first | refine blk_drewN ?_ _ | refine blk_drew ?_ | refine blk_alloc ?_ _)); refine blk_far ?_ NB153_175.out _; (with_reducible repeat (first | refine blk_drewN ?_ _ | refine blk_drew ?_ | refine blk_alloc ?_ _)); refine blk_far ?_ NB153_175.out _; (with_reducible repeat (first | refine blk_drewN ?_ _ | refine blk_drew ?_ | refine blk_alloc ?_ _)); refine blk_far ?_ NB153_175.out _; (with_reducible repeat (first | refine blk_drewN ?_ _ | refine blk_drew ?_ | refine blk_alloc ?_ _)); refine blk_far ?_ NB153_175.out _; (with_reducible repeat (first | refine blk_drewN ?_ _ | refine blk_drew ?_ | refine blk_alloc ?_ _)); refine blk_far ?_ NB153_174.out _; (with_reducible repeat (first | refine blk_drewN ?_ _ | refine blk_drew ?_ | refine blk_alloc ?_ _)); refine blk_far ?_ NB153_174.out _; (with_reducible repeat (first | refine blk_drewN ?_ _ | refine blk_drew ?_ | refine blk_alloc ?_ _)); refine blk_far ?_ NB153_174.out _; (with_reducible repeat (first | refine blk_drewN ?_ _ | refine blk_drew ?_ | refine blk_alloc ?_ _)); refine blk_far ?_ NB153_174.out _; (with_reducible repeat (first | refine blk_drewN ?_ _ | refine blk_drew ?_ | refine blk_alloc ?_ _)); exact BK153.out) : P := h
theorem pmCx5_7_ {P : Prop} (h : P := by (with_reducible repeat (first | refine blk_drewN ?_ _ | refine blk_drew ?_ | refine blk_alloc ?_ _)); refine blk_far ?_ NB154_175.out _; (with_reducible repeat (first | refine blk_drewN ?_ _ | refine blk_drew ?_ | refine blk_alloc ?_ _)); refine blk_far ?_ NB154_175.out _; (with_reducible repeat (first | refine blk_drewN ?_ _ | refine blk_drew ?_ | refine blk_alloc ?_ _)); refine blk_far ?_ NB154_175.out _; (with_reducible repeat (first | refine blk_drewN ?_ _ | refine blk_drew ?_ | refine blk_alloc ?_ _)); refine blk_far ?_ NB154_175.out _; (with_reducible repeat (first | refine blk_drewN ?_ _ | refine blk_drew ?_ | refine blk_alloc ?_ _)); refine blk_far ?_ NB154_174.out _; (with_reducible repeat (first | refine blk_drewN ?_ _ | refine blk_drew ?_ | refine blk_alloc ?_ _)); refine blk_far ?_ NB154_174.out _; (with_reducible repeat (first | refine blk_drewN ?_ _ | refine blk_drew ?_ | refine blk_alloc ?_ _)); refine blk_far ?_ NB154_174.out _; (with_reducible repeat (first | refine blk_drewN ?_ _ | refine blk_drew ?_ | refine blk_alloc ?_ _)); refine blk_far ?_ NB154_174.out _; (with_reducible repeat (first | refine blk_drewN ?_ _ | refine blk_drew ?_ | refine blk_alloc ?_ _)); exact BK154.out) : P := h
theorem pmCx5_8_ {P : Prop} (h : P := by (with_reducible repeat (first | refine blk_drewN ?_ _ | refine blk_drew ?_ | refine blk_alloc ?_ _)); refine blk_far ?_ NB164_175.out _; (with_reducible repeat (first | refine blk_drewN ?_ _ | refine blk_drew ?_ | refine blk_alloc ?_ _)); refine blk_far ?_ NB164_175.out _; (with_reducible repeat (first | refine blk_drewN ?_ _ | refine blk_drew ?_ | refine blk_alloc ?_ _)); refine blk_far ?_ NB164_175.out _; (with_reducible repeat (first | refine blk_drewN ?_ _ | refine blk_drew ?_ | refine blk_alloc ?_ _)); refine blk_far ?_ NB164_175.out _; (with_reducible repeat (first | refine blk_drewN ?_ _ | refine blk_drew ?_ | refine blk_alloc ?_ _)); refine blk_far ?_ NB164_174.out _; (with_reducible repeat (first | refine blk_drewN ?_ _ | refine blk_drew ?_ | refine blk_alloc ?_ _)); refine blk_far ?_ NB164_174.out _; (with_reducible repeat (first | refine blk_drewN ?_ _ | refine blk_drew ?_ | refine blk_alloc ?_ _)); refine blk_far ?_ NB164_174.out _; (with_reducible repeat (first | refine blk_drewN ?_ _ | refine blk_drew ?_ | refine blk_alloc ?_ _)); refine blk_far ?_ NB164_174.out _; (with_reducible repeat (first | refine blk_drewN ?_ _ | refine blk_drew ?_ | refine blk_alloc ?_ _)); exact BK164.out) : P := h
theorem pmCx5_9_ {P : Prop} (h : P := by (with_reducible repeat (first | refine blk_drewN ?_ _ | refine blk_drew ?_ | refine blk_alloc ?_ _)); refine blk_far ?_ NB165_175.out _; (with_reducible repeat (first | refine blk_drewN ?_ _ | refine blk_drew ?_ | refine blk_alloc ?_ _)); refine blk_far ?_ NB165_175.out _; (with_reducible repeat (first | refine blk_drewN ?_ _ | refine blk_drew ?_ | refine blk_alloc ?_ _)); refine blk_far ?_ NB165_175.out _; (with_reducible repeat (first | refine blk_drewN ?_ _ | refine blk_drew ?_ | refine blk_alloc ?_ _)); refine blk_far ?_ NB165_175.out _; (with_reducible repeat (first | refine blk_drewN ?_ _ | refine blk_drew ?_ | refine blk_alloc ?_ _)); refine blk_far ?_ NB165_174.out _; (with_reducible repeat (first | refine blk_drewN ?_ _ | refine blk_drew ?_ | refine blk_alloc ?_ _)); refine blk_far ?_ NB165_174.out _; (with_reducible repeat (first | refine blk_drewN ?_ _ | refine blk_drew ?_ | refine blk_alloc ?_ _)); refine blk_far ?_ NB165_174.out _; (with_reducible repeat (first | refine blk_drewN ?_ _ | refine blk_drew ?_ | refine blk_alloc ?_ _)); refine blk_far ?_ NB165_174.out _; (with_reducible repeat (first | refine blk_drewN ?_ _ | refine blk_drew ?_ | refine blk_alloc ?_ _)); exact BK165.out) : P := h
theorem pmCx5_10_ {P : Prop} (h : P := by (with_reducible repeat (first | refine blk_drewN ?_ _ | refine blk_drew ?_ | refine blk_alloc ?_ _)); exact BK164.out) : P := h
theorem pmCx5_11_ {P : Prop} (h : P := by (with_reducible repeat (first | refine blk_drewN ?_ _ | refine blk_drew ?_ | refine blk_alloc ?_ _)); exact BK165.out) : P := h
theorem pmCx5_12_ {P : Prop} (h : P := by (try simp only [List.map_toArray, List.map_cons, List.map_nil]); first | done | rfl | (simp only [List.length_drop, List.length_take]; rfl)) : P := h
theorem pmCx5_13_ {P : Prop} (h : P := by (with_reducible repeat (first | refine blk_drewN ?_ _ | refine blk_drew ?_ | refine blk_alloc ?_ _)); exact BK174.out) : P := h
theorem pmCx5_14_ {P : Prop} (h : P := by (with_reducible repeat (first | refine blk_drewN ?_ _ | refine blk_drew ?_ | refine blk_alloc ?_ _)); exact BK175.out) : P := h
theorem pmCx5_15_ {P : Prop} (h : P := by exact ⟨(blk_cell BK153.out 0).trans rfl, (blk_cell BK153.out 1).trans rfl, (blk_cell BK153.out 2).trans rfl, (blk_cell BK153.out 3).trans rfl, (blk_cell BK154.out 0).trans rfl, (blk_cell BK154.out 1).trans rfl, (blk_cell BK154.out 2).trans rfl, (blk_cell BK154.out 3).trans rfl⟩) : P := h
theorem pmCx5_16_ {P : Prop} (h : P := by exact ⟨(blk_cell BK153.out 0).trans rfl, (blk_cell BK153.out 1).trans rfl, (blk_cell BK153.out 2).trans rfl, (blk_cell BK153.out 3).trans rfl, (blk_cell BK154.out 0).trans rfl, (blk_cell BK154.out 1).trans rfl, (blk_cell BK154.out 2).trans rfl, (blk_cell BK154.out 3).trans rfl, (blk_cell BK164.out 0).trans rfl, (blk_cell BK164.out 1).trans rfl, (blk_cell BK164.out 2).trans rfl, (blk_cell BK164.out 3).trans rfl, (blk_cell BK174.out 0).trans rfl, (blk_cell BK174.out 1).trans rfl, (blk_cell BK174.out 2).trans rfl, (blk_cell BK174.out 3).trans rfl⟩) : P := h
theorem pmCx5_17_ {P : Prop} (h : P := by kernel_rfl) : P := h
theorem pmCx5_18_ {P : Prop} (h : P := by repeat (first | (with_reducible first | exact HB.out | apply below_alloc | apply pw_below_drewN | apply below_drew1 | refine below_set ?_ GE153.out | refine below_set ?_ GE154.out | refine below_set ?_ GE164.out | refine below_set ?_ GE165.out) | exact HB.out)) : P := h
theorem pmCx5_19_ {P : Prop} (h : P := by repeat (first | (with_reducible first | exact HB.out | apply below_alloc | apply pw_below_drewN | apply below_drew1 | refine below_set ?_ GE153.out) | exact HB.out)) : P := h
theorem pmCx5_20_ {P : Prop} (h : P := by repeat (first | (with_reducible first | exact HB.out | apply below_alloc | apply pw_below_drewN | apply below_drew1 | refine below_set ?_ GE153.out | refine below_set ?_ GE154.out) | exact HB.out)) : P := h
theorem pmCx5_21_ {P : Prop} (h : P := by repeat (first | (with_reducible first | exact HB.out | apply below_alloc | apply pw_below_drewN | apply below_drew1) | exact HB.out)) : P := h
theorem pmCx5_22_ {P : Prop} (h : P := by repeat (first | (with_reducible first | exact HB.out | apply below_alloc | apply pw_below_drewN | apply below_drew1 | refine below_set ?_ GE153.out | refine below_set ?_ GE154.out | refine below_set ?_ GE164.out | refine below_set ?_ GE165.out | refine below_set ?_ GE174.out) | exact HB.out)) : P := h
theorem pmCx5_23_ {P : Prop} (h : P := by rw [hg]; exact Nat.ne_of_lt (blk_lt (g := gb153) (o := poCx5_0 a1_0 a1_1 a1_2 a1_3) pmCx5_4_)) : P := h
theorem pmCx5_24_ {P : Prop} (h : P := by rw [hg]; exact Nat.ne_of_gt (blk_lt (g := gb153) (o := poCx5_0 a1_0 a1_1 a1_2 a1_3) pmCx5_4_)) : P := h
theorem pmCx5_25_ {P : Prop} (h : P := by repeat (first | (with_reducible first | exact HB.out | apply below_alloc | apply pw_below_drewN | apply below_drew1 | refine below_set ?_ GE153.out | refine below_set ?_ GE154.out | refine below_set ?_ GE164.out) | exact HB.out)) : P := h
theorem pmCx5_26_ {P : Prop} (h : P := by rw [hg]; exact Nat.ne_of_lt (blk_lt (g := gb154) (o := poCx5_0 a2_0 a2_1 a2_2 a2_3) pmCx5_5_)) : P := h
theorem pmCx5_27_ {P : Prop} (h : P := by rw [hg]; exact Nat.ne_of_gt (blk_lt (g := gb154) (o := poCx5_0 a2_0 a2_1 a2_2 a2_3) pmCx5_5_)) : P := h
theorem pmCx5_28_ {P : Prop} (h : P := by first | rfl | (simp; done) | (simp [*]; done)) : P := h
theorem pmCx5_29_ {P : Prop} (h : P := by decide) : P := h
theorem pmCx5_30_ {P : Prop} (h : P := by first | omega | exact Nat.le_refl _) : P := h
attribute [local go_sem] max2_int min2_int max_two min_two max_three min_three max_four min_four   -- for this text's walks alone
set_option linter.unusedVariables false
set_option linter.unusedSimpArgs false

attribute [local go_sem high] eqA24
/-! ### parterrelaw19_OccupyOverlaps: function 6 -/
def parterrelaw19_OccupyOverlaps.j0 : Nat → Bool → Option (Bool)
  | 0, _ => none
  | k + 1, x6 => some x6
def parterrelaw19_OccupyOverlaps.f (k : Nat) (l0 : List (S24)) (a1_0 : Int) (a1_1 : Int) (a1_2 : Int) (a1_3 : Int) (a2_0 : Int) (a2_1 : Int) (a2_2 : Int) (a2_3 : Int) : Option (Bool) := if (l0.length : Int) > 300 then ((parterrelaw19_lives.f k).bind fun t155 => (some t155)) else ((occupy_Bounds.f k l0).bind fun bt156 => ((parterreref19_Bounds.f k l0).bind fun bt166 => ((occupy_Overlap.f k a1_0 a1_1 a1_2 a1_3 a2_0 a2_1 a2_2 a2_3).bind fun t176 => ((parterreref19_Overlap.f a1_0 a1_1 a1_2 a1_3 a2_0 a2_1 a2_2 a2_3).bind fun t177 => (if (t176 == t177) = true then ((occupy_Overlap.f k a2_0 a2_1 a2_2 a2_3 a1_0 a1_1 a1_2 a1_3).bind fun t178 => ((parterreref19_Overlap.f a1_0 a1_1 a1_2 a1_3 a2_0 a2_1 a2_2 a2_3).bind fun t179 => (if (t178 == t179) = true then ((occupy_Free.f k l0 a1_0 a1_1 a1_2 a1_3).bind fun t180 => ((parterreref19_Free.f k l0 a1_0 a1_1 a1_2 a1_3).bind fun t181 => (if (t180 == t181) = true then ((occupy_Turn.f a1_0 a1_1 a1_2 a1_3).bind fun bt182 => ((parterreref19_Turn.f a1_0 a1_1 a1_2 a1_3).bind fun bt186 => (if (bt182.1 == bt186.1 && (bt182.2.1 == bt186.2.1 && (bt182.2.2.1 == bt186.2.2.1 && (bt182.2.2.2 == bt186.2.2.2)))) = true then (if (bt156.1 == bt166.1 && (bt156.2.1 == bt166.2.1 && (bt156.2.2.1 == bt166.2.2.1 && (bt156.2.2.2.1 == bt166.2.2.2.1)))) = true then (if (bt156.2.2.2.2.1 == bt166.2.2.2.2.1 && (bt156.2.2.2.2.2.1 == bt166.2.2.2.2.2.1 && (bt156.2.2.2.2.2.2.1 == bt166.2.2.2.2.2.2.1 && (bt156.2.2.2.2.2.2.2 == bt166.2.2.2.2.2.2.2)))) = true then ((parterrelaw19_lives.f k).bind fun t190 => (parterrelaw19_OccupyOverlaps.j0 k t190)) else (parterrelaw19_OccupyOverlaps.j0 k false)) else (parterrelaw19_OccupyOverlaps.j0 k false)) else (parterrelaw19_OccupyOverlaps.j0 k false)))) else (parterrelaw19_OccupyOverlaps.j0 k false)))) else (parterrelaw19_OccupyOverlaps.j0 k false)))) else (parterrelaw19_OccupyOverlaps.j0 k false))))))
theorem parterrelaw19_OccupyOverlaps.mono_l : ∀ k, (∀ y0, LeO (parterrelaw19_OccupyOverlaps.j0 k y0) (parterrelaw19_OccupyOverlaps.j0 (k + 1) y0))
  | 0 => fun _ r h => by simp [parterrelaw19_OccupyOverlaps.j0] at h
  | k + 1 => by
    have ih0 := parterrelaw19_OccupyOverlaps.mono_l k
    · intro y0
      unfold parterrelaw19_OccupyOverlaps.j0
      repeat' first
      | (with_reducible exact ih0 _)
      | (with_reducible exact occupy_Bounds.mono _ _)
      | (with_reducible exact occupy_Free.mono _ _ _ _ _ _)
      | (with_reducible exact occupy_Overlap.mono _ _ _ _ _ _ _ _ _)
      | (with_reducible exact parterrelaw19_lives.mono _)
      | (with_reducible exact parterreref19_Bounds.mono _ _)
      | (with_reducible exact parterreref19_Free.mono _ _ _ _ _ _)
      | (with_reducible exact LeO.refl _)
      | (with_reducible exact LeO.none _)
      | (with_reducible refine LeO.ite ?_ ?_)
      | (with_reducible refine LeO.bind ?_ (fun _ => ?_))
      | exact ih0 _
      | exact occupy_Bounds.mono _ _
      | exact occupy_Free.mono _ _ _ _ _ _
      | exact occupy_Overlap.mono _ _ _ _ _ _ _ _ _
      | exact parterrelaw19_lives.mono _
      | exact parterreref19_Bounds.mono _ _
      | exact parterreref19_Free.mono _ _ _ _ _ _
      | exact LeO.none _
      | refine LeO.ite ?_ ?_
      | refine LeO.bind ?_ (fun _ => ?_)
theorem parterrelaw19_OccupyOverlaps.mono : ∀ a0 a1 a2 a3 a4 a5 a6 a7 a8 k, LeO (parterrelaw19_OccupyOverlaps.f k a0 a1 a2 a3 a4 a5 a6 a7 a8) (parterrelaw19_OccupyOverlaps.f (k + 1) a0 a1 a2 a3 a4 a5 a6 a7 a8) := by
  intro a0 a1 a2 a3 a4 a5 a6 a7 a8 k
  have ih0 := parterrelaw19_OccupyOverlaps.mono_l k
  unfold parterrelaw19_OccupyOverlaps.f
  repeat' first
      | (with_reducible exact ih0 _)
      | (with_reducible exact occupy_Bounds.mono _ _)
      | (with_reducible exact occupy_Free.mono _ _ _ _ _ _)
      | (with_reducible exact occupy_Overlap.mono _ _ _ _ _ _ _ _ _)
      | (with_reducible exact parterrelaw19_lives.mono _)
      | (with_reducible exact parterreref19_Bounds.mono _ _)
      | (with_reducible exact parterreref19_Free.mono _ _ _ _ _ _)
      | (with_reducible exact LeO.refl _)
      | (with_reducible exact LeO.none _)
      | (with_reducible refine LeO.ite ?_ ?_)
      | (with_reducible refine LeO.bind ?_ (fun _ => ?_))
      | exact ih0 _
      | exact occupy_Bounds.mono _ _
      | exact occupy_Free.mono _ _ _ _ _ _
      | exact occupy_Overlap.mono _ _ _ _ _ _ _ _ _
      | exact parterrelaw19_lives.mono _
      | exact parterreref19_Bounds.mono _ _
      | exact parterreref19_Free.mono _ _ _ _ _ _
      | exact LeO.none _
      | refine LeO.ite ?_ ?_
      | refine LeO.bind ?_ (fun _ => ?_)
def parterrelaw19_OccupyOverlaps.T5 : Bool × List (List Nat × List Nat) := (true, [([], []), ([], []), ([0, 1], [0, 1]), ([], []), ([], []), ([3, 4, 2], [3, 4]), ([2, 5], [2, 5]), ([6, 5], [6]), ([7], [7]), ([7], [7]), ([8, 9, 7, 7], [7, 8, 9]), ([7], [7]), ([7], [7]), ([11, 12, 10, 7], [7, 11, 12]), ([10, 13, 7], [7, 10, 13]), ([7, 14], [7, 14]), ([15, 13], [15]), ([16], [16]), ([16], [16]), ([17, 18, 16, 16], [16, 17, 18]), ([16], [16]), ([16], [16]), ([20, 21, 19, 16], [16, 20, 21]), ([19, 22, 16], [16, 19, 22]), ([16, 23], [16, 23]), ([24, 22], [24]), ([25], [25]), ([26, 25, 25], [25, 26]), ([25], [25]), ([28, 27, 25], [25, 28]), ([27, 29, 25], [25, 27, 29]), ([25, 30], [25, 30]), ([31, 29], [31]), ([32], [32]), ([32], [32]), ([33, 34, 32], [32, 33, 34]), ([32, 35], [32, 35]), ([36, 32], [36]), ([37], [37]), ([37], [37]), ([38, 39, 37], [37, 38, 39]), ([37, 40], [37, 40]), ([41, 37], [41]), ([42, 42], [42]), ([42, 43], [42, 43]), ([44, 43, 0, 1, 2, 3, 4, 5, 6, 7, 8, 9, 10, 11, 12, 13, 14, 15, 16, 17, 18, 19, 20, 21, 22, 23, 24, 25, 26, 27, 28, 29, 30, 31, 32, 33, 34, 35, 36, 37, 38, 39, 40, 41, 42, 43, 44], [44])])
def parterrelaw19_OccupyOverlaps.B5 : List Nat := [0, 0, 3, 0, 0, 31, 63, 127, 255, 255, 1023, 255, 255, 8191, 16383, 32767, 65535, 131071, 131071, 524287, 131071, 131071, 4194303, 8388607, 16777215, 33554431, 67108863, 134217727, 67108863, 536870911, 1073741823, 2147483647, 4294967295, 8589934591, 8589934591, 34359738367, 68719476735, 137438953471, 274877906943, 274877906943, 1099511627775, 2199023255551, 4398046511103, 8796093022207, 17592186044415, 35184372088831]
theorem parterrelaw19_OccupyOverlaps.tab5 : rtab .any (opsOf Try.f6 5) = parterrelaw19_OccupyOverlaps.T5 := by kernel_rfl
theorem parterrelaw19_OccupyOverlaps.bits5 : waitsOk parterrelaw19_OccupyOverlaps.T5.2 parterrelaw19_OccupyOverlaps.B5 = true := by kernel_rfl
set_option maxHeartbeats 8000000 in
set_option maxRecDepth 100000 in
theorem parterrelaw19_OccupyOverlaps.calls (k : Nat) (A0 : Option Addr) (c0 : Nat) (l0 : List (S24)) (a1_0 : Int) (a1_1 : Int) (a1_2 : Int) (a1_3 : Int) (a2_0 : Int) (a2_1 : Int) (a2_2 : Int) (a2_3 : Int) (r : Bool) (w : World) (hr0 : Kd.C k24 w A0 l0.length l0) (hc0 : l0.length ≤ c0) (h : parterrelaw19_OccupyOverlaps.f k l0 a1_0 a1_1 a1_2 a1_3 a2_0 a2_1 a2_2 a2_3 = some r) :
    Calls Try.prog 6 #[.slice A0 l0.length c0, .agg #[.int .i64 a1_0, .int .i64 a1_1, .int .i64 a1_2, .int .i64 a1_3], .agg #[.int .i64 a2_0, .int .i64 a2_1, .int .i64 a2_2, .int .i64 a2_3]] w fun e w' => e = .returned (.bool r) ∧ Below w.heap.size w w' := by
  have hu24 := Try.underlying24
  have HR0 := Aside0.mk hr0
  have HC0 := Aside0.mk hc0
  clear hr0 hc0
  have HB := Aside0.mk (Below.refl w.heap.size w)
  have H : (if (l0.length : Int) > 300 then ((parterrelaw19_lives.f k).bind fun t155 => (some t155)) else ((occupy_Bounds.f k l0).bind fun bt156 => ((parterreref19_Bounds.f k l0).bind fun bt166 => ((occupy_Overlap.f k a1_0 a1_1 a1_2 a1_3 a2_0 a2_1 a2_2 a2_3).bind fun t176 => ((parterreref19_Overlap.f a1_0 a1_1 a1_2 a1_3 a2_0 a2_1 a2_2 a2_3).bind fun t177 => (if (t176 == t177) = true then ((occupy_Overlap.f k a2_0 a2_1 a2_2 a2_3 a1_0 a1_1 a1_2 a1_3).bind fun t178 => ((parterreref19_Overlap.f a1_0 a1_1 a1_2 a1_3 a2_0 a2_1 a2_2 a2_3).bind fun t179 => (if (t178 == t179) = true then ((occupy_Free.f k l0 a1_0 a1_1 a1_2 a1_3).bind fun t180 => ((parterreref19_Free.f k l0 a1_0 a1_1 a1_2 a1_3).bind fun t181 => (if (t180 == t181) = true then ((occupy_Turn.f a1_0 a1_1 a1_2 a1_3).bind fun bt182 => ((parterreref19_Turn.f a1_0 a1_1 a1_2 a1_3).bind fun bt186 => (if (bt182.1 == bt186.1 && (bt182.2.1 == bt186.2.1 && (bt182.2.2.1 == bt186.2.2.1 && (bt182.2.2.2 == bt186.2.2.2)))) = true then (if (bt156.1 == bt166.1 && (bt156.2.1 == bt166.2.1 && (bt156.2.2.1 == bt166.2.2.1 && (bt156.2.2.2.1 == bt166.2.2.2.1)))) = true then (if (bt156.2.2.2.2.1 == bt166.2.2.2.2.1 && (bt156.2.2.2.2.2.1 == bt166.2.2.2.2.2.1 && (bt156.2.2.2.2.2.2.1 == bt166.2.2.2.2.2.2.1 && (bt156.2.2.2.2.2.2.2 == bt166.2.2.2.2.2.2.2)))) = true then ((parterrelaw19_lives.f k).bind fun t190 => (parterrelaw19_OccupyOverlaps.j0 k t190)) else (parterrelaw19_OccupyOverlaps.j0 k false)) else (parterrelaw19_OccupyOverlaps.j0 k false)) else (parterrelaw19_OccupyOverlaps.j0 k false)))) else (parterrelaw19_OccupyOverlaps.j0 k false)))) else (parterrelaw19_OccupyOverlaps.j0 k false)))) else (parterrelaw19_OccupyOverlaps.j0 k false))))))) = some r := h
  clear h
  by_cases c4 : (l0.length : Int) > 300
  · rw [if_pos c4] at H
    have c4b0 : decide (300 < (l0.length : Int)) = true := decide_eq_true c4
    have c4b1 : decide (300 < l0.length) = true := decide_eq_true (by omega)
    clear c4
    replace H := Option.bind_eq_some_iff.mp H
    obtain ⟨t155, A50, H⟩ := H
    replace H : (some t155) = some r := H
    have A5 := Aside0.mk A50
    clear A50
    obtain rfl := Option.some.inj H
    go_enter Try.func6, Try.ntmps6
    go_wp2_with (first | ((with_reducible refine gate_dst (N := 4) rfl ?_); refine box_event ?hg (N := 4) ?hd (cs := #[.int .i64 a1_0, .int .i64 a1_1, .int .i64 a1_2, .int .i64 a1_3]) (t := 24) ?hr ?_; (case hd => rfl); (case hg => rfl); (case hr => first | (go_simp; done) | (go_simp; rfl)); intro gb153 hg w6 hbox hb; have n0_ := Aside0.mk (below_step pmCx5_21_ hb); have n1_ := Aside0.mk (hbox); have n2_ := Aside0.mk ((by rw [hg]; exact (below_size pmCx5_21_) : w.heap.size ≤ gb153)); have n3_ := Aside0.mk ((by rw [hg]; exact (below_size pmCx5_21_) : w.heap.size ≤ gb153)); clear HB; have HB := n0_; have BK153 := n1_; have GW153 := n2_; have GE153 := n3_; clear n0_ n1_ n2_ n3_; clear hb hbox hg) | ((with_reducible refine gate_dst (N := 5) rfl ?_); refine box_event ?hg (N := 5) ?hd (cs := #[.int .i64 a2_0, .int .i64 a2_1, .int .i64 a2_2, .int .i64 a2_3]) (t := 24) ?hr ?_; (case hd => rfl); (case hg => rfl); (case hr => first | (go_simp; done) | (go_simp; rfl)); intro gb154 hg w7 hbox hb; have n0_ := Aside0.mk (blk_below (g := gb153) (o := poCx5_0 a1_0 a1_1 a1_2 a1_3) pmCx5_4_ hb); have n1_ := Aside0.mk (below_step pmCx5_19_ hb); have n2_ := Aside0.mk (hbox); have n3_ := Aside0.mk ((by rw [hg]; exact (below_size pmCx5_19_) : w.heap.size ≤ gb154)); have n4_ := Aside0.mk ((by rw [hg]; exact (below_size pmCx5_19_) : w.heap.size ≤ gb154)); have n5_ := Aside0.mk ((pmCx5_23_ : gb153 ≠ gb154)); have n6_ := Aside0.mk ((pmCx5_24_ : gb154 ≠ gb153)); clear BK153; clear HB; have BK153 := n0_; have HB := n1_; have BK154 := n2_; have GW154 := n3_; have GE154 := n4_; have NB153_154 := n5_; have NB154_153 := n6_; clear n0_ n1_ n2_ n3_ n4_ n5_ n6_; clear hb hbox hg) | ((with_reducible refine gate_callee (f := 8) rfl ?_); refine goesL_ (some 14) rfl rfl Try.func8 pmCx5_17_ rfl #[] rfl pmCx5_12_ ?_; (with_reducible refine (parterrelaw19_lives.calls k  t155 _ A5.out).mono ?_); rintro e w8 ⟨rfl, hb⟩; refine ⟨_, rfl, ?_⟩; have n0_ := Aside0.mk (blk_below (g := gb153) (o := poCx5_0 a1_0 a1_1 a1_2 a1_3) pmCx5_4_ hb); have n1_ := Aside0.mk (blk_below (g := gb154) (o := poCx5_0 a2_0 a2_1 a2_2 a2_3) pmCx5_5_ hb); have n2_ := Aside0.mk (below_step pmCx5_20_ hb); clear BK153; clear BK154; clear HB; have BK153 := n0_; have BK154 := n1_; have HB := n2_; clear n0_ n1_ n2_; (try clear hb); (try clear hb2); (try clear hk); (try clear hi)))
    go_ret
    exact ⟨by first | rfl | (simp [errW_none, errW_some] <;> rfl) | (simp [*, errW_none, errW_some] <;> rfl), by repeat (first | (with_reducible first | exact HB.out | apply below_alloc | apply pw_below_drewN | apply below_drew1 | refine below_set ?_ GE153.out | refine below_set ?_ GE154.out) | exact HB.out)⟩
  rw [if_neg c4] at H
  have c4b0 : decide (300 < (l0.length : Int)) = false := decide_eq_false c4
  have c4b1 : decide (300 < l0.length) = false := decide_eq_false (by omega)
  clear c4
  replace H := Option.bind_eq_some_iff.mp H
  obtain ⟨⟨t156, t157, t158, t159, t160, t161, t162, t163⟩, A90, H⟩ := H
  replace H : ((parterreref19_Bounds.f k l0).bind fun bt166 => ((occupy_Overlap.f k a1_0 a1_1 a1_2 a1_3 a2_0 a2_1 a2_2 a2_3).bind fun t176 => ((parterreref19_Overlap.f a1_0 a1_1 a1_2 a1_3 a2_0 a2_1 a2_2 a2_3).bind fun t177 => (if (t176 == t177) = true then ((occupy_Overlap.f k a2_0 a2_1 a2_2 a2_3 a1_0 a1_1 a1_2 a1_3).bind fun t178 => ((parterreref19_Overlap.f a1_0 a1_1 a1_2 a1_3 a2_0 a2_1 a2_2 a2_3).bind fun t179 => (if (t178 == t179) = true then ((occupy_Free.f k l0 a1_0 a1_1 a1_2 a1_3).bind fun t180 => ((parterreref19_Free.f k l0 a1_0 a1_1 a1_2 a1_3).bind fun t181 => (if (t180 == t181) = true then ((occupy_Turn.f a1_0 a1_1 a1_2 a1_3).bind fun bt182 => ((parterreref19_Turn.f a1_0 a1_1 a1_2 a1_3).bind fun bt186 => (if (bt182.1 == bt186.1 && (bt182.2.1 == bt186.2.1 && (bt182.2.2.1 == bt186.2.2.1 && (bt182.2.2.2 == bt186.2.2.2)))) = true then (if (t156 == bt166.1 && (t157 == bt166.2.1 && (t158 == bt166.2.2.1 && (t159 == bt166.2.2.2.1)))) = true then (if (t160 == bt166.2.2.2.2.1 && (t161 == bt166.2.2.2.2.2.1 && (t162 == bt166.2.2.2.2.2.2.1 && (t163 == bt166.2.2.2.2.2.2.2)))) = true then ((parterrelaw19_lives.f k).bind fun t190 => (parterrelaw19_OccupyOverlaps.j0 k t190)) else (parterrelaw19_OccupyOverlaps.j0 k false)) else (parterrelaw19_OccupyOverlaps.j0 k false)) else (parterrelaw19_OccupyOverlaps.j0 k false)))) else (parterrelaw19_OccupyOverlaps.j0 k false)))) else (parterrelaw19_OccupyOverlaps.j0 k false)))) else (parterrelaw19_OccupyOverlaps.j0 k false))))) = some r := H
  have A9 := Aside0.mk A90
  clear A90
  replace H := Option.bind_eq_some_iff.mp H
  obtain ⟨⟨t166, t167, t168, t169, t170, t171, t172, t173⟩, A100, H⟩ := H
  replace H : ((occupy_Overlap.f k a1_0 a1_1 a1_2 a1_3 a2_0 a2_1 a2_2 a2_3).bind fun t176 => ((parterreref19_Overlap.f a1_0 a1_1 a1_2 a1_3 a2_0 a2_1 a2_2 a2_3).bind fun t177 => (if (t176 == t177) = true then ((occupy_Overlap.f k a2_0 a2_1 a2_2 a2_3 a1_0 a1_1 a1_2 a1_3).bind fun t178 => ((parterreref19_Overlap.f a1_0 a1_1 a1_2 a1_3 a2_0 a2_1 a2_2 a2_3).bind fun t179 => (if (t178 == t179) = true then ((occupy_Free.f k l0 a1_0 a1_1 a1_2 a1_3).bind fun t180 => ((parterreref19_Free.f k l0 a1_0 a1_1 a1_2 a1_3).bind fun t181 => (if (t180 == t181) = true then ((occupy_Turn.f a1_0 a1_1 a1_2 a1_3).bind fun bt182 => ((parterreref19_Turn.f a1_0 a1_1 a1_2 a1_3).bind fun bt186 => (if (bt182.1 == bt186.1 && (bt182.2.1 == bt186.2.1 && (bt182.2.2.1 == bt186.2.2.1 && (bt182.2.2.2 == bt186.2.2.2)))) = true then (if (t156 == t166 && (t157 == t167 && (t158 == t168 && (t159 == t169)))) = true then (if (t160 == t170 && (t161 == t171 && (t162 == t172 && (t163 == t173)))) = true then ((parterrelaw19_lives.f k).bind fun t190 => (parterrelaw19_OccupyOverlaps.j0 k t190)) else (parterrelaw19_OccupyOverlaps.j0 k false)) else (parterrelaw19_OccupyOverlaps.j0 k false)) else (parterrelaw19_OccupyOverlaps.j0 k false)))) else (parterrelaw19_OccupyOverlaps.j0 k false)))) else (parterrelaw19_OccupyOverlaps.j0 k false)))) else (parterrelaw19_OccupyOverlaps.j0 k false)))) = some r := H
  have A10 := Aside0.mk A100
  clear A100
  have HC11 := Aside0.mk H
  clear H
  go_enter Try.func6, Try.ntmps6
  go_upto_region 5 with (first | ((with_reducible refine gate_dst (N := 4) rfl ?_); refine box_event ?hg (N := 4) ?hd (cs := #[.int .i64 a1_0, .int .i64 a1_1, .int .i64 a1_2, .int .i64 a1_3]) (t := 24) ?hr ?_; (case hd => rfl); (case hg => rfl); (case hr => first | (go_simp; done) | (go_simp; rfl)); intro gb153 hg w12 hbox hb; have n0_ := Aside0.mk (below_step pmCx5_21_ hb); have n1_ := Aside0.mk (hbox); have n2_ := Aside0.mk ((by rw [hg]; exact (below_size pmCx5_21_) : w.heap.size ≤ gb153)); have n3_ := Aside0.mk ((by rw [hg]; exact (below_size pmCx5_21_) : w.heap.size ≤ gb153)); clear HB; have HB := n0_; have BK153 := n1_; have GW153 := n2_; have GE153 := n3_; clear n0_ n1_ n2_ n3_; clear hb hbox hg) | ((with_reducible refine gate_dst (N := 5) rfl ?_); refine box_event ?hg (N := 5) ?hd (cs := #[.int .i64 a2_0, .int .i64 a2_1, .int .i64 a2_2, .int .i64 a2_3]) (t := 24) ?hr ?_; (case hd => rfl); (case hg => rfl); (case hr => first | (go_simp; done) | (go_simp; rfl)); intro gb154 hg w13 hbox hb; have n0_ := Aside0.mk (blk_below (g := gb153) (o := poCx5_0 a1_0 a1_1 a1_2 a1_3) pmCx5_4_ hb); have n1_ := Aside0.mk (below_step pmCx5_19_ hb); have n2_ := Aside0.mk (hbox); have n3_ := Aside0.mk ((by rw [hg]; exact (below_size pmCx5_19_) : w.heap.size ≤ gb154)); have n4_ := Aside0.mk ((by rw [hg]; exact (below_size pmCx5_19_) : w.heap.size ≤ gb154)); have n5_ := Aside0.mk ((pmCx5_23_ : gb153 ≠ gb154)); have n6_ := Aside0.mk ((pmCx5_24_ : gb154 ≠ gb153)); clear BK153; clear HB; have BK153 := n0_; have HB := n1_; have BK154 := n2_; have GW154 := n3_; have GE154 := n4_; have NB153_154 := n5_; have NB154_153 := n6_; clear n0_ n1_ n2_ n3_ n4_ n5_ n6_; clear hb hbox hg) | ((with_reducible refine gate_callee (f := 15) rfl ?_); refine goesL_ (some 17) rfl rfl Try.func15 pmCx5_17_ rfl #[.slice A0 l0.length c0] rfl pmCx5_12_ ?_; (with_reducible refine (occupy_Bounds.calls k _ _ l0 t156 t157 t158 t159 t160 t161 t162 t163 _ ?side1 ?side2 A9.out).mono ?_); (case side1 => repeat (first | exact (Kd.C_below HR0.out HB.out) | (with_reducible refine Kd.C_alloc ?_ _) | (with_reducible refine Kd.C_drewN ?_ _) | (with_reducible refine Kd.C_drew ?_))); (case side2 => exact HC0.out); rintro e w14 ⟨rfl, hb⟩; refine ⟨_, rfl, ?_⟩; have n0_ := Aside0.mk (blk_below (g := gb153) (o := poCx5_0 a1_0 a1_1 a1_2 a1_3) pmCx5_4_ hb); have n1_ := Aside0.mk (blk_below (g := gb154) (o := poCx5_0 a2_0 a2_1 a2_2 a2_3) pmCx5_5_ hb); have n2_ := Aside0.mk (below_step pmCx5_20_ hb); clear BK153; clear BK154; clear HB; have BK153 := n0_; have BK154 := n1_; have HB := n2_; clear n0_ n1_ n2_; (try clear hb); (try clear hb2); (try clear hk); (try clear hi)) | ((with_reducible refine gate_dst (N := 7) rfl ?_); refine box_event ?hg (N := 7) ?hd (cs := #[.int .i64 0, .int .i64 0, .int .i64 0, .int .i64 0]) (t := 24) ?hr ?_; (case hd => rfl); (case hg => rfl); (case hr => first | (go_simp; done) | (go_simp; rfl)); intro gb164 hg w15 hbox hb; have n0_ := Aside0.mk (blk_below (g := gb153) (o := poCx5_0 a1_0 a1_1 a1_2 a1_3) pmCx5_4_ hb); have n1_ := Aside0.mk (blk_below (g := gb154) (o := poCx5_0 a2_0 a2_1 a2_2 a2_3) pmCx5_5_ hb); have n2_ := Aside0.mk (below_step pmCx5_20_ hb); have n3_ := Aside0.mk (hbox); have n4_ := Aside0.mk ((by rw [hg]; exact (below_size pmCx5_20_) : w.heap.size ≤ gb164)); have n5_ := Aside0.mk ((by rw [hg]; exact (below_size pmCx5_20_) : w.heap.size ≤ gb164)); have n6_ := Aside0.mk ((pmCx5_23_ : gb153 ≠ gb164)); have n7_ := Aside0.mk ((pmCx5_24_ : gb164 ≠ gb153)); have n8_ := Aside0.mk ((pmCx5_26_ : gb154 ≠ gb164)); have n9_ := Aside0.mk ((pmCx5_27_ : gb164 ≠ gb154)); clear BK153; clear BK154; clear HB; have BK153 := n0_; have BK154 := n1_; have HB := n2_; have BK164 := n3_; have GW164 := n4_; have GE164 := n5_; have NB153_164 := n6_; have NB164_153 := n7_; have NB154_164 := n8_; have NB164_154 := n9_; clear n0_ n1_ n2_ n3_ n4_ n5_ n6_ n7_ n8_ n9_; clear hb hbox hg) | ((with_reducible refine gate_dst (N := 8) rfl ?_); refine box_event ?hg (N := 8) ?hd (cs := #[.int .i64 0, .int .i64 0, .int .i64 0, .int .i64 0]) (t := 24) ?hr ?_; (case hd => rfl); (case hg => rfl); (case hr => first | (go_simp; done) | (go_simp; rfl)); intro gb165 hg w16 hbox hb; have n0_ := Aside0.mk (blk_below (g := gb153) (o := poCx5_0 a1_0 a1_1 a1_2 a1_3) pmCx5_4_ hb); have n1_ := Aside0.mk (blk_below (g := gb154) (o := poCx5_0 a2_0 a2_1 a2_2 a2_3) pmCx5_5_ hb); have n2_ := Aside0.mk (blk_below (g := gb164) (o := poCx5_0 0 0 0 0) pmCx5_10_ hb); have n3_ := Aside0.mk (below_step pmCx5_25_ hb); have n4_ := Aside0.mk (hbox); have n5_ := Aside0.mk ((by rw [hg]; exact (below_size pmCx5_25_) : w.heap.size ≤ gb165)); have n6_ := Aside0.mk ((by rw [hg]; exact (below_size pmCx5_25_) : w.heap.size ≤ gb165)); have n7_ := Aside0.mk ((pmCx5_23_ : gb153 ≠ gb165)); have n8_ := Aside0.mk ((pmCx5_24_ : gb165 ≠ gb153)); have n9_ := Aside0.mk ((pmCx5_26_ : gb154 ≠ gb165)); have n10_ := Aside0.mk ((pmCx5_27_ : gb165 ≠ gb154)); have n11_ := Aside0.mk ((by rw [hg]; exact Nat.ne_of_lt (blk_lt (g := gb164) (o := poCx5_0 0 0 0 0) pmCx5_10_) : gb164 ≠ gb165)); have n12_ := Aside0.mk ((by rw [hg]; exact Nat.ne_of_gt (blk_lt (g := gb164) (o := poCx5_0 0 0 0 0) pmCx5_10_) : gb165 ≠ gb164)); clear BK153; clear BK154; clear BK164; clear HB; have BK153 := n0_; have BK154 := n1_; have BK164 := n2_; have HB := n3_; have BK165 := n4_; have GW165 := n5_; have GE165 := n6_; have NB153_165 := n7_; have NB165_153 := n8_; have NB154_165 := n9_; have NB165_154 := n10_; have NB164_165 := n11_; have NB165_164 := n12_; clear n0_ n1_ n2_ n3_ n4_ n5_ n6_ n7_ n8_ n9_ n10_ n11_ n12_; clear hb hbox hg; have hnb17 := NB164_153.out; have hnc17 := NB153_164.out; have hnb18 := NB164_154.out; have hnc18 := NB154_164.out; have hnb19 := NB164_165.out; have hnc19 := NB165_164.out; have hcz20_0 : w16.cell? ⟨gb164, 0, none⟩ = some (.int .i64 0) := (blk_cell BK164.out 0).trans rfl; have hcz20_1 : w16.cell? ⟨gb164, 1, none⟩ = some (.int .i64 0) := (blk_cell BK164.out 1).trans rfl; have hcz20_2 : w16.cell? ⟨gb164, 2, none⟩ = some (.int .i64 0) := (blk_cell BK164.out 2).trans rfl; have hcz20_3 : w16.cell? ⟨gb164, 3, none⟩ = some (.int .i64 0) := (blk_cell BK164.out 3).trans rfl; have hfz20_0 := blk_frozen BK164.out 0; have hfz20_1 := blk_frozen BK164.out 1; have hfz20_2 := blk_frozen BK164.out 2; have hfz20_3 := blk_frozen BK164.out 3; have hnb21 := NB165_153.out; have hnc21 := NB153_165.out; have hnb22 := NB165_154.out; have hnc22 := NB154_165.out; have hcz23_0 : w16.cell? ⟨gb165, 0, none⟩ = some (.int .i64 0) := (blk_cell BK165.out 0).trans rfl; have hcz23_1 : w16.cell? ⟨gb165, 1, none⟩ = some (.int .i64 0) := (blk_cell BK165.out 1).trans rfl; have hcz23_2 : w16.cell? ⟨gb165, 2, none⟩ = some (.int .i64 0) := (blk_cell BK165.out 2).trans rfl; have hcz23_3 : w16.cell? ⟨gb165, 3, none⟩ = some (.int .i64 0) := (blk_cell BK165.out 3).trans rfl; have hfz23_0 := blk_frozen BK165.out 0; have hfz23_1 := blk_frozen BK165.out 1; have hfz23_2 := blk_frozen BK165.out 2; have hfz23_3 := blk_frozen BK165.out 3) | ((with_reducible refine gate_callee (f := 16) rfl ?_); refine goesL_ (some 22) rfl rfl Try.func16 pmCx5_17_ rfl #[.slice A0 l0.length c0] rfl pmCx5_12_ ?_; (with_reducible refine (parterreref19_Bounds.calls k _ _ l0 t166 t167 t168 t169 t170 t171 t172 t173 _ ?side1 ?side2 A10.out).mono ?_); (case side1 => exact Kd.C_below HR0.out pmCx5_18_); (case side2 => exact HC0.out); rintro e w24 ⟨rfl, hb⟩; refine ⟨_, rfl, ?_⟩; have n0_ := Aside0.mk (blk_below (g := gb153) (o := poCx5_0 a1_0 a1_1 a1_2 a1_3) (by (with_reducible repeat (first | refine blk_drewN ?_ _ | refine blk_drew ?_ | refine blk_alloc ?_ _)); refine blk_far ?_ NB153_165.out _; (with_reducible repeat (first | refine blk_drewN ?_ _ | refine blk_drew ?_ | refine blk_alloc ?_ _)); refine blk_far ?_ NB153_165.out _; (with_reducible repeat (first | refine blk_drewN ?_ _ | refine blk_drew ?_ | refine blk_alloc ?_ _)); refine blk_far ?_ NB153_165.out _; (with_reducible repeat (first | refine blk_drewN ?_ _ | refine blk_drew ?_ | refine blk_alloc ?_ _)); refine blk_far ?_ NB153_165.out _; (with_reducible repeat (first | refine blk_drewN ?_ _ | refine blk_drew ?_ | refine blk_alloc ?_ _)); refine blk_far ?_ NB153_164.out _; (with_reducible repeat (first | refine blk_drewN ?_ _ | refine blk_drew ?_ | refine blk_alloc ?_ _)); refine blk_far ?_ NB153_164.out _; (with_reducible repeat (first | refine blk_drewN ?_ _ | refine blk_drew ?_ | refine blk_alloc ?_ _)); refine blk_far ?_ NB153_164.out _; (with_reducible repeat (first | refine blk_drewN ?_ _ | refine blk_drew ?_ | refine blk_alloc ?_ _)); refine blk_far ?_ NB153_164.out _; (with_reducible repeat (first | refine blk_drewN ?_ _ | refine blk_drew ?_ | refine blk_alloc ?_ _)); exact BK153.out) hb); have n1_ := Aside0.mk (blk_below (g := gb154) (o := poCx5_0 a2_0 a2_1 a2_2 a2_3) (by (with_reducible repeat (first | refine blk_drewN ?_ _ | refine blk_drew ?_ | refine blk_alloc ?_ _)); refine blk_far ?_ NB154_165.out _; (with_reducible repeat (first | refine blk_drewN ?_ _ | refine blk_drew ?_ | refine blk_alloc ?_ _)); refine blk_far ?_ NB154_165.out _; (with_reducible repeat (first | refine blk_drewN ?_ _ | refine blk_drew ?_ | refine blk_alloc ?_ _)); refine blk_far ?_ NB154_165.out _; (with_reducible repeat (first | refine blk_drewN ?_ _ | refine blk_drew ?_ | refine blk_alloc ?_ _)); refine blk_far ?_ NB154_165.out _; (with_reducible repeat (first | refine blk_drewN ?_ _ | refine blk_drew ?_ | refine blk_alloc ?_ _)); refine blk_far ?_ NB154_164.out _; (with_reducible repeat (first | refine blk_drewN ?_ _ | refine blk_drew ?_ | refine blk_alloc ?_ _)); refine blk_far ?_ NB154_164.out _; (with_reducible repeat (first | refine blk_drewN ?_ _ | refine blk_drew ?_ | refine blk_alloc ?_ _)); refine blk_far ?_ NB154_164.out _; (with_reducible repeat (first | refine blk_drewN ?_ _ | refine blk_drew ?_ | refine blk_alloc ?_ _)); refine blk_far ?_ NB154_164.out _; (with_reducible repeat (first | refine blk_drewN ?_ _ | refine blk_drew ?_ | refine blk_alloc ?_ _)); exact BK154.out) hb); have n2_ := Aside0.mk (blk_below (g := gb164) (o := poCx5_0 t156 t157 t158 t159) (by (with_reducible repeat (first | refine blk_drewN ?_ _ | refine blk_drew ?_ | refine blk_alloc ?_ _)); refine blk_far ?_ NB164_165.out _; (with_reducible repeat (first | refine blk_drewN ?_ _ | refine blk_drew ?_ | refine blk_alloc ?_ _)); refine blk_far ?_ NB164_165.out _; (with_reducible repeat (first | refine blk_drewN ?_ _ | refine blk_drew ?_ | refine blk_alloc ?_ _)); refine blk_far ?_ NB164_165.out _; (with_reducible repeat (first | refine blk_drewN ?_ _ | refine blk_drew ?_ | refine blk_alloc ?_ _)); refine blk_far ?_ NB164_165.out _; (with_reducible repeat (first | refine blk_drewN ?_ _ | refine blk_drew ?_ | refine blk_alloc ?_ _)); refine blk_put (cs := #[.int .i64 t156, .int .i64 t157, .int .i64 t158, .int .i64 0]) ?_ 3 _ rfl; (with_reducible repeat (first | refine blk_drewN ?_ _ | refine blk_drew ?_ | refine blk_alloc ?_ _)); refine blk_put (cs := #[.int .i64 t156, .int .i64 t157, .int .i64 0, .int .i64 0]) ?_ 2 _ rfl; (with_reducible repeat (first | refine blk_drewN ?_ _ | refine blk_drew ?_ | refine blk_alloc ?_ _)); refine blk_put (cs := #[.int .i64 t156, .int .i64 0, .int .i64 0, .int .i64 0]) ?_ 1 _ rfl; (with_reducible repeat (first | refine blk_drewN ?_ _ | refine blk_drew ?_ | refine blk_alloc ?_ _)); refine blk_put (cs := #[.int .i64 0, .int .i64 0, .int .i64 0, .int .i64 0]) ?_ 0 _ rfl; (with_reducible repeat (first | refine blk_drewN ?_ _ | refine blk_drew ?_ | refine blk_alloc ?_ _)); exact BK164.out) hb); have n3_ := Aside0.mk (blk_below (g := gb165) (o := poCx5_0 t160 t161 t162 t163) (by (with_reducible repeat (first | refine blk_drewN ?_ _ | refine blk_drew ?_ | refine blk_alloc ?_ _)); refine blk_put (cs := #[.int .i64 t160, .int .i64 t161, .int .i64 t162, .int .i64 0]) ?_ 3 _ rfl; (with_reducible repeat (first | refine blk_drewN ?_ _ | refine blk_drew ?_ | refine blk_alloc ?_ _)); refine blk_put (cs := #[.int .i64 t160, .int .i64 t161, .int .i64 0, .int .i64 0]) ?_ 2 _ rfl; (with_reducible repeat (first | refine blk_drewN ?_ _ | refine blk_drew ?_ | refine blk_alloc ?_ _)); refine blk_put (cs := #[.int .i64 t160, .int .i64 0, .int .i64 0, .int .i64 0]) ?_ 1 _ rfl; (with_reducible repeat (first | refine blk_drewN ?_ _ | refine blk_drew ?_ | refine blk_alloc ?_ _)); refine blk_put (cs := #[.int .i64 0, .int .i64 0, .int .i64 0, .int .i64 0]) ?_ 0 _ rfl; (with_reducible repeat (first | refine blk_drewN ?_ _ | refine blk_drew ?_ | refine blk_alloc ?_ _)); refine blk_far ?_ NB165_164.out _; (with_reducible repeat (first | refine blk_drewN ?_ _ | refine blk_drew ?_ | refine blk_alloc ?_ _)); refine blk_far ?_ NB165_164.out _; (with_reducible repeat (first | refine blk_drewN ?_ _ | refine blk_drew ?_ | refine blk_alloc ?_ _)); refine blk_far ?_ NB165_164.out _; (with_reducible repeat (first | refine blk_drewN ?_ _ | refine blk_drew ?_ | refine blk_alloc ?_ _)); refine blk_far ?_ NB165_164.out _; (with_reducible repeat (first | refine blk_drewN ?_ _ | refine blk_drew ?_ | refine blk_alloc ?_ _)); exact BK165.out) hb); have n4_ := Aside0.mk (below_step pmCx5_18_ hb); clear BK153; clear BK154; clear BK164; clear BK165; clear HB; have BK153 := n0_; have BK154 := n1_; have BK164 := n2_; have BK165 := n3_; have HB := n4_; clear n0_ n1_ n2_ n3_ n4_; (try clear hb); (try clear hb2); (try clear hk); (try clear hi)) | ((with_reducible refine gate_dst (N := 9) rfl ?_); refine box_event ?hg (N := 9) ?hd (cs := #[.int .i64 0, .int .i64 0, .int .i64 0, .int .i64 0]) (t := 24) ?hr ?_; (case hd => rfl); (case hg => rfl); (case hr => first | (go_simp; done) | (go_simp; rfl)); intro gb174 hg w25 hbox hb; have n0_ := Aside0.mk (blk_below (g := gb153) (o := poCx5_0 a1_0 a1_1 a1_2 a1_3) pmCx5_4_ hb); have n1_ := Aside0.mk (blk_below (g := gb154) (o := poCx5_0 a2_0 a2_1 a2_2 a2_3) pmCx5_5_ hb); have n2_ := Aside0.mk (blk_below (g := gb164) (o := poCx5_0 t156 t157 t158 t159) pmCx5_10_ hb); have n3_ := Aside0.mk (blk_below (g := gb165) (o := poCx5_0 t160 t161 t162 t163) pmCx5_11_ hb); have n4_ := Aside0.mk (below_step pmCx5_18_ hb); have n5_ := Aside0.mk (hbox); have n6_ := Aside0.mk ((by rw [hg]; exact (below_size pmCx5_18_) : w.heap.size ≤ gb174)); have n7_ := Aside0.mk ((by rw [hg]; exact (below_size pmCx5_18_) : w.heap.size ≤ gb174)); have n8_ := Aside0.mk ((pmCx5_23_ : gb153 ≠ gb174)); have n9_ := Aside0.mk ((pmCx5_24_ : gb174 ≠ gb153)); have n10_ := Aside0.mk ((pmCx5_26_ : gb154 ≠ gb174)); have n11_ := Aside0.mk ((pmCx5_27_ : gb174 ≠ gb154)); have n12_ := Aside0.mk ((by rw [hg]; exact Nat.ne_of_lt (blk_lt (g := gb164) (o := poCx5_0 t156 t157 t158 t159) pmCx5_10_) : gb164 ≠ gb174)); have n13_ := Aside0.mk ((by rw [hg]; exact Nat.ne_of_gt (blk_lt (g := gb164) (o := poCx5_0 t156 t157 t158 t159) pmCx5_10_) : gb174 ≠ gb164)); have n14_ := Aside0.mk ((by rw [hg]; exact Nat.ne_of_lt (blk_lt (g := gb165) (o := poCx5_0 t160 t161 t162 t163) pmCx5_11_) : gb165 ≠ gb174)); have n15_ := Aside0.mk ((by rw [hg]; exact Nat.ne_of_gt (blk_lt (g := gb165) (o := poCx5_0 t160 t161 t162 t163) pmCx5_11_) : gb174 ≠ gb165)); clear BK153; clear BK154; clear BK164; clear BK165; clear HB; have BK153 := n0_; have BK154 := n1_; have BK164 := n2_; have BK165 := n3_; have HB := n4_; have BK174 := n5_; have GW174 := n6_; have GE174 := n7_; have NB153_174 := n8_; have NB174_153 := n9_; have NB154_174 := n10_; have NB174_154 := n11_; have NB164_174 := n12_; have NB174_164 := n13_; have NB165_174 := n14_; have NB174_165 := n15_; clear n0_ n1_ n2_ n3_ n4_ n5_ n6_ n7_ n8_ n9_ n10_ n11_ n12_ n13_ n14_ n15_; clear hb hbox hg) | ((with_reducible refine gate_dst (N := 10) rfl ?_); refine box_event ?hg (N := 10) ?hd (cs := #[.int .i64 0, .int .i64 0, .int .i64 0, .int .i64 0]) (t := 24) ?hr ?_; (case hd => rfl); (case hg => rfl); (case hr => first | (go_simp; done) | (go_simp; rfl)); intro gb175 hg w26 hbox hb; have n0_ := Aside0.mk (blk_below (g := gb153) (o := poCx5_0 a1_0 a1_1 a1_2 a1_3) pmCx5_4_ hb); have n1_ := Aside0.mk (blk_below (g := gb154) (o := poCx5_0 a2_0 a2_1 a2_2 a2_3) pmCx5_5_ hb); have n2_ := Aside0.mk (blk_below (g := gb164) (o := poCx5_0 t156 t157 t158 t159) pmCx5_10_ hb); have n3_ := Aside0.mk (blk_below (g := gb165) (o := poCx5_0 t160 t161 t162 t163) pmCx5_11_ hb); have n4_ := Aside0.mk (blk_below (g := gb174) (o := poCx5_0 0 0 0 0) pmCx5_13_ hb); have n5_ := Aside0.mk (below_step pmCx5_22_ hb); have n6_ := Aside0.mk (hbox); have n7_ := Aside0.mk ((by rw [hg]; exact (below_size pmCx5_22_) : w.heap.size ≤ gb175)); have n8_ := Aside0.mk ((by rw [hg]; exact (below_size pmCx5_22_) : w.heap.size ≤ gb175)); have n9_ := Aside0.mk ((pmCx5_23_ : gb153 ≠ gb175)); have n10_ := Aside0.mk ((pmCx5_24_ : gb175 ≠ gb153)); have n11_ := Aside0.mk ((pmCx5_26_ : gb154 ≠ gb175)); have n12_ := Aside0.mk ((pmCx5_27_ : gb175 ≠ gb154)); have n13_ := Aside0.mk ((by rw [hg]; exact Nat.ne_of_lt (blk_lt (g := gb164) (o := poCx5_0 t156 t157 t158 t159) pmCx5_10_) : gb164 ≠ gb175)); have n14_ := Aside0.mk ((by rw [hg]; exact Nat.ne_of_gt (blk_lt (g := gb164) (o := poCx5_0 t156 t157 t158 t159) pmCx5_10_) : gb175 ≠ gb164)); have n15_ := Aside0.mk ((by rw [hg]; exact Nat.ne_of_lt (blk_lt (g := gb165) (o := poCx5_0 t160 t161 t162 t163) pmCx5_11_) : gb165 ≠ gb175)); have n16_ := Aside0.mk ((by rw [hg]; exact Nat.ne_of_gt (blk_lt (g := gb165) (o := poCx5_0 t160 t161 t162 t163) pmCx5_11_) : gb175 ≠ gb165)); have n17_ := Aside0.mk ((by rw [hg]; exact Nat.ne_of_lt (blk_lt (g := gb174) (o := poCx5_0 0 0 0 0) pmCx5_13_) : gb174 ≠ gb175)); have n18_ := Aside0.mk ((by rw [hg]; exact Nat.ne_of_gt (blk_lt (g := gb174) (o := poCx5_0 0 0 0 0) pmCx5_13_) : gb175 ≠ gb174)); clear BK153; clear BK154; clear BK164; clear BK165; clear BK174; clear HB; have BK153 := n0_; have BK154 := n1_; have BK164 := n2_; have BK165 := n3_; have BK174 := n4_; have HB := n5_; have BK175 := n6_; have GW175 := n7_; have GE175 := n8_; have NB153_175 := n9_; have NB175_153 := n10_; have NB154_175 := n11_; have NB175_154 := n12_; have NB164_175 := n13_; have NB175_164 := n14_; have NB165_175 := n15_; have NB175_165 := n16_; have NB174_175 := n17_; have NB175_174 := n18_; clear n0_ n1_ n2_ n3_ n4_ n5_ n6_ n7_ n8_ n9_ n10_ n11_ n12_ n13_ n14_ n15_ n16_ n17_ n18_; clear hb hbox hg; have hnb27 := NB174_153.out; have hnc27 := NB153_174.out; have hnb28 := NB174_154.out; have hnc28 := NB154_174.out; have hnb29 := NB174_164.out; have hnc29 := NB164_174.out; have hnb30 := NB174_165.out; have hnc30 := NB165_174.out; have hnb31 := NB174_175.out; have hnc31 := NB175_174.out; have hcz32_0 : w26.cell? ⟨gb174, 0, none⟩ = some (.int .i64 0) := (blk_cell BK174.out 0).trans rfl; have hcz32_1 : w26.cell? ⟨gb174, 1, none⟩ = some (.int .i64 0) := (blk_cell BK174.out 1).trans rfl; have hcz32_2 : w26.cell? ⟨gb174, 2, none⟩ = some (.int .i64 0) := (blk_cell BK174.out 2).trans rfl; have hcz32_3 : w26.cell? ⟨gb174, 3, none⟩ = some (.int .i64 0) := (blk_cell BK174.out 3).trans rfl; have hfz32_0 := blk_frozen BK174.out 0; have hfz32_1 := blk_frozen BK174.out 1; have hfz32_2 := blk_frozen BK174.out 2; have hfz32_3 := blk_frozen BK174.out 3; have hnb33 := NB175_153.out; have hnc33 := NB153_175.out; have hnb34 := NB175_154.out; have hnc34 := NB154_175.out; have hnb35 := NB175_164.out; have hnc35 := NB164_175.out; have hnb36 := NB175_165.out; have hnc36 := NB165_175.out; have hcz37_0 : w26.cell? ⟨gb175, 0, none⟩ = some (.int .i64 0) := (blk_cell BK175.out 0).trans rfl; have hcz37_1 : w26.cell? ⟨gb175, 1, none⟩ = some (.int .i64 0) := (blk_cell BK175.out 1).trans rfl; have hcz37_2 : w26.cell? ⟨gb175, 2, none⟩ = some (.int .i64 0) := (blk_cell BK175.out 2).trans rfl; have hcz37_3 : w26.cell? ⟨gb175, 3, none⟩ = some (.int .i64 0) := (blk_cell BK175.out 3).trans rfl; have hfz37_0 := blk_frozen BK175.out 0; have hfz37_1 := blk_frozen BK175.out 1; have hfz37_2 := blk_frozen BK175.out 2; have hfz37_3 := blk_frozen BK175.out 3))
  (try simp only [Act.put, List.setIfInBounds_toArray, List.set_cons_zero, List.set_cons_succ])
  go_cut [6] (fun v6 wc => ∃ (kq : Nat) (x6_10 : Bool), v6 = .bool x6_10 ∧ Aside0 (parterrelaw19_OccupyOverlaps.j0 kq x6_10 = some r) ∧ Aside0 (kq ≤ k) ∧ Aside0 (wc.heap[gb153]? = some (.cells #[.int .i64 a1_0, .int .i64 a1_1, .int .i64 a1_2, .int .i64 a1_3] 24 (0, 0))) ∧ Aside0 (wc.heap[gb154]? = some (.cells #[.int .i64 a2_0, .int .i64 a2_1, .int .i64 a2_2, .int .i64 a2_3] 24 (0, 0))) ∧ Aside0 (wc.heap[gb164]? = some (.cells #[.int .i64 t156, .int .i64 t157, .int .i64 t158, .int .i64 t159] 24 (0, 0))) ∧ Aside0 (wc.heap[gb165]? = some (.cells #[.int .i64 t160, .int .i64 t161, .int .i64 t162, .int .i64 t163] 24 (0, 0))) ∧ Aside0 (wc.heap[gb174]? = some (.cells #[.int .i64 t166, .int .i64 t167, .int .i64 t168, .int .i64 t169] 24 (0, 0))) ∧ Aside0 (wc.heap[gb175]? = some (.cells #[.int .i64 t170, .int .i64 t171, .int .i64 t172, .int .i64 t173] 24 (0, 0))) ∧ Aside0 (Below w.heap.size w wc))
  case first =>
    have H := HC11.out
    clear HC11
    replace H := Option.bind_eq_some_iff.mp H
    obtain ⟨t176, A380, H⟩ := H
    replace H : ((parterreref19_Overlap.f a1_0 a1_1 a1_2 a1_3 a2_0 a2_1 a2_2 a2_3).bind fun t177 => (if (t176 == t177) = true then ((occupy_Overlap.f k a2_0 a2_1 a2_2 a2_3 a1_0 a1_1 a1_2 a1_3).bind fun t178 => ((parterreref19_Overlap.f a1_0 a1_1 a1_2 a1_3 a2_0 a2_1 a2_2 a2_3).bind fun t179 => (if (t178 == t179) = true then ((occupy_Free.f k l0 a1_0 a1_1 a1_2 a1_3).bind fun t180 => ((parterreref19_Free.f k l0 a1_0 a1_1 a1_2 a1_3).bind fun t181 => (if (t180 == t181) = true then ((occupy_Turn.f a1_0 a1_1 a1_2 a1_3).bind fun bt182 => ((parterreref19_Turn.f a1_0 a1_1 a1_2 a1_3).bind fun bt186 => (if (bt182.1 == bt186.1 && (bt182.2.1 == bt186.2.1 && (bt182.2.2.1 == bt186.2.2.1 && (bt182.2.2.2 == bt186.2.2.2)))) = true then (if (t156 == t166 && (t157 == t167 && (t158 == t168 && (t159 == t169)))) = true then (if (t160 == t170 && (t161 == t171 && (t162 == t172 && (t163 == t173)))) = true then ((parterrelaw19_lives.f k).bind fun t190 => (parterrelaw19_OccupyOverlaps.j0 k t190)) else (parterrelaw19_OccupyOverlaps.j0 k false)) else (parterrelaw19_OccupyOverlaps.j0 k false)) else (parterrelaw19_OccupyOverlaps.j0 k false)))) else (parterrelaw19_OccupyOverlaps.j0 k false)))) else (parterrelaw19_OccupyOverlaps.j0 k false)))) else (parterrelaw19_OccupyOverlaps.j0 k false))) = some r := H
    have A38 := Aside0.mk A380
    clear A380
    replace H := Option.bind_eq_some_iff.mp H
    obtain ⟨t177, A390, H⟩ := H
    replace H : (if (t176 == t177) = true then ((occupy_Overlap.f k a2_0 a2_1 a2_2 a2_3 a1_0 a1_1 a1_2 a1_3).bind fun t178 => ((parterreref19_Overlap.f a1_0 a1_1 a1_2 a1_3 a2_0 a2_1 a2_2 a2_3).bind fun t179 => (if (t178 == t179) = true then ((occupy_Free.f k l0 a1_0 a1_1 a1_2 a1_3).bind fun t180 => ((parterreref19_Free.f k l0 a1_0 a1_1 a1_2 a1_3).bind fun t181 => (if (t180 == t181) = true then ((occupy_Turn.f a1_0 a1_1 a1_2 a1_3).bind fun bt182 => ((parterreref19_Turn.f a1_0 a1_1 a1_2 a1_3).bind fun bt186 => (if (bt182.1 == bt186.1 && (bt182.2.1 == bt186.2.1 && (bt182.2.2.1 == bt186.2.2.1 && (bt182.2.2.2 == bt186.2.2.2)))) = true then (if (t156 == t166 && (t157 == t167 && (t158 == t168 && (t159 == t169)))) = true then (if (t160 == t170 && (t161 == t171 && (t162 == t172 && (t163 == t173)))) = true then ((parterrelaw19_lives.f k).bind fun t190 => (parterrelaw19_OccupyOverlaps.j0 k t190)) else (parterrelaw19_OccupyOverlaps.j0 k false)) else (parterrelaw19_OccupyOverlaps.j0 k false)) else (parterrelaw19_OccupyOverlaps.j0 k false)))) else (parterrelaw19_OccupyOverlaps.j0 k false)))) else (parterrelaw19_OccupyOverlaps.j0 k false)))) else (parterrelaw19_OccupyOverlaps.j0 k false)) = some r := H
    have A39 := Aside0.mk A390
    clear A390
    by_cases c40 : (t176 == t177) = true
    rotate_left
    · rw [if_neg c40] at H
      have c40b0 : (t176 == t177) = false := by simpa using c40
      (try (have c40b1 : decide (t176 = t177) = false := by simpa using c40))
      (try (have c40b2 : (t176 == t177) = false := by simpa using c40))
      (try (have c40b3 : ¬ (t176 = t177) := by simpa using c40))
      clear c40
      (first | rw [c40b0] | (simp only [i64_w, i32_w]; rw [c40b0]) | skip)
      have H' := Aside0.mk H
      clear H
      try go_wp2
      have n0_ : Aside0 ((pwCx5_0 w26 gb174 gb175 t166 t167 t168 t169 t170 t171 t172 t173).heap[gb153]? = some (.cells #[.int .i64 a1_0, .int .i64 a1_1, .int .i64 a1_2, .int .i64 a1_3] 24 (0, 0))) := ⟨pmCx5_6_⟩
      have n1_ : Aside0 ((pwCx5_0 w26 gb174 gb175 t166 t167 t168 t169 t170 t171 t172 t173).heap[gb154]? = some (.cells #[.int .i64 a2_0, .int .i64 a2_1, .int .i64 a2_2, .int .i64 a2_3] 24 (0, 0))) := ⟨pmCx5_7_⟩
      have n2_ : Aside0 ((pwCx5_0 w26 gb174 gb175 t166 t167 t168 t169 t170 t171 t172 t173).heap[gb164]? = some (.cells #[.int .i64 t156, .int .i64 t157, .int .i64 t158, .int .i64 t159] 24 (0, 0))) := ⟨pmCx5_8_⟩
      have n3_ : Aside0 ((pwCx5_0 w26 gb174 gb175 t166 t167 t168 t169 t170 t171 t172 t173).heap[gb165]? = some (.cells #[.int .i64 t160, .int .i64 t161, .int .i64 t162, .int .i64 t163] 24 (0, 0))) := ⟨pmCx5_9_⟩
      have n4_ : Aside0 ((pwCx5_0 w26 gb174 gb175 t166 t167 t168 t169 t170 t171 t172 t173).heap[gb174]? = some (.cells #[.int .i64 t166, .int .i64 t167, .int .i64 t168, .int .i64 t169] 24 (0, 0))) := ⟨pmCx5_2_⟩
      have n5_ : Aside0 ((pwCx5_0 w26 gb174 gb175 t166 t167 t168 t169 t170 t171 t172 t173).heap[gb175]? = some (.cells #[.int .i64 t170, .int .i64 t171, .int .i64 t172, .int .i64 t173] 24 (0, 0))) := ⟨pmCx5_3_⟩
      have n6_ : Aside0 (Below w.heap.size w (pwCx5_0 w26 gb174 gb175 t166 t167 t168 t169 t170 t171 t172 t173)) := ⟨pmCx5_0_⟩
      (try clear BK153)
      (try clear BK154)
      (try clear BK164)
      (try clear BK165)
      (try clear BK174)
      (try clear BK175)
      (try clear HB)
      unfold pwCx5_0 at n0_ n1_ n2_ n3_ n4_ n5_ n6_
      generalize ((((((((w26.setCell ⟨gb174, 0, none⟩ (.int .i64 t166)).setCell ⟨gb174, 1, none⟩ (.int .i64 t167)).setCell ⟨gb174, 2, none⟩ (.int .i64 t168)).setCell ⟨gb174, 3, none⟩ (.int .i64 t169)).setCell ⟨gb175, 0, none⟩ (.int .i64 t170)).setCell ⟨gb175, 1, none⟩ (.int .i64 t171)).setCell ⟨gb175, 2, none⟩ (.int .i64 t172)).setCell ⟨gb175, 3, none⟩ (.int .i64 t173)) = w108 at n0_ n1_ n2_ n3_ n4_ n5_ n6_ ⊢
      have BK153 := n0_
      have BK154 := n1_
      have BK164 := n2_
      have BK165 := n3_
      have BK174 := n4_
      have BK175 := n5_
      have HB := n6_
      clear n0_ n1_ n2_ n3_ n4_ n5_ n6_
      replace BK153 := Aside0.mk (blk_drew BK153.out)
      replace BK154 := Aside0.mk (blk_drew BK154.out)
      replace BK164 := Aside0.mk (blk_drew BK164.out)
      replace BK165 := Aside0.mk (blk_drew BK165.out)
      replace BK174 := Aside0.mk (blk_drew BK174.out)
      replace BK175 := Aside0.mk (blk_drew BK175.out)
      replace HB := Aside0.mk (below_drew1 HB.out)
      refine start_ (n := 46) (S := fun w' => w'.cell? ⟨gb153, 0, none⟩ = some (.int .i64 a1_0) ∧ w'.cell? ⟨gb153, 1, none⟩ = some (.int .i64 a1_1) ∧ w'.cell? ⟨gb153, 2, none⟩ = some (.int .i64 a1_2) ∧ w'.cell? ⟨gb153, 3, none⟩ = some (.int .i64 a1_3) ∧ w'.cell? ⟨gb154, 0, none⟩ = some (.int .i64 a2_0) ∧ w'.cell? ⟨gb154, 1, none⟩ = some (.int .i64 a2_1) ∧ w'.cell? ⟨gb154, 2, none⟩ = some (.int .i64 a2_2) ∧ w'.cell? ⟨gb154, 3, none⟩ = some (.int .i64 a2_3)) (ds := []) pbCx5_0 pmCx5_17_ rfl rfl ⟨(blk_cell BK153.out 0).trans rfl, (blk_cell BK153.out 1).trans rfl, (blk_cell BK153.out 2).trans rfl, (blk_cell BK153.out 3).trans rfl, (blk_cell BK154.out 0).trans rfl, (blk_cell BK154.out 1).trans rfl, (blk_cell BK154.out 2).trans rfl, (blk_cell BK154.out 3).trans rfl⟩ (fun hHeld => ?_); refine with_tabW parterrelaw19_OccupyOverlaps.tab5 parterrelaw19_OccupyOverlaps.bits5 (fun HT_ HW_ => ?_)
      generalize w108.drew = w109 at BK153 BK154 BK164 BK165 BK174 BK175 HB hHeld ⊢
      refine take_ (i := 0) (N := some 25) (v := ?_) (a' := ?_) pbCx5_1 rfl rfl (take_ofW HT_.out HW_.out pmCx5_17_) (fun _ _ _ h => h) (Or.inl ⟨by rfl, ?_⟩) hHeld ?_ ?_
      rotate_left
      · rintro w' ⟨s0, s1, s2, s3, s4, s5, s6, s7⟩
        go_simp
        with_reducible rfl
      rotate_left
      · simp only [Act.put, List.setIfInBounds_toArray, List.set_cons_zero, List.set_cons_succ, i64_w, i32_w]
        rfl
      refine take_ (i := 1) (N := some 26) (v := ?_) (a' := ?_) pbCx5_2 rfl rfl (take_ofW HT_.out HW_.out pmCx5_17_) (fun _ _ _ h => h) (Or.inl ⟨by rfl, ?_⟩) hHeld ?_ ?_
      rotate_left
      · rintro w' ⟨s0, s1, s2, s3, s4, s5, s6, s7⟩
        go_simp
        with_reducible rfl
      rotate_left
      · simp only [Act.put, List.setIfInBounds_toArray, List.set_cons_zero, List.set_cons_succ, i64_w, i32_w]
        rfl
      refine take_ (i := 3) (N := some 28) (v := ?_) (a' := ?_) pbCx5_3 rfl rfl (take_ofW HT_.out HW_.out pmCx5_17_) (fun _ _ _ h => h) (Or.inl ⟨by rfl, ?_⟩) hHeld ?_ ?_
      rotate_left
      · rintro w' ⟨s0, s1, s2, s3, s4, s5, s6, s7⟩
        go_simp
        with_reducible rfl
      rotate_left
      · simp only [Act.put, List.setIfInBounds_toArray, List.set_cons_zero, List.set_cons_succ, i64_w, i32_w]
        rfl
      refine take_ (i := 4) (N := some 29) (v := ?_) (a' := ?_) pbCx5_4 rfl rfl (take_ofW HT_.out HW_.out pmCx5_17_) (fun _ _ _ h => h) (Or.inl ⟨by rfl, ?_⟩) hHeld ?_ ?_
      rotate_left
      · rintro w' ⟨s0, s1, s2, s3, s4, s5, s6, s7⟩
        go_simp
        with_reducible rfl
      rotate_left
      · simp only [Act.put, List.setIfInBounds_toArray, List.set_cons_zero, List.set_cons_succ, i64_w, i32_w]
        rfl
      refine one_ (i := 2) (N := some 27) pbCx5_5 rfl rfl (one_of HT_.out pmCx5_17_) pmCx5_29_ (fun K hK => ?_)
      refine goes_ Try.func17 pmCx5_17_ rfl #[.agg #[.int .i64 a1_0, .int .i64 a1_1, .int .i64 a1_2, .int .i64 a1_3], .agg #[.int .i64 a2_0, .int .i64 a2_1, .int .i64 a2_2, .int .i64 a2_3]] (by rfl) rfl rfl pmCx5_12_ ?_
      with_reducible refine (occupy_Overlap.calls k a1_0 a1_1 a1_2 a1_3 a2_0 a2_1 a2_2 a2_3 t176 _ A38.out).mono ?_
      rintro e w110 ⟨rfl, hb⟩
      refine ⟨_, rfl, ?_⟩
      replace BK153 := Aside0.mk (blk_below (g := gb153) (o := poCx5_0 a1_0 a1_1 a1_2 a1_3) pmCx5_4_ hb)
      replace BK154 := Aside0.mk (blk_below (g := gb154) (o := poCx5_0 a2_0 a2_1 a2_2 a2_3) pmCx5_5_ hb)
      replace BK164 := Aside0.mk (blk_below (g := gb164) (o := poCx5_0 t156 t157 t158 t159) pmCx5_10_ hb)
      replace BK165 := Aside0.mk (blk_below (g := gb165) (o := poCx5_0 t160 t161 t162 t163) pmCx5_11_ hb)
      replace BK174 := Aside0.mk (blk_below (g := gb174) (o := poCx5_0 t166 t167 t168 t169) pmCx5_13_ hb)
      replace BK175 := Aside0.mk (blk_below (g := gb175) (o := poCx5_0 t170 t171 t172 t173) pmCx5_14_ hb)
      replace HB := Aside0.mk (below_step pmCx5_0_ hb)
      (try clear hb)
      (try clear hb2)
      (try clear hk)
      (try clear hi)
      refine hK.out _ _ pmCx5_15_ (fun hHeld => ?_)
      clear hK K
      refine norm_ (a' := ?_) ?_ ?_
      rotate_left
      · show Act.put _ (some 27) _ = _
        simp only [Act.put, List.setIfInBounds_toArray, List.set_cons_zero, List.set_cons_succ, i64_w, i32_w]
        rfl
      refine one_ (i := 5) (N := some 30) pbCx5_6 rfl rfl (one_of HT_.out pmCx5_17_) pmCx5_29_ (fun K hK => ?_)
      refine goes_ Try.func18 pmCx5_17_ rfl #[.agg #[.int .i64 a1_0, .int .i64 a1_1, .int .i64 a1_2, .int .i64 a1_3], .agg #[.int .i64 a2_0, .int .i64 a2_1, .int .i64 a2_2, .int .i64 a2_3]] (by rfl) rfl rfl pmCx5_12_ ?_
      with_reducible refine (parterreref19_Overlap.calls a1_0 a1_1 a1_2 a1_3 a2_0 a2_1 a2_2 a2_3 t177 _ A39.out).mono ?_
      rintro e w111 ⟨rfl, hb⟩
      refine ⟨_, rfl, ?_⟩
      replace BK153 := Aside0.mk (blk_below (g := gb153) (o := poCx5_0 a1_0 a1_1 a1_2 a1_3) pmCx5_4_ hb)
      replace BK154 := Aside0.mk (blk_below (g := gb154) (o := poCx5_0 a2_0 a2_1 a2_2 a2_3) pmCx5_5_ hb)
      replace BK164 := Aside0.mk (blk_below (g := gb164) (o := poCx5_0 t156 t157 t158 t159) pmCx5_10_ hb)
      replace BK165 := Aside0.mk (blk_below (g := gb165) (o := poCx5_0 t160 t161 t162 t163) pmCx5_11_ hb)
      replace BK174 := Aside0.mk (blk_below (g := gb174) (o := poCx5_0 t166 t167 t168 t169) pmCx5_13_ hb)
      replace BK175 := Aside0.mk (blk_below (g := gb175) (o := poCx5_0 t170 t171 t172 t173) pmCx5_14_ hb)
      replace HB := Aside0.mk (below_step pmCx5_0_ hb)
      (try clear hb)
      (try clear hb2)
      (try clear hk)
      (try clear hi)
      refine hK.out _ _ pmCx5_15_ (fun hHeld => ?_)
      clear hK K
      refine norm_ (a' := ?_) ?_ ?_
      rotate_left
      · show Act.put _ (some 30) _ = _
        simp only [Act.put, List.setIfInBounds_toArray, List.set_cons_zero, List.set_cons_succ, i64_w, i32_w]
        rfl
      refine pure_ (i := 6) (N := some 31) (v := ?_) (a' := ?_) pbCx5_7 rfl rfl (any_of HT_.out pmCx5_17_) (fun _ _ _ h => h) (Or.inl ⟨by rfl, ?_⟩) ?_ ?_
      rotate_left
      · intro w'
        go_simp
        with_reducible rfl
      rotate_left
      · simp only [Act.put, List.setIfInBounds_toArray, List.set_cons_zero, List.set_cons_succ, i64_w, i32_w]
        rfl
      refine pure_ (i := 7) (N := some 32) (v := ?_) (a' := ?_) pbCx5_8 rfl rfl (any_of HT_.out pmCx5_17_) (fun _ _ _ h => h) (Or.inl ⟨by rfl, ?_⟩) ?_ ?_
      rotate_left
      · intro w'
        go_simp
        with_reducible rfl
      rotate_left
      · simp only [Act.put, List.setIfInBounds_toArray, List.set_cons_zero, List.set_cons_succ, i64_w, i32_w]
        rfl
      refine pure_ (i := 8) (N := some 33) (v := undef) (a' := ?_) pbCx5_9 rfl rfl (any_of HT_.out pmCx5_17_) (fun _ _ _ h => h) (Or.inr ⟨by rfl, rfl⟩) ?_ ?_
      rotate_left
      · simp only [Act.put, List.setIfInBounds_toArray, List.set_cons_zero, List.set_cons_succ, i64_w, i32_w]
        rfl
      refine pure_ (i := 9) (N := some 34) (v := undef) (a' := ?_) pbCx5_10 rfl rfl (any_of HT_.out pmCx5_17_) (fun _ _ _ h => h) (Or.inr ⟨by rfl, rfl⟩) ?_ ?_
      rotate_left
      · simp only [Act.put, List.setIfInBounds_toArray, List.set_cons_zero, List.set_cons_succ, i64_w, i32_w]
        rfl
      refine pure_ (i := 10) (N := some 35) (v := undef) (a' := ?_) #[true, true, true, true, true, true, true, true, true, true, true, false, false, false, false, false, false, false, false, false, false, false, false, false, false, false, false, false, false, false, false, false, false, false, false, false, false, false, false, false, false, false, false, false, false, false] rfl rfl (any_of HT_.out pmCx5_17_) (fun _ _ _ h => h) (Or.inr ⟨by rfl, rfl⟩) ?_ ?_
      rotate_left
      · simp only [Act.put, List.setIfInBounds_toArray, List.set_cons_zero, List.set_cons_succ, i64_w, i32_w]
        rfl
      refine pure_ (i := 11) (N := some 36) (v := undef) (a' := ?_) #[true, true, true, true, true, true, true, true, true, true, true, true, false, false, false, false, false, false, false, false, false, false, false, false, false, false, false, false, false, false, false, false, false, false, false, false, false, false, false, false, false, false, false, false, false, false] rfl rfl (any_of HT_.out pmCx5_17_) (fun _ _ _ h => h) (Or.inr ⟨by rfl, rfl⟩) ?_ ?_
      rotate_left
      · simp only [Act.put, List.setIfInBounds_toArray, List.set_cons_zero, List.set_cons_succ, i64_w, i32_w]
        rfl
      refine pure_ (i := 12) (N := some 37) (v := undef) (a' := ?_) pbCx5_13 rfl rfl (any_of HT_.out pmCx5_17_) (fun _ _ _ h => h) (Or.inr ⟨by rfl, rfl⟩) ?_ ?_
      rotate_left
      · simp only [Act.put, List.setIfInBounds_toArray, List.set_cons_zero, List.set_cons_succ, i64_w, i32_w]
        rfl
      refine pure_ (i := 13) (N := some 38) (v := undef) (a' := ?_) pbCx5_14 rfl rfl (any_of HT_.out pmCx5_17_) (fun _ _ _ h => h) (Or.inr ⟨by rfl, rfl⟩) ?_ ?_
      rotate_left
      · simp only [Act.put, List.setIfInBounds_toArray, List.set_cons_zero, List.set_cons_succ, i64_w, i32_w]
        rfl
      refine pure_ (i := 14) (N := some 39) (v := undef) (a' := ?_) pbCx5_15 rfl rfl (any_of HT_.out pmCx5_17_) (fun _ _ _ h => h) (Or.inr ⟨by rfl, rfl⟩) ?_ ?_
      rotate_left
      · simp only [Act.put, List.setIfInBounds_toArray, List.set_cons_zero, List.set_cons_succ, i64_w, i32_w]
        rfl
      refine pure_ (i := 15) (N := some 40) (v := ?_) (a' := ?_) pbCx5_16 rfl rfl (any_of HT_.out pmCx5_17_) (fun _ _ _ h => h) (Or.inl ⟨by rfl, ?_⟩) ?_ ?_
      rotate_left
      · intro w'
        go_simp
        with_reducible rfl
      rotate_left
      · simp only [Act.put, List.setIfInBounds_toArray, List.set_cons_zero, List.set_cons_succ, i64_w, i32_w]
        rfl
      refine pure_ (i := 16) (N := some 41) (v := ?_) (a' := ?_) pbCx5_17 rfl rfl (any_of HT_.out pmCx5_17_) (fun _ _ _ h => h) (Or.inl ⟨by rfl, ?_⟩) ?_ ?_
      rotate_left
      · intro w'
        go_simp
        with_reducible rfl
      rotate_left
      · simp only [Act.put, List.setIfInBounds_toArray, List.set_cons_zero, List.set_cons_succ, i64_w, i32_w]
        rfl
      refine pure_ (i := 17) (N := some 42) (v := undef) (a' := ?_) pbCx5_18 rfl rfl (any_of HT_.out pmCx5_17_) (fun _ _ _ h => h) (Or.inr ⟨by rfl, rfl⟩) ?_ ?_
      rotate_left
      · simp only [Act.put, List.setIfInBounds_toArray, List.set_cons_zero, List.set_cons_succ, i64_w, i32_w]
        rfl
      refine pure_ (i := 18) (N := some 43) (v := undef) (a' := ?_) #[true, true, true, true, true, true, true, true, true, true, true, true, true, true, true, true, true, true, true, false, false, false, false, false, false, false, false, false, false, false, false, false, false, false, false, false, false, false, false, false, false, false, false, false, false, false] rfl rfl (any_of HT_.out pmCx5_17_) (fun _ _ _ h => h) (Or.inr ⟨by rfl, rfl⟩) ?_ ?_
      rotate_left
      · simp only [Act.put, List.setIfInBounds_toArray, List.set_cons_zero, List.set_cons_succ, i64_w, i32_w]
        rfl
      refine pure_ (i := 19) (N := some 44) (v := undef) (a' := ?_) #[true, true, true, true, true, true, true, true, true, true, true, true, true, true, true, true, true, true, true, true, false, false, false, false, false, false, false, false, false, false, false, false, false, false, false, false, false, false, false, false, false, false, false, false, false, false] rfl rfl (any_of HT_.out pmCx5_17_) (fun _ _ _ h => h) (Or.inr ⟨by rfl, rfl⟩) ?_ ?_
      rotate_left
      · simp only [Act.put, List.setIfInBounds_toArray, List.set_cons_zero, List.set_cons_succ, i64_w, i32_w]
        rfl
      refine pure_ (i := 20) (N := some 45) (v := undef) (a' := ?_) #[true, true, true, true, true, true, true, true, true, true, true, true, true, true, true, true, true, true, true, true, true, false, false, false, false, false, false, false, false, false, false, false, false, false, false, false, false, false, false, false, false, false, false, false, false, false] rfl rfl (any_of HT_.out pmCx5_17_) (fun _ _ _ h => h) (Or.inr ⟨by rfl, rfl⟩) ?_ ?_
      rotate_left
      · simp only [Act.put, List.setIfInBounds_toArray, List.set_cons_zero, List.set_cons_succ, i64_w, i32_w]
        rfl
      refine pure_ (i := 21) (N := some 46) (v := undef) (a' := ?_) pbCx5_22 rfl rfl (any_of HT_.out pmCx5_17_) (fun _ _ _ h => h) (Or.inr ⟨by rfl, rfl⟩) ?_ ?_
      rotate_left
      · simp only [Act.put, List.setIfInBounds_toArray, List.set_cons_zero, List.set_cons_succ, i64_w, i32_w]
        rfl
      refine pure_ (i := 22) (N := some 47) (v := undef) (a' := ?_) pbCx5_23 rfl rfl (any_of HT_.out pmCx5_17_) (fun _ _ _ h => h) (Or.inr ⟨by rfl, rfl⟩) ?_ ?_
      rotate_left
      · simp only [Act.put, List.setIfInBounds_toArray, List.set_cons_zero, List.set_cons_succ, i64_w, i32_w]
        rfl
      refine pure_ (i := 23) (N := some 48) (v := undef) (a' := ?_) pbCx5_24 rfl rfl (any_of HT_.out pmCx5_17_) (fun _ _ _ h => h) (Or.inr ⟨by rfl, rfl⟩) ?_ ?_
      rotate_left
      · simp only [Act.put, List.setIfInBounds_toArray, List.set_cons_zero, List.set_cons_succ, i64_w, i32_w]
        rfl
      refine pure_ (i := 24) (N := some 49) (v := ?_) (a' := ?_) pbCx5_25 rfl rfl (any_of HT_.out pmCx5_17_) (fun _ _ _ h => h) (Or.inl ⟨by rfl, ?_⟩) ?_ ?_
      rotate_left
      · intro w'
        go_simp
        with_reducible rfl
      rotate_left
      · simp only [Act.put, List.setIfInBounds_toArray, List.set_cons_zero, List.set_cons_succ, i64_w, i32_w]
        rfl
      refine pure_ (i := 25) (N := some 50) (v := ?_) (a' := ?_) pbCx5_26 rfl rfl (any_of HT_.out pmCx5_17_) (fun _ _ _ h => h) (Or.inl ⟨by rfl, ?_⟩) ?_ ?_
      rotate_left
      · intro w'
        go_simp
        with_reducible rfl
      rotate_left
      · simp only [Act.put, List.setIfInBounds_toArray, List.set_cons_zero, List.set_cons_succ, i64_w, i32_w]
        rfl
      refine pure_ (i := 26) (N := some 51) (v := undef) (a' := ?_) pbCx5_27 rfl rfl (any_of HT_.out pmCx5_17_) (fun _ _ _ h => h) (Or.inr ⟨by rfl, rfl⟩) ?_ ?_
      rotate_left
      · simp only [Act.put, List.setIfInBounds_toArray, List.set_cons_zero, List.set_cons_succ, i64_w, i32_w]
        rfl
      refine pure_ (i := 27) (N := some 52) (v := undef) (a' := ?_) pbCx5_47 rfl rfl (any_of HT_.out pmCx5_17_) (fun _ _ _ h => h) (Or.inr ⟨by rfl, rfl⟩) ?_ ?_
      rotate_left
      · simp only [Act.put, List.setIfInBounds_toArray, List.set_cons_zero, List.set_cons_succ, i64_w, i32_w]
        rfl
      refine pure_ (i := 28) (N := some 53) (v := undef) (a' := ?_) pbCx5_29 rfl rfl (any_of HT_.out pmCx5_17_) (fun _ _ _ h => h) (Or.inr ⟨by rfl, rfl⟩) ?_ ?_
      rotate_left
      · simp only [Act.put, List.setIfInBounds_toArray, List.set_cons_zero, List.set_cons_succ, i64_w, i32_w]
        rfl
      refine pure_ (i := 29) (N := some 54) (v := undef) (a' := ?_) pbCx5_30 rfl rfl (any_of HT_.out pmCx5_17_) (fun _ _ _ h => h) (Or.inr ⟨by rfl, rfl⟩) ?_ ?_
      rotate_left
      · simp only [Act.put, List.setIfInBounds_toArray, List.set_cons_zero, List.set_cons_succ, i64_w, i32_w]
        rfl
      refine pure_ (i := 30) (N := some 55) (v := undef) (a' := ?_) pbCx5_31 rfl rfl (any_of HT_.out pmCx5_17_) (fun _ _ _ h => h) (Or.inr ⟨by rfl, rfl⟩) ?_ ?_
      rotate_left
      · simp only [Act.put, List.setIfInBounds_toArray, List.set_cons_zero, List.set_cons_succ, i64_w, i32_w]
        rfl
      refine pure_ (i := 31) (N := some 56) (v := ?_) (a' := ?_) pbCx5_32 rfl rfl (any_of HT_.out pmCx5_17_) (fun _ _ _ h => h) (Or.inl ⟨by rfl, ?_⟩) ?_ ?_
      rotate_left
      · intro w'
        go_simp
        with_reducible rfl
      rotate_left
      · simp only [Act.put, List.setIfInBounds_toArray, List.set_cons_zero, List.set_cons_succ, i64_w, i32_w]
        rfl
      refine pure_ (i := 32) (N := some 57) (v := ?_) (a' := ?_) pbCx5_33 rfl rfl (any_of HT_.out pmCx5_17_) (fun _ _ _ h => h) (Or.inl ⟨by rfl, ?_⟩) ?_ ?_
      rotate_left
      · intro w'
        go_simp
        with_reducible rfl
      rotate_left
      · simp only [Act.put, List.setIfInBounds_toArray, List.set_cons_zero, List.set_cons_succ, i64_w, i32_w]
        rfl
      refine pure_ (i := 33) (N := some 58) (v := undef) (a' := ?_) pbCx5_34 rfl rfl (any_of HT_.out pmCx5_17_) (fun _ _ _ h => h) (Or.inr ⟨by rfl, rfl⟩) ?_ ?_
      rotate_left
      · simp only [Act.put, List.setIfInBounds_toArray, List.set_cons_zero, List.set_cons_succ, i64_w, i32_w]
        rfl
      refine pure_ (i := 34) (N := some 59) (v := undef) (a' := ?_) pbCx5_35 rfl rfl (any_of HT_.out pmCx5_17_) (fun _ _ _ h => h) (Or.inr ⟨by rfl, rfl⟩) ?_ ?_
      rotate_left
      · simp only [Act.put, List.setIfInBounds_toArray, List.set_cons_zero, List.set_cons_succ, i64_w, i32_w]
        rfl
      refine pure_ (i := 35) (N := some 60) (v := undef) (a' := ?_) pbCx5_36 rfl rfl (any_of HT_.out pmCx5_17_) (fun _ _ _ h => h) (Or.inr ⟨by rfl, rfl⟩) ?_ ?_
      rotate_left
      · simp only [Act.put, List.setIfInBounds_toArray, List.set_cons_zero, List.set_cons_succ, i64_w, i32_w]
        rfl
      refine pure_ (i := 36) (N := some 61) (v := ?_) (a' := ?_) pbCx5_37 rfl rfl (any_of HT_.out pmCx5_17_) (fun _ _ _ h => h) (Or.inl ⟨by rfl, ?_⟩) ?_ ?_
      rotate_left
      · intro w'
        go_simp
        with_reducible rfl
      rotate_left
      · simp only [Act.put, List.setIfInBounds_toArray, List.set_cons_zero, List.set_cons_succ, i64_w, i32_w]
        rfl
      refine pure_ (i := 37) (N := some 62) (v := ?_) (a' := ?_) pbCx5_38 rfl rfl (any_of HT_.out pmCx5_17_) (fun _ _ _ h => h) (Or.inl ⟨by rfl, ?_⟩) ?_ ?_
      rotate_left
      · intro w'
        go_simp
        with_reducible rfl
      rotate_left
      · simp only [Act.put, List.setIfInBounds_toArray, List.set_cons_zero, List.set_cons_succ, i64_w, i32_w]
        rfl
      refine pure_ (i := 38) (N := some 63) (v := undef) (a' := ?_) pbCx5_39 rfl rfl (any_of HT_.out pmCx5_17_) (fun _ _ _ h => h) (Or.inr ⟨by rfl, rfl⟩) ?_ ?_
      rotate_left
      · simp only [Act.put, List.setIfInBounds_toArray, List.set_cons_zero, List.set_cons_succ, i64_w, i32_w]
        rfl
      refine pure_ (i := 39) (N := some 64) (v := undef) (a' := ?_) pbCx5_40 rfl rfl (any_of HT_.out pmCx5_17_) (fun _ _ _ h => h) (Or.inr ⟨by rfl, rfl⟩) ?_ ?_
      rotate_left
      · simp only [Act.put, List.setIfInBounds_toArray, List.set_cons_zero, List.set_cons_succ, i64_w, i32_w]
        rfl
      refine pure_ (i := 40) (N := some 65) (v := undef) (a' := ?_) pbCx5_41 rfl rfl (any_of HT_.out pmCx5_17_) (fun _ _ _ h => h) (Or.inr ⟨by rfl, rfl⟩) ?_ ?_
      rotate_left
      · simp only [Act.put, List.setIfInBounds_toArray, List.set_cons_zero, List.set_cons_succ, i64_w, i32_w]
        rfl
      refine pure_ (i := 41) (N := some 66) (v := ?_) (a' := ?_) pbCx5_42 rfl rfl (any_of HT_.out pmCx5_17_) (fun _ _ _ h => h) (Or.inl ⟨by rfl, ?_⟩) ?_ ?_
      rotate_left
      · intro w'
        go_simp
        with_reducible rfl
      rotate_left
      · simp only [Act.put, List.setIfInBounds_toArray, List.set_cons_zero, List.set_cons_succ, i64_w, i32_w]
        rfl
      refine pure_ (i := 42) (N := some 67) (v := ?_) (a' := ?_) pbCx5_43 rfl rfl (any_of HT_.out pmCx5_17_) (fun _ _ _ h => h) (Or.inl ⟨by rfl, ?_⟩) ?_ ?_
      rotate_left
      · intro w'
        go_simp
        with_reducible rfl
      rotate_left
      · simp only [Act.put, List.setIfInBounds_toArray, List.set_cons_zero, List.set_cons_succ, i64_w, i32_w]
        rfl
      refine pure_ (i := 43) (N := some 68) (v := undef) (a' := ?_) pbCx5_44 rfl rfl (any_of HT_.out pmCx5_17_) (fun _ _ _ h => h) (Or.inr ⟨by rfl, rfl⟩) ?_ ?_
      rotate_left
      · simp only [Act.put, List.setIfInBounds_toArray, List.set_cons_zero, List.set_cons_succ, i64_w, i32_w]
        rfl
      refine pure_ (i := 44) (N := some 69) (v := ?_) (a' := ?_) pbCx5_45 rfl rfl (any_of HT_.out pmCx5_17_) (fun _ _ _ h => h) (Or.inl ⟨by rfl, ?_⟩) ?_ ?_
      rotate_left
      · intro w'
        go_simp
        with_reducible rfl
      rotate_left
      · simp only [Act.put, List.setIfInBounds_toArray, List.set_cons_zero, List.set_cons_succ, i64_w, i32_w]
        rfl
      refine pure_ (i := 45) (N := some 6) (v := ?_) (a' := ?_) pbCx5_46 rfl rfl (any_of HT_.out pmCx5_17_) (fun _ _ _ h => h) (Or.inl ⟨by rfl, ?_⟩) ?_ ?_
      rotate_left
      · intro w'
        go_simp
        with_reducible rfl
      rotate_left
      · simp only [Act.put, List.setIfInBounds_toArray, List.set_cons_zero, List.set_cons_succ, i64_w, i32_w]
        rfl
      refine done_ (done_of HT_.out pmCx5_17_) ?_
      try go_wp2
      go_meet
      case rel => exact ⟨_, (false), pmCx5_28_, H', ⟨pmCx5_30_⟩, ⟨pmCx5_4_⟩, ⟨pmCx5_5_⟩, ⟨pmCx5_10_⟩, ⟨pmCx5_11_⟩, ⟨pmCx5_13_⟩, ⟨pmCx5_14_⟩, ⟨pmCx5_0_⟩⟩
    rw [if_pos c40] at H
    have c40b0 : (t176 == t177) = true := c40
    (try (have c40b1 : decide (t176 = t177) = true := by simpa using c40))
    (try (have c40b2 : (t176 == t177) = true := by simpa using c40))
    clear c40
    (first | rw [c40b0] | (simp only [i64_w, i32_w]; rw [c40b0]) | skip)
    replace H := Option.bind_eq_some_iff.mp H
    obtain ⟨t178, A410, H⟩ := H
    replace H : ((parterreref19_Overlap.f a1_0 a1_1 a1_2 a1_3 a2_0 a2_1 a2_2 a2_3).bind fun t179 => (if (t178 == t179) = true then ((occupy_Free.f k l0 a1_0 a1_1 a1_2 a1_3).bind fun t180 => ((parterreref19_Free.f k l0 a1_0 a1_1 a1_2 a1_3).bind fun t181 => (if (t180 == t181) = true then ((occupy_Turn.f a1_0 a1_1 a1_2 a1_3).bind fun bt182 => ((parterreref19_Turn.f a1_0 a1_1 a1_2 a1_3).bind fun bt186 => (if (bt182.1 == bt186.1 && (bt182.2.1 == bt186.2.1 && (bt182.2.2.1 == bt186.2.2.1 && (bt182.2.2.2 == bt186.2.2.2)))) = true then (if (t156 == t166 && (t157 == t167 && (t158 == t168 && (t159 == t169)))) = true then (if (t160 == t170 && (t161 == t171 && (t162 == t172 && (t163 == t173)))) = true then ((parterrelaw19_lives.f k).bind fun t190 => (parterrelaw19_OccupyOverlaps.j0 k t190)) else (parterrelaw19_OccupyOverlaps.j0 k false)) else (parterrelaw19_OccupyOverlaps.j0 k false)) else (parterrelaw19_OccupyOverlaps.j0 k false)))) else (parterrelaw19_OccupyOverlaps.j0 k false)))) else (parterrelaw19_OccupyOverlaps.j0 k false))) = some r := H
    have A41 := Aside0.mk A410
    clear A410
    replace H := Option.bind_eq_some_iff.mp H
    obtain ⟨t179, A420, H⟩ := H
    replace H : (if (t178 == t179) = true then ((occupy_Free.f k l0 a1_0 a1_1 a1_2 a1_3).bind fun t180 => ((parterreref19_Free.f k l0 a1_0 a1_1 a1_2 a1_3).bind fun t181 => (if (t180 == t181) = true then ((occupy_Turn.f a1_0 a1_1 a1_2 a1_3).bind fun bt182 => ((parterreref19_Turn.f a1_0 a1_1 a1_2 a1_3).bind fun bt186 => (if (bt182.1 == bt186.1 && (bt182.2.1 == bt186.2.1 && (bt182.2.2.1 == bt186.2.2.1 && (bt182.2.2.2 == bt186.2.2.2)))) = true then (if (t156 == t166 && (t157 == t167 && (t158 == t168 && (t159 == t169)))) = true then (if (t160 == t170 && (t161 == t171 && (t162 == t172 && (t163 == t173)))) = true then ((parterrelaw19_lives.f k).bind fun t190 => (parterrelaw19_OccupyOverlaps.j0 k t190)) else (parterrelaw19_OccupyOverlaps.j0 k false)) else (parterrelaw19_OccupyOverlaps.j0 k false)) else (parterrelaw19_OccupyOverlaps.j0 k false)))) else (parterrelaw19_OccupyOverlaps.j0 k false)))) else (parterrelaw19_OccupyOverlaps.j0 k false)) = some r := H
    have A42 := Aside0.mk A420
    clear A420
    by_cases c43 : (t178 == t179) = true
    rotate_left
    · rw [if_neg c43] at H
      have c43b0 : (t178 == t179) = false := by simpa using c43
      (try (have c43b1 : decide (t178 = t179) = false := by simpa using c43))
      (try (have c43b2 : (t178 == t179) = false := by simpa using c43))
      (try (have c43b3 : ¬ (t178 = t179) := by simpa using c43))
      clear c43
      have H' := Aside0.mk H
      clear H
      try go_wp2
      have n0_ : Aside0 ((pwCx5_0 w26 gb174 gb175 t166 t167 t168 t169 t170 t171 t172 t173).heap[gb153]? = some (.cells #[.int .i64 a1_0, .int .i64 a1_1, .int .i64 a1_2, .int .i64 a1_3] 24 (0, 0))) := ⟨pmCx5_6_⟩
      have n1_ : Aside0 ((pwCx5_0 w26 gb174 gb175 t166 t167 t168 t169 t170 t171 t172 t173).heap[gb154]? = some (.cells #[.int .i64 a2_0, .int .i64 a2_1, .int .i64 a2_2, .int .i64 a2_3] 24 (0, 0))) := ⟨pmCx5_7_⟩
      have n2_ : Aside0 ((pwCx5_0 w26 gb174 gb175 t166 t167 t168 t169 t170 t171 t172 t173).heap[gb164]? = some (.cells #[.int .i64 t156, .int .i64 t157, .int .i64 t158, .int .i64 t159] 24 (0, 0))) := ⟨pmCx5_8_⟩
      have n3_ : Aside0 ((pwCx5_0 w26 gb174 gb175 t166 t167 t168 t169 t170 t171 t172 t173).heap[gb165]? = some (.cells #[.int .i64 t160, .int .i64 t161, .int .i64 t162, .int .i64 t163] 24 (0, 0))) := ⟨pmCx5_9_⟩
      have n4_ : Aside0 ((pwCx5_0 w26 gb174 gb175 t166 t167 t168 t169 t170 t171 t172 t173).heap[gb174]? = some (.cells #[.int .i64 t166, .int .i64 t167, .int .i64 t168, .int .i64 t169] 24 (0, 0))) := ⟨pmCx5_2_⟩
      have n5_ : Aside0 ((pwCx5_0 w26 gb174 gb175 t166 t167 t168 t169 t170 t171 t172 t173).heap[gb175]? = some (.cells #[.int .i64 t170, .int .i64 t171, .int .i64 t172, .int .i64 t173] 24 (0, 0))) := ⟨pmCx5_3_⟩
      have n6_ : Aside0 (Below w.heap.size w (pwCx5_0 w26 gb174 gb175 t166 t167 t168 t169 t170 t171 t172 t173)) := ⟨pmCx5_0_⟩
      (try clear BK153)
      (try clear BK154)
      (try clear BK164)
      (try clear BK165)
      (try clear BK174)
      (try clear BK175)
      (try clear HB)
      unfold pwCx5_0 at n0_ n1_ n2_ n3_ n4_ n5_ n6_
      generalize ((((((((w26.setCell ⟨gb174, 0, none⟩ (.int .i64 t166)).setCell ⟨gb174, 1, none⟩ (.int .i64 t167)).setCell ⟨gb174, 2, none⟩ (.int .i64 t168)).setCell ⟨gb174, 3, none⟩ (.int .i64 t169)).setCell ⟨gb175, 0, none⟩ (.int .i64 t170)).setCell ⟨gb175, 1, none⟩ (.int .i64 t171)).setCell ⟨gb175, 2, none⟩ (.int .i64 t172)).setCell ⟨gb175, 3, none⟩ (.int .i64 t173)) = w102 at n0_ n1_ n2_ n3_ n4_ n5_ n6_ ⊢
      have BK153 := n0_
      have BK154 := n1_
      have BK164 := n2_
      have BK165 := n3_
      have BK174 := n4_
      have BK175 := n5_
      have HB := n6_
      clear n0_ n1_ n2_ n3_ n4_ n5_ n6_
      replace BK153 := Aside0.mk (blk_drew BK153.out)
      replace BK154 := Aside0.mk (blk_drew BK154.out)
      replace BK164 := Aside0.mk (blk_drew BK164.out)
      replace BK165 := Aside0.mk (blk_drew BK165.out)
      replace BK174 := Aside0.mk (blk_drew BK174.out)
      replace BK175 := Aside0.mk (blk_drew BK175.out)
      replace HB := Aside0.mk (below_drew1 HB.out)
      refine start_ (n := 46) (S := fun w' => w'.cell? ⟨gb153, 0, none⟩ = some (.int .i64 a1_0) ∧ w'.cell? ⟨gb153, 1, none⟩ = some (.int .i64 a1_1) ∧ w'.cell? ⟨gb153, 2, none⟩ = some (.int .i64 a1_2) ∧ w'.cell? ⟨gb153, 3, none⟩ = some (.int .i64 a1_3) ∧ w'.cell? ⟨gb154, 0, none⟩ = some (.int .i64 a2_0) ∧ w'.cell? ⟨gb154, 1, none⟩ = some (.int .i64 a2_1) ∧ w'.cell? ⟨gb154, 2, none⟩ = some (.int .i64 a2_2) ∧ w'.cell? ⟨gb154, 3, none⟩ = some (.int .i64 a2_3)) (ds := []) pbCx5_0 pmCx5_17_ rfl rfl ⟨(blk_cell BK153.out 0).trans rfl, (blk_cell BK153.out 1).trans rfl, (blk_cell BK153.out 2).trans rfl, (blk_cell BK153.out 3).trans rfl, (blk_cell BK154.out 0).trans rfl, (blk_cell BK154.out 1).trans rfl, (blk_cell BK154.out 2).trans rfl, (blk_cell BK154.out 3).trans rfl⟩ (fun hHeld => ?_); refine with_tabW parterrelaw19_OccupyOverlaps.tab5 parterrelaw19_OccupyOverlaps.bits5 (fun HT_ HW_ => ?_)
      generalize w102.drew = w103 at BK153 BK154 BK164 BK165 BK174 BK175 HB hHeld ⊢
      refine take_ (i := 0) (N := some 25) (v := ?_) (a' := ?_) pbCx5_1 rfl rfl (take_ofW HT_.out HW_.out pmCx5_17_) (fun _ _ _ h => h) (Or.inl ⟨by rfl, ?_⟩) hHeld ?_ ?_
      rotate_left
      · rintro w' ⟨s0, s1, s2, s3, s4, s5, s6, s7⟩
        go_simp
        with_reducible rfl
      rotate_left
      · simp only [Act.put, List.setIfInBounds_toArray, List.set_cons_zero, List.set_cons_succ, i64_w, i32_w]
        rfl
      refine take_ (i := 1) (N := some 26) (v := ?_) (a' := ?_) pbCx5_2 rfl rfl (take_ofW HT_.out HW_.out pmCx5_17_) (fun _ _ _ h => h) (Or.inl ⟨by rfl, ?_⟩) hHeld ?_ ?_
      rotate_left
      · rintro w' ⟨s0, s1, s2, s3, s4, s5, s6, s7⟩
        go_simp
        with_reducible rfl
      rotate_left
      · simp only [Act.put, List.setIfInBounds_toArray, List.set_cons_zero, List.set_cons_succ, i64_w, i32_w]
        rfl
      refine take_ (i := 3) (N := some 28) (v := ?_) (a' := ?_) pbCx5_3 rfl rfl (take_ofW HT_.out HW_.out pmCx5_17_) (fun _ _ _ h => h) (Or.inl ⟨by rfl, ?_⟩) hHeld ?_ ?_
      rotate_left
      · rintro w' ⟨s0, s1, s2, s3, s4, s5, s6, s7⟩
        go_simp
        with_reducible rfl
      rotate_left
      · simp only [Act.put, List.setIfInBounds_toArray, List.set_cons_zero, List.set_cons_succ, i64_w, i32_w]
        rfl
      refine take_ (i := 4) (N := some 29) (v := ?_) (a' := ?_) pbCx5_4 rfl rfl (take_ofW HT_.out HW_.out pmCx5_17_) (fun _ _ _ h => h) (Or.inl ⟨by rfl, ?_⟩) hHeld ?_ ?_
      rotate_left
      · rintro w' ⟨s0, s1, s2, s3, s4, s5, s6, s7⟩
        go_simp
        with_reducible rfl
      rotate_left
      · simp only [Act.put, List.setIfInBounds_toArray, List.set_cons_zero, List.set_cons_succ, i64_w, i32_w]
        rfl
      refine one_ (i := 2) (N := some 27) pbCx5_5 rfl rfl (one_of HT_.out pmCx5_17_) pmCx5_29_ (fun K hK => ?_)
      refine goes_ Try.func17 pmCx5_17_ rfl #[.agg #[.int .i64 a1_0, .int .i64 a1_1, .int .i64 a1_2, .int .i64 a1_3], .agg #[.int .i64 a2_0, .int .i64 a2_1, .int .i64 a2_2, .int .i64 a2_3]] (by rfl) rfl rfl pmCx5_12_ ?_
      with_reducible refine (occupy_Overlap.calls k a1_0 a1_1 a1_2 a1_3 a2_0 a2_1 a2_2 a2_3 t176 _ A38.out).mono ?_
      rintro e w104 ⟨rfl, hb⟩
      refine ⟨_, rfl, ?_⟩
      replace BK153 := Aside0.mk (blk_below (g := gb153) (o := poCx5_0 a1_0 a1_1 a1_2 a1_3) pmCx5_4_ hb)
      replace BK154 := Aside0.mk (blk_below (g := gb154) (o := poCx5_0 a2_0 a2_1 a2_2 a2_3) pmCx5_5_ hb)
      replace BK164 := Aside0.mk (blk_below (g := gb164) (o := poCx5_0 t156 t157 t158 t159) pmCx5_10_ hb)
      replace BK165 := Aside0.mk (blk_below (g := gb165) (o := poCx5_0 t160 t161 t162 t163) pmCx5_11_ hb)
      replace BK174 := Aside0.mk (blk_below (g := gb174) (o := poCx5_0 t166 t167 t168 t169) pmCx5_13_ hb)
      replace BK175 := Aside0.mk (blk_below (g := gb175) (o := poCx5_0 t170 t171 t172 t173) pmCx5_14_ hb)
      replace HB := Aside0.mk (below_step pmCx5_0_ hb)
      (try clear hb)
      (try clear hb2)
      (try clear hk)
      (try clear hi)
      refine hK.out _ _ pmCx5_15_ (fun hHeld => ?_)
      clear hK K
      refine norm_ (a' := ?_) ?_ ?_
      rotate_left
      · show Act.put _ (some 27) _ = _
        simp only [Act.put, List.setIfInBounds_toArray, List.set_cons_zero, List.set_cons_succ, i64_w, i32_w]
        rfl
      refine one_ (i := 5) (N := some 30) pbCx5_6 rfl rfl (one_of HT_.out pmCx5_17_) pmCx5_29_ (fun K hK => ?_)
      refine goes_ Try.func18 pmCx5_17_ rfl #[.agg #[.int .i64 a1_0, .int .i64 a1_1, .int .i64 a1_2, .int .i64 a1_3], .agg #[.int .i64 a2_0, .int .i64 a2_1, .int .i64 a2_2, .int .i64 a2_3]] (by rfl) rfl rfl pmCx5_12_ ?_
      with_reducible refine (parterreref19_Overlap.calls a1_0 a1_1 a1_2 a1_3 a2_0 a2_1 a2_2 a2_3 t177 _ A39.out).mono ?_
      rintro e w105 ⟨rfl, hb⟩
      refine ⟨_, rfl, ?_⟩
      replace BK153 := Aside0.mk (blk_below (g := gb153) (o := poCx5_0 a1_0 a1_1 a1_2 a1_3) pmCx5_4_ hb)
      replace BK154 := Aside0.mk (blk_below (g := gb154) (o := poCx5_0 a2_0 a2_1 a2_2 a2_3) pmCx5_5_ hb)
      replace BK164 := Aside0.mk (blk_below (g := gb164) (o := poCx5_0 t156 t157 t158 t159) pmCx5_10_ hb)
      replace BK165 := Aside0.mk (blk_below (g := gb165) (o := poCx5_0 t160 t161 t162 t163) pmCx5_11_ hb)
      replace BK174 := Aside0.mk (blk_below (g := gb174) (o := poCx5_0 t166 t167 t168 t169) pmCx5_13_ hb)
      replace BK175 := Aside0.mk (blk_below (g := gb175) (o := poCx5_0 t170 t171 t172 t173) pmCx5_14_ hb)
      replace HB := Aside0.mk (below_step pmCx5_0_ hb)
      (try clear hb)
      (try clear hb2)
      (try clear hk)
      (try clear hi)
      refine hK.out _ _ pmCx5_15_ (fun hHeld => ?_)
      clear hK K
      refine norm_ (a' := ?_) ?_ ?_
      rotate_left
      · show Act.put _ (some 30) _ = _
        simp only [Act.put, List.setIfInBounds_toArray, List.set_cons_zero, List.set_cons_succ, i64_w, i32_w]
        rfl
      refine pure_ (i := 6) (N := some 31) (v := ?_) (a' := ?_) pbCx5_7 rfl rfl (any_of HT_.out pmCx5_17_) (fun _ _ _ h => h) (Or.inl ⟨by rfl, ?_⟩) ?_ ?_
      rotate_left
      · intro w'
        go_simp
        with_reducible rfl
      rotate_left
      · simp only [Act.put, List.setIfInBounds_toArray, List.set_cons_zero, List.set_cons_succ, i64_w, i32_w]
        rfl
      refine pure_ (i := 7) (N := some 32) (v := ?_) (a' := ?_) pbCx5_8 rfl rfl (any_of HT_.out pmCx5_17_) (fun _ _ _ h => h) (Or.inl ⟨by rfl, ?_⟩) ?_ ?_
      rotate_left
      · intro w'
        go_simp
        with_reducible rfl
      rotate_left
      · simp only [Act.put, List.setIfInBounds_toArray, List.set_cons_zero, List.set_cons_succ, i64_w, i32_w]
        rfl
      refine take_ (i := 8) (N := some 33) (v := ?_) (a' := ?_) pbCx5_9 rfl rfl (take_ofW HT_.out HW_.out pmCx5_17_) (fun _ _ _ h => h) (Or.inl ⟨by rfl, ?_⟩) hHeld ?_ ?_
      rotate_left
      · rintro w' ⟨s0, s1, s2, s3, s4, s5, s6, s7⟩
        go_simp
        with_reducible rfl
      rotate_left
      · simp only [Act.put, List.setIfInBounds_toArray, List.set_cons_zero, List.set_cons_succ, i64_w, i32_w]
        rfl
      refine take_ (i := 9) (N := some 34) (v := ?_) (a' := ?_) pbCx5_10 rfl rfl (take_ofW HT_.out HW_.out pmCx5_17_) (fun _ _ _ h => h) (Or.inl ⟨by rfl, ?_⟩) hHeld ?_ ?_
      rotate_left
      · rintro w' ⟨s0, s1, s2, s3, s4, s5, s6, s7⟩
        go_simp
        with_reducible rfl
      rotate_left
      · simp only [Act.put, List.setIfInBounds_toArray, List.set_cons_zero, List.set_cons_succ, i64_w, i32_w]
        rfl
      refine take_ (i := 11) (N := some 36) (v := ?_) (a' := ?_) pbCx5_11 rfl rfl (take_ofW HT_.out HW_.out pmCx5_17_) (fun _ _ _ h => h) (Or.inl ⟨by rfl, ?_⟩) hHeld ?_ ?_
      rotate_left
      · rintro w' ⟨s0, s1, s2, s3, s4, s5, s6, s7⟩
        go_simp
        with_reducible rfl
      rotate_left
      · simp only [Act.put, List.setIfInBounds_toArray, List.set_cons_zero, List.set_cons_succ, i64_w, i32_w]
        rfl
      refine take_ (i := 12) (N := some 37) (v := ?_) (a' := ?_) pbCx5_12 rfl rfl (take_ofW HT_.out HW_.out pmCx5_17_) (fun _ _ _ h => h) (Or.inl ⟨by rfl, ?_⟩) hHeld ?_ ?_
      rotate_left
      · rintro w' ⟨s0, s1, s2, s3, s4, s5, s6, s7⟩
        go_simp
        with_reducible rfl
      rotate_left
      · simp only [Act.put, List.setIfInBounds_toArray, List.set_cons_zero, List.set_cons_succ, i64_w, i32_w]
        rfl
      refine one_ (i := 10) (N := some 35) pbCx5_13 rfl rfl (one_of HT_.out pmCx5_17_) pmCx5_29_ (fun K hK => ?_)
      refine goes_ Try.func17 pmCx5_17_ rfl #[.agg #[.int .i64 a2_0, .int .i64 a2_1, .int .i64 a2_2, .int .i64 a2_3], .agg #[.int .i64 a1_0, .int .i64 a1_1, .int .i64 a1_2, .int .i64 a1_3]] (by rfl) rfl rfl pmCx5_12_ ?_
      with_reducible refine (occupy_Overlap.calls k a2_0 a2_1 a2_2 a2_3 a1_0 a1_1 a1_2 a1_3 t178 _ A41.out).mono ?_
      rintro e w106 ⟨rfl, hb⟩
      refine ⟨_, rfl, ?_⟩
      replace BK153 := Aside0.mk (blk_below (g := gb153) (o := poCx5_0 a1_0 a1_1 a1_2 a1_3) pmCx5_4_ hb)
      replace BK154 := Aside0.mk (blk_below (g := gb154) (o := poCx5_0 a2_0 a2_1 a2_2 a2_3) pmCx5_5_ hb)
      replace BK164 := Aside0.mk (blk_below (g := gb164) (o := poCx5_0 t156 t157 t158 t159) pmCx5_10_ hb)
      replace BK165 := Aside0.mk (blk_below (g := gb165) (o := poCx5_0 t160 t161 t162 t163) pmCx5_11_ hb)
      replace BK174 := Aside0.mk (blk_below (g := gb174) (o := poCx5_0 t166 t167 t168 t169) pmCx5_13_ hb)
      replace BK175 := Aside0.mk (blk_below (g := gb175) (o := poCx5_0 t170 t171 t172 t173) pmCx5_14_ hb)
      replace HB := Aside0.mk (below_step pmCx5_0_ hb)
      (try clear hb)
      (try clear hb2)
      (try clear hk)
      (try clear hi)
      refine hK.out _ _ pmCx5_15_ (fun hHeld => ?_)
      clear hK K
      refine norm_ (a' := ?_) ?_ ?_
      rotate_left
      · show Act.put _ (some 35) _ = _
        simp only [Act.put, List.setIfInBounds_toArray, List.set_cons_zero, List.set_cons_succ, i64_w, i32_w]
        rfl
      refine one_ (i := 13) (N := some 38) pbCx5_14 rfl rfl (one_of HT_.out pmCx5_17_) pmCx5_29_ (fun K hK => ?_)
      refine goes_ Try.func18 pmCx5_17_ rfl #[.agg #[.int .i64 a1_0, .int .i64 a1_1, .int .i64 a1_2, .int .i64 a1_3], .agg #[.int .i64 a2_0, .int .i64 a2_1, .int .i64 a2_2, .int .i64 a2_3]] (by rfl) rfl rfl pmCx5_12_ ?_
      with_reducible refine (parterreref19_Overlap.calls a1_0 a1_1 a1_2 a1_3 a2_0 a2_1 a2_2 a2_3 t179 _ A42.out).mono ?_
      rintro e w107 ⟨rfl, hb⟩
      refine ⟨_, rfl, ?_⟩
      replace BK153 := Aside0.mk (blk_below (g := gb153) (o := poCx5_0 a1_0 a1_1 a1_2 a1_3) pmCx5_4_ hb)
      replace BK154 := Aside0.mk (blk_below (g := gb154) (o := poCx5_0 a2_0 a2_1 a2_2 a2_3) pmCx5_5_ hb)
      replace BK164 := Aside0.mk (blk_below (g := gb164) (o := poCx5_0 t156 t157 t158 t159) pmCx5_10_ hb)
      replace BK165 := Aside0.mk (blk_below (g := gb165) (o := poCx5_0 t160 t161 t162 t163) pmCx5_11_ hb)
      replace BK174 := Aside0.mk (blk_below (g := gb174) (o := poCx5_0 t166 t167 t168 t169) pmCx5_13_ hb)
      replace BK175 := Aside0.mk (blk_below (g := gb175) (o := poCx5_0 t170 t171 t172 t173) pmCx5_14_ hb)
      replace HB := Aside0.mk (below_step pmCx5_0_ hb)
      (try clear hb)
      (try clear hb2)
      (try clear hk)
      (try clear hi)
      refine hK.out _ _ pmCx5_15_ (fun hHeld => ?_)
      clear hK K
      refine norm_ (a' := ?_) ?_ ?_
      rotate_left
      · show Act.put _ (some 38) _ = _
        simp only [Act.put, List.setIfInBounds_toArray, List.set_cons_zero, List.set_cons_succ, i64_w, i32_w]
        rfl
      refine pure_ (i := 14) (N := some 39) (v := ?_) (a' := ?_) pbCx5_15 rfl rfl (any_of HT_.out pmCx5_17_) (fun _ _ _ h => h) (Or.inl ⟨by rfl, ?_⟩) ?_ ?_
      rotate_left
      · intro w'
        go_simp
        with_reducible rfl
      rotate_left
      · simp only [Act.put, List.setIfInBounds_toArray, List.set_cons_zero, List.set_cons_succ, i64_w, i32_w]
        rfl
      refine pure_ (i := 15) (N := some 40) (v := ?_) (a' := ?_) pbCx5_16 rfl rfl (any_of HT_.out pmCx5_17_) (fun _ _ _ h => h) (Or.inl ⟨by rfl, ?_⟩) ?_ ?_
      rotate_left
      · intro w'
        go_simp
        with_reducible rfl
      rotate_left
      · simp only [Act.put, List.setIfInBounds_toArray, List.set_cons_zero, List.set_cons_succ, i64_w, i32_w]
        rfl
      refine pure_ (i := 16) (N := some 41) (v := ?_) (a' := ?_) pbCx5_17 rfl rfl (any_of HT_.out pmCx5_17_) (fun _ _ _ h => h) (Or.inl ⟨by rfl, ?_⟩) ?_ ?_
      rotate_left
      · intro w'
        go_simp
        with_reducible rfl
      rotate_left
      · simp only [Act.put, List.setIfInBounds_toArray, List.set_cons_zero, List.set_cons_succ, i64_w, i32_w]
        rfl
      refine pure_ (i := 17) (N := some 42) (v := undef) (a' := ?_) pbCx5_18 rfl rfl (any_of HT_.out pmCx5_17_) (fun _ _ _ h => h) (Or.inr ⟨by rfl, rfl⟩) ?_ ?_
      rotate_left
      · simp only [Act.put, List.setIfInBounds_toArray, List.set_cons_zero, List.set_cons_succ, i64_w, i32_w]
        rfl
      refine pure_ (i := 18) (N := some 43) (v := undef) (a' := ?_) #[true, true, true, true, true, true, true, true, true, true, true, true, true, true, true, true, true, true, true, false, false, false, false, false, false, false, false, false, false, false, false, false, false, false, false, false, false, false, false, false, false, false, false, false, false, false] rfl rfl (any_of HT_.out pmCx5_17_) (fun _ _ _ h => h) (Or.inr ⟨by rfl, rfl⟩) ?_ ?_
      rotate_left
      · simp only [Act.put, List.setIfInBounds_toArray, List.set_cons_zero, List.set_cons_succ, i64_w, i32_w]
        rfl
      refine pure_ (i := 19) (N := some 44) (v := undef) (a' := ?_) #[true, true, true, true, true, true, true, true, true, true, true, true, true, true, true, true, true, true, true, true, false, false, false, false, false, false, false, false, false, false, false, false, false, false, false, false, false, false, false, false, false, false, false, false, false, false] rfl rfl (any_of HT_.out pmCx5_17_) (fun _ _ _ h => h) (Or.inr ⟨by rfl, rfl⟩) ?_ ?_
      rotate_left
      · simp only [Act.put, List.setIfInBounds_toArray, List.set_cons_zero, List.set_cons_succ, i64_w, i32_w]
        rfl
      refine pure_ (i := 20) (N := some 45) (v := undef) (a' := ?_) #[true, true, true, true, true, true, true, true, true, true, true, true, true, true, true, true, true, true, true, true, true, false, false, false, false, false, false, false, false, false, false, false, false, false, false, false, false, false, false, false, false, false, false, false, false, false] rfl rfl (any_of HT_.out pmCx5_17_) (fun _ _ _ h => h) (Or.inr ⟨by rfl, rfl⟩) ?_ ?_
      rotate_left
      · simp only [Act.put, List.setIfInBounds_toArray, List.set_cons_zero, List.set_cons_succ, i64_w, i32_w]
        rfl
      refine pure_ (i := 21) (N := some 46) (v := undef) (a' := ?_) pbCx5_22 rfl rfl (any_of HT_.out pmCx5_17_) (fun _ _ _ h => h) (Or.inr ⟨by rfl, rfl⟩) ?_ ?_
      rotate_left
      · simp only [Act.put, List.setIfInBounds_toArray, List.set_cons_zero, List.set_cons_succ, i64_w, i32_w]
        rfl
      refine pure_ (i := 22) (N := some 47) (v := undef) (a' := ?_) pbCx5_23 rfl rfl (any_of HT_.out pmCx5_17_) (fun _ _ _ h => h) (Or.inr ⟨by rfl, rfl⟩) ?_ ?_
      rotate_left
      · simp only [Act.put, List.setIfInBounds_toArray, List.set_cons_zero, List.set_cons_succ, i64_w, i32_w]
        rfl
      refine pure_ (i := 23) (N := some 48) (v := undef) (a' := ?_) pbCx5_24 rfl rfl (any_of HT_.out pmCx5_17_) (fun _ _ _ h => h) (Or.inr ⟨by rfl, rfl⟩) ?_ ?_
      rotate_left
      · simp only [Act.put, List.setIfInBounds_toArray, List.set_cons_zero, List.set_cons_succ, i64_w, i32_w]
        rfl
      refine pure_ (i := 24) (N := some 49) (v := ?_) (a' := ?_) pbCx5_25 rfl rfl (any_of HT_.out pmCx5_17_) (fun _ _ _ h => h) (Or.inl ⟨by rfl, ?_⟩) ?_ ?_
      rotate_left
      · intro w'
        go_simp
        with_reducible rfl
      rotate_left
      · simp only [Act.put, List.setIfInBounds_toArray, List.set_cons_zero, List.set_cons_succ, i64_w, i32_w]
        rfl
      refine pure_ (i := 25) (N := some 50) (v := ?_) (a' := ?_) pbCx5_26 rfl rfl (any_of HT_.out pmCx5_17_) (fun _ _ _ h => h) (Or.inl ⟨by rfl, ?_⟩) ?_ ?_
      rotate_left
      · intro w'
        go_simp
        with_reducible rfl
      rotate_left
      · simp only [Act.put, List.setIfInBounds_toArray, List.set_cons_zero, List.set_cons_succ, i64_w, i32_w]
        rfl
      refine pure_ (i := 26) (N := some 51) (v := undef) (a' := ?_) pbCx5_27 rfl rfl (any_of HT_.out pmCx5_17_) (fun _ _ _ h => h) (Or.inr ⟨by rfl, rfl⟩) ?_ ?_
      rotate_left
      · simp only [Act.put, List.setIfInBounds_toArray, List.set_cons_zero, List.set_cons_succ, i64_w, i32_w]
        rfl
      refine pure_ (i := 27) (N := some 52) (v := undef) (a' := ?_) pbCx5_47 rfl rfl (any_of HT_.out pmCx5_17_) (fun _ _ _ h => h) (Or.inr ⟨by rfl, rfl⟩) ?_ ?_
      rotate_left
      · simp only [Act.put, List.setIfInBounds_toArray, List.set_cons_zero, List.set_cons_succ, i64_w, i32_w]
        rfl
      refine pure_ (i := 28) (N := some 53) (v := undef) (a' := ?_) pbCx5_29 rfl rfl (any_of HT_.out pmCx5_17_) (fun _ _ _ h => h) (Or.inr ⟨by rfl, rfl⟩) ?_ ?_
      rotate_left
      · simp only [Act.put, List.setIfInBounds_toArray, List.set_cons_zero, List.set_cons_succ, i64_w, i32_w]
        rfl
      refine pure_ (i := 29) (N := some 54) (v := undef) (a' := ?_) pbCx5_30 rfl rfl (any_of HT_.out pmCx5_17_) (fun _ _ _ h => h) (Or.inr ⟨by rfl, rfl⟩) ?_ ?_
      rotate_left
      · simp only [Act.put, List.setIfInBounds_toArray, List.set_cons_zero, List.set_cons_succ, i64_w, i32_w]
        rfl
      refine pure_ (i := 30) (N := some 55) (v := undef) (a' := ?_) pbCx5_31 rfl rfl (any_of HT_.out pmCx5_17_) (fun _ _ _ h => h) (Or.inr ⟨by rfl, rfl⟩) ?_ ?_
      rotate_left
      · simp only [Act.put, List.setIfInBounds_toArray, List.set_cons_zero, List.set_cons_succ, i64_w, i32_w]
        rfl
      refine pure_ (i := 31) (N := some 56) (v := ?_) (a' := ?_) pbCx5_32 rfl rfl (any_of HT_.out pmCx5_17_) (fun _ _ _ h => h) (Or.inl ⟨by rfl, ?_⟩) ?_ ?_
      rotate_left
      · intro w'
        go_simp
        with_reducible rfl
      rotate_left
      · simp only [Act.put, List.setIfInBounds_toArray, List.set_cons_zero, List.set_cons_succ, i64_w, i32_w]
        rfl
      refine pure_ (i := 32) (N := some 57) (v := ?_) (a' := ?_) pbCx5_33 rfl rfl (any_of HT_.out pmCx5_17_) (fun _ _ _ h => h) (Or.inl ⟨by rfl, ?_⟩) ?_ ?_
      rotate_left
      · intro w'
        go_simp
        with_reducible rfl
      rotate_left
      · simp only [Act.put, List.setIfInBounds_toArray, List.set_cons_zero, List.set_cons_succ, i64_w, i32_w]
        rfl
      refine pure_ (i := 33) (N := some 58) (v := undef) (a' := ?_) pbCx5_34 rfl rfl (any_of HT_.out pmCx5_17_) (fun _ _ _ h => h) (Or.inr ⟨by rfl, rfl⟩) ?_ ?_
      rotate_left
      · simp only [Act.put, List.setIfInBounds_toArray, List.set_cons_zero, List.set_cons_succ, i64_w, i32_w]
        rfl
      refine pure_ (i := 34) (N := some 59) (v := undef) (a' := ?_) pbCx5_35 rfl rfl (any_of HT_.out pmCx5_17_) (fun _ _ _ h => h) (Or.inr ⟨by rfl, rfl⟩) ?_ ?_
      rotate_left
      · simp only [Act.put, List.setIfInBounds_toArray, List.set_cons_zero, List.set_cons_succ, i64_w, i32_w]
        rfl
      refine pure_ (i := 35) (N := some 60) (v := undef) (a' := ?_) pbCx5_36 rfl rfl (any_of HT_.out pmCx5_17_) (fun _ _ _ h => h) (Or.inr ⟨by rfl, rfl⟩) ?_ ?_
      rotate_left
      · simp only [Act.put, List.setIfInBounds_toArray, List.set_cons_zero, List.set_cons_succ, i64_w, i32_w]
        rfl
      refine pure_ (i := 36) (N := some 61) (v := ?_) (a' := ?_) pbCx5_37 rfl rfl (any_of HT_.out pmCx5_17_) (fun _ _ _ h => h) (Or.inl ⟨by rfl, ?_⟩) ?_ ?_
      rotate_left
      · intro w'
        go_simp
        with_reducible rfl
      rotate_left
      · simp only [Act.put, List.setIfInBounds_toArray, List.set_cons_zero, List.set_cons_succ, i64_w, i32_w]
        rfl
      refine pure_ (i := 37) (N := some 62) (v := ?_) (a' := ?_) pbCx5_38 rfl rfl (any_of HT_.out pmCx5_17_) (fun _ _ _ h => h) (Or.inl ⟨by rfl, ?_⟩) ?_ ?_
      rotate_left
      · intro w'
        go_simp
        with_reducible rfl
      rotate_left
      · simp only [Act.put, List.setIfInBounds_toArray, List.set_cons_zero, List.set_cons_succ, i64_w, i32_w]
        rfl
      refine pure_ (i := 38) (N := some 63) (v := undef) (a' := ?_) pbCx5_39 rfl rfl (any_of HT_.out pmCx5_17_) (fun _ _ _ h => h) (Or.inr ⟨by rfl, rfl⟩) ?_ ?_
      rotate_left
      · simp only [Act.put, List.setIfInBounds_toArray, List.set_cons_zero, List.set_cons_succ, i64_w, i32_w]
        rfl
      refine pure_ (i := 39) (N := some 64) (v := undef) (a' := ?_) pbCx5_40 rfl rfl (any_of HT_.out pmCx5_17_) (fun _ _ _ h => h) (Or.inr ⟨by rfl, rfl⟩) ?_ ?_
      rotate_left
      · simp only [Act.put, List.setIfInBounds_toArray, List.set_cons_zero, List.set_cons_succ, i64_w, i32_w]
        rfl
      refine pure_ (i := 40) (N := some 65) (v := undef) (a' := ?_) pbCx5_41 rfl rfl (any_of HT_.out pmCx5_17_) (fun _ _ _ h => h) (Or.inr ⟨by rfl, rfl⟩) ?_ ?_
      rotate_left
      · simp only [Act.put, List.setIfInBounds_toArray, List.set_cons_zero, List.set_cons_succ, i64_w, i32_w]
        rfl
      refine pure_ (i := 41) (N := some 66) (v := ?_) (a' := ?_) pbCx5_42 rfl rfl (any_of HT_.out pmCx5_17_) (fun _ _ _ h => h) (Or.inl ⟨by rfl, ?_⟩) ?_ ?_
      rotate_left
      · intro w'
        go_simp
        with_reducible rfl
      rotate_left
      · simp only [Act.put, List.setIfInBounds_toArray, List.set_cons_zero, List.set_cons_succ, i64_w, i32_w]
        rfl
      refine pure_ (i := 42) (N := some 67) (v := ?_) (a' := ?_) pbCx5_43 rfl rfl (any_of HT_.out pmCx5_17_) (fun _ _ _ h => h) (Or.inl ⟨by rfl, ?_⟩) ?_ ?_
      rotate_left
      · intro w'
        go_simp
        with_reducible rfl
      rotate_left
      · simp only [Act.put, List.setIfInBounds_toArray, List.set_cons_zero, List.set_cons_succ, i64_w, i32_w]
        rfl
      refine pure_ (i := 43) (N := some 68) (v := undef) (a' := ?_) pbCx5_44 rfl rfl (any_of HT_.out pmCx5_17_) (fun _ _ _ h => h) (Or.inr ⟨by rfl, rfl⟩) ?_ ?_
      rotate_left
      · simp only [Act.put, List.setIfInBounds_toArray, List.set_cons_zero, List.set_cons_succ, i64_w, i32_w]
        rfl
      refine pure_ (i := 44) (N := some 69) (v := ?_) (a' := ?_) pbCx5_45 rfl rfl (any_of HT_.out pmCx5_17_) (fun _ _ _ h => h) (Or.inl ⟨by rfl, ?_⟩) ?_ ?_
      rotate_left
      · intro w'
        go_simp
        with_reducible rfl
      rotate_left
      · simp only [Act.put, List.setIfInBounds_toArray, List.set_cons_zero, List.set_cons_succ, i64_w, i32_w]
        rfl
      refine pure_ (i := 45) (N := some 6) (v := ?_) (a' := ?_) pbCx5_46 rfl rfl (any_of HT_.out pmCx5_17_) (fun _ _ _ h => h) (Or.inl ⟨by rfl, ?_⟩) ?_ ?_
      rotate_left
      · intro w'
        go_simp
        with_reducible rfl
      rotate_left
      · simp only [Act.put, List.setIfInBounds_toArray, List.set_cons_zero, List.set_cons_succ, i64_w, i32_w]
        rfl
      refine done_ (done_of HT_.out pmCx5_17_) ?_
      try go_wp2
      go_meet
      case rel => exact ⟨_, (false), pmCx5_28_, H', ⟨pmCx5_30_⟩, ⟨pmCx5_4_⟩, ⟨pmCx5_5_⟩, ⟨pmCx5_10_⟩, ⟨pmCx5_11_⟩, ⟨pmCx5_13_⟩, ⟨pmCx5_14_⟩, ⟨pmCx5_0_⟩⟩
    rw [if_pos c43] at H
    have c43b0 : (t178 == t179) = true := c43
    (try (have c43b1 : decide (t178 = t179) = true := by simpa using c43))
    (try (have c43b2 : (t178 == t179) = true := by simpa using c43))
    clear c43
    replace H := Option.bind_eq_some_iff.mp H
    obtain ⟨t180, A440, H⟩ := H
    replace H : ((parterreref19_Free.f k l0 a1_0 a1_1 a1_2 a1_3).bind fun t181 => (if (t180 == t181) = true then ((occupy_Turn.f a1_0 a1_1 a1_2 a1_3).bind fun bt182 => ((parterreref19_Turn.f a1_0 a1_1 a1_2 a1_3).bind fun bt186 => (if (bt182.1 == bt186.1 && (bt182.2.1 == bt186.2.1 && (bt182.2.2.1 == bt186.2.2.1 && (bt182.2.2.2 == bt186.2.2.2)))) = true then (if (t156 == t166 && (t157 == t167 && (t158 == t168 && (t159 == t169)))) = true then (if (t160 == t170 && (t161 == t171 && (t162 == t172 && (t163 == t173)))) = true then ((parterrelaw19_lives.f k).bind fun t190 => (parterrelaw19_OccupyOverlaps.j0 k t190)) else (parterrelaw19_OccupyOverlaps.j0 k false)) else (parterrelaw19_OccupyOverlaps.j0 k false)) else (parterrelaw19_OccupyOverlaps.j0 k false)))) else (parterrelaw19_OccupyOverlaps.j0 k false))) = some r := H
    have A44 := Aside0.mk A440
    clear A440
    replace H := Option.bind_eq_some_iff.mp H
    obtain ⟨t181, A450, H⟩ := H
    replace H : (if (t180 == t181) = true then ((occupy_Turn.f a1_0 a1_1 a1_2 a1_3).bind fun bt182 => ((parterreref19_Turn.f a1_0 a1_1 a1_2 a1_3).bind fun bt186 => (if (bt182.1 == bt186.1 && (bt182.2.1 == bt186.2.1 && (bt182.2.2.1 == bt186.2.2.1 && (bt182.2.2.2 == bt186.2.2.2)))) = true then (if (t156 == t166 && (t157 == t167 && (t158 == t168 && (t159 == t169)))) = true then (if (t160 == t170 && (t161 == t171 && (t162 == t172 && (t163 == t173)))) = true then ((parterrelaw19_lives.f k).bind fun t190 => (parterrelaw19_OccupyOverlaps.j0 k t190)) else (parterrelaw19_OccupyOverlaps.j0 k false)) else (parterrelaw19_OccupyOverlaps.j0 k false)) else (parterrelaw19_OccupyOverlaps.j0 k false)))) else (parterrelaw19_OccupyOverlaps.j0 k false)) = some r := H
    have A45 := Aside0.mk A450
    clear A450
    by_cases c46 : (t180 == t181) = true
    rotate_left
    · rw [if_neg c46] at H
      have c46b0 : (t180 == t181) = false := by simpa using c46
      (try (have c46b1 : decide (t180 = t181) = false := by simpa using c46))
      (try (have c46b2 : (t180 == t181) = false := by simpa using c46))
      (try (have c46b3 : ¬ (t180 = t181) := by simpa using c46))
      clear c46
      have H' := Aside0.mk H
      clear H
      try go_wp2
      have n0_ : Aside0 ((pwCx5_0 w26 gb174 gb175 t166 t167 t168 t169 t170 t171 t172 t173).heap[gb153]? = some (.cells #[.int .i64 a1_0, .int .i64 a1_1, .int .i64 a1_2, .int .i64 a1_3] 24 (0, 0))) := ⟨pmCx5_6_⟩
      have n1_ : Aside0 ((pwCx5_0 w26 gb174 gb175 t166 t167 t168 t169 t170 t171 t172 t173).heap[gb154]? = some (.cells #[.int .i64 a2_0, .int .i64 a2_1, .int .i64 a2_2, .int .i64 a2_3] 24 (0, 0))) := ⟨pmCx5_7_⟩
      have n2_ : Aside0 ((pwCx5_0 w26 gb174 gb175 t166 t167 t168 t169 t170 t171 t172 t173).heap[gb164]? = some (.cells #[.int .i64 t156, .int .i64 t157, .int .i64 t158, .int .i64 t159] 24 (0, 0))) := ⟨pmCx5_8_⟩
      have n3_ : Aside0 ((pwCx5_0 w26 gb174 gb175 t166 t167 t168 t169 t170 t171 t172 t173).heap[gb165]? = some (.cells #[.int .i64 t160, .int .i64 t161, .int .i64 t162, .int .i64 t163] 24 (0, 0))) := ⟨pmCx5_9_⟩
      have n4_ : Aside0 ((pwCx5_0 w26 gb174 gb175 t166 t167 t168 t169 t170 t171 t172 t173).heap[gb174]? = some (.cells #[.int .i64 t166, .int .i64 t167, .int .i64 t168, .int .i64 t169] 24 (0, 0))) := ⟨pmCx5_2_⟩
      have n5_ : Aside0 ((pwCx5_0 w26 gb174 gb175 t166 t167 t168 t169 t170 t171 t172 t173).heap[gb175]? = some (.cells #[.int .i64 t170, .int .i64 t171, .int .i64 t172, .int .i64 t173] 24 (0, 0))) := ⟨pmCx5_3_⟩
      have n6_ : Aside0 (Below w.heap.size w (pwCx5_0 w26 gb174 gb175 t166 t167 t168 t169 t170 t171 t172 t173)) := ⟨pmCx5_0_⟩
      (try clear BK153)
      (try clear BK154)
      (try clear BK164)
      (try clear BK165)
      (try clear BK174)
      (try clear BK175)
      (try clear HB)
      unfold pwCx5_0 at n0_ n1_ n2_ n3_ n4_ n5_ n6_
      generalize ((((((((w26.setCell ⟨gb174, 0, none⟩ (.int .i64 t166)).setCell ⟨gb174, 1, none⟩ (.int .i64 t167)).setCell ⟨gb174, 2, none⟩ (.int .i64 t168)).setCell ⟨gb174, 3, none⟩ (.int .i64 t169)).setCell ⟨gb175, 0, none⟩ (.int .i64 t170)).setCell ⟨gb175, 1, none⟩ (.int .i64 t171)).setCell ⟨gb175, 2, none⟩ (.int .i64 t172)).setCell ⟨gb175, 3, none⟩ (.int .i64 t173)) = w94 at n0_ n1_ n2_ n3_ n4_ n5_ n6_ ⊢
      have BK153 := n0_
      have BK154 := n1_
      have BK164 := n2_
      have BK165 := n3_
      have BK174 := n4_
      have BK175 := n5_
      have HB := n6_
      clear n0_ n1_ n2_ n3_ n4_ n5_ n6_
      replace BK153 := Aside0.mk (blk_drew BK153.out)
      replace BK154 := Aside0.mk (blk_drew BK154.out)
      replace BK164 := Aside0.mk (blk_drew BK164.out)
      replace BK165 := Aside0.mk (blk_drew BK165.out)
      replace BK174 := Aside0.mk (blk_drew BK174.out)
      replace BK175 := Aside0.mk (blk_drew BK175.out)
      replace HB := Aside0.mk (below_drew1 HB.out)
      refine start_ (n := 46) (S := fun w' => w'.cell? ⟨gb153, 0, none⟩ = some (.int .i64 a1_0) ∧ w'.cell? ⟨gb153, 1, none⟩ = some (.int .i64 a1_1) ∧ w'.cell? ⟨gb153, 2, none⟩ = some (.int .i64 a1_2) ∧ w'.cell? ⟨gb153, 3, none⟩ = some (.int .i64 a1_3) ∧ w'.cell? ⟨gb154, 0, none⟩ = some (.int .i64 a2_0) ∧ w'.cell? ⟨gb154, 1, none⟩ = some (.int .i64 a2_1) ∧ w'.cell? ⟨gb154, 2, none⟩ = some (.int .i64 a2_2) ∧ w'.cell? ⟨gb154, 3, none⟩ = some (.int .i64 a2_3)) (ds := []) pbCx5_0 pmCx5_17_ rfl rfl ⟨(blk_cell BK153.out 0).trans rfl, (blk_cell BK153.out 1).trans rfl, (blk_cell BK153.out 2).trans rfl, (blk_cell BK153.out 3).trans rfl, (blk_cell BK154.out 0).trans rfl, (blk_cell BK154.out 1).trans rfl, (blk_cell BK154.out 2).trans rfl, (blk_cell BK154.out 3).trans rfl⟩ (fun hHeld => ?_); refine with_tabW parterrelaw19_OccupyOverlaps.tab5 parterrelaw19_OccupyOverlaps.bits5 (fun HT_ HW_ => ?_)
      generalize w94.drew = w95 at BK153 BK154 BK164 BK165 BK174 BK175 HB hHeld ⊢
      refine take_ (i := 0) (N := some 25) (v := ?_) (a' := ?_) pbCx5_1 rfl rfl (take_ofW HT_.out HW_.out pmCx5_17_) (fun _ _ _ h => h) (Or.inl ⟨by rfl, ?_⟩) hHeld ?_ ?_
      rotate_left
      · rintro w' ⟨s0, s1, s2, s3, s4, s5, s6, s7⟩
        go_simp
        with_reducible rfl
      rotate_left
      · simp only [Act.put, List.setIfInBounds_toArray, List.set_cons_zero, List.set_cons_succ, i64_w, i32_w]
        rfl
      refine take_ (i := 1) (N := some 26) (v := ?_) (a' := ?_) pbCx5_2 rfl rfl (take_ofW HT_.out HW_.out pmCx5_17_) (fun _ _ _ h => h) (Or.inl ⟨by rfl, ?_⟩) hHeld ?_ ?_
      rotate_left
      · rintro w' ⟨s0, s1, s2, s3, s4, s5, s6, s7⟩
        go_simp
        with_reducible rfl
      rotate_left
      · simp only [Act.put, List.setIfInBounds_toArray, List.set_cons_zero, List.set_cons_succ, i64_w, i32_w]
        rfl
      refine take_ (i := 3) (N := some 28) (v := ?_) (a' := ?_) pbCx5_3 rfl rfl (take_ofW HT_.out HW_.out pmCx5_17_) (fun _ _ _ h => h) (Or.inl ⟨by rfl, ?_⟩) hHeld ?_ ?_
      rotate_left
      · rintro w' ⟨s0, s1, s2, s3, s4, s5, s6, s7⟩
        go_simp
        with_reducible rfl
      rotate_left
      · simp only [Act.put, List.setIfInBounds_toArray, List.set_cons_zero, List.set_cons_succ, i64_w, i32_w]
        rfl
      refine take_ (i := 4) (N := some 29) (v := ?_) (a' := ?_) pbCx5_4 rfl rfl (take_ofW HT_.out HW_.out pmCx5_17_) (fun _ _ _ h => h) (Or.inl ⟨by rfl, ?_⟩) hHeld ?_ ?_
      rotate_left
      · rintro w' ⟨s0, s1, s2, s3, s4, s5, s6, s7⟩
        go_simp
        with_reducible rfl
      rotate_left
      · simp only [Act.put, List.setIfInBounds_toArray, List.set_cons_zero, List.set_cons_succ, i64_w, i32_w]
        rfl
      refine one_ (i := 2) (N := some 27) pbCx5_5 rfl rfl (one_of HT_.out pmCx5_17_) pmCx5_29_ (fun K hK => ?_)
      refine goes_ Try.func17 pmCx5_17_ rfl #[.agg #[.int .i64 a1_0, .int .i64 a1_1, .int .i64 a1_2, .int .i64 a1_3], .agg #[.int .i64 a2_0, .int .i64 a2_1, .int .i64 a2_2, .int .i64 a2_3]] (by rfl) rfl rfl pmCx5_12_ ?_
      with_reducible refine (occupy_Overlap.calls k a1_0 a1_1 a1_2 a1_3 a2_0 a2_1 a2_2 a2_3 t176 _ A38.out).mono ?_
      rintro e w96 ⟨rfl, hb⟩
      refine ⟨_, rfl, ?_⟩
      replace BK153 := Aside0.mk (blk_below (g := gb153) (o := poCx5_0 a1_0 a1_1 a1_2 a1_3) pmCx5_4_ hb)
      replace BK154 := Aside0.mk (blk_below (g := gb154) (o := poCx5_0 a2_0 a2_1 a2_2 a2_3) pmCx5_5_ hb)
      replace BK164 := Aside0.mk (blk_below (g := gb164) (o := poCx5_0 t156 t157 t158 t159) pmCx5_10_ hb)
      replace BK165 := Aside0.mk (blk_below (g := gb165) (o := poCx5_0 t160 t161 t162 t163) pmCx5_11_ hb)
      replace BK174 := Aside0.mk (blk_below (g := gb174) (o := poCx5_0 t166 t167 t168 t169) pmCx5_13_ hb)
      replace BK175 := Aside0.mk (blk_below (g := gb175) (o := poCx5_0 t170 t171 t172 t173) pmCx5_14_ hb)
      replace HB := Aside0.mk (below_step pmCx5_0_ hb)
      (try clear hb)
      (try clear hb2)
      (try clear hk)
      (try clear hi)
      refine hK.out _ _ pmCx5_15_ (fun hHeld => ?_)
      clear hK K
      refine norm_ (a' := ?_) ?_ ?_
      rotate_left
      · show Act.put _ (some 27) _ = _
        simp only [Act.put, List.setIfInBounds_toArray, List.set_cons_zero, List.set_cons_succ, i64_w, i32_w]
        rfl
      refine one_ (i := 5) (N := some 30) pbCx5_6 rfl rfl (one_of HT_.out pmCx5_17_) pmCx5_29_ (fun K hK => ?_)
      refine goes_ Try.func18 pmCx5_17_ rfl #[.agg #[.int .i64 a1_0, .int .i64 a1_1, .int .i64 a1_2, .int .i64 a1_3], .agg #[.int .i64 a2_0, .int .i64 a2_1, .int .i64 a2_2, .int .i64 a2_3]] (by rfl) rfl rfl pmCx5_12_ ?_
      with_reducible refine (parterreref19_Overlap.calls a1_0 a1_1 a1_2 a1_3 a2_0 a2_1 a2_2 a2_3 t177 _ A39.out).mono ?_
      rintro e w97 ⟨rfl, hb⟩
      refine ⟨_, rfl, ?_⟩
      replace BK153 := Aside0.mk (blk_below (g := gb153) (o := poCx5_0 a1_0 a1_1 a1_2 a1_3) pmCx5_4_ hb)
      replace BK154 := Aside0.mk (blk_below (g := gb154) (o := poCx5_0 a2_0 a2_1 a2_2 a2_3) pmCx5_5_ hb)
      replace BK164 := Aside0.mk (blk_below (g := gb164) (o := poCx5_0 t156 t157 t158 t159) pmCx5_10_ hb)
      replace BK165 := Aside0.mk (blk_below (g := gb165) (o := poCx5_0 t160 t161 t162 t163) pmCx5_11_ hb)
      replace BK174 := Aside0.mk (blk_below (g := gb174) (o := poCx5_0 t166 t167 t168 t169) pmCx5_13_ hb)
      replace BK175 := Aside0.mk (blk_below (g := gb175) (o := poCx5_0 t170 t171 t172 t173) pmCx5_14_ hb)
      replace HB := Aside0.mk (below_step pmCx5_0_ hb)
      (try clear hb)
      (try clear hb2)
      (try clear hk)
      (try clear hi)
      refine hK.out _ _ pmCx5_15_ (fun hHeld => ?_)
      clear hK K
      refine norm_ (a' := ?_) ?_ ?_
      rotate_left
      · show Act.put _ (some 30) _ = _
        simp only [Act.put, List.setIfInBounds_toArray, List.set_cons_zero, List.set_cons_succ, i64_w, i32_w]
        rfl
      refine pure_ (i := 6) (N := some 31) (v := ?_) (a' := ?_) pbCx5_7 rfl rfl (any_of HT_.out pmCx5_17_) (fun _ _ _ h => h) (Or.inl ⟨by rfl, ?_⟩) ?_ ?_
      rotate_left
      · intro w'
        go_simp
        with_reducible rfl
      rotate_left
      · simp only [Act.put, List.setIfInBounds_toArray, List.set_cons_zero, List.set_cons_succ, i64_w, i32_w]
        rfl
      refine pure_ (i := 7) (N := some 32) (v := ?_) (a' := ?_) pbCx5_8 rfl rfl (any_of HT_.out pmCx5_17_) (fun _ _ _ h => h) (Or.inl ⟨by rfl, ?_⟩) ?_ ?_
      rotate_left
      · intro w'
        go_simp
        with_reducible rfl
      rotate_left
      · simp only [Act.put, List.setIfInBounds_toArray, List.set_cons_zero, List.set_cons_succ, i64_w, i32_w]
        rfl
      refine take_ (i := 8) (N := some 33) (v := ?_) (a' := ?_) pbCx5_9 rfl rfl (take_ofW HT_.out HW_.out pmCx5_17_) (fun _ _ _ h => h) (Or.inl ⟨by rfl, ?_⟩) hHeld ?_ ?_
      rotate_left
      · rintro w' ⟨s0, s1, s2, s3, s4, s5, s6, s7⟩
        go_simp
        with_reducible rfl
      rotate_left
      · simp only [Act.put, List.setIfInBounds_toArray, List.set_cons_zero, List.set_cons_succ, i64_w, i32_w]
        rfl
      refine take_ (i := 9) (N := some 34) (v := ?_) (a' := ?_) pbCx5_10 rfl rfl (take_ofW HT_.out HW_.out pmCx5_17_) (fun _ _ _ h => h) (Or.inl ⟨by rfl, ?_⟩) hHeld ?_ ?_
      rotate_left
      · rintro w' ⟨s0, s1, s2, s3, s4, s5, s6, s7⟩
        go_simp
        with_reducible rfl
      rotate_left
      · simp only [Act.put, List.setIfInBounds_toArray, List.set_cons_zero, List.set_cons_succ, i64_w, i32_w]
        rfl
      refine take_ (i := 11) (N := some 36) (v := ?_) (a' := ?_) pbCx5_11 rfl rfl (take_ofW HT_.out HW_.out pmCx5_17_) (fun _ _ _ h => h) (Or.inl ⟨by rfl, ?_⟩) hHeld ?_ ?_
      rotate_left
      · rintro w' ⟨s0, s1, s2, s3, s4, s5, s6, s7⟩
        go_simp
        with_reducible rfl
      rotate_left
      · simp only [Act.put, List.setIfInBounds_toArray, List.set_cons_zero, List.set_cons_succ, i64_w, i32_w]
        rfl
      refine take_ (i := 12) (N := some 37) (v := ?_) (a' := ?_) pbCx5_12 rfl rfl (take_ofW HT_.out HW_.out pmCx5_17_) (fun _ _ _ h => h) (Or.inl ⟨by rfl, ?_⟩) hHeld ?_ ?_
      rotate_left
      · rintro w' ⟨s0, s1, s2, s3, s4, s5, s6, s7⟩
        go_simp
        with_reducible rfl
      rotate_left
      · simp only [Act.put, List.setIfInBounds_toArray, List.set_cons_zero, List.set_cons_succ, i64_w, i32_w]
        rfl
      refine one_ (i := 10) (N := some 35) pbCx5_13 rfl rfl (one_of HT_.out pmCx5_17_) pmCx5_29_ (fun K hK => ?_)
      refine goes_ Try.func17 pmCx5_17_ rfl #[.agg #[.int .i64 a2_0, .int .i64 a2_1, .int .i64 a2_2, .int .i64 a2_3], .agg #[.int .i64 a1_0, .int .i64 a1_1, .int .i64 a1_2, .int .i64 a1_3]] (by rfl) rfl rfl pmCx5_12_ ?_
      with_reducible refine (occupy_Overlap.calls k a2_0 a2_1 a2_2 a2_3 a1_0 a1_1 a1_2 a1_3 t178 _ A41.out).mono ?_
      rintro e w98 ⟨rfl, hb⟩
      refine ⟨_, rfl, ?_⟩
      replace BK153 := Aside0.mk (blk_below (g := gb153) (o := poCx5_0 a1_0 a1_1 a1_2 a1_3) pmCx5_4_ hb)
      replace BK154 := Aside0.mk (blk_below (g := gb154) (o := poCx5_0 a2_0 a2_1 a2_2 a2_3) pmCx5_5_ hb)
      replace BK164 := Aside0.mk (blk_below (g := gb164) (o := poCx5_0 t156 t157 t158 t159) pmCx5_10_ hb)
      replace BK165 := Aside0.mk (blk_below (g := gb165) (o := poCx5_0 t160 t161 t162 t163) pmCx5_11_ hb)
      replace BK174 := Aside0.mk (blk_below (g := gb174) (o := poCx5_0 t166 t167 t168 t169) pmCx5_13_ hb)
      replace BK175 := Aside0.mk (blk_below (g := gb175) (o := poCx5_0 t170 t171 t172 t173) pmCx5_14_ hb)
      replace HB := Aside0.mk (below_step pmCx5_0_ hb)
      (try clear hb)
      (try clear hb2)
      (try clear hk)
      (try clear hi)
      refine hK.out _ _ pmCx5_15_ (fun hHeld => ?_)
      clear hK K
      refine norm_ (a' := ?_) ?_ ?_
      rotate_left
      · show Act.put _ (some 35) _ = _
        simp only [Act.put, List.setIfInBounds_toArray, List.set_cons_zero, List.set_cons_succ, i64_w, i32_w]
        rfl
      refine one_ (i := 13) (N := some 38) pbCx5_14 rfl rfl (one_of HT_.out pmCx5_17_) pmCx5_29_ (fun K hK => ?_)
      refine goes_ Try.func18 pmCx5_17_ rfl #[.agg #[.int .i64 a1_0, .int .i64 a1_1, .int .i64 a1_2, .int .i64 a1_3], .agg #[.int .i64 a2_0, .int .i64 a2_1, .int .i64 a2_2, .int .i64 a2_3]] (by rfl) rfl rfl pmCx5_12_ ?_
      with_reducible refine (parterreref19_Overlap.calls a1_0 a1_1 a1_2 a1_3 a2_0 a2_1 a2_2 a2_3 t179 _ A42.out).mono ?_
      rintro e w99 ⟨rfl, hb⟩
      refine ⟨_, rfl, ?_⟩
      replace BK153 := Aside0.mk (blk_below (g := gb153) (o := poCx5_0 a1_0 a1_1 a1_2 a1_3) pmCx5_4_ hb)
      replace BK154 := Aside0.mk (blk_below (g := gb154) (o := poCx5_0 a2_0 a2_1 a2_2 a2_3) pmCx5_5_ hb)
      replace BK164 := Aside0.mk (blk_below (g := gb164) (o := poCx5_0 t156 t157 t158 t159) pmCx5_10_ hb)
      replace BK165 := Aside0.mk (blk_below (g := gb165) (o := poCx5_0 t160 t161 t162 t163) pmCx5_11_ hb)
      replace BK174 := Aside0.mk (blk_below (g := gb174) (o := poCx5_0 t166 t167 t168 t169) pmCx5_13_ hb)
      replace BK175 := Aside0.mk (blk_below (g := gb175) (o := poCx5_0 t170 t171 t172 t173) pmCx5_14_ hb)
      replace HB := Aside0.mk (below_step pmCx5_0_ hb)
      (try clear hb)
      (try clear hb2)
      (try clear hk)
      (try clear hi)
      refine hK.out _ _ pmCx5_15_ (fun hHeld => ?_)
      clear hK K
      refine norm_ (a' := ?_) ?_ ?_
      rotate_left
      · show Act.put _ (some 38) _ = _
        simp only [Act.put, List.setIfInBounds_toArray, List.set_cons_zero, List.set_cons_succ, i64_w, i32_w]
        rfl
      refine pure_ (i := 14) (N := some 39) (v := ?_) (a' := ?_) pbCx5_15 rfl rfl (any_of HT_.out pmCx5_17_) (fun _ _ _ h => h) (Or.inl ⟨by rfl, ?_⟩) ?_ ?_
      rotate_left
      · intro w'
        go_simp
        with_reducible rfl
      rotate_left
      · simp only [Act.put, List.setIfInBounds_toArray, List.set_cons_zero, List.set_cons_succ, i64_w, i32_w]
        rfl
      refine pure_ (i := 15) (N := some 40) (v := ?_) (a' := ?_) pbCx5_16 rfl rfl (any_of HT_.out pmCx5_17_) (fun _ _ _ h => h) (Or.inl ⟨by rfl, ?_⟩) ?_ ?_
      rotate_left
      · intro w'
        go_simp
        with_reducible rfl
      rotate_left
      · simp only [Act.put, List.setIfInBounds_toArray, List.set_cons_zero, List.set_cons_succ, i64_w, i32_w]
        rfl
      refine pure_ (i := 16) (N := some 41) (v := ?_) (a' := ?_) pbCx5_17 rfl rfl (any_of HT_.out pmCx5_17_) (fun _ _ _ h => h) (Or.inl ⟨by rfl, ?_⟩) ?_ ?_
      rotate_left
      · intro w'
        go_simp
        with_reducible rfl
      rotate_left
      · simp only [Act.put, List.setIfInBounds_toArray, List.set_cons_zero, List.set_cons_succ, i64_w, i32_w]
        rfl
      refine pure_ (i := 17) (N := some 42) (v := ?_) (a' := ?_) pbCx5_18 rfl rfl (any_of HT_.out pmCx5_17_) (fun _ _ _ h => h) (Or.inl ⟨by rfl, ?_⟩) ?_ ?_
      rotate_left
      · intro w'
        go_simp
        with_reducible rfl
      rotate_left
      · simp only [Act.put, List.setIfInBounds_toArray, List.set_cons_zero, List.set_cons_succ, i64_w, i32_w]
        rfl
      refine pure_ (i := 20) (N := some 45) (v := ?_) (a' := ?_) pbCx5_19 rfl rfl (any_of HT_.out pmCx5_17_) (fun _ _ _ h => h) (Or.inl ⟨by rfl, ?_⟩) ?_ ?_
      rotate_left
      · intro w'
        go_simp
        with_reducible rfl
      rotate_left
      · simp only [Act.put, List.setIfInBounds_toArray, List.set_cons_zero, List.set_cons_succ, i64_w, i32_w]
        rfl
      refine take_ (i := 18) (N := some 43) (v := ?_) (a' := ?_) pbCx5_20 rfl rfl (take_ofW HT_.out HW_.out pmCx5_17_) (fun _ _ _ h => h) (Or.inl ⟨by rfl, ?_⟩) hHeld ?_ ?_
      rotate_left
      · rintro w' ⟨s0, s1, s2, s3, s4, s5, s6, s7⟩
        go_simp
        with_reducible rfl
      rotate_left
      · simp only [Act.put, List.setIfInBounds_toArray, List.set_cons_zero, List.set_cons_succ, i64_w, i32_w]
        rfl
      refine take_ (i := 21) (N := some 46) (v := ?_) (a' := ?_) pbCx5_21 rfl rfl (take_ofW HT_.out HW_.out pmCx5_17_) (fun _ _ _ h => h) (Or.inl ⟨by rfl, ?_⟩) hHeld ?_ ?_
      rotate_left
      · rintro w' ⟨s0, s1, s2, s3, s4, s5, s6, s7⟩
        go_simp
        with_reducible rfl
      rotate_left
      · simp only [Act.put, List.setIfInBounds_toArray, List.set_cons_zero, List.set_cons_succ, i64_w, i32_w]
        rfl
      refine one_ (i := 19) (N := some 44) pbCx5_22 rfl rfl (one_of HT_.out pmCx5_17_) pmCx5_29_ (fun K hK => ?_)
      refine goes_ Try.func10 pmCx5_17_ rfl #[.slice A0 l0.length c0, .agg #[.int .i64 a1_0, .int .i64 a1_1, .int .i64 a1_2, .int .i64 a1_3]] (by rfl) rfl rfl pmCx5_12_ ?_
      with_reducible refine (occupy_Free.calls k _ _ l0 a1_0 a1_1 a1_2 a1_3 t180 _ ?side1 ?side2 A44.out).mono ?_
      (case side1 => repeat (first | exact (Kd.C_below HR0.out HB.out) | (with_reducible refine Kd.C_alloc ?_ _) | (with_reducible refine Kd.C_drewN ?_ _) | (with_reducible refine Kd.C_drew ?_)))
      (case side2 => exact HC0.out)
      rintro e w100 ⟨rfl, hb⟩
      refine ⟨_, rfl, ?_⟩
      replace BK153 := Aside0.mk (blk_below (g := gb153) (o := poCx5_0 a1_0 a1_1 a1_2 a1_3) pmCx5_4_ hb)
      replace BK154 := Aside0.mk (blk_below (g := gb154) (o := poCx5_0 a2_0 a2_1 a2_2 a2_3) pmCx5_5_ hb)
      replace BK164 := Aside0.mk (blk_below (g := gb164) (o := poCx5_0 t156 t157 t158 t159) pmCx5_10_ hb)
      replace BK165 := Aside0.mk (blk_below (g := gb165) (o := poCx5_0 t160 t161 t162 t163) pmCx5_11_ hb)
      replace BK174 := Aside0.mk (blk_below (g := gb174) (o := poCx5_0 t166 t167 t168 t169) pmCx5_13_ hb)
      replace BK175 := Aside0.mk (blk_below (g := gb175) (o := poCx5_0 t170 t171 t172 t173) pmCx5_14_ hb)
      replace HB := Aside0.mk (below_step pmCx5_0_ hb)
      (try clear hb)
      (try clear hb2)
      (try clear hk)
      (try clear hi)
      refine hK.out _ _ pmCx5_15_ (fun hHeld => ?_)
      clear hK K
      refine norm_ (a' := ?_) ?_ ?_
      rotate_left
      · show Act.put _ (some 44) _ = _
        simp only [Act.put, List.setIfInBounds_toArray, List.set_cons_zero, List.set_cons_succ, i64_w, i32_w]
        rfl
      refine one_ (i := 22) (N := some 47) pbCx5_23 rfl rfl (one_of HT_.out pmCx5_17_) pmCx5_29_ (fun K hK => ?_)
      refine goes_ Try.func19 pmCx5_17_ rfl #[.slice A0 l0.length c0, .agg #[.int .i64 a1_0, .int .i64 a1_1, .int .i64 a1_2, .int .i64 a1_3]] (by rfl) rfl rfl pmCx5_12_ ?_
      with_reducible refine (parterreref19_Free.calls k _ _ l0 a1_0 a1_1 a1_2 a1_3 t181 _ ?side1 ?side2 A45.out).mono ?_
      (case side1 => repeat (first | exact (Kd.C_below HR0.out HB.out) | (with_reducible refine Kd.C_alloc ?_ _) | (with_reducible refine Kd.C_drewN ?_ _) | (with_reducible refine Kd.C_drew ?_)))
      (case side2 => exact HC0.out)
      rintro e w101 ⟨rfl, hb⟩
      refine ⟨_, rfl, ?_⟩
      replace BK153 := Aside0.mk (blk_below (g := gb153) (o := poCx5_0 a1_0 a1_1 a1_2 a1_3) pmCx5_4_ hb)
      replace BK154 := Aside0.mk (blk_below (g := gb154) (o := poCx5_0 a2_0 a2_1 a2_2 a2_3) pmCx5_5_ hb)
      replace BK164 := Aside0.mk (blk_below (g := gb164) (o := poCx5_0 t156 t157 t158 t159) pmCx5_10_ hb)
      replace BK165 := Aside0.mk (blk_below (g := gb165) (o := poCx5_0 t160 t161 t162 t163) pmCx5_11_ hb)
      replace BK174 := Aside0.mk (blk_below (g := gb174) (o := poCx5_0 t166 t167 t168 t169) pmCx5_13_ hb)
      replace BK175 := Aside0.mk (blk_below (g := gb175) (o := poCx5_0 t170 t171 t172 t173) pmCx5_14_ hb)
      replace HB := Aside0.mk (below_step pmCx5_0_ hb)
      (try clear hb)
      (try clear hb2)
      (try clear hk)
      (try clear hi)
      refine hK.out _ _ pmCx5_15_ (fun hHeld => ?_)
      clear hK K
      refine norm_ (a' := ?_) ?_ ?_
      rotate_left
      · show Act.put _ (some 47) _ = _
        simp only [Act.put, List.setIfInBounds_toArray, List.set_cons_zero, List.set_cons_succ, i64_w, i32_w]
        rfl
      refine pure_ (i := 23) (N := some 48) (v := ?_) (a' := ?_) pbCx5_24 rfl rfl (any_of HT_.out pmCx5_17_) (fun _ _ _ h => h) (Or.inl ⟨by rfl, ?_⟩) ?_ ?_
      rotate_left
      · intro w'
        go_simp
        with_reducible rfl
      rotate_left
      · simp only [Act.put, List.setIfInBounds_toArray, List.set_cons_zero, List.set_cons_succ, i64_w, i32_w]
        rfl
      refine pure_ (i := 24) (N := some 49) (v := ?_) (a' := ?_) pbCx5_25 rfl rfl (any_of HT_.out pmCx5_17_) (fun _ _ _ h => h) (Or.inl ⟨by rfl, ?_⟩) ?_ ?_
      rotate_left
      · intro w'
        go_simp
        with_reducible rfl
      rotate_left
      · simp only [Act.put, List.setIfInBounds_toArray, List.set_cons_zero, List.set_cons_succ, i64_w, i32_w]
        rfl
      refine pure_ (i := 25) (N := some 50) (v := ?_) (a' := ?_) pbCx5_26 rfl rfl (any_of HT_.out pmCx5_17_) (fun _ _ _ h => h) (Or.inl ⟨by rfl, ?_⟩) ?_ ?_
      rotate_left
      · intro w'
        go_simp
        with_reducible rfl
      rotate_left
      · simp only [Act.put, List.setIfInBounds_toArray, List.set_cons_zero, List.set_cons_succ, i64_w, i32_w]
        rfl
      refine pure_ (i := 26) (N := some 51) (v := undef) (a' := ?_) pbCx5_27 rfl rfl (any_of HT_.out pmCx5_17_) (fun _ _ _ h => h) (Or.inr ⟨by rfl, rfl⟩) ?_ ?_
      rotate_left
      · simp only [Act.put, List.setIfInBounds_toArray, List.set_cons_zero, List.set_cons_succ, i64_w, i32_w]
        rfl
      refine pure_ (i := 27) (N := some 52) (v := undef) (a' := ?_) pbCx5_47 rfl rfl (any_of HT_.out pmCx5_17_) (fun _ _ _ h => h) (Or.inr ⟨by rfl, rfl⟩) ?_ ?_
      rotate_left
      · simp only [Act.put, List.setIfInBounds_toArray, List.set_cons_zero, List.set_cons_succ, i64_w, i32_w]
        rfl
      refine pure_ (i := 28) (N := some 53) (v := undef) (a' := ?_) pbCx5_29 rfl rfl (any_of HT_.out pmCx5_17_) (fun _ _ _ h => h) (Or.inr ⟨by rfl, rfl⟩) ?_ ?_
      rotate_left
      · simp only [Act.put, List.setIfInBounds_toArray, List.set_cons_zero, List.set_cons_succ, i64_w, i32_w]
        rfl
      refine pure_ (i := 29) (N := some 54) (v := undef) (a' := ?_) pbCx5_30 rfl rfl (any_of HT_.out pmCx5_17_) (fun _ _ _ h => h) (Or.inr ⟨by rfl, rfl⟩) ?_ ?_
      rotate_left
      · simp only [Act.put, List.setIfInBounds_toArray, List.set_cons_zero, List.set_cons_succ, i64_w, i32_w]
        rfl
      refine pure_ (i := 30) (N := some 55) (v := undef) (a' := ?_) pbCx5_31 rfl rfl (any_of HT_.out pmCx5_17_) (fun _ _ _ h => h) (Or.inr ⟨by rfl, rfl⟩) ?_ ?_
      rotate_left
      · simp only [Act.put, List.setIfInBounds_toArray, List.set_cons_zero, List.set_cons_succ, i64_w, i32_w]
        rfl
      refine pure_ (i := 31) (N := some 56) (v := ?_) (a' := ?_) pbCx5_32 rfl rfl (any_of HT_.out pmCx5_17_) (fun _ _ _ h => h) (Or.inl ⟨by rfl, ?_⟩) ?_ ?_
      rotate_left
      · intro w'
        go_simp
        with_reducible rfl
      rotate_left
      · simp only [Act.put, List.setIfInBounds_toArray, List.set_cons_zero, List.set_cons_succ, i64_w, i32_w]
        rfl
      refine pure_ (i := 32) (N := some 57) (v := ?_) (a' := ?_) pbCx5_33 rfl rfl (any_of HT_.out pmCx5_17_) (fun _ _ _ h => h) (Or.inl ⟨by rfl, ?_⟩) ?_ ?_
      rotate_left
      · intro w'
        go_simp
        with_reducible rfl
      rotate_left
      · simp only [Act.put, List.setIfInBounds_toArray, List.set_cons_zero, List.set_cons_succ, i64_w, i32_w]
        rfl
      refine pure_ (i := 33) (N := some 58) (v := undef) (a' := ?_) pbCx5_34 rfl rfl (any_of HT_.out pmCx5_17_) (fun _ _ _ h => h) (Or.inr ⟨by rfl, rfl⟩) ?_ ?_
      rotate_left
      · simp only [Act.put, List.setIfInBounds_toArray, List.set_cons_zero, List.set_cons_succ, i64_w, i32_w]
        rfl
      refine pure_ (i := 34) (N := some 59) (v := undef) (a' := ?_) pbCx5_35 rfl rfl (any_of HT_.out pmCx5_17_) (fun _ _ _ h => h) (Or.inr ⟨by rfl, rfl⟩) ?_ ?_
      rotate_left
      · simp only [Act.put, List.setIfInBounds_toArray, List.set_cons_zero, List.set_cons_succ, i64_w, i32_w]
        rfl
      refine pure_ (i := 35) (N := some 60) (v := undef) (a' := ?_) pbCx5_36 rfl rfl (any_of HT_.out pmCx5_17_) (fun _ _ _ h => h) (Or.inr ⟨by rfl, rfl⟩) ?_ ?_
      rotate_left
      · simp only [Act.put, List.setIfInBounds_toArray, List.set_cons_zero, List.set_cons_succ, i64_w, i32_w]
        rfl
      refine pure_ (i := 36) (N := some 61) (v := ?_) (a' := ?_) pbCx5_37 rfl rfl (any_of HT_.out pmCx5_17_) (fun _ _ _ h => h) (Or.inl ⟨by rfl, ?_⟩) ?_ ?_
      rotate_left
      · intro w'
        go_simp
        with_reducible rfl
      rotate_left
      · simp only [Act.put, List.setIfInBounds_toArray, List.set_cons_zero, List.set_cons_succ, i64_w, i32_w]
        rfl
      refine pure_ (i := 37) (N := some 62) (v := ?_) (a' := ?_) pbCx5_38 rfl rfl (any_of HT_.out pmCx5_17_) (fun _ _ _ h => h) (Or.inl ⟨by rfl, ?_⟩) ?_ ?_
      rotate_left
      · intro w'
        go_simp
        with_reducible rfl
      rotate_left
      · simp only [Act.put, List.setIfInBounds_toArray, List.set_cons_zero, List.set_cons_succ, i64_w, i32_w]
        rfl
      refine pure_ (i := 38) (N := some 63) (v := undef) (a' := ?_) pbCx5_39 rfl rfl (any_of HT_.out pmCx5_17_) (fun _ _ _ h => h) (Or.inr ⟨by rfl, rfl⟩) ?_ ?_
      rotate_left
      · simp only [Act.put, List.setIfInBounds_toArray, List.set_cons_zero, List.set_cons_succ, i64_w, i32_w]
        rfl
      refine pure_ (i := 39) (N := some 64) (v := undef) (a' := ?_) pbCx5_40 rfl rfl (any_of HT_.out pmCx5_17_) (fun _ _ _ h => h) (Or.inr ⟨by rfl, rfl⟩) ?_ ?_
      rotate_left
      · simp only [Act.put, List.setIfInBounds_toArray, List.set_cons_zero, List.set_cons_succ, i64_w, i32_w]
        rfl
      refine pure_ (i := 40) (N := some 65) (v := undef) (a' := ?_) pbCx5_41 rfl rfl (any_of HT_.out pmCx5_17_) (fun _ _ _ h => h) (Or.inr ⟨by rfl, rfl⟩) ?_ ?_
      rotate_left
      · simp only [Act.put, List.setIfInBounds_toArray, List.set_cons_zero, List.set_cons_succ, i64_w, i32_w]
        rfl
      refine pure_ (i := 41) (N := some 66) (v := ?_) (a' := ?_) pbCx5_42 rfl rfl (any_of HT_.out pmCx5_17_) (fun _ _ _ h => h) (Or.inl ⟨by rfl, ?_⟩) ?_ ?_
      rotate_left
      · intro w'
        go_simp
        with_reducible rfl
      rotate_left
      · simp only [Act.put, List.setIfInBounds_toArray, List.set_cons_zero, List.set_cons_succ, i64_w, i32_w]
        rfl
      refine pure_ (i := 42) (N := some 67) (v := ?_) (a' := ?_) pbCx5_43 rfl rfl (any_of HT_.out pmCx5_17_) (fun _ _ _ h => h) (Or.inl ⟨by rfl, ?_⟩) ?_ ?_
      rotate_left
      · intro w'
        go_simp
        with_reducible rfl
      rotate_left
      · simp only [Act.put, List.setIfInBounds_toArray, List.set_cons_zero, List.set_cons_succ, i64_w, i32_w]
        rfl
      refine pure_ (i := 43) (N := some 68) (v := undef) (a' := ?_) pbCx5_44 rfl rfl (any_of HT_.out pmCx5_17_) (fun _ _ _ h => h) (Or.inr ⟨by rfl, rfl⟩) ?_ ?_
      rotate_left
      · simp only [Act.put, List.setIfInBounds_toArray, List.set_cons_zero, List.set_cons_succ, i64_w, i32_w]
        rfl
      refine pure_ (i := 44) (N := some 69) (v := ?_) (a' := ?_) pbCx5_45 rfl rfl (any_of HT_.out pmCx5_17_) (fun _ _ _ h => h) (Or.inl ⟨by rfl, ?_⟩) ?_ ?_
      rotate_left
      · intro w'
        go_simp
        with_reducible rfl
      rotate_left
      · simp only [Act.put, List.setIfInBounds_toArray, List.set_cons_zero, List.set_cons_succ, i64_w, i32_w]
        rfl
      refine pure_ (i := 45) (N := some 6) (v := ?_) (a' := ?_) pbCx5_46 rfl rfl (any_of HT_.out pmCx5_17_) (fun _ _ _ h => h) (Or.inl ⟨by rfl, ?_⟩) ?_ ?_
      rotate_left
      · intro w'
        go_simp
        with_reducible rfl
      rotate_left
      · simp only [Act.put, List.setIfInBounds_toArray, List.set_cons_zero, List.set_cons_succ, i64_w, i32_w]
        rfl
      refine done_ (done_of HT_.out pmCx5_17_) ?_
      try go_wp2
      go_meet
      case rel => exact ⟨_, (false), pmCx5_28_, H', ⟨pmCx5_30_⟩, ⟨pmCx5_4_⟩, ⟨pmCx5_5_⟩, ⟨pmCx5_10_⟩, ⟨pmCx5_11_⟩, ⟨pmCx5_13_⟩, ⟨pmCx5_14_⟩, ⟨pmCx5_0_⟩⟩
    rw [if_pos c46] at H
    have c46b0 : (t180 == t181) = true := c46
    (try (have c46b1 : decide (t180 = t181) = true := by simpa using c46))
    (try (have c46b2 : (t180 == t181) = true := by simpa using c46))
    clear c46
    replace H := Option.bind_eq_some_iff.mp H
    obtain ⟨⟨t182, t183, t184, t185⟩, A470, H⟩ := H
    replace H : ((parterreref19_Turn.f a1_0 a1_1 a1_2 a1_3).bind fun bt186 => (if (t182 == bt186.1 && (t183 == bt186.2.1 && (t184 == bt186.2.2.1 && (t185 == bt186.2.2.2)))) = true then (if (t156 == t166 && (t157 == t167 && (t158 == t168 && (t159 == t169)))) = true then (if (t160 == t170 && (t161 == t171 && (t162 == t172 && (t163 == t173)))) = true then ((parterrelaw19_lives.f k).bind fun t190 => (parterrelaw19_OccupyOverlaps.j0 k t190)) else (parterrelaw19_OccupyOverlaps.j0 k false)) else (parterrelaw19_OccupyOverlaps.j0 k false)) else (parterrelaw19_OccupyOverlaps.j0 k false))) = some r := H
    have A47 := Aside0.mk A470
    clear A470
    replace H := Option.bind_eq_some_iff.mp H
    obtain ⟨⟨t186, t187, t188, t189⟩, A480, H⟩ := H
    replace H : (if (t182 == t186 && (t183 == t187 && (t184 == t188 && (t185 == t189)))) = true then (if (t156 == t166 && (t157 == t167 && (t158 == t168 && (t159 == t169)))) = true then (if (t160 == t170 && (t161 == t171 && (t162 == t172 && (t163 == t173)))) = true then ((parterrelaw19_lives.f k).bind fun t190 => (parterrelaw19_OccupyOverlaps.j0 k t190)) else (parterrelaw19_OccupyOverlaps.j0 k false)) else (parterrelaw19_OccupyOverlaps.j0 k false)) else (parterrelaw19_OccupyOverlaps.j0 k false)) = some r := H
    have A48 := Aside0.mk A480
    clear A480
    by_cases c49 : (t182 == t186 && (t183 == t187 && (t184 == t188 && (t185 == t189)))) = true
    rotate_left
    · rw [if_neg c49] at H
      have c49b0 : (t182 == t186 && (t183 == t187 && (t184 == t188 && (t185 == t189)))) = false := by simpa using c49
      (try (have c49b1 : decide (t182 = t186 && (t183 == t187 && (t184 == t188 && (t185 == t189)))) = false := by simpa using c49))
      (try (have c49b2 : (t182 == t186 && (t183 == t187 && (t184 == t188 && (t185 == t189)))) = false := by simpa using c49))
      (try (have c49b3 : ¬ (t182 = t186 && (t183 == t187 && (t184 == t188 && (t185 == t189)))) := by simpa using c49))
      clear c49
      have H' := Aside0.mk H
      clear H
      try go_wp2
      have n0_ : Aside0 ((pwCx5_0 w26 gb174 gb175 t166 t167 t168 t169 t170 t171 t172 t173).heap[gb153]? = some (.cells #[.int .i64 a1_0, .int .i64 a1_1, .int .i64 a1_2, .int .i64 a1_3] 24 (0, 0))) := ⟨pmCx5_6_⟩
      have n1_ : Aside0 ((pwCx5_0 w26 gb174 gb175 t166 t167 t168 t169 t170 t171 t172 t173).heap[gb154]? = some (.cells #[.int .i64 a2_0, .int .i64 a2_1, .int .i64 a2_2, .int .i64 a2_3] 24 (0, 0))) := ⟨pmCx5_7_⟩
      have n2_ : Aside0 ((pwCx5_0 w26 gb174 gb175 t166 t167 t168 t169 t170 t171 t172 t173).heap[gb164]? = some (.cells #[.int .i64 t156, .int .i64 t157, .int .i64 t158, .int .i64 t159] 24 (0, 0))) := ⟨pmCx5_8_⟩
      have n3_ : Aside0 ((pwCx5_0 w26 gb174 gb175 t166 t167 t168 t169 t170 t171 t172 t173).heap[gb165]? = some (.cells #[.int .i64 t160, .int .i64 t161, .int .i64 t162, .int .i64 t163] 24 (0, 0))) := ⟨pmCx5_9_⟩
      have n4_ : Aside0 ((pwCx5_0 w26 gb174 gb175 t166 t167 t168 t169 t170 t171 t172 t173).heap[gb174]? = some (.cells #[.int .i64 t166, .int .i64 t167, .int .i64 t168, .int .i64 t169] 24 (0, 0))) := ⟨pmCx5_2_⟩
      have n5_ : Aside0 ((pwCx5_0 w26 gb174 gb175 t166 t167 t168 t169 t170 t171 t172 t173).heap[gb175]? = some (.cells #[.int .i64 t170, .int .i64 t171, .int .i64 t172, .int .i64 t173] 24 (0, 0))) := ⟨pmCx5_3_⟩
      have n6_ : Aside0 (Below w.heap.size w (pwCx5_0 w26 gb174 gb175 t166 t167 t168 t169 t170 t171 t172 t173)) := ⟨pmCx5_0_⟩
      (try clear BK153)
      (try clear BK154)
      (try clear BK164)
      (try clear BK165)
      (try clear BK174)
      (try clear BK175)
      (try clear HB)
      unfold pwCx5_0 at n0_ n1_ n2_ n3_ n4_ n5_ n6_
      generalize ((((((((w26.setCell ⟨gb174, 0, none⟩ (.int .i64 t166)).setCell ⟨gb174, 1, none⟩ (.int .i64 t167)).setCell ⟨gb174, 2, none⟩ (.int .i64 t168)).setCell ⟨gb174, 3, none⟩ (.int .i64 t169)).setCell ⟨gb175, 0, none⟩ (.int .i64 t170)).setCell ⟨gb175, 1, none⟩ (.int .i64 t171)).setCell ⟨gb175, 2, none⟩ (.int .i64 t172)).setCell ⟨gb175, 3, none⟩ (.int .i64 t173)) = w84 at n0_ n1_ n2_ n3_ n4_ n5_ n6_ ⊢
      have BK153 := n0_
      have BK154 := n1_
      have BK164 := n2_
      have BK165 := n3_
      have BK174 := n4_
      have BK175 := n5_
      have HB := n6_
      clear n0_ n1_ n2_ n3_ n4_ n5_ n6_
      replace BK153 := Aside0.mk (blk_drew BK153.out)
      replace BK154 := Aside0.mk (blk_drew BK154.out)
      replace BK164 := Aside0.mk (blk_drew BK164.out)
      replace BK165 := Aside0.mk (blk_drew BK165.out)
      replace BK174 := Aside0.mk (blk_drew BK174.out)
      replace BK175 := Aside0.mk (blk_drew BK175.out)
      replace HB := Aside0.mk (below_drew1 HB.out)
      refine start_ (n := 46) (S := fun w' => w'.cell? ⟨gb153, 0, none⟩ = some (.int .i64 a1_0) ∧ w'.cell? ⟨gb153, 1, none⟩ = some (.int .i64 a1_1) ∧ w'.cell? ⟨gb153, 2, none⟩ = some (.int .i64 a1_2) ∧ w'.cell? ⟨gb153, 3, none⟩ = some (.int .i64 a1_3) ∧ w'.cell? ⟨gb154, 0, none⟩ = some (.int .i64 a2_0) ∧ w'.cell? ⟨gb154, 1, none⟩ = some (.int .i64 a2_1) ∧ w'.cell? ⟨gb154, 2, none⟩ = some (.int .i64 a2_2) ∧ w'.cell? ⟨gb154, 3, none⟩ = some (.int .i64 a2_3)) (ds := []) pbCx5_0 pmCx5_17_ rfl rfl ⟨(blk_cell BK153.out 0).trans rfl, (blk_cell BK153.out 1).trans rfl, (blk_cell BK153.out 2).trans rfl, (blk_cell BK153.out 3).trans rfl, (blk_cell BK154.out 0).trans rfl, (blk_cell BK154.out 1).trans rfl, (blk_cell BK154.out 2).trans rfl, (blk_cell BK154.out 3).trans rfl⟩ (fun hHeld => ?_); refine with_tabW parterrelaw19_OccupyOverlaps.tab5 parterrelaw19_OccupyOverlaps.bits5 (fun HT_ HW_ => ?_)
      generalize w84.drew = w85 at BK153 BK154 BK164 BK165 BK174 BK175 HB hHeld ⊢
      refine take_ (i := 0) (N := some 25) (v := ?_) (a' := ?_) pbCx5_1 rfl rfl (take_ofW HT_.out HW_.out pmCx5_17_) (fun _ _ _ h => h) (Or.inl ⟨by rfl, ?_⟩) hHeld ?_ ?_
      rotate_left
      · rintro w' ⟨s0, s1, s2, s3, s4, s5, s6, s7⟩
        go_simp
        with_reducible rfl
      rotate_left
      · simp only [Act.put, List.setIfInBounds_toArray, List.set_cons_zero, List.set_cons_succ, i64_w, i32_w]
        rfl
      refine take_ (i := 1) (N := some 26) (v := ?_) (a' := ?_) pbCx5_2 rfl rfl (take_ofW HT_.out HW_.out pmCx5_17_) (fun _ _ _ h => h) (Or.inl ⟨by rfl, ?_⟩) hHeld ?_ ?_
      rotate_left
      · rintro w' ⟨s0, s1, s2, s3, s4, s5, s6, s7⟩
        go_simp
        with_reducible rfl
      rotate_left
      · simp only [Act.put, List.setIfInBounds_toArray, List.set_cons_zero, List.set_cons_succ, i64_w, i32_w]
        rfl
      refine take_ (i := 3) (N := some 28) (v := ?_) (a' := ?_) pbCx5_3 rfl rfl (take_ofW HT_.out HW_.out pmCx5_17_) (fun _ _ _ h => h) (Or.inl ⟨by rfl, ?_⟩) hHeld ?_ ?_
      rotate_left
      · rintro w' ⟨s0, s1, s2, s3, s4, s5, s6, s7⟩
        go_simp
        with_reducible rfl
      rotate_left
      · simp only [Act.put, List.setIfInBounds_toArray, List.set_cons_zero, List.set_cons_succ, i64_w, i32_w]
        rfl
      refine take_ (i := 4) (N := some 29) (v := ?_) (a' := ?_) pbCx5_4 rfl rfl (take_ofW HT_.out HW_.out pmCx5_17_) (fun _ _ _ h => h) (Or.inl ⟨by rfl, ?_⟩) hHeld ?_ ?_
      rotate_left
      · rintro w' ⟨s0, s1, s2, s3, s4, s5, s6, s7⟩
        go_simp
        with_reducible rfl
      rotate_left
      · simp only [Act.put, List.setIfInBounds_toArray, List.set_cons_zero, List.set_cons_succ, i64_w, i32_w]
        rfl
      refine one_ (i := 2) (N := some 27) pbCx5_5 rfl rfl (one_of HT_.out pmCx5_17_) pmCx5_29_ (fun K hK => ?_)
      refine goes_ Try.func17 pmCx5_17_ rfl #[.agg #[.int .i64 a1_0, .int .i64 a1_1, .int .i64 a1_2, .int .i64 a1_3], .agg #[.int .i64 a2_0, .int .i64 a2_1, .int .i64 a2_2, .int .i64 a2_3]] (by rfl) rfl rfl pmCx5_12_ ?_
      with_reducible refine (occupy_Overlap.calls k a1_0 a1_1 a1_2 a1_3 a2_0 a2_1 a2_2 a2_3 t176 _ A38.out).mono ?_
      rintro e w86 ⟨rfl, hb⟩
      refine ⟨_, rfl, ?_⟩
      replace BK153 := Aside0.mk (blk_below (g := gb153) (o := poCx5_0 a1_0 a1_1 a1_2 a1_3) pmCx5_4_ hb)
      replace BK154 := Aside0.mk (blk_below (g := gb154) (o := poCx5_0 a2_0 a2_1 a2_2 a2_3) pmCx5_5_ hb)
      replace BK164 := Aside0.mk (blk_below (g := gb164) (o := poCx5_0 t156 t157 t158 t159) pmCx5_10_ hb)
      replace BK165 := Aside0.mk (blk_below (g := gb165) (o := poCx5_0 t160 t161 t162 t163) pmCx5_11_ hb)
      replace BK174 := Aside0.mk (blk_below (g := gb174) (o := poCx5_0 t166 t167 t168 t169) pmCx5_13_ hb)
      replace BK175 := Aside0.mk (blk_below (g := gb175) (o := poCx5_0 t170 t171 t172 t173) pmCx5_14_ hb)
      replace HB := Aside0.mk (below_step pmCx5_0_ hb)
      (try clear hb)
      (try clear hb2)
      (try clear hk)
      (try clear hi)
      refine hK.out _ _ pmCx5_15_ (fun hHeld => ?_)
      clear hK K
      refine norm_ (a' := ?_) ?_ ?_
      rotate_left
      · show Act.put _ (some 27) _ = _
        simp only [Act.put, List.setIfInBounds_toArray, List.set_cons_zero, List.set_cons_succ, i64_w, i32_w]
        rfl
      refine one_ (i := 5) (N := some 30) pbCx5_6 rfl rfl (one_of HT_.out pmCx5_17_) pmCx5_29_ (fun K hK => ?_)
      refine goes_ Try.func18 pmCx5_17_ rfl #[.agg #[.int .i64 a1_0, .int .i64 a1_1, .int .i64 a1_2, .int .i64 a1_3], .agg #[.int .i64 a2_0, .int .i64 a2_1, .int .i64 a2_2, .int .i64 a2_3]] (by rfl) rfl rfl pmCx5_12_ ?_
      with_reducible refine (parterreref19_Overlap.calls a1_0 a1_1 a1_2 a1_3 a2_0 a2_1 a2_2 a2_3 t177 _ A39.out).mono ?_
      rintro e w87 ⟨rfl, hb⟩
      refine ⟨_, rfl, ?_⟩
      replace BK153 := Aside0.mk (blk_below (g := gb153) (o := poCx5_0 a1_0 a1_1 a1_2 a1_3) pmCx5_4_ hb)
      replace BK154 := Aside0.mk (blk_below (g := gb154) (o := poCx5_0 a2_0 a2_1 a2_2 a2_3) pmCx5_5_ hb)
      replace BK164 := Aside0.mk (blk_below (g := gb164) (o := poCx5_0 t156 t157 t158 t159) pmCx5_10_ hb)
      replace BK165 := Aside0.mk (blk_below (g := gb165) (o := poCx5_0 t160 t161 t162 t163) pmCx5_11_ hb)
      replace BK174 := Aside0.mk (blk_below (g := gb174) (o := poCx5_0 t166 t167 t168 t169) pmCx5_13_ hb)
      replace BK175 := Aside0.mk (blk_below (g := gb175) (o := poCx5_0 t170 t171 t172 t173) pmCx5_14_ hb)
      replace HB := Aside0.mk (below_step pmCx5_0_ hb)
      (try clear hb)
      (try clear hb2)
      (try clear hk)
      (try clear hi)
      refine hK.out _ _ pmCx5_15_ (fun hHeld => ?_)
      clear hK K
      refine norm_ (a' := ?_) ?_ ?_
      rotate_left
      · show Act.put _ (some 30) _ = _
        simp only [Act.put, List.setIfInBounds_toArray, List.set_cons_zero, List.set_cons_succ, i64_w, i32_w]
        rfl
      refine pure_ (i := 6) (N := some 31) (v := ?_) (a' := ?_) pbCx5_7 rfl rfl (any_of HT_.out pmCx5_17_) (fun _ _ _ h => h) (Or.inl ⟨by rfl, ?_⟩) ?_ ?_
      rotate_left
      · intro w'
        go_simp
        with_reducible rfl
      rotate_left
      · simp only [Act.put, List.setIfInBounds_toArray, List.set_cons_zero, List.set_cons_succ, i64_w, i32_w]
        rfl
      refine pure_ (i := 7) (N := some 32) (v := ?_) (a' := ?_) pbCx5_8 rfl rfl (any_of HT_.out pmCx5_17_) (fun _ _ _ h => h) (Or.inl ⟨by rfl, ?_⟩) ?_ ?_
      rotate_left
      · intro w'
        go_simp
        with_reducible rfl
      rotate_left
      · simp only [Act.put, List.setIfInBounds_toArray, List.set_cons_zero, List.set_cons_succ, i64_w, i32_w]
        rfl
      refine take_ (i := 8) (N := some 33) (v := ?_) (a' := ?_) pbCx5_9 rfl rfl (take_ofW HT_.out HW_.out pmCx5_17_) (fun _ _ _ h => h) (Or.inl ⟨by rfl, ?_⟩) hHeld ?_ ?_
      rotate_left
      · rintro w' ⟨s0, s1, s2, s3, s4, s5, s6, s7⟩
        go_simp
        with_reducible rfl
      rotate_left
      · simp only [Act.put, List.setIfInBounds_toArray, List.set_cons_zero, List.set_cons_succ, i64_w, i32_w]
        rfl
      refine take_ (i := 9) (N := some 34) (v := ?_) (a' := ?_) pbCx5_10 rfl rfl (take_ofW HT_.out HW_.out pmCx5_17_) (fun _ _ _ h => h) (Or.inl ⟨by rfl, ?_⟩) hHeld ?_ ?_
      rotate_left
      · rintro w' ⟨s0, s1, s2, s3, s4, s5, s6, s7⟩
        go_simp
        with_reducible rfl
      rotate_left
      · simp only [Act.put, List.setIfInBounds_toArray, List.set_cons_zero, List.set_cons_succ, i64_w, i32_w]
        rfl
      refine take_ (i := 11) (N := some 36) (v := ?_) (a' := ?_) pbCx5_11 rfl rfl (take_ofW HT_.out HW_.out pmCx5_17_) (fun _ _ _ h => h) (Or.inl ⟨by rfl, ?_⟩) hHeld ?_ ?_
      rotate_left
      · rintro w' ⟨s0, s1, s2, s3, s4, s5, s6, s7⟩
        go_simp
        with_reducible rfl
      rotate_left
      · simp only [Act.put, List.setIfInBounds_toArray, List.set_cons_zero, List.set_cons_succ, i64_w, i32_w]
        rfl
      refine take_ (i := 12) (N := some 37) (v := ?_) (a' := ?_) pbCx5_12 rfl rfl (take_ofW HT_.out HW_.out pmCx5_17_) (fun _ _ _ h => h) (Or.inl ⟨by rfl, ?_⟩) hHeld ?_ ?_
      rotate_left
      · rintro w' ⟨s0, s1, s2, s3, s4, s5, s6, s7⟩
        go_simp
        with_reducible rfl
      rotate_left
      · simp only [Act.put, List.setIfInBounds_toArray, List.set_cons_zero, List.set_cons_succ, i64_w, i32_w]
        rfl
      refine one_ (i := 10) (N := some 35) pbCx5_13 rfl rfl (one_of HT_.out pmCx5_17_) pmCx5_29_ (fun K hK => ?_)
      refine goes_ Try.func17 pmCx5_17_ rfl #[.agg #[.int .i64 a2_0, .int .i64 a2_1, .int .i64 a2_2, .int .i64 a2_3], .agg #[.int .i64 a1_0, .int .i64 a1_1, .int .i64 a1_2, .int .i64 a1_3]] (by rfl) rfl rfl pmCx5_12_ ?_
      with_reducible refine (occupy_Overlap.calls k a2_0 a2_1 a2_2 a2_3 a1_0 a1_1 a1_2 a1_3 t178 _ A41.out).mono ?_
      rintro e w88 ⟨rfl, hb⟩
      refine ⟨_, rfl, ?_⟩
      replace BK153 := Aside0.mk (blk_below (g := gb153) (o := poCx5_0 a1_0 a1_1 a1_2 a1_3) pmCx5_4_ hb)
      replace BK154 := Aside0.mk (blk_below (g := gb154) (o := poCx5_0 a2_0 a2_1 a2_2 a2_3) pmCx5_5_ hb)
      replace BK164 := Aside0.mk (blk_below (g := gb164) (o := poCx5_0 t156 t157 t158 t159) pmCx5_10_ hb)
      replace BK165 := Aside0.mk (blk_below (g := gb165) (o := poCx5_0 t160 t161 t162 t163) pmCx5_11_ hb)
      replace BK174 := Aside0.mk (blk_below (g := gb174) (o := poCx5_0 t166 t167 t168 t169) pmCx5_13_ hb)
      replace BK175 := Aside0.mk (blk_below (g := gb175) (o := poCx5_0 t170 t171 t172 t173) pmCx5_14_ hb)
      replace HB := Aside0.mk (below_step pmCx5_0_ hb)
      (try clear hb)
      (try clear hb2)
      (try clear hk)
      (try clear hi)
      refine hK.out _ _ pmCx5_15_ (fun hHeld => ?_)
      clear hK K
      refine norm_ (a' := ?_) ?_ ?_
      rotate_left
      · show Act.put _ (some 35) _ = _
        simp only [Act.put, List.setIfInBounds_toArray, List.set_cons_zero, List.set_cons_succ, i64_w, i32_w]
        rfl
      refine one_ (i := 13) (N := some 38) pbCx5_14 rfl rfl (one_of HT_.out pmCx5_17_) pmCx5_29_ (fun K hK => ?_)
      refine goes_ Try.func18 pmCx5_17_ rfl #[.agg #[.int .i64 a1_0, .int .i64 a1_1, .int .i64 a1_2, .int .i64 a1_3], .agg #[.int .i64 a2_0, .int .i64 a2_1, .int .i64 a2_2, .int .i64 a2_3]] (by rfl) rfl rfl pmCx5_12_ ?_
      with_reducible refine (parterreref19_Overlap.calls a1_0 a1_1 a1_2 a1_3 a2_0 a2_1 a2_2 a2_3 t179 _ A42.out).mono ?_
      rintro e w89 ⟨rfl, hb⟩
      refine ⟨_, rfl, ?_⟩
      replace BK153 := Aside0.mk (blk_below (g := gb153) (o := poCx5_0 a1_0 a1_1 a1_2 a1_3) pmCx5_4_ hb)
      replace BK154 := Aside0.mk (blk_below (g := gb154) (o := poCx5_0 a2_0 a2_1 a2_2 a2_3) pmCx5_5_ hb)
      replace BK164 := Aside0.mk (blk_below (g := gb164) (o := poCx5_0 t156 t157 t158 t159) pmCx5_10_ hb)
      replace BK165 := Aside0.mk (blk_below (g := gb165) (o := poCx5_0 t160 t161 t162 t163) pmCx5_11_ hb)
      replace BK174 := Aside0.mk (blk_below (g := gb174) (o := poCx5_0 t166 t167 t168 t169) pmCx5_13_ hb)
      replace BK175 := Aside0.mk (blk_below (g := gb175) (o := poCx5_0 t170 t171 t172 t173) pmCx5_14_ hb)
      replace HB := Aside0.mk (below_step pmCx5_0_ hb)
      (try clear hb)
      (try clear hb2)
      (try clear hk)
      (try clear hi)
      refine hK.out _ _ pmCx5_15_ (fun hHeld => ?_)
      clear hK K
      refine norm_ (a' := ?_) ?_ ?_
      rotate_left
      · show Act.put _ (some 38) _ = _
        simp only [Act.put, List.setIfInBounds_toArray, List.set_cons_zero, List.set_cons_succ, i64_w, i32_w]
        rfl
      refine pure_ (i := 14) (N := some 39) (v := ?_) (a' := ?_) pbCx5_15 rfl rfl (any_of HT_.out pmCx5_17_) (fun _ _ _ h => h) (Or.inl ⟨by rfl, ?_⟩) ?_ ?_
      rotate_left
      · intro w'
        go_simp
        with_reducible rfl
      rotate_left
      · simp only [Act.put, List.setIfInBounds_toArray, List.set_cons_zero, List.set_cons_succ, i64_w, i32_w]
        rfl
      refine pure_ (i := 15) (N := some 40) (v := ?_) (a' := ?_) pbCx5_16 rfl rfl (any_of HT_.out pmCx5_17_) (fun _ _ _ h => h) (Or.inl ⟨by rfl, ?_⟩) ?_ ?_
      rotate_left
      · intro w'
        go_simp
        with_reducible rfl
      rotate_left
      · simp only [Act.put, List.setIfInBounds_toArray, List.set_cons_zero, List.set_cons_succ, i64_w, i32_w]
        rfl
      refine pure_ (i := 16) (N := some 41) (v := ?_) (a' := ?_) pbCx5_17 rfl rfl (any_of HT_.out pmCx5_17_) (fun _ _ _ h => h) (Or.inl ⟨by rfl, ?_⟩) ?_ ?_
      rotate_left
      · intro w'
        go_simp
        with_reducible rfl
      rotate_left
      · simp only [Act.put, List.setIfInBounds_toArray, List.set_cons_zero, List.set_cons_succ, i64_w, i32_w]
        rfl
      refine pure_ (i := 17) (N := some 42) (v := ?_) (a' := ?_) pbCx5_18 rfl rfl (any_of HT_.out pmCx5_17_) (fun _ _ _ h => h) (Or.inl ⟨by rfl, ?_⟩) ?_ ?_
      rotate_left
      · intro w'
        go_simp
        with_reducible rfl
      rotate_left
      · simp only [Act.put, List.setIfInBounds_toArray, List.set_cons_zero, List.set_cons_succ, i64_w, i32_w]
        rfl
      refine pure_ (i := 20) (N := some 45) (v := ?_) (a' := ?_) pbCx5_19 rfl rfl (any_of HT_.out pmCx5_17_) (fun _ _ _ h => h) (Or.inl ⟨by rfl, ?_⟩) ?_ ?_
      rotate_left
      · intro w'
        go_simp
        with_reducible rfl
      rotate_left
      · simp only [Act.put, List.setIfInBounds_toArray, List.set_cons_zero, List.set_cons_succ, i64_w, i32_w]
        rfl
      refine take_ (i := 18) (N := some 43) (v := ?_) (a' := ?_) pbCx5_20 rfl rfl (take_ofW HT_.out HW_.out pmCx5_17_) (fun _ _ _ h => h) (Or.inl ⟨by rfl, ?_⟩) hHeld ?_ ?_
      rotate_left
      · rintro w' ⟨s0, s1, s2, s3, s4, s5, s6, s7⟩
        go_simp
        with_reducible rfl
      rotate_left
      · simp only [Act.put, List.setIfInBounds_toArray, List.set_cons_zero, List.set_cons_succ, i64_w, i32_w]
        rfl
      refine take_ (i := 21) (N := some 46) (v := ?_) (a' := ?_) pbCx5_21 rfl rfl (take_ofW HT_.out HW_.out pmCx5_17_) (fun _ _ _ h => h) (Or.inl ⟨by rfl, ?_⟩) hHeld ?_ ?_
      rotate_left
      · rintro w' ⟨s0, s1, s2, s3, s4, s5, s6, s7⟩
        go_simp
        with_reducible rfl
      rotate_left
      · simp only [Act.put, List.setIfInBounds_toArray, List.set_cons_zero, List.set_cons_succ, i64_w, i32_w]
        rfl
      refine one_ (i := 19) (N := some 44) pbCx5_22 rfl rfl (one_of HT_.out pmCx5_17_) pmCx5_29_ (fun K hK => ?_)
      refine goes_ Try.func10 pmCx5_17_ rfl #[.slice A0 l0.length c0, .agg #[.int .i64 a1_0, .int .i64 a1_1, .int .i64 a1_2, .int .i64 a1_3]] (by rfl) rfl rfl pmCx5_12_ ?_
      with_reducible refine (occupy_Free.calls k _ _ l0 a1_0 a1_1 a1_2 a1_3 t180 _ ?side1 ?side2 A44.out).mono ?_
      (case side1 => repeat (first | exact (Kd.C_below HR0.out HB.out) | (with_reducible refine Kd.C_alloc ?_ _) | (with_reducible refine Kd.C_drewN ?_ _) | (with_reducible refine Kd.C_drew ?_)))
      (case side2 => exact HC0.out)
      rintro e w90 ⟨rfl, hb⟩
      refine ⟨_, rfl, ?_⟩
      replace BK153 := Aside0.mk (blk_below (g := gb153) (o := poCx5_0 a1_0 a1_1 a1_2 a1_3) pmCx5_4_ hb)
      replace BK154 := Aside0.mk (blk_below (g := gb154) (o := poCx5_0 a2_0 a2_1 a2_2 a2_3) pmCx5_5_ hb)
      replace BK164 := Aside0.mk (blk_below (g := gb164) (o := poCx5_0 t156 t157 t158 t159) pmCx5_10_ hb)
      replace BK165 := Aside0.mk (blk_below (g := gb165) (o := poCx5_0 t160 t161 t162 t163) pmCx5_11_ hb)
      replace BK174 := Aside0.mk (blk_below (g := gb174) (o := poCx5_0 t166 t167 t168 t169) pmCx5_13_ hb)
      replace BK175 := Aside0.mk (blk_below (g := gb175) (o := poCx5_0 t170 t171 t172 t173) pmCx5_14_ hb)
      replace HB := Aside0.mk (below_step pmCx5_0_ hb)
      (try clear hb)
      (try clear hb2)
      (try clear hk)
      (try clear hi)
      refine hK.out _ _ pmCx5_15_ (fun hHeld => ?_)
      clear hK K
      refine norm_ (a' := ?_) ?_ ?_
      rotate_left
      · show Act.put _ (some 44) _ = _
        simp only [Act.put, List.setIfInBounds_toArray, List.set_cons_zero, List.set_cons_succ, i64_w, i32_w]
        rfl
      refine one_ (i := 22) (N := some 47) pbCx5_23 rfl rfl (one_of HT_.out pmCx5_17_) pmCx5_29_ (fun K hK => ?_)
      refine goes_ Try.func19 pmCx5_17_ rfl #[.slice A0 l0.length c0, .agg #[.int .i64 a1_0, .int .i64 a1_1, .int .i64 a1_2, .int .i64 a1_3]] (by rfl) rfl rfl pmCx5_12_ ?_
      with_reducible refine (parterreref19_Free.calls k _ _ l0 a1_0 a1_1 a1_2 a1_3 t181 _ ?side1 ?side2 A45.out).mono ?_
      (case side1 => repeat (first | exact (Kd.C_below HR0.out HB.out) | (with_reducible refine Kd.C_alloc ?_ _) | (with_reducible refine Kd.C_drewN ?_ _) | (with_reducible refine Kd.C_drew ?_)))
      (case side2 => exact HC0.out)
      rintro e w91 ⟨rfl, hb⟩
      refine ⟨_, rfl, ?_⟩
      replace BK153 := Aside0.mk (blk_below (g := gb153) (o := poCx5_0 a1_0 a1_1 a1_2 a1_3) pmCx5_4_ hb)
      replace BK154 := Aside0.mk (blk_below (g := gb154) (o := poCx5_0 a2_0 a2_1 a2_2 a2_3) pmCx5_5_ hb)
      replace BK164 := Aside0.mk (blk_below (g := gb164) (o := poCx5_0 t156 t157 t158 t159) pmCx5_10_ hb)
      replace BK165 := Aside0.mk (blk_below (g := gb165) (o := poCx5_0 t160 t161 t162 t163) pmCx5_11_ hb)
      replace BK174 := Aside0.mk (blk_below (g := gb174) (o := poCx5_0 t166 t167 t168 t169) pmCx5_13_ hb)
      replace BK175 := Aside0.mk (blk_below (g := gb175) (o := poCx5_0 t170 t171 t172 t173) pmCx5_14_ hb)
      replace HB := Aside0.mk (below_step pmCx5_0_ hb)
      (try clear hb)
      (try clear hb2)
      (try clear hk)
      (try clear hi)
      refine hK.out _ _ pmCx5_15_ (fun hHeld => ?_)
      clear hK K
      refine norm_ (a' := ?_) ?_ ?_
      rotate_left
      · show Act.put _ (some 47) _ = _
        simp only [Act.put, List.setIfInBounds_toArray, List.set_cons_zero, List.set_cons_succ, i64_w, i32_w]
        rfl
      refine pure_ (i := 23) (N := some 48) (v := ?_) (a' := ?_) pbCx5_24 rfl rfl (any_of HT_.out pmCx5_17_) (fun _ _ _ h => h) (Or.inl ⟨by rfl, ?_⟩) ?_ ?_
      rotate_left
      · intro w'
        go_simp
        with_reducible rfl
      rotate_left
      · simp only [Act.put, List.setIfInBounds_toArray, List.set_cons_zero, List.set_cons_succ, i64_w, i32_w]
        rfl
      refine pure_ (i := 24) (N := some 49) (v := ?_) (a' := ?_) pbCx5_25 rfl rfl (any_of HT_.out pmCx5_17_) (fun _ _ _ h => h) (Or.inl ⟨by rfl, ?_⟩) ?_ ?_
      rotate_left
      · intro w'
        go_simp
        with_reducible rfl
      rotate_left
      · simp only [Act.put, List.setIfInBounds_toArray, List.set_cons_zero, List.set_cons_succ, i64_w, i32_w]
        rfl
      refine pure_ (i := 25) (N := some 50) (v := ?_) (a' := ?_) pbCx5_26 rfl rfl (any_of HT_.out pmCx5_17_) (fun _ _ _ h => h) (Or.inl ⟨by rfl, ?_⟩) ?_ ?_
      rotate_left
      · intro w'
        go_simp
        with_reducible rfl
      rotate_left
      · simp only [Act.put, List.setIfInBounds_toArray, List.set_cons_zero, List.set_cons_succ, i64_w, i32_w]
        rfl
      refine take_ (i := 26) (N := some 51) (v := ?_) (a' := ?_) pbCx5_27 rfl rfl (take_ofW HT_.out HW_.out pmCx5_17_) (fun _ _ _ h => h) (Or.inl ⟨by rfl, ?_⟩) hHeld ?_ ?_
      rotate_left
      · rintro w' ⟨s0, s1, s2, s3, s4, s5, s6, s7⟩
        go_simp
        with_reducible rfl
      rotate_left
      · simp only [Act.put, List.setIfInBounds_toArray, List.set_cons_zero, List.set_cons_succ, i64_w, i32_w]
        rfl
      refine take_ (i := 28) (N := some 53) (v := ?_) (a' := ?_) pbCx5_28 rfl rfl (take_ofW HT_.out HW_.out pmCx5_17_) (fun _ _ _ h => h) (Or.inl ⟨by rfl, ?_⟩) hHeld ?_ ?_
      rotate_left
      · rintro w' ⟨s0, s1, s2, s3, s4, s5, s6, s7⟩
        go_simp
        with_reducible rfl
      rotate_left
      · simp only [Act.put, List.setIfInBounds_toArray, List.set_cons_zero, List.set_cons_succ, i64_w, i32_w]
        rfl
      refine one_ (i := 27) (N := some 52) pbCx5_29 rfl rfl (one_of HT_.out pmCx5_17_) pmCx5_29_ (fun K hK => ?_)
      refine goes_ Try.func14 pmCx5_17_ rfl #[.agg #[.int .i64 a1_0, .int .i64 a1_1, .int .i64 a1_2, .int .i64 a1_3]] (by rfl) rfl rfl pmCx5_12_ ?_
      with_reducible refine (occupy_Turn.calls a1_0 a1_1 a1_2 a1_3 t182 t183 t184 t185 _ A47.out).mono ?_
      rintro e w92 ⟨rfl, hb⟩
      refine ⟨_, rfl, ?_⟩
      replace BK153 := Aside0.mk (blk_below (g := gb153) (o := poCx5_0 a1_0 a1_1 a1_2 a1_3) pmCx5_4_ hb)
      replace BK154 := Aside0.mk (blk_below (g := gb154) (o := poCx5_0 a2_0 a2_1 a2_2 a2_3) pmCx5_5_ hb)
      replace BK164 := Aside0.mk (blk_below (g := gb164) (o := poCx5_0 t156 t157 t158 t159) pmCx5_10_ hb)
      replace BK165 := Aside0.mk (blk_below (g := gb165) (o := poCx5_0 t160 t161 t162 t163) pmCx5_11_ hb)
      replace BK174 := Aside0.mk (blk_below (g := gb174) (o := poCx5_0 t166 t167 t168 t169) pmCx5_13_ hb)
      replace BK175 := Aside0.mk (blk_below (g := gb175) (o := poCx5_0 t170 t171 t172 t173) pmCx5_14_ hb)
      replace HB := Aside0.mk (below_step pmCx5_0_ hb)
      (try clear hb)
      (try clear hb2)
      (try clear hk)
      (try clear hi)
      refine hK.out _ _ pmCx5_15_ (fun hHeld => ?_)
      clear hK K
      refine norm_ (a' := ?_) ?_ ?_
      rotate_left
      · show Act.put _ (some 52) _ = _
        simp only [Act.put, List.setIfInBounds_toArray, List.set_cons_zero, List.set_cons_succ, i64_w, i32_w]
        rfl
      refine one_ (i := 29) (N := some 54) pbCx5_30 rfl rfl (one_of HT_.out pmCx5_17_) pmCx5_29_ (fun K hK => ?_)
      refine goes_ Try.func20 pmCx5_17_ rfl #[.agg #[.int .i64 a1_0, .int .i64 a1_1, .int .i64 a1_2, .int .i64 a1_3]] (by rfl) rfl rfl pmCx5_12_ ?_
      with_reducible refine (parterreref19_Turn.calls a1_0 a1_1 a1_2 a1_3 t186 t187 t188 t189 _ A48.out).mono ?_
      rintro e w93 ⟨rfl, hb⟩
      refine ⟨_, rfl, ?_⟩
      replace BK153 := Aside0.mk (blk_below (g := gb153) (o := poCx5_0 a1_0 a1_1 a1_2 a1_3) pmCx5_4_ hb)
      replace BK154 := Aside0.mk (blk_below (g := gb154) (o := poCx5_0 a2_0 a2_1 a2_2 a2_3) pmCx5_5_ hb)
      replace BK164 := Aside0.mk (blk_below (g := gb164) (o := poCx5_0 t156 t157 t158 t159) pmCx5_10_ hb)
      replace BK165 := Aside0.mk (blk_below (g := gb165) (o := poCx5_0 t160 t161 t162 t163) pmCx5_11_ hb)
      replace BK174 := Aside0.mk (blk_below (g := gb174) (o := poCx5_0 t166 t167 t168 t169) pmCx5_13_ hb)
      replace BK175 := Aside0.mk (blk_below (g := gb175) (o := poCx5_0 t170 t171 t172 t173) pmCx5_14_ hb)
      replace HB := Aside0.mk (below_step pmCx5_0_ hb)
      (try clear hb)
      (try clear hb2)
      (try clear hk)
      (try clear hi)
      refine hK.out _ _ pmCx5_15_ (fun hHeld => ?_)
      clear hK K
      refine norm_ (a' := ?_) ?_ ?_
      rotate_left
      · show Act.put _ (some 54) _ = _
        simp only [Act.put, List.setIfInBounds_toArray, List.set_cons_zero, List.set_cons_succ, i64_w, i32_w]
        rfl
      refine pure_ (i := 30) (N := some 55) (v := ?_) (a' := ?_) pbCx5_31 rfl rfl (any_of HT_.out pmCx5_17_) (fun _ _ _ h => h) (Or.inl ⟨by rfl, ?_⟩) ?_ ?_
      rotate_left
      · intro w'
        go_simp
        with_reducible rfl
      rotate_left
      · simp only [Act.put, List.setIfInBounds_toArray, List.set_cons_zero, List.set_cons_succ, i64_w, i32_w]
        rfl
      refine pure_ (i := 31) (N := some 56) (v := ?_) (a' := ?_) pbCx5_32 rfl rfl (any_of HT_.out pmCx5_17_) (fun _ _ _ h => h) (Or.inl ⟨by rfl, ?_⟩) ?_ ?_
      rotate_left
      · intro w'
        go_simp
        with_reducible rfl
      rotate_left
      · simp only [Act.put, List.setIfInBounds_toArray, List.set_cons_zero, List.set_cons_succ, i64_w, i32_w]
        rfl
      refine pure_ (i := 32) (N := some 57) (v := ?_) (a' := ?_) pbCx5_33 rfl rfl (any_of HT_.out pmCx5_17_) (fun _ _ _ h => h) (Or.inl ⟨by rfl, ?_⟩) ?_ ?_
      rotate_left
      · intro w'
        go_simp
        with_reducible rfl
      rotate_left
      · simp only [Act.put, List.setIfInBounds_toArray, List.set_cons_zero, List.set_cons_succ, i64_w, i32_w]
        rfl
      refine pure_ (i := 33) (N := some 58) (v := undef) (a' := ?_) pbCx5_34 rfl rfl (any_of HT_.out pmCx5_17_) (fun _ _ _ h => h) (Or.inr ⟨by rfl, rfl⟩) ?_ ?_
      rotate_left
      · simp only [Act.put, List.setIfInBounds_toArray, List.set_cons_zero, List.set_cons_succ, i64_w, i32_w]
        rfl
      refine pure_ (i := 34) (N := some 59) (v := undef) (a' := ?_) pbCx5_35 rfl rfl (any_of HT_.out pmCx5_17_) (fun _ _ _ h => h) (Or.inr ⟨by rfl, rfl⟩) ?_ ?_
      rotate_left
      · simp only [Act.put, List.setIfInBounds_toArray, List.set_cons_zero, List.set_cons_succ, i64_w, i32_w]
        rfl
      refine pure_ (i := 35) (N := some 60) (v := undef) (a' := ?_) pbCx5_36 rfl rfl (any_of HT_.out pmCx5_17_) (fun _ _ _ h => h) (Or.inr ⟨by rfl, rfl⟩) ?_ ?_
      rotate_left
      · simp only [Act.put, List.setIfInBounds_toArray, List.set_cons_zero, List.set_cons_succ, i64_w, i32_w]
        rfl
      refine pure_ (i := 36) (N := some 61) (v := ?_) (a' := ?_) pbCx5_37 rfl rfl (any_of HT_.out pmCx5_17_) (fun _ _ _ h => h) (Or.inl ⟨by rfl, ?_⟩) ?_ ?_
      rotate_left
      · intro w'
        go_simp
        with_reducible rfl
      rotate_left
      · simp only [Act.put, List.setIfInBounds_toArray, List.set_cons_zero, List.set_cons_succ, i64_w, i32_w]
        rfl
      refine pure_ (i := 37) (N := some 62) (v := ?_) (a' := ?_) pbCx5_38 rfl rfl (any_of HT_.out pmCx5_17_) (fun _ _ _ h => h) (Or.inl ⟨by rfl, ?_⟩) ?_ ?_
      rotate_left
      · intro w'
        go_simp
        with_reducible rfl
      rotate_left
      · simp only [Act.put, List.setIfInBounds_toArray, List.set_cons_zero, List.set_cons_succ, i64_w, i32_w]
        rfl
      refine pure_ (i := 38) (N := some 63) (v := undef) (a' := ?_) pbCx5_39 rfl rfl (any_of HT_.out pmCx5_17_) (fun _ _ _ h => h) (Or.inr ⟨by rfl, rfl⟩) ?_ ?_
      rotate_left
      · simp only [Act.put, List.setIfInBounds_toArray, List.set_cons_zero, List.set_cons_succ, i64_w, i32_w]
        rfl
      refine pure_ (i := 39) (N := some 64) (v := undef) (a' := ?_) pbCx5_40 rfl rfl (any_of HT_.out pmCx5_17_) (fun _ _ _ h => h) (Or.inr ⟨by rfl, rfl⟩) ?_ ?_
      rotate_left
      · simp only [Act.put, List.setIfInBounds_toArray, List.set_cons_zero, List.set_cons_succ, i64_w, i32_w]
        rfl
      refine pure_ (i := 40) (N := some 65) (v := undef) (a' := ?_) pbCx5_41 rfl rfl (any_of HT_.out pmCx5_17_) (fun _ _ _ h => h) (Or.inr ⟨by rfl, rfl⟩) ?_ ?_
      rotate_left
      · simp only [Act.put, List.setIfInBounds_toArray, List.set_cons_zero, List.set_cons_succ, i64_w, i32_w]
        rfl
      refine pure_ (i := 41) (N := some 66) (v := ?_) (a' := ?_) pbCx5_42 rfl rfl (any_of HT_.out pmCx5_17_) (fun _ _ _ h => h) (Or.inl ⟨by rfl, ?_⟩) ?_ ?_
      rotate_left
      · intro w'
        go_simp
        with_reducible rfl
      rotate_left
      · simp only [Act.put, List.setIfInBounds_toArray, List.set_cons_zero, List.set_cons_succ, i64_w, i32_w]
        rfl
      refine pure_ (i := 42) (N := some 67) (v := ?_) (a' := ?_) pbCx5_43 rfl rfl (any_of HT_.out pmCx5_17_) (fun _ _ _ h => h) (Or.inl ⟨by rfl, ?_⟩) ?_ ?_
      rotate_left
      · intro w'
        go_simp
        with_reducible rfl
      rotate_left
      · simp only [Act.put, List.setIfInBounds_toArray, List.set_cons_zero, List.set_cons_succ, i64_w, i32_w]
        rfl
      refine pure_ (i := 43) (N := some 68) (v := undef) (a' := ?_) pbCx5_44 rfl rfl (any_of HT_.out pmCx5_17_) (fun _ _ _ h => h) (Or.inr ⟨by rfl, rfl⟩) ?_ ?_
      rotate_left
      · simp only [Act.put, List.setIfInBounds_toArray, List.set_cons_zero, List.set_cons_succ, i64_w, i32_w]
        rfl
      refine pure_ (i := 44) (N := some 69) (v := ?_) (a' := ?_) pbCx5_45 rfl rfl (any_of HT_.out pmCx5_17_) (fun _ _ _ h => h) (Or.inl ⟨by rfl, ?_⟩) ?_ ?_
      rotate_left
      · intro w'
        go_simp
        with_reducible rfl
      rotate_left
      · simp only [Act.put, List.setIfInBounds_toArray, List.set_cons_zero, List.set_cons_succ, i64_w, i32_w]
        rfl
      refine pure_ (i := 45) (N := some 6) (v := ?_) (a' := ?_) pbCx5_46 rfl rfl (any_of HT_.out pmCx5_17_) (fun _ _ _ h => h) (Or.inl ⟨by rfl, ?_⟩) ?_ ?_
      rotate_left
      · intro w'
        go_simp
        with_reducible rfl
      rotate_left
      · simp only [Act.put, List.setIfInBounds_toArray, List.set_cons_zero, List.set_cons_succ, i64_w, i32_w]
        rfl
      refine done_ (done_of HT_.out pmCx5_17_) ?_
      try go_wp2
      go_meet
      case rel => exact ⟨_, (false), pmCx5_28_, H', ⟨pmCx5_30_⟩, ⟨pmCx5_4_⟩, ⟨pmCx5_5_⟩, ⟨pmCx5_10_⟩, ⟨pmCx5_11_⟩, ⟨pmCx5_13_⟩, ⟨pmCx5_14_⟩, ⟨pmCx5_0_⟩⟩
    rw [if_pos c49] at H
    have c49b0 : (t182 == t186 && (t183 == t187 && (t184 == t188 && (t185 == t189)))) = true := c49
    (try (have c49b1 : decide (t182 = t186 && (t183 == t187 && (t184 == t188 && (t185 == t189)))) = true := by simpa using c49))
    (try (have c49b2 : (t182 == t186 && (t183 == t187 && (t184 == t188 && (t185 == t189)))) = true := by simpa using c49))
    clear c49
    by_cases c50 : (t156 == t166 && (t157 == t167 && (t158 == t168 && (t159 == t169)))) = true
    rotate_left
    · rw [if_neg c50] at H
      have c50b0 : (t156 == t166 && (t157 == t167 && (t158 == t168 && (t159 == t169)))) = false := by simpa using c50
      (try (have c50b1 : decide (t156 = t166 && (t157 == t167 && (t158 == t168 && (t159 == t169)))) = false := by simpa using c50))
      (try (have c50b2 : (t156 == t166 && (t157 == t167 && (t158 == t168 && (t159 == t169)))) = false := by simpa using c50))
      (try (have c50b3 : ¬ (t156 = t166 && (t157 == t167 && (t158 == t168 && (t159 == t169)))) := by simpa using c50))
      clear c50
      have H' := Aside0.mk H
      clear H
      try go_wp2
      have n0_ : Aside0 ((pwCx5_0 w26 gb174 gb175 t166 t167 t168 t169 t170 t171 t172 t173).heap[gb153]? = some (.cells #[.int .i64 a1_0, .int .i64 a1_1, .int .i64 a1_2, .int .i64 a1_3] 24 (0, 0))) := ⟨pmCx5_6_⟩
      have n1_ : Aside0 ((pwCx5_0 w26 gb174 gb175 t166 t167 t168 t169 t170 t171 t172 t173).heap[gb154]? = some (.cells #[.int .i64 a2_0, .int .i64 a2_1, .int .i64 a2_2, .int .i64 a2_3] 24 (0, 0))) := ⟨pmCx5_7_⟩
      have n2_ : Aside0 ((pwCx5_0 w26 gb174 gb175 t166 t167 t168 t169 t170 t171 t172 t173).heap[gb164]? = some (.cells #[.int .i64 t156, .int .i64 t157, .int .i64 t158, .int .i64 t159] 24 (0, 0))) := ⟨pmCx5_8_⟩
      have n3_ : Aside0 ((pwCx5_0 w26 gb174 gb175 t166 t167 t168 t169 t170 t171 t172 t173).heap[gb165]? = some (.cells #[.int .i64 t160, .int .i64 t161, .int .i64 t162, .int .i64 t163] 24 (0, 0))) := ⟨pmCx5_9_⟩
      have n4_ : Aside0 ((pwCx5_0 w26 gb174 gb175 t166 t167 t168 t169 t170 t171 t172 t173).heap[gb174]? = some (.cells #[.int .i64 t166, .int .i64 t167, .int .i64 t168, .int .i64 t169] 24 (0, 0))) := ⟨pmCx5_2_⟩
      have n5_ : Aside0 ((pwCx5_0 w26 gb174 gb175 t166 t167 t168 t169 t170 t171 t172 t173).heap[gb175]? = some (.cells #[.int .i64 t170, .int .i64 t171, .int .i64 t172, .int .i64 t173] 24 (0, 0))) := ⟨pmCx5_3_⟩
      have n6_ : Aside0 (Below w.heap.size w (pwCx5_0 w26 gb174 gb175 t166 t167 t168 t169 t170 t171 t172 t173)) := ⟨pmCx5_0_⟩
      (try clear BK153)
      (try clear BK154)
      (try clear BK164)
      (try clear BK165)
      (try clear BK174)
      (try clear BK175)
      (try clear HB)
      unfold pwCx5_0 at n0_ n1_ n2_ n3_ n4_ n5_ n6_
      generalize ((((((((w26.setCell ⟨gb174, 0, none⟩ (.int .i64 t166)).setCell ⟨gb174, 1, none⟩ (.int .i64 t167)).setCell ⟨gb174, 2, none⟩ (.int .i64 t168)).setCell ⟨gb174, 3, none⟩ (.int .i64 t169)).setCell ⟨gb175, 0, none⟩ (.int .i64 t170)).setCell ⟨gb175, 1, none⟩ (.int .i64 t171)).setCell ⟨gb175, 2, none⟩ (.int .i64 t172)).setCell ⟨gb175, 3, none⟩ (.int .i64 t173)) = w74 at n0_ n1_ n2_ n3_ n4_ n5_ n6_ ⊢
      have BK153 := n0_
      have BK154 := n1_
      have BK164 := n2_
      have BK165 := n3_
      have BK174 := n4_
      have BK175 := n5_
      have HB := n6_
      clear n0_ n1_ n2_ n3_ n4_ n5_ n6_
      replace BK153 := Aside0.mk (blk_drew BK153.out)
      replace BK154 := Aside0.mk (blk_drew BK154.out)
      replace BK164 := Aside0.mk (blk_drew BK164.out)
      replace BK165 := Aside0.mk (blk_drew BK165.out)
      replace BK174 := Aside0.mk (blk_drew BK174.out)
      replace BK175 := Aside0.mk (blk_drew BK175.out)
      replace HB := Aside0.mk (below_drew1 HB.out)
      refine start_ (n := 46) (S := fun w' => w'.cell? ⟨gb153, 0, none⟩ = some (.int .i64 a1_0) ∧ w'.cell? ⟨gb153, 1, none⟩ = some (.int .i64 a1_1) ∧ w'.cell? ⟨gb153, 2, none⟩ = some (.int .i64 a1_2) ∧ w'.cell? ⟨gb153, 3, none⟩ = some (.int .i64 a1_3) ∧ w'.cell? ⟨gb154, 0, none⟩ = some (.int .i64 a2_0) ∧ w'.cell? ⟨gb154, 1, none⟩ = some (.int .i64 a2_1) ∧ w'.cell? ⟨gb154, 2, none⟩ = some (.int .i64 a2_2) ∧ w'.cell? ⟨gb154, 3, none⟩ = some (.int .i64 a2_3) ∧ w'.cell? ⟨gb164, 0, none⟩ = some (.int .i64 t156) ∧ w'.cell? ⟨gb164, 1, none⟩ = some (.int .i64 t157) ∧ w'.cell? ⟨gb164, 2, none⟩ = some (.int .i64 t158) ∧ w'.cell? ⟨gb164, 3, none⟩ = some (.int .i64 t159) ∧ w'.cell? ⟨gb174, 0, none⟩ = some (.int .i64 t166) ∧ w'.cell? ⟨gb174, 1, none⟩ = some (.int .i64 t167) ∧ w'.cell? ⟨gb174, 2, none⟩ = some (.int .i64 t168) ∧ w'.cell? ⟨gb174, 3, none⟩ = some (.int .i64 t169)) (ds := []) pbCx5_0 pmCx5_17_ rfl rfl ⟨(blk_cell BK153.out 0).trans rfl, (blk_cell BK153.out 1).trans rfl, (blk_cell BK153.out 2).trans rfl, (blk_cell BK153.out 3).trans rfl, (blk_cell BK154.out 0).trans rfl, (blk_cell BK154.out 1).trans rfl, (blk_cell BK154.out 2).trans rfl, (blk_cell BK154.out 3).trans rfl, (blk_cell BK164.out 0).trans rfl, (blk_cell BK164.out 1).trans rfl, (blk_cell BK164.out 2).trans rfl, (blk_cell BK164.out 3).trans rfl, (blk_cell BK174.out 0).trans rfl, (blk_cell BK174.out 1).trans rfl, (blk_cell BK174.out 2).trans rfl, (blk_cell BK174.out 3).trans rfl⟩ (fun hHeld => ?_); refine with_tabW parterrelaw19_OccupyOverlaps.tab5 parterrelaw19_OccupyOverlaps.bits5 (fun HT_ HW_ => ?_)
      generalize w74.drew = w75 at BK153 BK154 BK164 BK165 BK174 BK175 HB hHeld ⊢
      refine take_ (i := 0) (N := some 25) (v := ?_) (a' := ?_) pbCx5_1 rfl rfl (take_ofW HT_.out HW_.out pmCx5_17_) (fun _ _ _ h => h) (Or.inl ⟨by rfl, ?_⟩) hHeld ?_ ?_
      rotate_left
      · rintro w' ⟨s0, s1, s2, s3, s4, s5, s6, s7, s8, s9, s10, s11, s12, s13, s14, s15⟩
        go_simp
        with_reducible rfl
      rotate_left
      · simp only [Act.put, List.setIfInBounds_toArray, List.set_cons_zero, List.set_cons_succ, i64_w, i32_w]
        rfl
      refine take_ (i := 1) (N := some 26) (v := ?_) (a' := ?_) pbCx5_2 rfl rfl (take_ofW HT_.out HW_.out pmCx5_17_) (fun _ _ _ h => h) (Or.inl ⟨by rfl, ?_⟩) hHeld ?_ ?_
      rotate_left
      · rintro w' ⟨s0, s1, s2, s3, s4, s5, s6, s7, s8, s9, s10, s11, s12, s13, s14, s15⟩
        go_simp
        with_reducible rfl
      rotate_left
      · simp only [Act.put, List.setIfInBounds_toArray, List.set_cons_zero, List.set_cons_succ, i64_w, i32_w]
        rfl
      refine take_ (i := 3) (N := some 28) (v := ?_) (a' := ?_) pbCx5_3 rfl rfl (take_ofW HT_.out HW_.out pmCx5_17_) (fun _ _ _ h => h) (Or.inl ⟨by rfl, ?_⟩) hHeld ?_ ?_
      rotate_left
      · rintro w' ⟨s0, s1, s2, s3, s4, s5, s6, s7, s8, s9, s10, s11, s12, s13, s14, s15⟩
        go_simp
        with_reducible rfl
      rotate_left
      · simp only [Act.put, List.setIfInBounds_toArray, List.set_cons_zero, List.set_cons_succ, i64_w, i32_w]
        rfl
      refine take_ (i := 4) (N := some 29) (v := ?_) (a' := ?_) pbCx5_4 rfl rfl (take_ofW HT_.out HW_.out pmCx5_17_) (fun _ _ _ h => h) (Or.inl ⟨by rfl, ?_⟩) hHeld ?_ ?_
      rotate_left
      · rintro w' ⟨s0, s1, s2, s3, s4, s5, s6, s7, s8, s9, s10, s11, s12, s13, s14, s15⟩
        go_simp
        with_reducible rfl
      rotate_left
      · simp only [Act.put, List.setIfInBounds_toArray, List.set_cons_zero, List.set_cons_succ, i64_w, i32_w]
        rfl
      refine one_ (i := 2) (N := some 27) pbCx5_5 rfl rfl (one_of HT_.out pmCx5_17_) pmCx5_29_ (fun K hK => ?_)
      refine goes_ Try.func17 pmCx5_17_ rfl #[.agg #[.int .i64 a1_0, .int .i64 a1_1, .int .i64 a1_2, .int .i64 a1_3], .agg #[.int .i64 a2_0, .int .i64 a2_1, .int .i64 a2_2, .int .i64 a2_3]] (by rfl) rfl rfl pmCx5_12_ ?_
      with_reducible refine (occupy_Overlap.calls k a1_0 a1_1 a1_2 a1_3 a2_0 a2_1 a2_2 a2_3 t176 _ A38.out).mono ?_
      rintro e w76 ⟨rfl, hb⟩
      refine ⟨_, rfl, ?_⟩
      replace BK153 := Aside0.mk (blk_below (g := gb153) (o := poCx5_0 a1_0 a1_1 a1_2 a1_3) pmCx5_4_ hb)
      replace BK154 := Aside0.mk (blk_below (g := gb154) (o := poCx5_0 a2_0 a2_1 a2_2 a2_3) pmCx5_5_ hb)
      replace BK164 := Aside0.mk (blk_below (g := gb164) (o := poCx5_0 t156 t157 t158 t159) pmCx5_10_ hb)
      replace BK165 := Aside0.mk (blk_below (g := gb165) (o := poCx5_0 t160 t161 t162 t163) pmCx5_11_ hb)
      replace BK174 := Aside0.mk (blk_below (g := gb174) (o := poCx5_0 t166 t167 t168 t169) pmCx5_13_ hb)
      replace BK175 := Aside0.mk (blk_below (g := gb175) (o := poCx5_0 t170 t171 t172 t173) pmCx5_14_ hb)
      replace HB := Aside0.mk (below_step pmCx5_0_ hb)
      (try clear hb)
      (try clear hb2)
      (try clear hk)
      (try clear hi)
      refine hK.out _ _ pmCx5_16_ (fun hHeld => ?_)
      clear hK K
      refine norm_ (a' := ?_) ?_ ?_
      rotate_left
      · show Act.put _ (some 27) _ = _
        simp only [Act.put, List.setIfInBounds_toArray, List.set_cons_zero, List.set_cons_succ, i64_w, i32_w]
        rfl
      refine one_ (i := 5) (N := some 30) pbCx5_6 rfl rfl (one_of HT_.out pmCx5_17_) pmCx5_29_ (fun K hK => ?_)
      refine goes_ Try.func18 pmCx5_17_ rfl #[.agg #[.int .i64 a1_0, .int .i64 a1_1, .int .i64 a1_2, .int .i64 a1_3], .agg #[.int .i64 a2_0, .int .i64 a2_1, .int .i64 a2_2, .int .i64 a2_3]] (by rfl) rfl rfl pmCx5_12_ ?_
      with_reducible refine (parterreref19_Overlap.calls a1_0 a1_1 a1_2 a1_3 a2_0 a2_1 a2_2 a2_3 t177 _ A39.out).mono ?_
      rintro e w77 ⟨rfl, hb⟩
      refine ⟨_, rfl, ?_⟩
      replace BK153 := Aside0.mk (blk_below (g := gb153) (o := poCx5_0 a1_0 a1_1 a1_2 a1_3) pmCx5_4_ hb)
      replace BK154 := Aside0.mk (blk_below (g := gb154) (o := poCx5_0 a2_0 a2_1 a2_2 a2_3) pmCx5_5_ hb)
      replace BK164 := Aside0.mk (blk_below (g := gb164) (o := poCx5_0 t156 t157 t158 t159) pmCx5_10_ hb)
      replace BK165 := Aside0.mk (blk_below (g := gb165) (o := poCx5_0 t160 t161 t162 t163) pmCx5_11_ hb)
      replace BK174 := Aside0.mk (blk_below (g := gb174) (o := poCx5_0 t166 t167 t168 t169) pmCx5_13_ hb)
      replace BK175 := Aside0.mk (blk_below (g := gb175) (o := poCx5_0 t170 t171 t172 t173) pmCx5_14_ hb)
      replace HB := Aside0.mk (below_step pmCx5_0_ hb)
      (try clear hb)
      (try clear hb2)
      (try clear hk)
      (try clear hi)
      refine hK.out _ _ pmCx5_16_ (fun hHeld => ?_)
      clear hK K
      refine norm_ (a' := ?_) ?_ ?_
      rotate_left
      · show Act.put _ (some 30) _ = _
        simp only [Act.put, List.setIfInBounds_toArray, List.set_cons_zero, List.set_cons_succ, i64_w, i32_w]
        rfl
      refine pure_ (i := 6) (N := some 31) (v := ?_) (a' := ?_) pbCx5_7 rfl rfl (any_of HT_.out pmCx5_17_) (fun _ _ _ h => h) (Or.inl ⟨by rfl, ?_⟩) ?_ ?_
      rotate_left
      · intro w'
        go_simp
        with_reducible rfl
      rotate_left
      · simp only [Act.put, List.setIfInBounds_toArray, List.set_cons_zero, List.set_cons_succ, i64_w, i32_w]
        rfl
      refine pure_ (i := 7) (N := some 32) (v := ?_) (a' := ?_) pbCx5_8 rfl rfl (any_of HT_.out pmCx5_17_) (fun _ _ _ h => h) (Or.inl ⟨by rfl, ?_⟩) ?_ ?_
      rotate_left
      · intro w'
        go_simp
        with_reducible rfl
      rotate_left
      · simp only [Act.put, List.setIfInBounds_toArray, List.set_cons_zero, List.set_cons_succ, i64_w, i32_w]
        rfl
      refine take_ (i := 8) (N := some 33) (v := ?_) (a' := ?_) pbCx5_9 rfl rfl (take_ofW HT_.out HW_.out pmCx5_17_) (fun _ _ _ h => h) (Or.inl ⟨by rfl, ?_⟩) hHeld ?_ ?_
      rotate_left
      · rintro w' ⟨s0, s1, s2, s3, s4, s5, s6, s7, s8, s9, s10, s11, s12, s13, s14, s15⟩
        go_simp
        with_reducible rfl
      rotate_left
      · simp only [Act.put, List.setIfInBounds_toArray, List.set_cons_zero, List.set_cons_succ, i64_w, i32_w]
        rfl
      refine take_ (i := 9) (N := some 34) (v := ?_) (a' := ?_) pbCx5_10 rfl rfl (take_ofW HT_.out HW_.out pmCx5_17_) (fun _ _ _ h => h) (Or.inl ⟨by rfl, ?_⟩) hHeld ?_ ?_
      rotate_left
      · rintro w' ⟨s0, s1, s2, s3, s4, s5, s6, s7, s8, s9, s10, s11, s12, s13, s14, s15⟩
        go_simp
        with_reducible rfl
      rotate_left
      · simp only [Act.put, List.setIfInBounds_toArray, List.set_cons_zero, List.set_cons_succ, i64_w, i32_w]
        rfl
      refine take_ (i := 11) (N := some 36) (v := ?_) (a' := ?_) pbCx5_11 rfl rfl (take_ofW HT_.out HW_.out pmCx5_17_) (fun _ _ _ h => h) (Or.inl ⟨by rfl, ?_⟩) hHeld ?_ ?_
      rotate_left
      · rintro w' ⟨s0, s1, s2, s3, s4, s5, s6, s7, s8, s9, s10, s11, s12, s13, s14, s15⟩
        go_simp
        with_reducible rfl
      rotate_left
      · simp only [Act.put, List.setIfInBounds_toArray, List.set_cons_zero, List.set_cons_succ, i64_w, i32_w]
        rfl
      refine take_ (i := 12) (N := some 37) (v := ?_) (a' := ?_) pbCx5_12 rfl rfl (take_ofW HT_.out HW_.out pmCx5_17_) (fun _ _ _ h => h) (Or.inl ⟨by rfl, ?_⟩) hHeld ?_ ?_
      rotate_left
      · rintro w' ⟨s0, s1, s2, s3, s4, s5, s6, s7, s8, s9, s10, s11, s12, s13, s14, s15⟩
        go_simp
        with_reducible rfl
      rotate_left
      · simp only [Act.put, List.setIfInBounds_toArray, List.set_cons_zero, List.set_cons_succ, i64_w, i32_w]
        rfl
      refine one_ (i := 10) (N := some 35) pbCx5_13 rfl rfl (one_of HT_.out pmCx5_17_) pmCx5_29_ (fun K hK => ?_)
      refine goes_ Try.func17 pmCx5_17_ rfl #[.agg #[.int .i64 a2_0, .int .i64 a2_1, .int .i64 a2_2, .int .i64 a2_3], .agg #[.int .i64 a1_0, .int .i64 a1_1, .int .i64 a1_2, .int .i64 a1_3]] (by rfl) rfl rfl pmCx5_12_ ?_
      with_reducible refine (occupy_Overlap.calls k a2_0 a2_1 a2_2 a2_3 a1_0 a1_1 a1_2 a1_3 t178 _ A41.out).mono ?_
      rintro e w78 ⟨rfl, hb⟩
      refine ⟨_, rfl, ?_⟩
      replace BK153 := Aside0.mk (blk_below (g := gb153) (o := poCx5_0 a1_0 a1_1 a1_2 a1_3) pmCx5_4_ hb)
      replace BK154 := Aside0.mk (blk_below (g := gb154) (o := poCx5_0 a2_0 a2_1 a2_2 a2_3) pmCx5_5_ hb)
      replace BK164 := Aside0.mk (blk_below (g := gb164) (o := poCx5_0 t156 t157 t158 t159) pmCx5_10_ hb)
      replace BK165 := Aside0.mk (blk_below (g := gb165) (o := poCx5_0 t160 t161 t162 t163) pmCx5_11_ hb)
      replace BK174 := Aside0.mk (blk_below (g := gb174) (o := poCx5_0 t166 t167 t168 t169) pmCx5_13_ hb)
      replace BK175 := Aside0.mk (blk_below (g := gb175) (o := poCx5_0 t170 t171 t172 t173) pmCx5_14_ hb)
      replace HB := Aside0.mk (below_step pmCx5_0_ hb)
      (try clear hb)
      (try clear hb2)
      (try clear hk)
      (try clear hi)
      refine hK.out _ _ pmCx5_16_ (fun hHeld => ?_)
      clear hK K
      refine norm_ (a' := ?_) ?_ ?_
      rotate_left
      · show Act.put _ (some 35) _ = _
        simp only [Act.put, List.setIfInBounds_toArray, List.set_cons_zero, List.set_cons_succ, i64_w, i32_w]
        rfl
      refine one_ (i := 13) (N := some 38) pbCx5_14 rfl rfl (one_of HT_.out pmCx5_17_) pmCx5_29_ (fun K hK => ?_)
      refine goes_ Try.func18 pmCx5_17_ rfl #[.agg #[.int .i64 a1_0, .int .i64 a1_1, .int .i64 a1_2, .int .i64 a1_3], .agg #[.int .i64 a2_0, .int .i64 a2_1, .int .i64 a2_2, .int .i64 a2_3]] (by rfl) rfl rfl pmCx5_12_ ?_
      with_reducible refine (parterreref19_Overlap.calls a1_0 a1_1 a1_2 a1_3 a2_0 a2_1 a2_2 a2_3 t179 _ A42.out).mono ?_
      rintro e w79 ⟨rfl, hb⟩
      refine ⟨_, rfl, ?_⟩
      replace BK153 := Aside0.mk (blk_below (g := gb153) (o := poCx5_0 a1_0 a1_1 a1_2 a1_3) pmCx5_4_ hb)
      replace BK154 := Aside0.mk (blk_below (g := gb154) (o := poCx5_0 a2_0 a2_1 a2_2 a2_3) pmCx5_5_ hb)
      replace BK164 := Aside0.mk (blk_below (g := gb164) (o := poCx5_0 t156 t157 t158 t159) pmCx5_10_ hb)
      replace BK165 := Aside0.mk (blk_below (g := gb165) (o := poCx5_0 t160 t161 t162 t163) pmCx5_11_ hb)
      replace BK174 := Aside0.mk (blk_below (g := gb174) (o := poCx5_0 t166 t167 t168 t169) pmCx5_13_ hb)
      replace BK175 := Aside0.mk (blk_below (g := gb175) (o := poCx5_0 t170 t171 t172 t173) pmCx5_14_ hb)
      replace HB := Aside0.mk (below_step pmCx5_0_ hb)
      (try clear hb)
      (try clear hb2)
      (try clear hk)
      (try clear hi)
      refine hK.out _ _ pmCx5_16_ (fun hHeld => ?_)
      clear hK K
      refine norm_ (a' := ?_) ?_ ?_
      rotate_left
      · show Act.put _ (some 38) _ = _
        simp only [Act.put, List.setIfInBounds_toArray, List.set_cons_zero, List.set_cons_succ, i64_w, i32_w]
        rfl
      refine pure_ (i := 14) (N := some 39) (v := ?_) (a' := ?_) pbCx5_15 rfl rfl (any_of HT_.out pmCx5_17_) (fun _ _ _ h => h) (Or.inl ⟨by rfl, ?_⟩) ?_ ?_
      rotate_left
      · intro w'
        go_simp
        with_reducible rfl
      rotate_left
      · simp only [Act.put, List.setIfInBounds_toArray, List.set_cons_zero, List.set_cons_succ, i64_w, i32_w]
        rfl
      refine pure_ (i := 15) (N := some 40) (v := ?_) (a' := ?_) pbCx5_16 rfl rfl (any_of HT_.out pmCx5_17_) (fun _ _ _ h => h) (Or.inl ⟨by rfl, ?_⟩) ?_ ?_
      rotate_left
      · intro w'
        go_simp
        with_reducible rfl
      rotate_left
      · simp only [Act.put, List.setIfInBounds_toArray, List.set_cons_zero, List.set_cons_succ, i64_w, i32_w]
        rfl
      refine pure_ (i := 16) (N := some 41) (v := ?_) (a' := ?_) pbCx5_17 rfl rfl (any_of HT_.out pmCx5_17_) (fun _ _ _ h => h) (Or.inl ⟨by rfl, ?_⟩) ?_ ?_
      rotate_left
      · intro w'
        go_simp
        with_reducible rfl
      rotate_left
      · simp only [Act.put, List.setIfInBounds_toArray, List.set_cons_zero, List.set_cons_succ, i64_w, i32_w]
        rfl
      refine pure_ (i := 17) (N := some 42) (v := ?_) (a' := ?_) pbCx5_18 rfl rfl (any_of HT_.out pmCx5_17_) (fun _ _ _ h => h) (Or.inl ⟨by rfl, ?_⟩) ?_ ?_
      rotate_left
      · intro w'
        go_simp
        with_reducible rfl
      rotate_left
      · simp only [Act.put, List.setIfInBounds_toArray, List.set_cons_zero, List.set_cons_succ, i64_w, i32_w]
        rfl
      refine pure_ (i := 20) (N := some 45) (v := ?_) (a' := ?_) pbCx5_19 rfl rfl (any_of HT_.out pmCx5_17_) (fun _ _ _ h => h) (Or.inl ⟨by rfl, ?_⟩) ?_ ?_
      rotate_left
      · intro w'
        go_simp
        with_reducible rfl
      rotate_left
      · simp only [Act.put, List.setIfInBounds_toArray, List.set_cons_zero, List.set_cons_succ, i64_w, i32_w]
        rfl
      refine take_ (i := 18) (N := some 43) (v := ?_) (a' := ?_) pbCx5_20 rfl rfl (take_ofW HT_.out HW_.out pmCx5_17_) (fun _ _ _ h => h) (Or.inl ⟨by rfl, ?_⟩) hHeld ?_ ?_
      rotate_left
      · rintro w' ⟨s0, s1, s2, s3, s4, s5, s6, s7, s8, s9, s10, s11, s12, s13, s14, s15⟩
        go_simp
        with_reducible rfl
      rotate_left
      · simp only [Act.put, List.setIfInBounds_toArray, List.set_cons_zero, List.set_cons_succ, i64_w, i32_w]
        rfl
      refine take_ (i := 21) (N := some 46) (v := ?_) (a' := ?_) pbCx5_21 rfl rfl (take_ofW HT_.out HW_.out pmCx5_17_) (fun _ _ _ h => h) (Or.inl ⟨by rfl, ?_⟩) hHeld ?_ ?_
      rotate_left
      · rintro w' ⟨s0, s1, s2, s3, s4, s5, s6, s7, s8, s9, s10, s11, s12, s13, s14, s15⟩
        go_simp
        with_reducible rfl
      rotate_left
      · simp only [Act.put, List.setIfInBounds_toArray, List.set_cons_zero, List.set_cons_succ, i64_w, i32_w]
        rfl
      refine one_ (i := 19) (N := some 44) pbCx5_22 rfl rfl (one_of HT_.out pmCx5_17_) pmCx5_29_ (fun K hK => ?_)
      refine goes_ Try.func10 pmCx5_17_ rfl #[.slice A0 l0.length c0, .agg #[.int .i64 a1_0, .int .i64 a1_1, .int .i64 a1_2, .int .i64 a1_3]] (by rfl) rfl rfl pmCx5_12_ ?_
      with_reducible refine (occupy_Free.calls k _ _ l0 a1_0 a1_1 a1_2 a1_3 t180 _ ?side1 ?side2 A44.out).mono ?_
      (case side1 => repeat (first | exact (Kd.C_below HR0.out HB.out) | (with_reducible refine Kd.C_alloc ?_ _) | (with_reducible refine Kd.C_drewN ?_ _) | (with_reducible refine Kd.C_drew ?_)))
      (case side2 => exact HC0.out)
      rintro e w80 ⟨rfl, hb⟩
      refine ⟨_, rfl, ?_⟩
      replace BK153 := Aside0.mk (blk_below (g := gb153) (o := poCx5_0 a1_0 a1_1 a1_2 a1_3) pmCx5_4_ hb)
      replace BK154 := Aside0.mk (blk_below (g := gb154) (o := poCx5_0 a2_0 a2_1 a2_2 a2_3) pmCx5_5_ hb)
      replace BK164 := Aside0.mk (blk_below (g := gb164) (o := poCx5_0 t156 t157 t158 t159) pmCx5_10_ hb)
      replace BK165 := Aside0.mk (blk_below (g := gb165) (o := poCx5_0 t160 t161 t162 t163) pmCx5_11_ hb)
      replace BK174 := Aside0.mk (blk_below (g := gb174) (o := poCx5_0 t166 t167 t168 t169) pmCx5_13_ hb)
      replace BK175 := Aside0.mk (blk_below (g := gb175) (o := poCx5_0 t170 t171 t172 t173) pmCx5_14_ hb)
      replace HB := Aside0.mk (below_step pmCx5_0_ hb)
      (try clear hb)
      (try clear hb2)
      (try clear hk)
      (try clear hi)
      refine hK.out _ _ pmCx5_16_ (fun hHeld => ?_)
      clear hK K
      refine norm_ (a' := ?_) ?_ ?_
      rotate_left
      · show Act.put _ (some 44) _ = _
        simp only [Act.put, List.setIfInBounds_toArray, List.set_cons_zero, List.set_cons_succ, i64_w, i32_w]
        rfl
      refine one_ (i := 22) (N := some 47) pbCx5_23 rfl rfl (one_of HT_.out pmCx5_17_) pmCx5_29_ (fun K hK => ?_)
      refine goes_ Try.func19 pmCx5_17_ rfl #[.slice A0 l0.length c0, .agg #[.int .i64 a1_0, .int .i64 a1_1, .int .i64 a1_2, .int .i64 a1_3]] (by rfl) rfl rfl pmCx5_12_ ?_
      with_reducible refine (parterreref19_Free.calls k _ _ l0 a1_0 a1_1 a1_2 a1_3 t181 _ ?side1 ?side2 A45.out).mono ?_
      (case side1 => repeat (first | exact (Kd.C_below HR0.out HB.out) | (with_reducible refine Kd.C_alloc ?_ _) | (with_reducible refine Kd.C_drewN ?_ _) | (with_reducible refine Kd.C_drew ?_)))
      (case side2 => exact HC0.out)
      rintro e w81 ⟨rfl, hb⟩
      refine ⟨_, rfl, ?_⟩
      replace BK153 := Aside0.mk (blk_below (g := gb153) (o := poCx5_0 a1_0 a1_1 a1_2 a1_3) pmCx5_4_ hb)
      replace BK154 := Aside0.mk (blk_below (g := gb154) (o := poCx5_0 a2_0 a2_1 a2_2 a2_3) pmCx5_5_ hb)
      replace BK164 := Aside0.mk (blk_below (g := gb164) (o := poCx5_0 t156 t157 t158 t159) pmCx5_10_ hb)
      replace BK165 := Aside0.mk (blk_below (g := gb165) (o := poCx5_0 t160 t161 t162 t163) pmCx5_11_ hb)
      replace BK174 := Aside0.mk (blk_below (g := gb174) (o := poCx5_0 t166 t167 t168 t169) pmCx5_13_ hb)
      replace BK175 := Aside0.mk (blk_below (g := gb175) (o := poCx5_0 t170 t171 t172 t173) pmCx5_14_ hb)
      replace HB := Aside0.mk (below_step pmCx5_0_ hb)
      (try clear hb)
      (try clear hb2)
      (try clear hk)
      (try clear hi)
      refine hK.out _ _ pmCx5_16_ (fun hHeld => ?_)
      clear hK K
      refine norm_ (a' := ?_) ?_ ?_
      rotate_left
      · show Act.put _ (some 47) _ = _
        simp only [Act.put, List.setIfInBounds_toArray, List.set_cons_zero, List.set_cons_succ, i64_w, i32_w]
        rfl
      refine pure_ (i := 23) (N := some 48) (v := ?_) (a' := ?_) pbCx5_24 rfl rfl (any_of HT_.out pmCx5_17_) (fun _ _ _ h => h) (Or.inl ⟨by rfl, ?_⟩) ?_ ?_
      rotate_left
      · intro w'
        go_simp
        with_reducible rfl
      rotate_left
      · simp only [Act.put, List.setIfInBounds_toArray, List.set_cons_zero, List.set_cons_succ, i64_w, i32_w]
        rfl
      refine pure_ (i := 24) (N := some 49) (v := ?_) (a' := ?_) pbCx5_25 rfl rfl (any_of HT_.out pmCx5_17_) (fun _ _ _ h => h) (Or.inl ⟨by rfl, ?_⟩) ?_ ?_
      rotate_left
      · intro w'
        go_simp
        with_reducible rfl
      rotate_left
      · simp only [Act.put, List.setIfInBounds_toArray, List.set_cons_zero, List.set_cons_succ, i64_w, i32_w]
        rfl
      refine pure_ (i := 25) (N := some 50) (v := ?_) (a' := ?_) pbCx5_26 rfl rfl (any_of HT_.out pmCx5_17_) (fun _ _ _ h => h) (Or.inl ⟨by rfl, ?_⟩) ?_ ?_
      rotate_left
      · intro w'
        go_simp
        with_reducible rfl
      rotate_left
      · simp only [Act.put, List.setIfInBounds_toArray, List.set_cons_zero, List.set_cons_succ, i64_w, i32_w]
        rfl
      refine take_ (i := 26) (N := some 51) (v := ?_) (a' := ?_) pbCx5_27 rfl rfl (take_ofW HT_.out HW_.out pmCx5_17_) (fun _ _ _ h => h) (Or.inl ⟨by rfl, ?_⟩) hHeld ?_ ?_
      rotate_left
      · rintro w' ⟨s0, s1, s2, s3, s4, s5, s6, s7, s8, s9, s10, s11, s12, s13, s14, s15⟩
        go_simp
        with_reducible rfl
      rotate_left
      · simp only [Act.put, List.setIfInBounds_toArray, List.set_cons_zero, List.set_cons_succ, i64_w, i32_w]
        rfl
      refine take_ (i := 28) (N := some 53) (v := ?_) (a' := ?_) pbCx5_28 rfl rfl (take_ofW HT_.out HW_.out pmCx5_17_) (fun _ _ _ h => h) (Or.inl ⟨by rfl, ?_⟩) hHeld ?_ ?_
      rotate_left
      · rintro w' ⟨s0, s1, s2, s3, s4, s5, s6, s7, s8, s9, s10, s11, s12, s13, s14, s15⟩
        go_simp
        with_reducible rfl
      rotate_left
      · simp only [Act.put, List.setIfInBounds_toArray, List.set_cons_zero, List.set_cons_succ, i64_w, i32_w]
        rfl
      refine one_ (i := 27) (N := some 52) pbCx5_29 rfl rfl (one_of HT_.out pmCx5_17_) pmCx5_29_ (fun K hK => ?_)
      refine goes_ Try.func14 pmCx5_17_ rfl #[.agg #[.int .i64 a1_0, .int .i64 a1_1, .int .i64 a1_2, .int .i64 a1_3]] (by rfl) rfl rfl pmCx5_12_ ?_
      with_reducible refine (occupy_Turn.calls a1_0 a1_1 a1_2 a1_3 t182 t183 t184 t185 _ A47.out).mono ?_
      rintro e w82 ⟨rfl, hb⟩
      refine ⟨_, rfl, ?_⟩
      replace BK153 := Aside0.mk (blk_below (g := gb153) (o := poCx5_0 a1_0 a1_1 a1_2 a1_3) pmCx5_4_ hb)
      replace BK154 := Aside0.mk (blk_below (g := gb154) (o := poCx5_0 a2_0 a2_1 a2_2 a2_3) pmCx5_5_ hb)
      replace BK164 := Aside0.mk (blk_below (g := gb164) (o := poCx5_0 t156 t157 t158 t159) pmCx5_10_ hb)
      replace BK165 := Aside0.mk (blk_below (g := gb165) (o := poCx5_0 t160 t161 t162 t163) pmCx5_11_ hb)
      replace BK174 := Aside0.mk (blk_below (g := gb174) (o := poCx5_0 t166 t167 t168 t169) pmCx5_13_ hb)
      replace BK175 := Aside0.mk (blk_below (g := gb175) (o := poCx5_0 t170 t171 t172 t173) pmCx5_14_ hb)
      replace HB := Aside0.mk (below_step pmCx5_0_ hb)
      (try clear hb)
      (try clear hb2)
      (try clear hk)
      (try clear hi)
      refine hK.out _ _ pmCx5_16_ (fun hHeld => ?_)
      clear hK K
      refine norm_ (a' := ?_) ?_ ?_
      rotate_left
      · show Act.put _ (some 52) _ = _
        simp only [Act.put, List.setIfInBounds_toArray, List.set_cons_zero, List.set_cons_succ, i64_w, i32_w]
        rfl
      refine one_ (i := 29) (N := some 54) pbCx5_30 rfl rfl (one_of HT_.out pmCx5_17_) pmCx5_29_ (fun K hK => ?_)
      refine goes_ Try.func20 pmCx5_17_ rfl #[.agg #[.int .i64 a1_0, .int .i64 a1_1, .int .i64 a1_2, .int .i64 a1_3]] (by rfl) rfl rfl pmCx5_12_ ?_
      with_reducible refine (parterreref19_Turn.calls a1_0 a1_1 a1_2 a1_3 t186 t187 t188 t189 _ A48.out).mono ?_
      rintro e w83 ⟨rfl, hb⟩
      refine ⟨_, rfl, ?_⟩
      replace BK153 := Aside0.mk (blk_below (g := gb153) (o := poCx5_0 a1_0 a1_1 a1_2 a1_3) pmCx5_4_ hb)
      replace BK154 := Aside0.mk (blk_below (g := gb154) (o := poCx5_0 a2_0 a2_1 a2_2 a2_3) pmCx5_5_ hb)
      replace BK164 := Aside0.mk (blk_below (g := gb164) (o := poCx5_0 t156 t157 t158 t159) pmCx5_10_ hb)
      replace BK165 := Aside0.mk (blk_below (g := gb165) (o := poCx5_0 t160 t161 t162 t163) pmCx5_11_ hb)
      replace BK174 := Aside0.mk (blk_below (g := gb174) (o := poCx5_0 t166 t167 t168 t169) pmCx5_13_ hb)
      replace BK175 := Aside0.mk (blk_below (g := gb175) (o := poCx5_0 t170 t171 t172 t173) pmCx5_14_ hb)
      replace HB := Aside0.mk (below_step pmCx5_0_ hb)
      (try clear hb)
      (try clear hb2)
      (try clear hk)
      (try clear hi)
      refine hK.out _ _ pmCx5_16_ (fun hHeld => ?_)
      clear hK K
      refine norm_ (a' := ?_) ?_ ?_
      rotate_left
      · show Act.put _ (some 54) _ = _
        simp only [Act.put, List.setIfInBounds_toArray, List.set_cons_zero, List.set_cons_succ, i64_w, i32_w]
        rfl
      refine pure_ (i := 30) (N := some 55) (v := ?_) (a' := ?_) pbCx5_31 rfl rfl (any_of HT_.out pmCx5_17_) (fun _ _ _ h => h) (Or.inl ⟨by rfl, ?_⟩) ?_ ?_
      rotate_left
      · intro w'
        go_simp
        with_reducible rfl
      rotate_left
      · simp only [Act.put, List.setIfInBounds_toArray, List.set_cons_zero, List.set_cons_succ, i64_w, i32_w]
        rfl
      refine pure_ (i := 31) (N := some 56) (v := ?_) (a' := ?_) pbCx5_32 rfl rfl (any_of HT_.out pmCx5_17_) (fun _ _ _ h => h) (Or.inl ⟨by rfl, ?_⟩) ?_ ?_
      rotate_left
      · intro w'
        go_simp
        with_reducible rfl
      rotate_left
      · simp only [Act.put, List.setIfInBounds_toArray, List.set_cons_zero, List.set_cons_succ, i64_w, i32_w]
        rfl
      refine pure_ (i := 32) (N := some 57) (v := ?_) (a' := ?_) pbCx5_33 rfl rfl (any_of HT_.out pmCx5_17_) (fun _ _ _ h => h) (Or.inl ⟨by rfl, ?_⟩) ?_ ?_
      rotate_left
      · intro w'
        go_simp
        with_reducible rfl
      rotate_left
      · simp only [Act.put, List.setIfInBounds_toArray, List.set_cons_zero, List.set_cons_succ, i64_w, i32_w]
        rfl
      refine take_ (i := 33) (N := some 58) (v := ?_) (a' := ?_) pbCx5_34 rfl rfl (take_ofW HT_.out HW_.out pmCx5_17_) (fun _ _ _ h => h) (Or.inl ⟨by rfl, ?_⟩) hHeld ?_ ?_
      rotate_left
      · rintro w' ⟨s0, s1, s2, s3, s4, s5, s6, s7, s8, s9, s10, s11, s12, s13, s14, s15⟩
        go_simp
        with_reducible rfl
      rotate_left
      · simp only [Act.put, List.setIfInBounds_toArray, List.set_cons_zero, List.set_cons_succ, i64_w, i32_w]
        rfl
      refine take_ (i := 34) (N := some 59) (v := ?_) (a' := ?_) pbCx5_35 rfl rfl (take_ofW HT_.out HW_.out pmCx5_17_) (fun _ _ _ h => h) (Or.inl ⟨by rfl, ?_⟩) hHeld ?_ ?_
      rotate_left
      · rintro w' ⟨s0, s1, s2, s3, s4, s5, s6, s7, s8, s9, s10, s11, s12, s13, s14, s15⟩
        go_simp
        with_reducible rfl
      rotate_left
      · simp only [Act.put, List.setIfInBounds_toArray, List.set_cons_zero, List.set_cons_succ, i64_w, i32_w]
        rfl
      refine pure_ (i := 35) (N := some 60) (v := ?_) (a' := ?_) pbCx5_36 rfl rfl (any_of HT_.out pmCx5_17_) (fun _ _ _ h => h) (Or.inl ⟨by rfl, ?_⟩) ?_ ?_
      rotate_left
      · intro w'
        go_simp
        with_reducible rfl
      rotate_left
      · simp only [Act.put, List.setIfInBounds_toArray, List.set_cons_zero, List.set_cons_succ, i64_w, i32_w]
        rfl
      refine pure_ (i := 36) (N := some 61) (v := ?_) (a' := ?_) pbCx5_37 rfl rfl (any_of HT_.out pmCx5_17_) (fun _ _ _ h => h) (Or.inl ⟨by rfl, ?_⟩) ?_ ?_
      rotate_left
      · intro w'
        go_simp
        with_reducible rfl
      rotate_left
      · simp only [Act.put, List.setIfInBounds_toArray, List.set_cons_zero, List.set_cons_succ, i64_w, i32_w]
        rfl
      refine pure_ (i := 37) (N := some 62) (v := ?_) (a' := ?_) pbCx5_38 rfl rfl (any_of HT_.out pmCx5_17_) (fun _ _ _ h => h) (Or.inl ⟨by rfl, ?_⟩) ?_ ?_
      rotate_left
      · intro w'
        go_simp
        with_reducible rfl
      rotate_left
      · simp only [Act.put, List.setIfInBounds_toArray, List.set_cons_zero, List.set_cons_succ, i64_w, i32_w]
        rfl
      refine pure_ (i := 38) (N := some 63) (v := undef) (a' := ?_) pbCx5_39 rfl rfl (any_of HT_.out pmCx5_17_) (fun _ _ _ h => h) (Or.inr ⟨by rfl, rfl⟩) ?_ ?_
      rotate_left
      · simp only [Act.put, List.setIfInBounds_toArray, List.set_cons_zero, List.set_cons_succ, i64_w, i32_w]
        rfl
      refine pure_ (i := 39) (N := some 64) (v := undef) (a' := ?_) pbCx5_40 rfl rfl (any_of HT_.out pmCx5_17_) (fun _ _ _ h => h) (Or.inr ⟨by rfl, rfl⟩) ?_ ?_
      rotate_left
      · simp only [Act.put, List.setIfInBounds_toArray, List.set_cons_zero, List.set_cons_succ, i64_w, i32_w]
        rfl
      refine pure_ (i := 40) (N := some 65) (v := undef) (a' := ?_) pbCx5_41 rfl rfl (any_of HT_.out pmCx5_17_) (fun _ _ _ h => h) (Or.inr ⟨by rfl, rfl⟩) ?_ ?_
      rotate_left
      · simp only [Act.put, List.setIfInBounds_toArray, List.set_cons_zero, List.set_cons_succ, i64_w, i32_w]
        rfl
      refine pure_ (i := 41) (N := some 66) (v := ?_) (a' := ?_) pbCx5_42 rfl rfl (any_of HT_.out pmCx5_17_) (fun _ _ _ h => h) (Or.inl ⟨by rfl, ?_⟩) ?_ ?_
      rotate_left
      · intro w'
        go_simp
        with_reducible rfl
      rotate_left
      · simp only [Act.put, List.setIfInBounds_toArray, List.set_cons_zero, List.set_cons_succ, i64_w, i32_w]
        rfl
      refine pure_ (i := 42) (N := some 67) (v := ?_) (a' := ?_) pbCx5_43 rfl rfl (any_of HT_.out pmCx5_17_) (fun _ _ _ h => h) (Or.inl ⟨by rfl, ?_⟩) ?_ ?_
      rotate_left
      · intro w'
        go_simp
        with_reducible rfl
      rotate_left
      · simp only [Act.put, List.setIfInBounds_toArray, List.set_cons_zero, List.set_cons_succ, i64_w, i32_w]
        rfl
      refine pure_ (i := 43) (N := some 68) (v := undef) (a' := ?_) pbCx5_44 rfl rfl (any_of HT_.out pmCx5_17_) (fun _ _ _ h => h) (Or.inr ⟨by rfl, rfl⟩) ?_ ?_
      rotate_left
      · simp only [Act.put, List.setIfInBounds_toArray, List.set_cons_zero, List.set_cons_succ, i64_w, i32_w]
        rfl
      refine pure_ (i := 44) (N := some 69) (v := ?_) (a' := ?_) pbCx5_45 rfl rfl (any_of HT_.out pmCx5_17_) (fun _ _ _ h => h) (Or.inl ⟨by rfl, ?_⟩) ?_ ?_
      rotate_left
      · intro w'
        go_simp
        with_reducible rfl
      rotate_left
      · simp only [Act.put, List.setIfInBounds_toArray, List.set_cons_zero, List.set_cons_succ, i64_w, i32_w]
        rfl
      refine pure_ (i := 45) (N := some 6) (v := ?_) (a' := ?_) pbCx5_46 rfl rfl (any_of HT_.out pmCx5_17_) (fun _ _ _ h => h) (Or.inl ⟨by rfl, ?_⟩) ?_ ?_
      rotate_left
      · intro w'
        go_simp
        with_reducible rfl
      rotate_left
      · simp only [Act.put, List.setIfInBounds_toArray, List.set_cons_zero, List.set_cons_succ, i64_w, i32_w]
        rfl
      refine done_ (done_of HT_.out pmCx5_17_) ?_
      try go_wp2
      go_meet
      case rel => exact ⟨_, (false), pmCx5_28_, H', ⟨pmCx5_30_⟩, ⟨pmCx5_4_⟩, ⟨pmCx5_5_⟩, ⟨pmCx5_10_⟩, ⟨pmCx5_11_⟩, ⟨pmCx5_13_⟩, ⟨pmCx5_14_⟩, ⟨pmCx5_0_⟩⟩
    rw [if_pos c50] at H
    have c50b0 : (t156 == t166 && (t157 == t167 && (t158 == t168 && (t159 == t169)))) = true := c50
    (try (have c50b1 : decide (t156 = t166 && (t157 == t167 && (t158 == t168 && (t159 == t169)))) = true := by simpa using c50))
    (try (have c50b2 : (t156 == t166 && (t157 == t167 && (t158 == t168 && (t159 == t169)))) = true := by simpa using c50))
    clear c50
    by_cases c51 : (t160 == t170 && (t161 == t171 && (t162 == t172 && (t163 == t173)))) = true
    rotate_left
    · rw [if_neg c51] at H
      have c51b0 : (t160 == t170 && (t161 == t171 && (t162 == t172 && (t163 == t173)))) = false := by simpa using c51
      (try (have c51b1 : decide (t160 = t170 && (t161 == t171 && (t162 == t172 && (t163 == t173)))) = false := by simpa using c51))
      (try (have c51b2 : (t160 == t170 && (t161 == t171 && (t162 == t172 && (t163 == t173)))) = false := by simpa using c51))
      (try (have c51b3 : ¬ (t160 = t170 && (t161 == t171 && (t162 == t172 && (t163 == t173)))) := by simpa using c51))
      clear c51
      have H' := Aside0.mk H
      clear H
      try go_wp2
      have n0_ : Aside0 ((pwCx5_0 w26 gb174 gb175 t166 t167 t168 t169 t170 t171 t172 t173).heap[gb153]? = some (.cells #[.int .i64 a1_0, .int .i64 a1_1, .int .i64 a1_2, .int .i64 a1_3] 24 (0, 0))) := ⟨pmCx5_6_⟩
      have n1_ : Aside0 ((pwCx5_0 w26 gb174 gb175 t166 t167 t168 t169 t170 t171 t172 t173).heap[gb154]? = some (.cells #[.int .i64 a2_0, .int .i64 a2_1, .int .i64 a2_2, .int .i64 a2_3] 24 (0, 0))) := ⟨pmCx5_7_⟩
      have n2_ : Aside0 ((pwCx5_0 w26 gb174 gb175 t166 t167 t168 t169 t170 t171 t172 t173).heap[gb164]? = some (.cells #[.int .i64 t156, .int .i64 t157, .int .i64 t158, .int .i64 t159] 24 (0, 0))) := ⟨pmCx5_8_⟩
      have n3_ : Aside0 ((pwCx5_0 w26 gb174 gb175 t166 t167 t168 t169 t170 t171 t172 t173).heap[gb165]? = some (.cells #[.int .i64 t160, .int .i64 t161, .int .i64 t162, .int .i64 t163] 24 (0, 0))) := ⟨pmCx5_9_⟩
      have n4_ : Aside0 ((pwCx5_0 w26 gb174 gb175 t166 t167 t168 t169 t170 t171 t172 t173).heap[gb174]? = some (.cells #[.int .i64 t166, .int .i64 t167, .int .i64 t168, .int .i64 t169] 24 (0, 0))) := ⟨pmCx5_2_⟩
      have n5_ : Aside0 ((pwCx5_0 w26 gb174 gb175 t166 t167 t168 t169 t170 t171 t172 t173).heap[gb175]? = some (.cells #[.int .i64 t170, .int .i64 t171, .int .i64 t172, .int .i64 t173] 24 (0, 0))) := ⟨pmCx5_3_⟩
      have n6_ : Aside0 (Below w.heap.size w (pwCx5_0 w26 gb174 gb175 t166 t167 t168 t169 t170 t171 t172 t173)) := ⟨pmCx5_0_⟩
      (try clear BK153)
      (try clear BK154)
      (try clear BK164)
      (try clear BK165)
      (try clear BK174)
      (try clear BK175)
      (try clear HB)
      unfold pwCx5_0 at n0_ n1_ n2_ n3_ n4_ n5_ n6_
      generalize ((((((((w26.setCell ⟨gb174, 0, none⟩ (.int .i64 t166)).setCell ⟨gb174, 1, none⟩ (.int .i64 t167)).setCell ⟨gb174, 2, none⟩ (.int .i64 t168)).setCell ⟨gb174, 3, none⟩ (.int .i64 t169)).setCell ⟨gb175, 0, none⟩ (.int .i64 t170)).setCell ⟨gb175, 1, none⟩ (.int .i64 t171)).setCell ⟨gb175, 2, none⟩ (.int .i64 t172)).setCell ⟨gb175, 3, none⟩ (.int .i64 t173)) = w64 at n0_ n1_ n2_ n3_ n4_ n5_ n6_ ⊢
      have BK153 := n0_
      have BK154 := n1_
      have BK164 := n2_
      have BK165 := n3_
      have BK174 := n4_
      have BK175 := n5_
      have HB := n6_
      clear n0_ n1_ n2_ n3_ n4_ n5_ n6_
      replace BK153 := Aside0.mk (blk_drew BK153.out)
      replace BK154 := Aside0.mk (blk_drew BK154.out)
      replace BK164 := Aside0.mk (blk_drew BK164.out)
      replace BK165 := Aside0.mk (blk_drew BK165.out)
      replace BK174 := Aside0.mk (blk_drew BK174.out)
      replace BK175 := Aside0.mk (blk_drew BK175.out)
      replace HB := Aside0.mk (below_drew1 HB.out)
      refine start_ (n := 46) (S := fun w' => w'.cell? ⟨gb153, 0, none⟩ = some (.int .i64 a1_0) ∧ w'.cell? ⟨gb153, 1, none⟩ = some (.int .i64 a1_1) ∧ w'.cell? ⟨gb153, 2, none⟩ = some (.int .i64 a1_2) ∧ w'.cell? ⟨gb153, 3, none⟩ = some (.int .i64 a1_3) ∧ w'.cell? ⟨gb154, 0, none⟩ = some (.int .i64 a2_0) ∧ w'.cell? ⟨gb154, 1, none⟩ = some (.int .i64 a2_1) ∧ w'.cell? ⟨gb154, 2, none⟩ = some (.int .i64 a2_2) ∧ w'.cell? ⟨gb154, 3, none⟩ = some (.int .i64 a2_3) ∧ w'.cell? ⟨gb164, 0, none⟩ = some (.int .i64 t156) ∧ w'.cell? ⟨gb164, 1, none⟩ = some (.int .i64 t157) ∧ w'.cell? ⟨gb164, 2, none⟩ = some (.int .i64 t158) ∧ w'.cell? ⟨gb164, 3, none⟩ = some (.int .i64 t159) ∧ w'.cell? ⟨gb174, 0, none⟩ = some (.int .i64 t166) ∧ w'.cell? ⟨gb174, 1, none⟩ = some (.int .i64 t167) ∧ w'.cell? ⟨gb174, 2, none⟩ = some (.int .i64 t168) ∧ w'.cell? ⟨gb174, 3, none⟩ = some (.int .i64 t169) ∧ w'.cell? ⟨gb165, 0, none⟩ = some (.int .i64 t160) ∧ w'.cell? ⟨gb165, 1, none⟩ = some (.int .i64 t161) ∧ w'.cell? ⟨gb165, 2, none⟩ = some (.int .i64 t162) ∧ w'.cell? ⟨gb165, 3, none⟩ = some (.int .i64 t163) ∧ w'.cell? ⟨gb175, 0, none⟩ = some (.int .i64 t170) ∧ w'.cell? ⟨gb175, 1, none⟩ = some (.int .i64 t171) ∧ w'.cell? ⟨gb175, 2, none⟩ = some (.int .i64 t172) ∧ w'.cell? ⟨gb175, 3, none⟩ = some (.int .i64 t173)) (ds := []) pbCx5_0 pmCx5_17_ rfl rfl ⟨(blk_cell BK153.out 0).trans rfl, (blk_cell BK153.out 1).trans rfl, (blk_cell BK153.out 2).trans rfl, (blk_cell BK153.out 3).trans rfl, (blk_cell BK154.out 0).trans rfl, (blk_cell BK154.out 1).trans rfl, (blk_cell BK154.out 2).trans rfl, (blk_cell BK154.out 3).trans rfl, (blk_cell BK164.out 0).trans rfl, (blk_cell BK164.out 1).trans rfl, (blk_cell BK164.out 2).trans rfl, (blk_cell BK164.out 3).trans rfl, (blk_cell BK174.out 0).trans rfl, (blk_cell BK174.out 1).trans rfl, (blk_cell BK174.out 2).trans rfl, (blk_cell BK174.out 3).trans rfl, (blk_cell BK165.out 0).trans rfl, (blk_cell BK165.out 1).trans rfl, (blk_cell BK165.out 2).trans rfl, (blk_cell BK165.out 3).trans rfl, (blk_cell BK175.out 0).trans rfl, (blk_cell BK175.out 1).trans rfl, (blk_cell BK175.out 2).trans rfl, (blk_cell BK175.out 3).trans rfl⟩ (fun hHeld => ?_); refine with_tabW parterrelaw19_OccupyOverlaps.tab5 parterrelaw19_OccupyOverlaps.bits5 (fun HT_ HW_ => ?_)
      generalize w64.drew = w65 at BK153 BK154 BK164 BK165 BK174 BK175 HB hHeld ⊢
      refine take_ (i := 0) (N := some 25) (v := ?_) (a' := ?_) pbCx5_1 rfl rfl (take_ofW HT_.out HW_.out pmCx5_17_) (fun _ _ _ h => h) (Or.inl ⟨by rfl, ?_⟩) hHeld ?_ ?_
      rotate_left
      · rintro w' ⟨s0, s1, s2, s3, s4, s5, s6, s7, s8, s9, s10, s11, s12, s13, s14, s15, s16, s17, s18, s19, s20, s21, s22, s23⟩
        go_simp
        with_reducible rfl
      rotate_left
      · simp only [Act.put, List.setIfInBounds_toArray, List.set_cons_zero, List.set_cons_succ, i64_w, i32_w]
        rfl
      refine take_ (i := 1) (N := some 26) (v := ?_) (a' := ?_) pbCx5_2 rfl rfl (take_ofW HT_.out HW_.out pmCx5_17_) (fun _ _ _ h => h) (Or.inl ⟨by rfl, ?_⟩) hHeld ?_ ?_
      rotate_left
      · rintro w' ⟨s0, s1, s2, s3, s4, s5, s6, s7, s8, s9, s10, s11, s12, s13, s14, s15, s16, s17, s18, s19, s20, s21, s22, s23⟩
        go_simp
        with_reducible rfl
      rotate_left
      · simp only [Act.put, List.setIfInBounds_toArray, List.set_cons_zero, List.set_cons_succ, i64_w, i32_w]
        rfl
      refine take_ (i := 3) (N := some 28) (v := ?_) (a' := ?_) pbCx5_3 rfl rfl (take_ofW HT_.out HW_.out pmCx5_17_) (fun _ _ _ h => h) (Or.inl ⟨by rfl, ?_⟩) hHeld ?_ ?_
      rotate_left
      · rintro w' ⟨s0, s1, s2, s3, s4, s5, s6, s7, s8, s9, s10, s11, s12, s13, s14, s15, s16, s17, s18, s19, s20, s21, s22, s23⟩
        go_simp
        with_reducible rfl
      rotate_left
      · simp only [Act.put, List.setIfInBounds_toArray, List.set_cons_zero, List.set_cons_succ, i64_w, i32_w]
        rfl
      refine take_ (i := 4) (N := some 29) (v := ?_) (a' := ?_) pbCx5_4 rfl rfl (take_ofW HT_.out HW_.out pmCx5_17_) (fun _ _ _ h => h) (Or.inl ⟨by rfl, ?_⟩) hHeld ?_ ?_
      rotate_left
      · rintro w' ⟨s0, s1, s2, s3, s4, s5, s6, s7, s8, s9, s10, s11, s12, s13, s14, s15, s16, s17, s18, s19, s20, s21, s22, s23⟩
        go_simp
        with_reducible rfl
      rotate_left
      · simp only [Act.put, List.setIfInBounds_toArray, List.set_cons_zero, List.set_cons_succ, i64_w, i32_w]
        rfl
      refine one_ (i := 2) (N := some 27) pbCx5_5 rfl rfl (one_of HT_.out pmCx5_17_) pmCx5_29_ (fun K hK => ?_)
      refine goes_ Try.func17 pmCx5_17_ rfl #[.agg #[.int .i64 a1_0, .int .i64 a1_1, .int .i64 a1_2, .int .i64 a1_3], .agg #[.int .i64 a2_0, .int .i64 a2_1, .int .i64 a2_2, .int .i64 a2_3]] (by rfl) rfl rfl pmCx5_12_ ?_
      with_reducible refine (occupy_Overlap.calls k a1_0 a1_1 a1_2 a1_3 a2_0 a2_1 a2_2 a2_3 t176 _ A38.out).mono ?_
      rintro e w66 ⟨rfl, hb⟩
      refine ⟨_, rfl, ?_⟩
      replace BK153 := Aside0.mk (blk_below (g := gb153) (o := poCx5_0 a1_0 a1_1 a1_2 a1_3) pmCx5_4_ hb)
      replace BK154 := Aside0.mk (blk_below (g := gb154) (o := poCx5_0 a2_0 a2_1 a2_2 a2_3) pmCx5_5_ hb)
      replace BK164 := Aside0.mk (blk_below (g := gb164) (o := poCx5_0 t156 t157 t158 t159) pmCx5_10_ hb)
      replace BK165 := Aside0.mk (blk_below (g := gb165) (o := poCx5_0 t160 t161 t162 t163) pmCx5_11_ hb)
      replace BK174 := Aside0.mk (blk_below (g := gb174) (o := poCx5_0 t166 t167 t168 t169) pmCx5_13_ hb)
      replace BK175 := Aside0.mk (blk_below (g := gb175) (o := poCx5_0 t170 t171 t172 t173) pmCx5_14_ hb)
      replace HB := Aside0.mk (below_step pmCx5_0_ hb)
      (try clear hb)
      (try clear hb2)
      (try clear hk)
      (try clear hi)
      refine hK.out _ _ pmCx5_1_ (fun hHeld => ?_)
      clear hK K
      refine norm_ (a' := ?_) ?_ ?_
      rotate_left
      · show Act.put _ (some 27) _ = _
        simp only [Act.put, List.setIfInBounds_toArray, List.set_cons_zero, List.set_cons_succ, i64_w, i32_w]
        rfl
      refine one_ (i := 5) (N := some 30) pbCx5_6 rfl rfl (one_of HT_.out pmCx5_17_) pmCx5_29_ (fun K hK => ?_)
      refine goes_ Try.func18 pmCx5_17_ rfl #[.agg #[.int .i64 a1_0, .int .i64 a1_1, .int .i64 a1_2, .int .i64 a1_3], .agg #[.int .i64 a2_0, .int .i64 a2_1, .int .i64 a2_2, .int .i64 a2_3]] (by rfl) rfl rfl pmCx5_12_ ?_
      with_reducible refine (parterreref19_Overlap.calls a1_0 a1_1 a1_2 a1_3 a2_0 a2_1 a2_2 a2_3 t177 _ A39.out).mono ?_
      rintro e w67 ⟨rfl, hb⟩
      refine ⟨_, rfl, ?_⟩
      replace BK153 := Aside0.mk (blk_below (g := gb153) (o := poCx5_0 a1_0 a1_1 a1_2 a1_3) pmCx5_4_ hb)
      replace BK154 := Aside0.mk (blk_below (g := gb154) (o := poCx5_0 a2_0 a2_1 a2_2 a2_3) pmCx5_5_ hb)
      replace BK164 := Aside0.mk (blk_below (g := gb164) (o := poCx5_0 t156 t157 t158 t159) pmCx5_10_ hb)
      replace BK165 := Aside0.mk (blk_below (g := gb165) (o := poCx5_0 t160 t161 t162 t163) pmCx5_11_ hb)
      replace BK174 := Aside0.mk (blk_below (g := gb174) (o := poCx5_0 t166 t167 t168 t169) pmCx5_13_ hb)
      replace BK175 := Aside0.mk (blk_below (g := gb175) (o := poCx5_0 t170 t171 t172 t173) pmCx5_14_ hb)
      replace HB := Aside0.mk (below_step pmCx5_0_ hb)
      (try clear hb)
      (try clear hb2)
      (try clear hk)
      (try clear hi)
      refine hK.out _ _ pmCx5_1_ (fun hHeld => ?_)
      clear hK K
      refine norm_ (a' := ?_) ?_ ?_
      rotate_left
      · show Act.put _ (some 30) _ = _
        simp only [Act.put, List.setIfInBounds_toArray, List.set_cons_zero, List.set_cons_succ, i64_w, i32_w]
        rfl
      refine pure_ (i := 6) (N := some 31) (v := ?_) (a' := ?_) pbCx5_7 rfl rfl (any_of HT_.out pmCx5_17_) (fun _ _ _ h => h) (Or.inl ⟨by rfl, ?_⟩) ?_ ?_
      rotate_left
      · intro w'
        go_simp
        with_reducible rfl
      rotate_left
      · simp only [Act.put, List.setIfInBounds_toArray, List.set_cons_zero, List.set_cons_succ, i64_w, i32_w]
        rfl
      refine pure_ (i := 7) (N := some 32) (v := ?_) (a' := ?_) pbCx5_8 rfl rfl (any_of HT_.out pmCx5_17_) (fun _ _ _ h => h) (Or.inl ⟨by rfl, ?_⟩) ?_ ?_
      rotate_left
      · intro w'
        go_simp
        with_reducible rfl
      rotate_left
      · simp only [Act.put, List.setIfInBounds_toArray, List.set_cons_zero, List.set_cons_succ, i64_w, i32_w]
        rfl
      refine take_ (i := 8) (N := some 33) (v := ?_) (a' := ?_) pbCx5_9 rfl rfl (take_ofW HT_.out HW_.out pmCx5_17_) (fun _ _ _ h => h) (Or.inl ⟨by rfl, ?_⟩) hHeld ?_ ?_
      rotate_left
      · rintro w' ⟨s0, s1, s2, s3, s4, s5, s6, s7, s8, s9, s10, s11, s12, s13, s14, s15, s16, s17, s18, s19, s20, s21, s22, s23⟩
        go_simp
        with_reducible rfl
      rotate_left
      · simp only [Act.put, List.setIfInBounds_toArray, List.set_cons_zero, List.set_cons_succ, i64_w, i32_w]
        rfl
      refine take_ (i := 9) (N := some 34) (v := ?_) (a' := ?_) pbCx5_10 rfl rfl (take_ofW HT_.out HW_.out pmCx5_17_) (fun _ _ _ h => h) (Or.inl ⟨by rfl, ?_⟩) hHeld ?_ ?_
      rotate_left
      · rintro w' ⟨s0, s1, s2, s3, s4, s5, s6, s7, s8, s9, s10, s11, s12, s13, s14, s15, s16, s17, s18, s19, s20, s21, s22, s23⟩
        go_simp
        with_reducible rfl
      rotate_left
      · simp only [Act.put, List.setIfInBounds_toArray, List.set_cons_zero, List.set_cons_succ, i64_w, i32_w]
        rfl
      refine take_ (i := 11) (N := some 36) (v := ?_) (a' := ?_) pbCx5_11 rfl rfl (take_ofW HT_.out HW_.out pmCx5_17_) (fun _ _ _ h => h) (Or.inl ⟨by rfl, ?_⟩) hHeld ?_ ?_
      rotate_left
      · rintro w' ⟨s0, s1, s2, s3, s4, s5, s6, s7, s8, s9, s10, s11, s12, s13, s14, s15, s16, s17, s18, s19, s20, s21, s22, s23⟩
        go_simp
        with_reducible rfl
      rotate_left
      · simp only [Act.put, List.setIfInBounds_toArray, List.set_cons_zero, List.set_cons_succ, i64_w, i32_w]
        rfl
      refine take_ (i := 12) (N := some 37) (v := ?_) (a' := ?_) pbCx5_12 rfl rfl (take_ofW HT_.out HW_.out pmCx5_17_) (fun _ _ _ h => h) (Or.inl ⟨by rfl, ?_⟩) hHeld ?_ ?_
      rotate_left
      · rintro w' ⟨s0, s1, s2, s3, s4, s5, s6, s7, s8, s9, s10, s11, s12, s13, s14, s15, s16, s17, s18, s19, s20, s21, s22, s23⟩
        go_simp
        with_reducible rfl
      rotate_left
      · simp only [Act.put, List.setIfInBounds_toArray, List.set_cons_zero, List.set_cons_succ, i64_w, i32_w]
        rfl
      refine one_ (i := 10) (N := some 35) pbCx5_13 rfl rfl (one_of HT_.out pmCx5_17_) pmCx5_29_ (fun K hK => ?_)
      refine goes_ Try.func17 pmCx5_17_ rfl #[.agg #[.int .i64 a2_0, .int .i64 a2_1, .int .i64 a2_2, .int .i64 a2_3], .agg #[.int .i64 a1_0, .int .i64 a1_1, .int .i64 a1_2, .int .i64 a1_3]] (by rfl) rfl rfl pmCx5_12_ ?_
      with_reducible refine (occupy_Overlap.calls k a2_0 a2_1 a2_2 a2_3 a1_0 a1_1 a1_2 a1_3 t178 _ A41.out).mono ?_
      rintro e w68 ⟨rfl, hb⟩
      refine ⟨_, rfl, ?_⟩
      replace BK153 := Aside0.mk (blk_below (g := gb153) (o := poCx5_0 a1_0 a1_1 a1_2 a1_3) pmCx5_4_ hb)
      replace BK154 := Aside0.mk (blk_below (g := gb154) (o := poCx5_0 a2_0 a2_1 a2_2 a2_3) pmCx5_5_ hb)
      replace BK164 := Aside0.mk (blk_below (g := gb164) (o := poCx5_0 t156 t157 t158 t159) pmCx5_10_ hb)
      replace BK165 := Aside0.mk (blk_below (g := gb165) (o := poCx5_0 t160 t161 t162 t163) pmCx5_11_ hb)
      replace BK174 := Aside0.mk (blk_below (g := gb174) (o := poCx5_0 t166 t167 t168 t169) pmCx5_13_ hb)
      replace BK175 := Aside0.mk (blk_below (g := gb175) (o := poCx5_0 t170 t171 t172 t173) pmCx5_14_ hb)
      replace HB := Aside0.mk (below_step pmCx5_0_ hb)
      (try clear hb)
      (try clear hb2)
      (try clear hk)
      (try clear hi)
      refine hK.out _ _ pmCx5_1_ (fun hHeld => ?_)
      clear hK K
      refine norm_ (a' := ?_) ?_ ?_
      rotate_left
      · show Act.put _ (some 35) _ = _
        simp only [Act.put, List.setIfInBounds_toArray, List.set_cons_zero, List.set_cons_succ, i64_w, i32_w]
        rfl
      refine one_ (i := 13) (N := some 38) pbCx5_14 rfl rfl (one_of HT_.out pmCx5_17_) pmCx5_29_ (fun K hK => ?_)
      refine goes_ Try.func18 pmCx5_17_ rfl #[.agg #[.int .i64 a1_0, .int .i64 a1_1, .int .i64 a1_2, .int .i64 a1_3], .agg #[.int .i64 a2_0, .int .i64 a2_1, .int .i64 a2_2, .int .i64 a2_3]] (by rfl) rfl rfl pmCx5_12_ ?_
      with_reducible refine (parterreref19_Overlap.calls a1_0 a1_1 a1_2 a1_3 a2_0 a2_1 a2_2 a2_3 t179 _ A42.out).mono ?_
      rintro e w69 ⟨rfl, hb⟩
      refine ⟨_, rfl, ?_⟩
      replace BK153 := Aside0.mk (blk_below (g := gb153) (o := poCx5_0 a1_0 a1_1 a1_2 a1_3) pmCx5_4_ hb)
      replace BK154 := Aside0.mk (blk_below (g := gb154) (o := poCx5_0 a2_0 a2_1 a2_2 a2_3) pmCx5_5_ hb)
      replace BK164 := Aside0.mk (blk_below (g := gb164) (o := poCx5_0 t156 t157 t158 t159) pmCx5_10_ hb)
      replace BK165 := Aside0.mk (blk_below (g := gb165) (o := poCx5_0 t160 t161 t162 t163) pmCx5_11_ hb)
      replace BK174 := Aside0.mk (blk_below (g := gb174) (o := poCx5_0 t166 t167 t168 t169) pmCx5_13_ hb)
      replace BK175 := Aside0.mk (blk_below (g := gb175) (o := poCx5_0 t170 t171 t172 t173) pmCx5_14_ hb)
      replace HB := Aside0.mk (below_step pmCx5_0_ hb)
      (try clear hb)
      (try clear hb2)
      (try clear hk)
      (try clear hi)
      refine hK.out _ _ pmCx5_1_ (fun hHeld => ?_)
      clear hK K
      refine norm_ (a' := ?_) ?_ ?_
      rotate_left
      · show Act.put _ (some 38) _ = _
        simp only [Act.put, List.setIfInBounds_toArray, List.set_cons_zero, List.set_cons_succ, i64_w, i32_w]
        rfl
      refine pure_ (i := 14) (N := some 39) (v := ?_) (a' := ?_) pbCx5_15 rfl rfl (any_of HT_.out pmCx5_17_) (fun _ _ _ h => h) (Or.inl ⟨by rfl, ?_⟩) ?_ ?_
      rotate_left
      · intro w'
        go_simp
        with_reducible rfl
      rotate_left
      · simp only [Act.put, List.setIfInBounds_toArray, List.set_cons_zero, List.set_cons_succ, i64_w, i32_w]
        rfl
      refine pure_ (i := 15) (N := some 40) (v := ?_) (a' := ?_) pbCx5_16 rfl rfl (any_of HT_.out pmCx5_17_) (fun _ _ _ h => h) (Or.inl ⟨by rfl, ?_⟩) ?_ ?_
      rotate_left
      · intro w'
        go_simp
        with_reducible rfl
      rotate_left
      · simp only [Act.put, List.setIfInBounds_toArray, List.set_cons_zero, List.set_cons_succ, i64_w, i32_w]
        rfl
      refine pure_ (i := 16) (N := some 41) (v := ?_) (a' := ?_) pbCx5_17 rfl rfl (any_of HT_.out pmCx5_17_) (fun _ _ _ h => h) (Or.inl ⟨by rfl, ?_⟩) ?_ ?_
      rotate_left
      · intro w'
        go_simp
        with_reducible rfl
      rotate_left
      · simp only [Act.put, List.setIfInBounds_toArray, List.set_cons_zero, List.set_cons_succ, i64_w, i32_w]
        rfl
      refine pure_ (i := 17) (N := some 42) (v := ?_) (a' := ?_) pbCx5_18 rfl rfl (any_of HT_.out pmCx5_17_) (fun _ _ _ h => h) (Or.inl ⟨by rfl, ?_⟩) ?_ ?_
      rotate_left
      · intro w'
        go_simp
        with_reducible rfl
      rotate_left
      · simp only [Act.put, List.setIfInBounds_toArray, List.set_cons_zero, List.set_cons_succ, i64_w, i32_w]
        rfl
      refine pure_ (i := 20) (N := some 45) (v := ?_) (a' := ?_) pbCx5_19 rfl rfl (any_of HT_.out pmCx5_17_) (fun _ _ _ h => h) (Or.inl ⟨by rfl, ?_⟩) ?_ ?_
      rotate_left
      · intro w'
        go_simp
        with_reducible rfl
      rotate_left
      · simp only [Act.put, List.setIfInBounds_toArray, List.set_cons_zero, List.set_cons_succ, i64_w, i32_w]
        rfl
      refine take_ (i := 18) (N := some 43) (v := ?_) (a' := ?_) pbCx5_20 rfl rfl (take_ofW HT_.out HW_.out pmCx5_17_) (fun _ _ _ h => h) (Or.inl ⟨by rfl, ?_⟩) hHeld ?_ ?_
      rotate_left
      · rintro w' ⟨s0, s1, s2, s3, s4, s5, s6, s7, s8, s9, s10, s11, s12, s13, s14, s15, s16, s17, s18, s19, s20, s21, s22, s23⟩
        go_simp
        with_reducible rfl
      rotate_left
      · simp only [Act.put, List.setIfInBounds_toArray, List.set_cons_zero, List.set_cons_succ, i64_w, i32_w]
        rfl
      refine take_ (i := 21) (N := some 46) (v := ?_) (a' := ?_) pbCx5_21 rfl rfl (take_ofW HT_.out HW_.out pmCx5_17_) (fun _ _ _ h => h) (Or.inl ⟨by rfl, ?_⟩) hHeld ?_ ?_
      rotate_left
      · rintro w' ⟨s0, s1, s2, s3, s4, s5, s6, s7, s8, s9, s10, s11, s12, s13, s14, s15, s16, s17, s18, s19, s20, s21, s22, s23⟩
        go_simp
        with_reducible rfl
      rotate_left
      · simp only [Act.put, List.setIfInBounds_toArray, List.set_cons_zero, List.set_cons_succ, i64_w, i32_w]
        rfl
      refine one_ (i := 19) (N := some 44) pbCx5_22 rfl rfl (one_of HT_.out pmCx5_17_) pmCx5_29_ (fun K hK => ?_)
      refine goes_ Try.func10 pmCx5_17_ rfl #[.slice A0 l0.length c0, .agg #[.int .i64 a1_0, .int .i64 a1_1, .int .i64 a1_2, .int .i64 a1_3]] (by rfl) rfl rfl pmCx5_12_ ?_
      with_reducible refine (occupy_Free.calls k _ _ l0 a1_0 a1_1 a1_2 a1_3 t180 _ ?side1 ?side2 A44.out).mono ?_
      (case side1 => repeat (first | exact (Kd.C_below HR0.out HB.out) | (with_reducible refine Kd.C_alloc ?_ _) | (with_reducible refine Kd.C_drewN ?_ _) | (with_reducible refine Kd.C_drew ?_)))
      (case side2 => exact HC0.out)
      rintro e w70 ⟨rfl, hb⟩
      refine ⟨_, rfl, ?_⟩
      replace BK153 := Aside0.mk (blk_below (g := gb153) (o := poCx5_0 a1_0 a1_1 a1_2 a1_3) pmCx5_4_ hb)
      replace BK154 := Aside0.mk (blk_below (g := gb154) (o := poCx5_0 a2_0 a2_1 a2_2 a2_3) pmCx5_5_ hb)
      replace BK164 := Aside0.mk (blk_below (g := gb164) (o := poCx5_0 t156 t157 t158 t159) pmCx5_10_ hb)
      replace BK165 := Aside0.mk (blk_below (g := gb165) (o := poCx5_0 t160 t161 t162 t163) pmCx5_11_ hb)
      replace BK174 := Aside0.mk (blk_below (g := gb174) (o := poCx5_0 t166 t167 t168 t169) pmCx5_13_ hb)
      replace BK175 := Aside0.mk (blk_below (g := gb175) (o := poCx5_0 t170 t171 t172 t173) pmCx5_14_ hb)
      replace HB := Aside0.mk (below_step pmCx5_0_ hb)
      (try clear hb)
      (try clear hb2)
      (try clear hk)
      (try clear hi)
      refine hK.out _ _ pmCx5_1_ (fun hHeld => ?_)
      clear hK K
      refine norm_ (a' := ?_) ?_ ?_
      rotate_left
      · show Act.put _ (some 44) _ = _
        simp only [Act.put, List.setIfInBounds_toArray, List.set_cons_zero, List.set_cons_succ, i64_w, i32_w]
        rfl
      refine one_ (i := 22) (N := some 47) pbCx5_23 rfl rfl (one_of HT_.out pmCx5_17_) pmCx5_29_ (fun K hK => ?_)
      refine goes_ Try.func19 pmCx5_17_ rfl #[.slice A0 l0.length c0, .agg #[.int .i64 a1_0, .int .i64 a1_1, .int .i64 a1_2, .int .i64 a1_3]] (by rfl) rfl rfl pmCx5_12_ ?_
      with_reducible refine (parterreref19_Free.calls k _ _ l0 a1_0 a1_1 a1_2 a1_3 t181 _ ?side1 ?side2 A45.out).mono ?_
      (case side1 => repeat (first | exact (Kd.C_below HR0.out HB.out) | (with_reducible refine Kd.C_alloc ?_ _) | (with_reducible refine Kd.C_drewN ?_ _) | (with_reducible refine Kd.C_drew ?_)))
      (case side2 => exact HC0.out)
      rintro e w71 ⟨rfl, hb⟩
      refine ⟨_, rfl, ?_⟩
      replace BK153 := Aside0.mk (blk_below (g := gb153) (o := poCx5_0 a1_0 a1_1 a1_2 a1_3) pmCx5_4_ hb)
      replace BK154 := Aside0.mk (blk_below (g := gb154) (o := poCx5_0 a2_0 a2_1 a2_2 a2_3) pmCx5_5_ hb)
      replace BK164 := Aside0.mk (blk_below (g := gb164) (o := poCx5_0 t156 t157 t158 t159) pmCx5_10_ hb)
      replace BK165 := Aside0.mk (blk_below (g := gb165) (o := poCx5_0 t160 t161 t162 t163) pmCx5_11_ hb)
      replace BK174 := Aside0.mk (blk_below (g := gb174) (o := poCx5_0 t166 t167 t168 t169) pmCx5_13_ hb)
      replace BK175 := Aside0.mk (blk_below (g := gb175) (o := poCx5_0 t170 t171 t172 t173) pmCx5_14_ hb)
      replace HB := Aside0.mk (below_step pmCx5_0_ hb)
      (try clear hb)
      (try clear hb2)
      (try clear hk)
      (try clear hi)
      refine hK.out _ _ pmCx5_1_ (fun hHeld => ?_)
      clear hK K
      refine norm_ (a' := ?_) ?_ ?_
      rotate_left
      · show Act.put _ (some 47) _ = _
        simp only [Act.put, List.setIfInBounds_toArray, List.set_cons_zero, List.set_cons_succ, i64_w, i32_w]
        rfl
      refine pure_ (i := 23) (N := some 48) (v := ?_) (a' := ?_) pbCx5_24 rfl rfl (any_of HT_.out pmCx5_17_) (fun _ _ _ h => h) (Or.inl ⟨by rfl, ?_⟩) ?_ ?_
      rotate_left
      · intro w'
        go_simp
        with_reducible rfl
      rotate_left
      · simp only [Act.put, List.setIfInBounds_toArray, List.set_cons_zero, List.set_cons_succ, i64_w, i32_w]
        rfl
      refine pure_ (i := 24) (N := some 49) (v := ?_) (a' := ?_) pbCx5_25 rfl rfl (any_of HT_.out pmCx5_17_) (fun _ _ _ h => h) (Or.inl ⟨by rfl, ?_⟩) ?_ ?_
      rotate_left
      · intro w'
        go_simp
        with_reducible rfl
      rotate_left
      · simp only [Act.put, List.setIfInBounds_toArray, List.set_cons_zero, List.set_cons_succ, i64_w, i32_w]
        rfl
      refine pure_ (i := 25) (N := some 50) (v := ?_) (a' := ?_) pbCx5_26 rfl rfl (any_of HT_.out pmCx5_17_) (fun _ _ _ h => h) (Or.inl ⟨by rfl, ?_⟩) ?_ ?_
      rotate_left
      · intro w'
        go_simp
        with_reducible rfl
      rotate_left
      · simp only [Act.put, List.setIfInBounds_toArray, List.set_cons_zero, List.set_cons_succ, i64_w, i32_w]
        rfl
      refine take_ (i := 26) (N := some 51) (v := ?_) (a' := ?_) pbCx5_27 rfl rfl (take_ofW HT_.out HW_.out pmCx5_17_) (fun _ _ _ h => h) (Or.inl ⟨by rfl, ?_⟩) hHeld ?_ ?_
      rotate_left
      · rintro w' ⟨s0, s1, s2, s3, s4, s5, s6, s7, s8, s9, s10, s11, s12, s13, s14, s15, s16, s17, s18, s19, s20, s21, s22, s23⟩
        go_simp
        with_reducible rfl
      rotate_left
      · simp only [Act.put, List.setIfInBounds_toArray, List.set_cons_zero, List.set_cons_succ, i64_w, i32_w]
        rfl
      refine take_ (i := 28) (N := some 53) (v := ?_) (a' := ?_) pbCx5_28 rfl rfl (take_ofW HT_.out HW_.out pmCx5_17_) (fun _ _ _ h => h) (Or.inl ⟨by rfl, ?_⟩) hHeld ?_ ?_
      rotate_left
      · rintro w' ⟨s0, s1, s2, s3, s4, s5, s6, s7, s8, s9, s10, s11, s12, s13, s14, s15, s16, s17, s18, s19, s20, s21, s22, s23⟩
        go_simp
        with_reducible rfl
      rotate_left
      · simp only [Act.put, List.setIfInBounds_toArray, List.set_cons_zero, List.set_cons_succ, i64_w, i32_w]
        rfl
      refine one_ (i := 27) (N := some 52) pbCx5_29 rfl rfl (one_of HT_.out pmCx5_17_) pmCx5_29_ (fun K hK => ?_)
      refine goes_ Try.func14 pmCx5_17_ rfl #[.agg #[.int .i64 a1_0, .int .i64 a1_1, .int .i64 a1_2, .int .i64 a1_3]] (by rfl) rfl rfl pmCx5_12_ ?_
      with_reducible refine (occupy_Turn.calls a1_0 a1_1 a1_2 a1_3 t182 t183 t184 t185 _ A47.out).mono ?_
      rintro e w72 ⟨rfl, hb⟩
      refine ⟨_, rfl, ?_⟩
      replace BK153 := Aside0.mk (blk_below (g := gb153) (o := poCx5_0 a1_0 a1_1 a1_2 a1_3) pmCx5_4_ hb)
      replace BK154 := Aside0.mk (blk_below (g := gb154) (o := poCx5_0 a2_0 a2_1 a2_2 a2_3) pmCx5_5_ hb)
      replace BK164 := Aside0.mk (blk_below (g := gb164) (o := poCx5_0 t156 t157 t158 t159) pmCx5_10_ hb)
      replace BK165 := Aside0.mk (blk_below (g := gb165) (o := poCx5_0 t160 t161 t162 t163) pmCx5_11_ hb)
      replace BK174 := Aside0.mk (blk_below (g := gb174) (o := poCx5_0 t166 t167 t168 t169) pmCx5_13_ hb)
      replace BK175 := Aside0.mk (blk_below (g := gb175) (o := poCx5_0 t170 t171 t172 t173) pmCx5_14_ hb)
      replace HB := Aside0.mk (below_step pmCx5_0_ hb)
      (try clear hb)
      (try clear hb2)
      (try clear hk)
      (try clear hi)
      refine hK.out _ _ pmCx5_1_ (fun hHeld => ?_)
      clear hK K
      refine norm_ (a' := ?_) ?_ ?_
      rotate_left
      · show Act.put _ (some 52) _ = _
        simp only [Act.put, List.setIfInBounds_toArray, List.set_cons_zero, List.set_cons_succ, i64_w, i32_w]
        rfl
      refine one_ (i := 29) (N := some 54) pbCx5_30 rfl rfl (one_of HT_.out pmCx5_17_) pmCx5_29_ (fun K hK => ?_)
      refine goes_ Try.func20 pmCx5_17_ rfl #[.agg #[.int .i64 a1_0, .int .i64 a1_1, .int .i64 a1_2, .int .i64 a1_3]] (by rfl) rfl rfl pmCx5_12_ ?_
      with_reducible refine (parterreref19_Turn.calls a1_0 a1_1 a1_2 a1_3 t186 t187 t188 t189 _ A48.out).mono ?_
      rintro e w73 ⟨rfl, hb⟩
      refine ⟨_, rfl, ?_⟩
      replace BK153 := Aside0.mk (blk_below (g := gb153) (o := poCx5_0 a1_0 a1_1 a1_2 a1_3) pmCx5_4_ hb)
      replace BK154 := Aside0.mk (blk_below (g := gb154) (o := poCx5_0 a2_0 a2_1 a2_2 a2_3) pmCx5_5_ hb)
      replace BK164 := Aside0.mk (blk_below (g := gb164) (o := poCx5_0 t156 t157 t158 t159) pmCx5_10_ hb)
      replace BK165 := Aside0.mk (blk_below (g := gb165) (o := poCx5_0 t160 t161 t162 t163) pmCx5_11_ hb)
      replace BK174 := Aside0.mk (blk_below (g := gb174) (o := poCx5_0 t166 t167 t168 t169) pmCx5_13_ hb)
      replace BK175 := Aside0.mk (blk_below (g := gb175) (o := poCx5_0 t170 t171 t172 t173) pmCx5_14_ hb)
      replace HB := Aside0.mk (below_step pmCx5_0_ hb)
      (try clear hb)
      (try clear hb2)
      (try clear hk)
      (try clear hi)
      refine hK.out _ _ pmCx5_1_ (fun hHeld => ?_)
      clear hK K
      refine norm_ (a' := ?_) ?_ ?_
      rotate_left
      · show Act.put _ (some 54) _ = _
        simp only [Act.put, List.setIfInBounds_toArray, List.set_cons_zero, List.set_cons_succ, i64_w, i32_w]
        rfl
      refine pure_ (i := 30) (N := some 55) (v := ?_) (a' := ?_) pbCx5_31 rfl rfl (any_of HT_.out pmCx5_17_) (fun _ _ _ h => h) (Or.inl ⟨by rfl, ?_⟩) ?_ ?_
      rotate_left
      · intro w'
        go_simp
        with_reducible rfl
      rotate_left
      · simp only [Act.put, List.setIfInBounds_toArray, List.set_cons_zero, List.set_cons_succ, i64_w, i32_w]
        rfl
      refine pure_ (i := 31) (N := some 56) (v := ?_) (a' := ?_) pbCx5_32 rfl rfl (any_of HT_.out pmCx5_17_) (fun _ _ _ h => h) (Or.inl ⟨by rfl, ?_⟩) ?_ ?_
      rotate_left
      · intro w'
        go_simp
        with_reducible rfl
      rotate_left
      · simp only [Act.put, List.setIfInBounds_toArray, List.set_cons_zero, List.set_cons_succ, i64_w, i32_w]
        rfl
      refine pure_ (i := 32) (N := some 57) (v := ?_) (a' := ?_) pbCx5_33 rfl rfl (any_of HT_.out pmCx5_17_) (fun _ _ _ h => h) (Or.inl ⟨by rfl, ?_⟩) ?_ ?_
      rotate_left
      · intro w'
        go_simp
        with_reducible rfl
      rotate_left
      · simp only [Act.put, List.setIfInBounds_toArray, List.set_cons_zero, List.set_cons_succ, i64_w, i32_w]
        rfl
      refine take_ (i := 33) (N := some 58) (v := ?_) (a' := ?_) pbCx5_34 rfl rfl (take_ofW HT_.out HW_.out pmCx5_17_) (fun _ _ _ h => h) (Or.inl ⟨by rfl, ?_⟩) hHeld ?_ ?_
      rotate_left
      · rintro w' ⟨s0, s1, s2, s3, s4, s5, s6, s7, s8, s9, s10, s11, s12, s13, s14, s15, s16, s17, s18, s19, s20, s21, s22, s23⟩
        go_simp
        with_reducible rfl
      rotate_left
      · simp only [Act.put, List.setIfInBounds_toArray, List.set_cons_zero, List.set_cons_succ, i64_w, i32_w]
        rfl
      refine take_ (i := 34) (N := some 59) (v := ?_) (a' := ?_) pbCx5_35 rfl rfl (take_ofW HT_.out HW_.out pmCx5_17_) (fun _ _ _ h => h) (Or.inl ⟨by rfl, ?_⟩) hHeld ?_ ?_
      rotate_left
      · rintro w' ⟨s0, s1, s2, s3, s4, s5, s6, s7, s8, s9, s10, s11, s12, s13, s14, s15, s16, s17, s18, s19, s20, s21, s22, s23⟩
        go_simp
        with_reducible rfl
      rotate_left
      · simp only [Act.put, List.setIfInBounds_toArray, List.set_cons_zero, List.set_cons_succ, i64_w, i32_w]
        rfl
      refine pure_ (i := 35) (N := some 60) (v := ?_) (a' := ?_) pbCx5_36 rfl rfl (any_of HT_.out pmCx5_17_) (fun _ _ _ h => h) (Or.inl ⟨by rfl, ?_⟩) ?_ ?_
      rotate_left
      · intro w'
        go_simp
        with_reducible rfl
      rotate_left
      · simp only [Act.put, List.setIfInBounds_toArray, List.set_cons_zero, List.set_cons_succ, i64_w, i32_w]
        rfl
      refine pure_ (i := 36) (N := some 61) (v := ?_) (a' := ?_) pbCx5_37 rfl rfl (any_of HT_.out pmCx5_17_) (fun _ _ _ h => h) (Or.inl ⟨by rfl, ?_⟩) ?_ ?_
      rotate_left
      · intro w'
        go_simp
        with_reducible rfl
      rotate_left
      · simp only [Act.put, List.setIfInBounds_toArray, List.set_cons_zero, List.set_cons_succ, i64_w, i32_w]
        rfl
      refine pure_ (i := 37) (N := some 62) (v := ?_) (a' := ?_) pbCx5_38 rfl rfl (any_of HT_.out pmCx5_17_) (fun _ _ _ h => h) (Or.inl ⟨by rfl, ?_⟩) ?_ ?_
      rotate_left
      · intro w'
        go_simp
        with_reducible rfl
      rotate_left
      · simp only [Act.put, List.setIfInBounds_toArray, List.set_cons_zero, List.set_cons_succ, i64_w, i32_w]
        rfl
      refine take_ (i := 38) (N := some 63) (v := ?_) (a' := ?_) pbCx5_39 rfl rfl (take_ofW HT_.out HW_.out pmCx5_17_) (fun _ _ _ h => h) (Or.inl ⟨by rfl, ?_⟩) hHeld ?_ ?_
      rotate_left
      · rintro w' ⟨s0, s1, s2, s3, s4, s5, s6, s7, s8, s9, s10, s11, s12, s13, s14, s15, s16, s17, s18, s19, s20, s21, s22, s23⟩
        go_simp
        with_reducible rfl
      rotate_left
      · simp only [Act.put, List.setIfInBounds_toArray, List.set_cons_zero, List.set_cons_succ, i64_w, i32_w]
        rfl
      refine take_ (i := 39) (N := some 64) (v := ?_) (a' := ?_) pbCx5_40 rfl rfl (take_ofW HT_.out HW_.out pmCx5_17_) (fun _ _ _ h => h) (Or.inl ⟨by rfl, ?_⟩) hHeld ?_ ?_
      rotate_left
      · rintro w' ⟨s0, s1, s2, s3, s4, s5, s6, s7, s8, s9, s10, s11, s12, s13, s14, s15, s16, s17, s18, s19, s20, s21, s22, s23⟩
        go_simp
        with_reducible rfl
      rotate_left
      · simp only [Act.put, List.setIfInBounds_toArray, List.set_cons_zero, List.set_cons_succ, i64_w, i32_w]
        rfl
      refine pure_ (i := 40) (N := some 65) (v := ?_) (a' := ?_) pbCx5_41 rfl rfl (any_of HT_.out pmCx5_17_) (fun _ _ _ h => h) (Or.inl ⟨by rfl, ?_⟩) ?_ ?_
      rotate_left
      · intro w'
        go_simp
        with_reducible rfl
      rotate_left
      · simp only [Act.put, List.setIfInBounds_toArray, List.set_cons_zero, List.set_cons_succ, i64_w, i32_w]
        rfl
      refine pure_ (i := 41) (N := some 66) (v := ?_) (a' := ?_) pbCx5_42 rfl rfl (any_of HT_.out pmCx5_17_) (fun _ _ _ h => h) (Or.inl ⟨by rfl, ?_⟩) ?_ ?_
      rotate_left
      · intro w'
        go_simp
        with_reducible rfl
      rotate_left
      · simp only [Act.put, List.setIfInBounds_toArray, List.set_cons_zero, List.set_cons_succ, i64_w, i32_w]
        rfl
      refine pure_ (i := 42) (N := some 67) (v := ?_) (a' := ?_) pbCx5_43 rfl rfl (any_of HT_.out pmCx5_17_) (fun _ _ _ h => h) (Or.inl ⟨by rfl, ?_⟩) ?_ ?_
      rotate_left
      · intro w'
        go_simp
        with_reducible rfl
      rotate_left
      · simp only [Act.put, List.setIfInBounds_toArray, List.set_cons_zero, List.set_cons_succ, i64_w, i32_w]
        rfl
      refine pure_ (i := 43) (N := some 68) (v := undef) (a' := ?_) pbCx5_44 rfl rfl (any_of HT_.out pmCx5_17_) (fun _ _ _ h => h) (Or.inr ⟨by rfl, rfl⟩) ?_ ?_
      rotate_left
      · simp only [Act.put, List.setIfInBounds_toArray, List.set_cons_zero, List.set_cons_succ, i64_w, i32_w]
        rfl
      refine pure_ (i := 44) (N := some 69) (v := ?_) (a' := ?_) pbCx5_45 rfl rfl (any_of HT_.out pmCx5_17_) (fun _ _ _ h => h) (Or.inl ⟨by rfl, ?_⟩) ?_ ?_
      rotate_left
      · intro w'
        go_simp
        with_reducible rfl
      rotate_left
      · simp only [Act.put, List.setIfInBounds_toArray, List.set_cons_zero, List.set_cons_succ, i64_w, i32_w]
        rfl
      refine pure_ (i := 45) (N := some 6) (v := ?_) (a' := ?_) pbCx5_46 rfl rfl (any_of HT_.out pmCx5_17_) (fun _ _ _ h => h) (Or.inl ⟨by rfl, ?_⟩) ?_ ?_
      rotate_left
      · intro w'
        go_simp
        with_reducible rfl
      rotate_left
      · simp only [Act.put, List.setIfInBounds_toArray, List.set_cons_zero, List.set_cons_succ, i64_w, i32_w]
        rfl
      refine done_ (done_of HT_.out pmCx5_17_) ?_
      try go_wp2
      go_meet
      case rel => exact ⟨_, (false), pmCx5_28_, H', ⟨pmCx5_30_⟩, ⟨pmCx5_4_⟩, ⟨pmCx5_5_⟩, ⟨pmCx5_10_⟩, ⟨pmCx5_11_⟩, ⟨pmCx5_13_⟩, ⟨pmCx5_14_⟩, ⟨pmCx5_0_⟩⟩
    rw [if_pos c51] at H
    have c51b0 : (t160 == t170 && (t161 == t171 && (t162 == t172 && (t163 == t173)))) = true := c51
    (try (have c51b1 : decide (t160 = t170 && (t161 == t171 && (t162 == t172 && (t163 == t173)))) = true := by simpa using c51))
    (try (have c51b2 : (t160 == t170 && (t161 == t171 && (t162 == t172 && (t163 == t173)))) = true := by simpa using c51))
    clear c51
    replace H := Option.bind_eq_some_iff.mp H
    obtain ⟨t190, A520, H⟩ := H
    replace H : (parterrelaw19_OccupyOverlaps.j0 k t190) = some r := H
    have A52 := Aside0.mk A520
    clear A520
    have H' := Aside0.mk H
    clear H
    try go_wp2
    have n0_ : Aside0 ((pwCx5_0 w26 gb174 gb175 t166 t167 t168 t169 t170 t171 t172 t173).heap[gb153]? = some (.cells #[.int .i64 a1_0, .int .i64 a1_1, .int .i64 a1_2, .int .i64 a1_3] 24 (0, 0))) := ⟨pmCx5_6_⟩
    have n1_ : Aside0 ((pwCx5_0 w26 gb174 gb175 t166 t167 t168 t169 t170 t171 t172 t173).heap[gb154]? = some (.cells #[.int .i64 a2_0, .int .i64 a2_1, .int .i64 a2_2, .int .i64 a2_3] 24 (0, 0))) := ⟨pmCx5_7_⟩
    have n2_ : Aside0 ((pwCx5_0 w26 gb174 gb175 t166 t167 t168 t169 t170 t171 t172 t173).heap[gb164]? = some (.cells #[.int .i64 t156, .int .i64 t157, .int .i64 t158, .int .i64 t159] 24 (0, 0))) := ⟨pmCx5_8_⟩
    have n3_ : Aside0 ((pwCx5_0 w26 gb174 gb175 t166 t167 t168 t169 t170 t171 t172 t173).heap[gb165]? = some (.cells #[.int .i64 t160, .int .i64 t161, .int .i64 t162, .int .i64 t163] 24 (0, 0))) := ⟨pmCx5_9_⟩
    have n4_ : Aside0 ((pwCx5_0 w26 gb174 gb175 t166 t167 t168 t169 t170 t171 t172 t173).heap[gb174]? = some (.cells #[.int .i64 t166, .int .i64 t167, .int .i64 t168, .int .i64 t169] 24 (0, 0))) := ⟨pmCx5_2_⟩
    have n5_ : Aside0 ((pwCx5_0 w26 gb174 gb175 t166 t167 t168 t169 t170 t171 t172 t173).heap[gb175]? = some (.cells #[.int .i64 t170, .int .i64 t171, .int .i64 t172, .int .i64 t173] 24 (0, 0))) := ⟨pmCx5_3_⟩
    have n6_ : Aside0 (Below w.heap.size w (pwCx5_0 w26 gb174 gb175 t166 t167 t168 t169 t170 t171 t172 t173)) := ⟨pmCx5_0_⟩
    (try clear BK153)
    (try clear BK154)
    (try clear BK164)
    (try clear BK165)
    (try clear BK174)
    (try clear BK175)
    (try clear HB)
    unfold pwCx5_0 at n0_ n1_ n2_ n3_ n4_ n5_ n6_
    generalize ((((((((w26.setCell ⟨gb174, 0, none⟩ (.int .i64 t166)).setCell ⟨gb174, 1, none⟩ (.int .i64 t167)).setCell ⟨gb174, 2, none⟩ (.int .i64 t168)).setCell ⟨gb174, 3, none⟩ (.int .i64 t169)).setCell ⟨gb175, 0, none⟩ (.int .i64 t170)).setCell ⟨gb175, 1, none⟩ (.int .i64 t171)).setCell ⟨gb175, 2, none⟩ (.int .i64 t172)).setCell ⟨gb175, 3, none⟩ (.int .i64 t173)) = w53 at n0_ n1_ n2_ n3_ n4_ n5_ n6_ ⊢
    have BK153 := n0_
    have BK154 := n1_
    have BK164 := n2_
    have BK165 := n3_
    have BK174 := n4_
    have BK175 := n5_
    have HB := n6_
    clear n0_ n1_ n2_ n3_ n4_ n5_ n6_
    replace BK153 := Aside0.mk (blk_drew BK153.out)
    replace BK154 := Aside0.mk (blk_drew BK154.out)
    replace BK164 := Aside0.mk (blk_drew BK164.out)
    replace BK165 := Aside0.mk (blk_drew BK165.out)
    replace BK174 := Aside0.mk (blk_drew BK174.out)
    replace BK175 := Aside0.mk (blk_drew BK175.out)
    replace HB := Aside0.mk (below_drew1 HB.out)
    refine start_ (n := 46) (S := fun w' => w'.cell? ⟨gb153, 0, none⟩ = some (.int .i64 a1_0) ∧ w'.cell? ⟨gb153, 1, none⟩ = some (.int .i64 a1_1) ∧ w'.cell? ⟨gb153, 2, none⟩ = some (.int .i64 a1_2) ∧ w'.cell? ⟨gb153, 3, none⟩ = some (.int .i64 a1_3) ∧ w'.cell? ⟨gb154, 0, none⟩ = some (.int .i64 a2_0) ∧ w'.cell? ⟨gb154, 1, none⟩ = some (.int .i64 a2_1) ∧ w'.cell? ⟨gb154, 2, none⟩ = some (.int .i64 a2_2) ∧ w'.cell? ⟨gb154, 3, none⟩ = some (.int .i64 a2_3) ∧ w'.cell? ⟨gb164, 0, none⟩ = some (.int .i64 t156) ∧ w'.cell? ⟨gb164, 1, none⟩ = some (.int .i64 t157) ∧ w'.cell? ⟨gb164, 2, none⟩ = some (.int .i64 t158) ∧ w'.cell? ⟨gb164, 3, none⟩ = some (.int .i64 t159) ∧ w'.cell? ⟨gb174, 0, none⟩ = some (.int .i64 t166) ∧ w'.cell? ⟨gb174, 1, none⟩ = some (.int .i64 t167) ∧ w'.cell? ⟨gb174, 2, none⟩ = some (.int .i64 t168) ∧ w'.cell? ⟨gb174, 3, none⟩ = some (.int .i64 t169) ∧ w'.cell? ⟨gb165, 0, none⟩ = some (.int .i64 t160) ∧ w'.cell? ⟨gb165, 1, none⟩ = some (.int .i64 t161) ∧ w'.cell? ⟨gb165, 2, none⟩ = some (.int .i64 t162) ∧ w'.cell? ⟨gb165, 3, none⟩ = some (.int .i64 t163) ∧ w'.cell? ⟨gb175, 0, none⟩ = some (.int .i64 t170) ∧ w'.cell? ⟨gb175, 1, none⟩ = some (.int .i64 t171) ∧ w'.cell? ⟨gb175, 2, none⟩ = some (.int .i64 t172) ∧ w'.cell? ⟨gb175, 3, none⟩ = some (.int .i64 t173)) (ds := []) pbCx5_0 pmCx5_17_ rfl rfl ⟨(blk_cell BK153.out 0).trans rfl, (blk_cell BK153.out 1).trans rfl, (blk_cell BK153.out 2).trans rfl, (blk_cell BK153.out 3).trans rfl, (blk_cell BK154.out 0).trans rfl, (blk_cell BK154.out 1).trans rfl, (blk_cell BK154.out 2).trans rfl, (blk_cell BK154.out 3).trans rfl, (blk_cell BK164.out 0).trans rfl, (blk_cell BK164.out 1).trans rfl, (blk_cell BK164.out 2).trans rfl, (blk_cell BK164.out 3).trans rfl, (blk_cell BK174.out 0).trans rfl, (blk_cell BK174.out 1).trans rfl, (blk_cell BK174.out 2).trans rfl, (blk_cell BK174.out 3).trans rfl, (blk_cell BK165.out 0).trans rfl, (blk_cell BK165.out 1).trans rfl, (blk_cell BK165.out 2).trans rfl, (blk_cell BK165.out 3).trans rfl, (blk_cell BK175.out 0).trans rfl, (blk_cell BK175.out 1).trans rfl, (blk_cell BK175.out 2).trans rfl, (blk_cell BK175.out 3).trans rfl⟩ (fun hHeld => ?_); refine with_tabW parterrelaw19_OccupyOverlaps.tab5 parterrelaw19_OccupyOverlaps.bits5 (fun HT_ HW_ => ?_)
    generalize w53.drew = w54 at BK153 BK154 BK164 BK165 BK174 BK175 HB hHeld ⊢
    refine take_ (i := 0) (N := some 25) (v := ?_) (a' := ?_) pbCx5_1 rfl rfl (take_ofW HT_.out HW_.out pmCx5_17_) (fun _ _ _ h => h) (Or.inl ⟨by rfl, ?_⟩) hHeld ?_ ?_
    rotate_left
    · rintro w' ⟨s0, s1, s2, s3, s4, s5, s6, s7, s8, s9, s10, s11, s12, s13, s14, s15, s16, s17, s18, s19, s20, s21, s22, s23⟩
      go_simp
      with_reducible rfl
    rotate_left
    · simp only [Act.put, List.setIfInBounds_toArray, List.set_cons_zero, List.set_cons_succ, i64_w, i32_w]
      rfl
    refine take_ (i := 1) (N := some 26) (v := ?_) (a' := ?_) pbCx5_2 rfl rfl (take_ofW HT_.out HW_.out pmCx5_17_) (fun _ _ _ h => h) (Or.inl ⟨by rfl, ?_⟩) hHeld ?_ ?_
    rotate_left
    · rintro w' ⟨s0, s1, s2, s3, s4, s5, s6, s7, s8, s9, s10, s11, s12, s13, s14, s15, s16, s17, s18, s19, s20, s21, s22, s23⟩
      go_simp
      with_reducible rfl
    rotate_left
    · simp only [Act.put, List.setIfInBounds_toArray, List.set_cons_zero, List.set_cons_succ, i64_w, i32_w]
      rfl
    refine take_ (i := 3) (N := some 28) (v := ?_) (a' := ?_) pbCx5_3 rfl rfl (take_ofW HT_.out HW_.out pmCx5_17_) (fun _ _ _ h => h) (Or.inl ⟨by rfl, ?_⟩) hHeld ?_ ?_
    rotate_left
    · rintro w' ⟨s0, s1, s2, s3, s4, s5, s6, s7, s8, s9, s10, s11, s12, s13, s14, s15, s16, s17, s18, s19, s20, s21, s22, s23⟩
      go_simp
      with_reducible rfl
    rotate_left
    · simp only [Act.put, List.setIfInBounds_toArray, List.set_cons_zero, List.set_cons_succ, i64_w, i32_w]
      rfl
    refine take_ (i := 4) (N := some 29) (v := ?_) (a' := ?_) pbCx5_4 rfl rfl (take_ofW HT_.out HW_.out pmCx5_17_) (fun _ _ _ h => h) (Or.inl ⟨by rfl, ?_⟩) hHeld ?_ ?_
    rotate_left
    · rintro w' ⟨s0, s1, s2, s3, s4, s5, s6, s7, s8, s9, s10, s11, s12, s13, s14, s15, s16, s17, s18, s19, s20, s21, s22, s23⟩
      go_simp
      with_reducible rfl
    rotate_left
    · simp only [Act.put, List.setIfInBounds_toArray, List.set_cons_zero, List.set_cons_succ, i64_w, i32_w]
      rfl
    refine one_ (i := 2) (N := some 27) pbCx5_5 rfl rfl (one_of HT_.out pmCx5_17_) pmCx5_29_ (fun K hK => ?_)
    refine goes_ Try.func17 pmCx5_17_ rfl #[.agg #[.int .i64 a1_0, .int .i64 a1_1, .int .i64 a1_2, .int .i64 a1_3], .agg #[.int .i64 a2_0, .int .i64 a2_1, .int .i64 a2_2, .int .i64 a2_3]] (by rfl) rfl rfl pmCx5_12_ ?_
    with_reducible refine (occupy_Overlap.calls k a1_0 a1_1 a1_2 a1_3 a2_0 a2_1 a2_2 a2_3 t176 _ A38.out).mono ?_
    rintro e w55 ⟨rfl, hb⟩
    refine ⟨_, rfl, ?_⟩
    replace BK153 := Aside0.mk (blk_below (g := gb153) (o := poCx5_0 a1_0 a1_1 a1_2 a1_3) pmCx5_4_ hb)
    replace BK154 := Aside0.mk (blk_below (g := gb154) (o := poCx5_0 a2_0 a2_1 a2_2 a2_3) pmCx5_5_ hb)
    replace BK164 := Aside0.mk (blk_below (g := gb164) (o := poCx5_0 t156 t157 t158 t159) pmCx5_10_ hb)
    replace BK165 := Aside0.mk (blk_below (g := gb165) (o := poCx5_0 t160 t161 t162 t163) pmCx5_11_ hb)
    replace BK174 := Aside0.mk (blk_below (g := gb174) (o := poCx5_0 t166 t167 t168 t169) pmCx5_13_ hb)
    replace BK175 := Aside0.mk (blk_below (g := gb175) (o := poCx5_0 t170 t171 t172 t173) pmCx5_14_ hb)
    replace HB := Aside0.mk (below_step pmCx5_0_ hb)
    (try clear hb)
    (try clear hb2)
    (try clear hk)
    (try clear hi)
    refine hK.out _ _ pmCx5_1_ (fun hHeld => ?_)
    clear hK K
    refine norm_ (a' := ?_) ?_ ?_
    rotate_left
    · show Act.put _ (some 27) _ = _
      simp only [Act.put, List.setIfInBounds_toArray, List.set_cons_zero, List.set_cons_succ, i64_w, i32_w]
      rfl
    refine one_ (i := 5) (N := some 30) pbCx5_6 rfl rfl (one_of HT_.out pmCx5_17_) pmCx5_29_ (fun K hK => ?_)
    refine goes_ Try.func18 pmCx5_17_ rfl #[.agg #[.int .i64 a1_0, .int .i64 a1_1, .int .i64 a1_2, .int .i64 a1_3], .agg #[.int .i64 a2_0, .int .i64 a2_1, .int .i64 a2_2, .int .i64 a2_3]] (by rfl) rfl rfl pmCx5_12_ ?_
    with_reducible refine (parterreref19_Overlap.calls a1_0 a1_1 a1_2 a1_3 a2_0 a2_1 a2_2 a2_3 t177 _ A39.out).mono ?_
    rintro e w56 ⟨rfl, hb⟩
    refine ⟨_, rfl, ?_⟩
    replace BK153 := Aside0.mk (blk_below (g := gb153) (o := poCx5_0 a1_0 a1_1 a1_2 a1_3) pmCx5_4_ hb)
    replace BK154 := Aside0.mk (blk_below (g := gb154) (o := poCx5_0 a2_0 a2_1 a2_2 a2_3) pmCx5_5_ hb)
    replace BK164 := Aside0.mk (blk_below (g := gb164) (o := poCx5_0 t156 t157 t158 t159) pmCx5_10_ hb)
    replace BK165 := Aside0.mk (blk_below (g := gb165) (o := poCx5_0 t160 t161 t162 t163) pmCx5_11_ hb)
    replace BK174 := Aside0.mk (blk_below (g := gb174) (o := poCx5_0 t166 t167 t168 t169) pmCx5_13_ hb)
    replace BK175 := Aside0.mk (blk_below (g := gb175) (o := poCx5_0 t170 t171 t172 t173) pmCx5_14_ hb)
    replace HB := Aside0.mk (below_step pmCx5_0_ hb)
    (try clear hb)
    (try clear hb2)
    (try clear hk)
    (try clear hi)
    refine hK.out _ _ pmCx5_1_ (fun hHeld => ?_)
    clear hK K
    refine norm_ (a' := ?_) ?_ ?_
    rotate_left
    · show Act.put _ (some 30) _ = _
      simp only [Act.put, List.setIfInBounds_toArray, List.set_cons_zero, List.set_cons_succ, i64_w, i32_w]
      rfl
    refine pure_ (i := 6) (N := some 31) (v := ?_) (a' := ?_) pbCx5_7 rfl rfl (any_of HT_.out pmCx5_17_) (fun _ _ _ h => h) (Or.inl ⟨by rfl, ?_⟩) ?_ ?_
    rotate_left
    · intro w'
      go_simp
      with_reducible rfl
    rotate_left
    · simp only [Act.put, List.setIfInBounds_toArray, List.set_cons_zero, List.set_cons_succ, i64_w, i32_w]
      rfl
    refine pure_ (i := 7) (N := some 32) (v := ?_) (a' := ?_) pbCx5_8 rfl rfl (any_of HT_.out pmCx5_17_) (fun _ _ _ h => h) (Or.inl ⟨by rfl, ?_⟩) ?_ ?_
    rotate_left
    · intro w'
      go_simp
      with_reducible rfl
    rotate_left
    · simp only [Act.put, List.setIfInBounds_toArray, List.set_cons_zero, List.set_cons_succ, i64_w, i32_w]
      rfl
    refine take_ (i := 8) (N := some 33) (v := ?_) (a' := ?_) pbCx5_9 rfl rfl (take_ofW HT_.out HW_.out pmCx5_17_) (fun _ _ _ h => h) (Or.inl ⟨by rfl, ?_⟩) hHeld ?_ ?_
    rotate_left
    · rintro w' ⟨s0, s1, s2, s3, s4, s5, s6, s7, s8, s9, s10, s11, s12, s13, s14, s15, s16, s17, s18, s19, s20, s21, s22, s23⟩
      go_simp
      with_reducible rfl
    rotate_left
    · simp only [Act.put, List.setIfInBounds_toArray, List.set_cons_zero, List.set_cons_succ, i64_w, i32_w]
      rfl
    refine take_ (i := 9) (N := some 34) (v := ?_) (a' := ?_) pbCx5_10 rfl rfl (take_ofW HT_.out HW_.out pmCx5_17_) (fun _ _ _ h => h) (Or.inl ⟨by rfl, ?_⟩) hHeld ?_ ?_
    rotate_left
    · rintro w' ⟨s0, s1, s2, s3, s4, s5, s6, s7, s8, s9, s10, s11, s12, s13, s14, s15, s16, s17, s18, s19, s20, s21, s22, s23⟩
      go_simp
      with_reducible rfl
    rotate_left
    · simp only [Act.put, List.setIfInBounds_toArray, List.set_cons_zero, List.set_cons_succ, i64_w, i32_w]
      rfl
    refine take_ (i := 11) (N := some 36) (v := ?_) (a' := ?_) pbCx5_11 rfl rfl (take_ofW HT_.out HW_.out pmCx5_17_) (fun _ _ _ h => h) (Or.inl ⟨by rfl, ?_⟩) hHeld ?_ ?_
    rotate_left
    · rintro w' ⟨s0, s1, s2, s3, s4, s5, s6, s7, s8, s9, s10, s11, s12, s13, s14, s15, s16, s17, s18, s19, s20, s21, s22, s23⟩
      go_simp
      with_reducible rfl
    rotate_left
    · simp only [Act.put, List.setIfInBounds_toArray, List.set_cons_zero, List.set_cons_succ, i64_w, i32_w]
      rfl
    refine take_ (i := 12) (N := some 37) (v := ?_) (a' := ?_) pbCx5_12 rfl rfl (take_ofW HT_.out HW_.out pmCx5_17_) (fun _ _ _ h => h) (Or.inl ⟨by rfl, ?_⟩) hHeld ?_ ?_
    rotate_left
    · rintro w' ⟨s0, s1, s2, s3, s4, s5, s6, s7, s8, s9, s10, s11, s12, s13, s14, s15, s16, s17, s18, s19, s20, s21, s22, s23⟩
      go_simp
      with_reducible rfl
    rotate_left
    · simp only [Act.put, List.setIfInBounds_toArray, List.set_cons_zero, List.set_cons_succ, i64_w, i32_w]
      rfl
    refine one_ (i := 10) (N := some 35) pbCx5_13 rfl rfl (one_of HT_.out pmCx5_17_) pmCx5_29_ (fun K hK => ?_)
    refine goes_ Try.func17 pmCx5_17_ rfl #[.agg #[.int .i64 a2_0, .int .i64 a2_1, .int .i64 a2_2, .int .i64 a2_3], .agg #[.int .i64 a1_0, .int .i64 a1_1, .int .i64 a1_2, .int .i64 a1_3]] (by rfl) rfl rfl pmCx5_12_ ?_
    with_reducible refine (occupy_Overlap.calls k a2_0 a2_1 a2_2 a2_3 a1_0 a1_1 a1_2 a1_3 t178 _ A41.out).mono ?_
    rintro e w57 ⟨rfl, hb⟩
    refine ⟨_, rfl, ?_⟩
    replace BK153 := Aside0.mk (blk_below (g := gb153) (o := poCx5_0 a1_0 a1_1 a1_2 a1_3) pmCx5_4_ hb)
    replace BK154 := Aside0.mk (blk_below (g := gb154) (o := poCx5_0 a2_0 a2_1 a2_2 a2_3) pmCx5_5_ hb)
    replace BK164 := Aside0.mk (blk_below (g := gb164) (o := poCx5_0 t156 t157 t158 t159) pmCx5_10_ hb)
    replace BK165 := Aside0.mk (blk_below (g := gb165) (o := poCx5_0 t160 t161 t162 t163) pmCx5_11_ hb)
    replace BK174 := Aside0.mk (blk_below (g := gb174) (o := poCx5_0 t166 t167 t168 t169) pmCx5_13_ hb)
    replace BK175 := Aside0.mk (blk_below (g := gb175) (o := poCx5_0 t170 t171 t172 t173) pmCx5_14_ hb)
    replace HB := Aside0.mk (below_step pmCx5_0_ hb)
    (try clear hb)
    (try clear hb2)
    (try clear hk)
    (try clear hi)
    refine hK.out _ _ pmCx5_1_ (fun hHeld => ?_)
    clear hK K
    refine norm_ (a' := ?_) ?_ ?_
    rotate_left
    · show Act.put _ (some 35) _ = _
      simp only [Act.put, List.setIfInBounds_toArray, List.set_cons_zero, List.set_cons_succ, i64_w, i32_w]
      rfl
    refine one_ (i := 13) (N := some 38) pbCx5_14 rfl rfl (one_of HT_.out pmCx5_17_) pmCx5_29_ (fun K hK => ?_)
    refine goes_ Try.func18 pmCx5_17_ rfl #[.agg #[.int .i64 a1_0, .int .i64 a1_1, .int .i64 a1_2, .int .i64 a1_3], .agg #[.int .i64 a2_0, .int .i64 a2_1, .int .i64 a2_2, .int .i64 a2_3]] (by rfl) rfl rfl pmCx5_12_ ?_
    with_reducible refine (parterreref19_Overlap.calls a1_0 a1_1 a1_2 a1_3 a2_0 a2_1 a2_2 a2_3 t179 _ A42.out).mono ?_
    rintro e w58 ⟨rfl, hb⟩
    refine ⟨_, rfl, ?_⟩
    replace BK153 := Aside0.mk (blk_below (g := gb153) (o := poCx5_0 a1_0 a1_1 a1_2 a1_3) pmCx5_4_ hb)
    replace BK154 := Aside0.mk (blk_below (g := gb154) (o := poCx5_0 a2_0 a2_1 a2_2 a2_3) pmCx5_5_ hb)
    replace BK164 := Aside0.mk (blk_below (g := gb164) (o := poCx5_0 t156 t157 t158 t159) pmCx5_10_ hb)
    replace BK165 := Aside0.mk (blk_below (g := gb165) (o := poCx5_0 t160 t161 t162 t163) pmCx5_11_ hb)
    replace BK174 := Aside0.mk (blk_below (g := gb174) (o := poCx5_0 t166 t167 t168 t169) pmCx5_13_ hb)
    replace BK175 := Aside0.mk (blk_below (g := gb175) (o := poCx5_0 t170 t171 t172 t173) pmCx5_14_ hb)
    replace HB := Aside0.mk (below_step pmCx5_0_ hb)
    (try clear hb)
    (try clear hb2)
    (try clear hk)
    (try clear hi)
    refine hK.out _ _ pmCx5_1_ (fun hHeld => ?_)
    clear hK K
    refine norm_ (a' := ?_) ?_ ?_
    rotate_left
    · show Act.put _ (some 38) _ = _
      simp only [Act.put, List.setIfInBounds_toArray, List.set_cons_zero, List.set_cons_succ, i64_w, i32_w]
      rfl
    refine pure_ (i := 14) (N := some 39) (v := ?_) (a' := ?_) pbCx5_15 rfl rfl (any_of HT_.out pmCx5_17_) (fun _ _ _ h => h) (Or.inl ⟨by rfl, ?_⟩) ?_ ?_
    rotate_left
    · intro w'
      go_simp
      with_reducible rfl
    rotate_left
    · simp only [Act.put, List.setIfInBounds_toArray, List.set_cons_zero, List.set_cons_succ, i64_w, i32_w]
      rfl
    refine pure_ (i := 15) (N := some 40) (v := ?_) (a' := ?_) pbCx5_16 rfl rfl (any_of HT_.out pmCx5_17_) (fun _ _ _ h => h) (Or.inl ⟨by rfl, ?_⟩) ?_ ?_
    rotate_left
    · intro w'
      go_simp
      with_reducible rfl
    rotate_left
    · simp only [Act.put, List.setIfInBounds_toArray, List.set_cons_zero, List.set_cons_succ, i64_w, i32_w]
      rfl
    refine pure_ (i := 16) (N := some 41) (v := ?_) (a' := ?_) pbCx5_17 rfl rfl (any_of HT_.out pmCx5_17_) (fun _ _ _ h => h) (Or.inl ⟨by rfl, ?_⟩) ?_ ?_
    rotate_left
    · intro w'
      go_simp
      with_reducible rfl
    rotate_left
    · simp only [Act.put, List.setIfInBounds_toArray, List.set_cons_zero, List.set_cons_succ, i64_w, i32_w]
      rfl
    refine pure_ (i := 17) (N := some 42) (v := ?_) (a' := ?_) pbCx5_18 rfl rfl (any_of HT_.out pmCx5_17_) (fun _ _ _ h => h) (Or.inl ⟨by rfl, ?_⟩) ?_ ?_
    rotate_left
    · intro w'
      go_simp
      with_reducible rfl
    rotate_left
    · simp only [Act.put, List.setIfInBounds_toArray, List.set_cons_zero, List.set_cons_succ, i64_w, i32_w]
      rfl
    refine pure_ (i := 20) (N := some 45) (v := ?_) (a' := ?_) pbCx5_19 rfl rfl (any_of HT_.out pmCx5_17_) (fun _ _ _ h => h) (Or.inl ⟨by rfl, ?_⟩) ?_ ?_
    rotate_left
    · intro w'
      go_simp
      with_reducible rfl
    rotate_left
    · simp only [Act.put, List.setIfInBounds_toArray, List.set_cons_zero, List.set_cons_succ, i64_w, i32_w]
      rfl
    refine take_ (i := 18) (N := some 43) (v := ?_) (a' := ?_) pbCx5_20 rfl rfl (take_ofW HT_.out HW_.out pmCx5_17_) (fun _ _ _ h => h) (Or.inl ⟨by rfl, ?_⟩) hHeld ?_ ?_
    rotate_left
    · rintro w' ⟨s0, s1, s2, s3, s4, s5, s6, s7, s8, s9, s10, s11, s12, s13, s14, s15, s16, s17, s18, s19, s20, s21, s22, s23⟩
      go_simp
      with_reducible rfl
    rotate_left
    · simp only [Act.put, List.setIfInBounds_toArray, List.set_cons_zero, List.set_cons_succ, i64_w, i32_w]
      rfl
    refine take_ (i := 21) (N := some 46) (v := ?_) (a' := ?_) pbCx5_21 rfl rfl (take_ofW HT_.out HW_.out pmCx5_17_) (fun _ _ _ h => h) (Or.inl ⟨by rfl, ?_⟩) hHeld ?_ ?_
    rotate_left
    · rintro w' ⟨s0, s1, s2, s3, s4, s5, s6, s7, s8, s9, s10, s11, s12, s13, s14, s15, s16, s17, s18, s19, s20, s21, s22, s23⟩
      go_simp
      with_reducible rfl
    rotate_left
    · simp only [Act.put, List.setIfInBounds_toArray, List.set_cons_zero, List.set_cons_succ, i64_w, i32_w]
      rfl
    refine one_ (i := 19) (N := some 44) pbCx5_22 rfl rfl (one_of HT_.out pmCx5_17_) pmCx5_29_ (fun K hK => ?_)
    refine goes_ Try.func10 pmCx5_17_ rfl #[.slice A0 l0.length c0, .agg #[.int .i64 a1_0, .int .i64 a1_1, .int .i64 a1_2, .int .i64 a1_3]] (by rfl) rfl rfl pmCx5_12_ ?_
    with_reducible refine (occupy_Free.calls k _ _ l0 a1_0 a1_1 a1_2 a1_3 t180 _ ?side1 ?side2 A44.out).mono ?_
    (case side1 => repeat (first | exact (Kd.C_below HR0.out HB.out) | (with_reducible refine Kd.C_alloc ?_ _) | (with_reducible refine Kd.C_drewN ?_ _) | (with_reducible refine Kd.C_drew ?_)))
    (case side2 => exact HC0.out)
    rintro e w59 ⟨rfl, hb⟩
    refine ⟨_, rfl, ?_⟩
    replace BK153 := Aside0.mk (blk_below (g := gb153) (o := poCx5_0 a1_0 a1_1 a1_2 a1_3) pmCx5_4_ hb)
    replace BK154 := Aside0.mk (blk_below (g := gb154) (o := poCx5_0 a2_0 a2_1 a2_2 a2_3) pmCx5_5_ hb)
    replace BK164 := Aside0.mk (blk_below (g := gb164) (o := poCx5_0 t156 t157 t158 t159) pmCx5_10_ hb)
    replace BK165 := Aside0.mk (blk_below (g := gb165) (o := poCx5_0 t160 t161 t162 t163) pmCx5_11_ hb)
    replace BK174 := Aside0.mk (blk_below (g := gb174) (o := poCx5_0 t166 t167 t168 t169) pmCx5_13_ hb)
    replace BK175 := Aside0.mk (blk_below (g := gb175) (o := poCx5_0 t170 t171 t172 t173) pmCx5_14_ hb)
    replace HB := Aside0.mk (below_step pmCx5_0_ hb)
    (try clear hb)
    (try clear hb2)
    (try clear hk)
    (try clear hi)
    refine hK.out _ _ pmCx5_1_ (fun hHeld => ?_)
    clear hK K
    refine norm_ (a' := ?_) ?_ ?_
    rotate_left
    · show Act.put _ (some 44) _ = _
      simp only [Act.put, List.setIfInBounds_toArray, List.set_cons_zero, List.set_cons_succ, i64_w, i32_w]
      rfl
    refine one_ (i := 22) (N := some 47) pbCx5_23 rfl rfl (one_of HT_.out pmCx5_17_) pmCx5_29_ (fun K hK => ?_)
    refine goes_ Try.func19 pmCx5_17_ rfl #[.slice A0 l0.length c0, .agg #[.int .i64 a1_0, .int .i64 a1_1, .int .i64 a1_2, .int .i64 a1_3]] (by rfl) rfl rfl pmCx5_12_ ?_
    with_reducible refine (parterreref19_Free.calls k _ _ l0 a1_0 a1_1 a1_2 a1_3 t181 _ ?side1 ?side2 A45.out).mono ?_
    (case side1 => repeat (first | exact (Kd.C_below HR0.out HB.out) | (with_reducible refine Kd.C_alloc ?_ _) | (with_reducible refine Kd.C_drewN ?_ _) | (with_reducible refine Kd.C_drew ?_)))
    (case side2 => exact HC0.out)
    rintro e w60 ⟨rfl, hb⟩
    refine ⟨_, rfl, ?_⟩
    replace BK153 := Aside0.mk (blk_below (g := gb153) (o := poCx5_0 a1_0 a1_1 a1_2 a1_3) pmCx5_4_ hb)
    replace BK154 := Aside0.mk (blk_below (g := gb154) (o := poCx5_0 a2_0 a2_1 a2_2 a2_3) pmCx5_5_ hb)
    replace BK164 := Aside0.mk (blk_below (g := gb164) (o := poCx5_0 t156 t157 t158 t159) pmCx5_10_ hb)
    replace BK165 := Aside0.mk (blk_below (g := gb165) (o := poCx5_0 t160 t161 t162 t163) pmCx5_11_ hb)
    replace BK174 := Aside0.mk (blk_below (g := gb174) (o := poCx5_0 t166 t167 t168 t169) pmCx5_13_ hb)
    replace BK175 := Aside0.mk (blk_below (g := gb175) (o := poCx5_0 t170 t171 t172 t173) pmCx5_14_ hb)
    replace HB := Aside0.mk (below_step pmCx5_0_ hb)
    (try clear hb)
    (try clear hb2)
    (try clear hk)
    (try clear hi)
    refine hK.out _ _ pmCx5_1_ (fun hHeld => ?_)
    clear hK K
    refine norm_ (a' := ?_) ?_ ?_
    rotate_left
    · show Act.put _ (some 47) _ = _
      simp only [Act.put, List.setIfInBounds_toArray, List.set_cons_zero, List.set_cons_succ, i64_w, i32_w]
      rfl
    refine pure_ (i := 23) (N := some 48) (v := ?_) (a' := ?_) pbCx5_24 rfl rfl (any_of HT_.out pmCx5_17_) (fun _ _ _ h => h) (Or.inl ⟨by rfl, ?_⟩) ?_ ?_
    rotate_left
    · intro w'
      go_simp
      with_reducible rfl
    rotate_left
    · simp only [Act.put, List.setIfInBounds_toArray, List.set_cons_zero, List.set_cons_succ, i64_w, i32_w]
      rfl
    refine pure_ (i := 24) (N := some 49) (v := ?_) (a' := ?_) pbCx5_25 rfl rfl (any_of HT_.out pmCx5_17_) (fun _ _ _ h => h) (Or.inl ⟨by rfl, ?_⟩) ?_ ?_
    rotate_left
    · intro w'
      go_simp
      with_reducible rfl
    rotate_left
    · simp only [Act.put, List.setIfInBounds_toArray, List.set_cons_zero, List.set_cons_succ, i64_w, i32_w]
      rfl
    refine pure_ (i := 25) (N := some 50) (v := ?_) (a' := ?_) pbCx5_26 rfl rfl (any_of HT_.out pmCx5_17_) (fun _ _ _ h => h) (Or.inl ⟨by rfl, ?_⟩) ?_ ?_
    rotate_left
    · intro w'
      go_simp
      with_reducible rfl
    rotate_left
    · simp only [Act.put, List.setIfInBounds_toArray, List.set_cons_zero, List.set_cons_succ, i64_w, i32_w]
      rfl
    refine take_ (i := 26) (N := some 51) (v := ?_) (a' := ?_) pbCx5_27 rfl rfl (take_ofW HT_.out HW_.out pmCx5_17_) (fun _ _ _ h => h) (Or.inl ⟨by rfl, ?_⟩) hHeld ?_ ?_
    rotate_left
    · rintro w' ⟨s0, s1, s2, s3, s4, s5, s6, s7, s8, s9, s10, s11, s12, s13, s14, s15, s16, s17, s18, s19, s20, s21, s22, s23⟩
      go_simp
      with_reducible rfl
    rotate_left
    · simp only [Act.put, List.setIfInBounds_toArray, List.set_cons_zero, List.set_cons_succ, i64_w, i32_w]
      rfl
    refine take_ (i := 28) (N := some 53) (v := ?_) (a' := ?_) pbCx5_28 rfl rfl (take_ofW HT_.out HW_.out pmCx5_17_) (fun _ _ _ h => h) (Or.inl ⟨by rfl, ?_⟩) hHeld ?_ ?_
    rotate_left
    · rintro w' ⟨s0, s1, s2, s3, s4, s5, s6, s7, s8, s9, s10, s11, s12, s13, s14, s15, s16, s17, s18, s19, s20, s21, s22, s23⟩
      go_simp
      with_reducible rfl
    rotate_left
    · simp only [Act.put, List.setIfInBounds_toArray, List.set_cons_zero, List.set_cons_succ, i64_w, i32_w]
      rfl
    refine one_ (i := 27) (N := some 52) pbCx5_29 rfl rfl (one_of HT_.out pmCx5_17_) pmCx5_29_ (fun K hK => ?_)
    refine goes_ Try.func14 pmCx5_17_ rfl #[.agg #[.int .i64 a1_0, .int .i64 a1_1, .int .i64 a1_2, .int .i64 a1_3]] (by rfl) rfl rfl pmCx5_12_ ?_
    with_reducible refine (occupy_Turn.calls a1_0 a1_1 a1_2 a1_3 t182 t183 t184 t185 _ A47.out).mono ?_
    rintro e w61 ⟨rfl, hb⟩
    refine ⟨_, rfl, ?_⟩
    replace BK153 := Aside0.mk (blk_below (g := gb153) (o := poCx5_0 a1_0 a1_1 a1_2 a1_3) pmCx5_4_ hb)
    replace BK154 := Aside0.mk (blk_below (g := gb154) (o := poCx5_0 a2_0 a2_1 a2_2 a2_3) pmCx5_5_ hb)
    replace BK164 := Aside0.mk (blk_below (g := gb164) (o := poCx5_0 t156 t157 t158 t159) pmCx5_10_ hb)
    replace BK165 := Aside0.mk (blk_below (g := gb165) (o := poCx5_0 t160 t161 t162 t163) pmCx5_11_ hb)
    replace BK174 := Aside0.mk (blk_below (g := gb174) (o := poCx5_0 t166 t167 t168 t169) pmCx5_13_ hb)
    replace BK175 := Aside0.mk (blk_below (g := gb175) (o := poCx5_0 t170 t171 t172 t173) pmCx5_14_ hb)
    replace HB := Aside0.mk (below_step pmCx5_0_ hb)
    (try clear hb)
    (try clear hb2)
    (try clear hk)
    (try clear hi)
    refine hK.out _ _ pmCx5_1_ (fun hHeld => ?_)
    clear hK K
    refine norm_ (a' := ?_) ?_ ?_
    rotate_left
    · show Act.put _ (some 52) _ = _
      simp only [Act.put, List.setIfInBounds_toArray, List.set_cons_zero, List.set_cons_succ, i64_w, i32_w]
      rfl
    refine one_ (i := 29) (N := some 54) pbCx5_30 rfl rfl (one_of HT_.out pmCx5_17_) pmCx5_29_ (fun K hK => ?_)
    refine goes_ Try.func20 pmCx5_17_ rfl #[.agg #[.int .i64 a1_0, .int .i64 a1_1, .int .i64 a1_2, .int .i64 a1_3]] (by rfl) rfl rfl pmCx5_12_ ?_
    with_reducible refine (parterreref19_Turn.calls a1_0 a1_1 a1_2 a1_3 t186 t187 t188 t189 _ A48.out).mono ?_
    rintro e w62 ⟨rfl, hb⟩
    refine ⟨_, rfl, ?_⟩
    replace BK153 := Aside0.mk (blk_below (g := gb153) (o := poCx5_0 a1_0 a1_1 a1_2 a1_3) pmCx5_4_ hb)
    replace BK154 := Aside0.mk (blk_below (g := gb154) (o := poCx5_0 a2_0 a2_1 a2_2 a2_3) pmCx5_5_ hb)
    replace BK164 := Aside0.mk (blk_below (g := gb164) (o := poCx5_0 t156 t157 t158 t159) pmCx5_10_ hb)
    replace BK165 := Aside0.mk (blk_below (g := gb165) (o := poCx5_0 t160 t161 t162 t163) pmCx5_11_ hb)
    replace BK174 := Aside0.mk (blk_below (g := gb174) (o := poCx5_0 t166 t167 t168 t169) pmCx5_13_ hb)
    replace BK175 := Aside0.mk (blk_below (g := gb175) (o := poCx5_0 t170 t171 t172 t173) pmCx5_14_ hb)
    replace HB := Aside0.mk (below_step pmCx5_0_ hb)
    (try clear hb)
    (try clear hb2)
    (try clear hk)
    (try clear hi)
    refine hK.out _ _ pmCx5_1_ (fun hHeld => ?_)
    clear hK K
    refine norm_ (a' := ?_) ?_ ?_
    rotate_left
    · show Act.put _ (some 54) _ = _
      simp only [Act.put, List.setIfInBounds_toArray, List.set_cons_zero, List.set_cons_succ, i64_w, i32_w]
      rfl
    refine pure_ (i := 30) (N := some 55) (v := ?_) (a' := ?_) pbCx5_31 rfl rfl (any_of HT_.out pmCx5_17_) (fun _ _ _ h => h) (Or.inl ⟨by rfl, ?_⟩) ?_ ?_
    rotate_left
    · intro w'
      go_simp
      with_reducible rfl
    rotate_left
    · simp only [Act.put, List.setIfInBounds_toArray, List.set_cons_zero, List.set_cons_succ, i64_w, i32_w]
      rfl
    refine pure_ (i := 31) (N := some 56) (v := ?_) (a' := ?_) pbCx5_32 rfl rfl (any_of HT_.out pmCx5_17_) (fun _ _ _ h => h) (Or.inl ⟨by rfl, ?_⟩) ?_ ?_
    rotate_left
    · intro w'
      go_simp
      with_reducible rfl
    rotate_left
    · simp only [Act.put, List.setIfInBounds_toArray, List.set_cons_zero, List.set_cons_succ, i64_w, i32_w]
      rfl
    refine pure_ (i := 32) (N := some 57) (v := ?_) (a' := ?_) pbCx5_33 rfl rfl (any_of HT_.out pmCx5_17_) (fun _ _ _ h => h) (Or.inl ⟨by rfl, ?_⟩) ?_ ?_
    rotate_left
    · intro w'
      go_simp
      with_reducible rfl
    rotate_left
    · simp only [Act.put, List.setIfInBounds_toArray, List.set_cons_zero, List.set_cons_succ, i64_w, i32_w]
      rfl
    refine take_ (i := 33) (N := some 58) (v := ?_) (a' := ?_) pbCx5_34 rfl rfl (take_ofW HT_.out HW_.out pmCx5_17_) (fun _ _ _ h => h) (Or.inl ⟨by rfl, ?_⟩) hHeld ?_ ?_
    rotate_left
    · rintro w' ⟨s0, s1, s2, s3, s4, s5, s6, s7, s8, s9, s10, s11, s12, s13, s14, s15, s16, s17, s18, s19, s20, s21, s22, s23⟩
      go_simp
      with_reducible rfl
    rotate_left
    · simp only [Act.put, List.setIfInBounds_toArray, List.set_cons_zero, List.set_cons_succ, i64_w, i32_w]
      rfl
    refine take_ (i := 34) (N := some 59) (v := ?_) (a' := ?_) pbCx5_35 rfl rfl (take_ofW HT_.out HW_.out pmCx5_17_) (fun _ _ _ h => h) (Or.inl ⟨by rfl, ?_⟩) hHeld ?_ ?_
    rotate_left
    · rintro w' ⟨s0, s1, s2, s3, s4, s5, s6, s7, s8, s9, s10, s11, s12, s13, s14, s15, s16, s17, s18, s19, s20, s21, s22, s23⟩
      go_simp
      with_reducible rfl
    rotate_left
    · simp only [Act.put, List.setIfInBounds_toArray, List.set_cons_zero, List.set_cons_succ, i64_w, i32_w]
      rfl
    refine pure_ (i := 35) (N := some 60) (v := ?_) (a' := ?_) pbCx5_36 rfl rfl (any_of HT_.out pmCx5_17_) (fun _ _ _ h => h) (Or.inl ⟨by rfl, ?_⟩) ?_ ?_
    rotate_left
    · intro w'
      go_simp
      with_reducible rfl
    rotate_left
    · simp only [Act.put, List.setIfInBounds_toArray, List.set_cons_zero, List.set_cons_succ, i64_w, i32_w]
      rfl
    refine pure_ (i := 36) (N := some 61) (v := ?_) (a' := ?_) pbCx5_37 rfl rfl (any_of HT_.out pmCx5_17_) (fun _ _ _ h => h) (Or.inl ⟨by rfl, ?_⟩) ?_ ?_
    rotate_left
    · intro w'
      go_simp
      with_reducible rfl
    rotate_left
    · simp only [Act.put, List.setIfInBounds_toArray, List.set_cons_zero, List.set_cons_succ, i64_w, i32_w]
      rfl
    refine pure_ (i := 37) (N := some 62) (v := ?_) (a' := ?_) pbCx5_38 rfl rfl (any_of HT_.out pmCx5_17_) (fun _ _ _ h => h) (Or.inl ⟨by rfl, ?_⟩) ?_ ?_
    rotate_left
    · intro w'
      go_simp
      with_reducible rfl
    rotate_left
    · simp only [Act.put, List.setIfInBounds_toArray, List.set_cons_zero, List.set_cons_succ, i64_w, i32_w]
      rfl
    refine take_ (i := 38) (N := some 63) (v := ?_) (a' := ?_) pbCx5_39 rfl rfl (take_ofW HT_.out HW_.out pmCx5_17_) (fun _ _ _ h => h) (Or.inl ⟨by rfl, ?_⟩) hHeld ?_ ?_
    rotate_left
    · rintro w' ⟨s0, s1, s2, s3, s4, s5, s6, s7, s8, s9, s10, s11, s12, s13, s14, s15, s16, s17, s18, s19, s20, s21, s22, s23⟩
      go_simp
      with_reducible rfl
    rotate_left
    · simp only [Act.put, List.setIfInBounds_toArray, List.set_cons_zero, List.set_cons_succ, i64_w, i32_w]
      rfl
    refine take_ (i := 39) (N := some 64) (v := ?_) (a' := ?_) pbCx5_40 rfl rfl (take_ofW HT_.out HW_.out pmCx5_17_) (fun _ _ _ h => h) (Or.inl ⟨by rfl, ?_⟩) hHeld ?_ ?_
    rotate_left
    · rintro w' ⟨s0, s1, s2, s3, s4, s5, s6, s7, s8, s9, s10, s11, s12, s13, s14, s15, s16, s17, s18, s19, s20, s21, s22, s23⟩
      go_simp
      with_reducible rfl
    rotate_left
    · simp only [Act.put, List.setIfInBounds_toArray, List.set_cons_zero, List.set_cons_succ, i64_w, i32_w]
      rfl
    refine pure_ (i := 40) (N := some 65) (v := ?_) (a' := ?_) pbCx5_41 rfl rfl (any_of HT_.out pmCx5_17_) (fun _ _ _ h => h) (Or.inl ⟨by rfl, ?_⟩) ?_ ?_
    rotate_left
    · intro w'
      go_simp
      with_reducible rfl
    rotate_left
    · simp only [Act.put, List.setIfInBounds_toArray, List.set_cons_zero, List.set_cons_succ, i64_w, i32_w]
      rfl
    refine pure_ (i := 41) (N := some 66) (v := ?_) (a' := ?_) pbCx5_42 rfl rfl (any_of HT_.out pmCx5_17_) (fun _ _ _ h => h) (Or.inl ⟨by rfl, ?_⟩) ?_ ?_
    rotate_left
    · intro w'
      go_simp
      with_reducible rfl
    rotate_left
    · simp only [Act.put, List.setIfInBounds_toArray, List.set_cons_zero, List.set_cons_succ, i64_w, i32_w]
      rfl
    refine pure_ (i := 42) (N := some 67) (v := ?_) (a' := ?_) pbCx5_43 rfl rfl (any_of HT_.out pmCx5_17_) (fun _ _ _ h => h) (Or.inl ⟨by rfl, ?_⟩) ?_ ?_
    rotate_left
    · intro w'
      go_simp
      with_reducible rfl
    rotate_left
    · simp only [Act.put, List.setIfInBounds_toArray, List.set_cons_zero, List.set_cons_succ, i64_w, i32_w]
      rfl
    refine one_ (i := 43) (N := some 68) pbCx5_44 rfl rfl (one_of HT_.out pmCx5_17_) pmCx5_29_ (fun K hK => ?_)
    refine goes_ Try.func8 pmCx5_17_ rfl #[] (by rfl) rfl rfl pmCx5_12_ ?_
    with_reducible refine (parterrelaw19_lives.calls k  t190 _ A52.out).mono ?_
    rintro e w63 ⟨rfl, hb⟩
    refine ⟨_, rfl, ?_⟩
    replace BK153 := Aside0.mk (blk_below (g := gb153) (o := poCx5_0 a1_0 a1_1 a1_2 a1_3) pmCx5_4_ hb)
    replace BK154 := Aside0.mk (blk_below (g := gb154) (o := poCx5_0 a2_0 a2_1 a2_2 a2_3) pmCx5_5_ hb)
    replace BK164 := Aside0.mk (blk_below (g := gb164) (o := poCx5_0 t156 t157 t158 t159) pmCx5_10_ hb)
    replace BK165 := Aside0.mk (blk_below (g := gb165) (o := poCx5_0 t160 t161 t162 t163) pmCx5_11_ hb)
    replace BK174 := Aside0.mk (blk_below (g := gb174) (o := poCx5_0 t166 t167 t168 t169) pmCx5_13_ hb)
    replace BK175 := Aside0.mk (blk_below (g := gb175) (o := poCx5_0 t170 t171 t172 t173) pmCx5_14_ hb)
    replace HB := Aside0.mk (below_step pmCx5_0_ hb)
    (try clear hb)
    (try clear hb2)
    (try clear hk)
    (try clear hi)
    refine hK.out _ _ pmCx5_1_ (fun hHeld => ?_)
    clear hK K
    refine norm_ (a' := ?_) ?_ ?_
    rotate_left
    · show Act.put _ (some 68) _ = _
      simp only [Act.put, List.setIfInBounds_toArray, List.set_cons_zero, List.set_cons_succ, i64_w, i32_w]
      rfl
    refine pure_ (i := 44) (N := some 69) (v := ?_) (a' := ?_) pbCx5_45 rfl rfl (any_of HT_.out pmCx5_17_) (fun _ _ _ h => h) (Or.inl ⟨by rfl, ?_⟩) ?_ ?_
    rotate_left
    · intro w'
      go_simp
      with_reducible rfl
    rotate_left
    · simp only [Act.put, List.setIfInBounds_toArray, List.set_cons_zero, List.set_cons_succ, i64_w, i32_w]
      rfl
    refine pure_ (i := 45) (N := some 6) (v := ?_) (a' := ?_) pbCx5_46 rfl rfl (any_of HT_.out pmCx5_17_) (fun _ _ _ h => h) (Or.inl ⟨by rfl, ?_⟩) ?_ ?_
    rotate_left
    · intro w'
      go_simp
      with_reducible rfl
    rotate_left
    · simp only [Act.put, List.setIfInBounds_toArray, List.set_cons_zero, List.set_cons_succ, i64_w, i32_w]
      rfl
    refine done_ (done_of HT_.out pmCx5_17_) ?_
    try go_wp2
    go_meet
    case rel => exact ⟨_, (t190), pmCx5_28_, H', ⟨pmCx5_30_⟩, ⟨pmCx5_4_⟩, ⟨pmCx5_5_⟩, ⟨pmCx5_10_⟩, ⟨pmCx5_11_⟩, ⟨pmCx5_13_⟩, ⟨pmCx5_14_⟩, ⟨pmCx5_0_⟩⟩
  case rest =>
    clear HC11
    try clear c1
    try clear p2
    try clear c4
    try clear c17
    try clear c18
    try clear c40
    try clear c40b0
    try clear c40b1
    try clear c40b2
    obtain ⟨kq, x6_10, rfl, HA, HJ10, BK153, BK154, BK164, BK165, BK174, BK175, HB⟩ := hcut
    cases kq with
    | zero => exact absurd HA.out (by simp [parterrelaw19_OccupyOverlaps.j0])
    | succ kj10 =>
      have H := HA.out
      clear HA
      simp only [parterrelaw19_OccupyOverlaps.j0] at H
      obtain rfl := Option.some.inj H
      go_wp2
      go_ret
      exact ⟨by first | rfl | (simp [errW_none, errW_some] <;> rfl) | (simp [*, errW_none, errW_some] <;> rfl), by repeat (first | (with_reducible first | exact HB.out | apply below_alloc | apply pw_below_drewN | apply below_drew1 | refine below_set ?_ GE153.out | refine below_set ?_ GE154.out | refine below_set ?_ GE164.out | refine below_set ?_ GE165.out | refine below_set ?_ GE174.out | refine below_set ?_ GE175.out) | exact HB.out)⟩
/-- Well formed, field by field. -/
def wf24 (x : S24) : Prop := (Lit.int .i64 x.f0).wf = true ∧ ((Lit.int .i64 x.f1).wf = true ∧ ((Lit.int .i64 x.f2).wf = true ∧ ((Lit.int .i64 x.f3).wf = true)))
/-- THE ONE PURE STATEMENT of parterrelaw19_OccupyOverlaps. -/
def parterrelaw19_OccupyOverlaps.Pure : Prop := ∀ (l0 : List (S24)) (a1_0 : Int) (a1_1 : Int) (a1_2 : Int) (a1_3 : Int) (a2_0 : Int) (a2_1 : Int) (a2_2 : Int) (a2_3 : Int), l0.length ≤ 9223372036854775807 → l0.length * 32 ≤ 140737488351232 → (∀ e_ ∈ l0, wf24 e_) → (Lit.int .i64 a1_0).wf = true → (Lit.int .i64 a1_1).wf = true → (Lit.int .i64 a1_2).wf = true → (Lit.int .i64 a1_3).wf = true → (Lit.int .i64 a2_0).wf = true → (Lit.int .i64 a2_1).wf = true → (Lit.int .i64 a2_2).wf = true → (Lit.int .i64 a2_3).wf = true → ∃ k, parterrelaw19_OccupyOverlaps.f k l0 a1_0 a1_1 a1_2 a1_3 a2_0 a2_1 a2_2 a2_3 = some true

end Go.Proofs.Ytckpmhclngoefaa.PC
