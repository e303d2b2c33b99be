-- written by a program of this session (a print of the translation with changes of its own)
import Derived.Test.YtbkohlhonhmhmaaPAx0
namespace Go.Proofs.Ytbkohlhonhmhmaa.PA
open Go.RowKit Go.Proofs.YtbkohlhonhmhmaaW.PrintWords Go.Proofs.YtbkohlhonhmhmaaW.PrintLast Go.Proofs.YtbkohlhonhmhmaaW.PrintMore
abbrev pbAx11_0 : Array Bool := #[true, true, true, true, true, true, true, true, true, false]
abbrev pbAx11_1 : Array Bool := #[true, true, true, true, true, true, true, true, false, false]
abbrev pbAx11_2 : Array Bool := #[true, true, true, true, true, true, true, false, false, false]
abbrev pbAx11_3 : Array Bool := #[true, true, true, true, true, false, false, true, false, false]
abbrev pbAx11_4 : Array Bool := #[true, true, true, true, false, true, false, true, false, false]
abbrev pbAx11_5 : Array Bool := #[true, true, true, false, true, true, false, true, false, false]
abbrev pbAx11_6 : Array Bool := #[true, true, true, true, true, false, false, false, false, false]
abbrev pbAx11_7 : Array Bool := #[true, true, true, true, false, true, false, false, false, false]
abbrev pbAx11_8 : Array Bool := #[true, true, true, true, false, false, false, true, false, false]
abbrev pbAx11_9 : Array Bool := #[true, true, true, false, true, true, false, false, false, false]
abbrev pbAx11_10 : Array Bool := #[true, true, true, false, true, false, false, true, false, false]
abbrev pbAx11_11 : Array Bool := #[true, true, true, false, false, true, false, true, false, false]
abbrev pbAx11_12 : Array Bool := #[true, true, true, true, true, true, false, false, false, false]
abbrev pbAx11_13 : Array Bool := #[true, true, true, true, true, true, false, true, false, false]
abbrev poAx11_0 (a0 : Int) (a1 : Int) : Obj := .cells #[.int .i64 a0, .int .i64 a1] 55 (0, 0)
abbrev poAx11_1 (a0 : Int) (a1 : Int) (a2 : Int) (a3 : Int) (a4 : Bool) (a5 : Int) (a6 : Int) : Obj := .cells #[.int .i64 a0, .int .i64 a1, .int .i64 a2, .int .i64 a3, .bool a4, .int .i64 a5, .int .i64 a6] 57 (0, 0)
theorem pmAx11_0_ {P : Prop} (h : P := by repeat (first | (with_reducible first | exact HB.out | apply below_alloc | apply pw_below_drewN | apply below_drew1 | refine below_set ?_ GE196.out | refine below_set ?_ GE197.out | refine below_set ?_ GE198.out) | exact HB.out)) : P := h
theorem pmAx11_1_ {P : Prop} (h : P := by (with_reducible repeat (first | refine blk_drewN ?_ _ | refine blk_drew ?_ | refine blk_alloc ?_ _)); exact BK198.out) : P := h
theorem pmAx11_2_ {P : Prop} (h : P := by (with_reducible repeat (first | refine blk_drewN ?_ _ | refine blk_drew ?_ | refine blk_alloc ?_ _)); exact BK196.out) : P := h
theorem pmAx11_3_ {P : Prop} (h : P := by exact ⟨(blk_cell BK198.out 0).trans rfl, (blk_cell BK198.out 1).trans rfl, (blk_cell BK198.out 2).trans rfl, (blk_cell BK198.out 3).trans rfl, (blk_cell BK198.out 4).trans rfl, (blk_cell BK198.out 5).trans rfl, (blk_cell BK198.out 6).trans rfl⟩) : P := h
theorem pmAx11_4_ {P : Prop} (h : P := by (with_reducible repeat (first | refine blk_drewN ?_ _ | refine blk_drew ?_ | refine blk_alloc ?_ _)); exact BK197.out) : P := h
theorem pmAx11_5_ {P : Prop} (h : P := by first | (simp only [putAll, Act.put, List.setIfInBounds_toArray, List.set_cons_zero, List.set_cons_succ]; done) | (simp only [putAll, Act.put, List.setIfInBounds_toArray, List.set_cons_zero, List.set_cons_succ]; rfl)) : P := h
theorem pmAx11_6_ {P : Prop} (h : P := by (with_reducible repeat (first | apply Kd.R_alloc | apply Kd.R_drewN | apply Kd.R_drew)); exact HO204.out) : P := h
theorem pmAx11_7_ {P : Prop} (h : P := by (with_reducible repeat (first | apply Kd.R_alloc | apply Kd.R_drewN | apply Kd.R_drew)); exact HO207.out) : P := h
theorem pmAx11_8_ {P : Prop} (h : P := by (with_reducible repeat (first | apply Kd.R_alloc | apply Kd.R_drewN | apply Kd.R_drew)); exact HO210.out) : P := h
theorem pmAx11_9_ {P : Prop} (h : P := by (with_reducible repeat (first | apply Kd.R_alloc | apply Kd.R_drewN | apply Kd.R_drew)); exact HO201.out) : P := h
theorem pmAx11_10_ {P : Prop} (h : P := by exact ⟨((cell_far (p := ⟨gb196, _, none⟩) NB198_196.out _).trans (((cell_far (p := ⟨gb196, _, none⟩) NB198_196.out _).trans (((cell_far (p := ⟨gb196, _, none⟩) NB198_196.out _).trans (((cell_far (p := ⟨gb196, _, none⟩) NB198_196.out _).trans (hHeld.1)))))))), ((cell_far (p := ⟨gb196, _, none⟩) NB198_196.out _).trans (((cell_far (p := ⟨gb196, _, none⟩) NB198_196.out _).trans (((cell_far (p := ⟨gb196, _, none⟩) NB198_196.out _).trans (((cell_far (p := ⟨gb196, _, none⟩) NB198_196.out _).trans (hHeld.2.1)))))))), ((cell_far (p := ⟨gb196, _, none⟩) NB198_196.out _).trans (((cell_far (p := ⟨gb196, _, none⟩) NB198_196.out _).trans (((cell_far (p := ⟨gb196, _, none⟩) NB198_196.out _).trans (((cell_far (p := ⟨gb196, _, none⟩) NB198_196.out _).trans (hHeld.2.2.1)))))))), ((cell_far (p := ⟨gb196, _, none⟩) NB198_196.out _).trans (((cell_far (p := ⟨gb196, _, none⟩) NB198_196.out _).trans (((cell_far (p := ⟨gb196, _, none⟩) NB198_196.out _).trans (((cell_far (p := ⟨gb196, _, none⟩) NB198_196.out _).trans (hHeld.2.2.2.1)))))))), ((cell_far (p := ⟨gb196, _, none⟩) NB198_196.out _).trans (((cell_far (p := ⟨gb196, _, none⟩) NB198_196.out _).trans (((cell_far (p := ⟨gb196, _, none⟩) NB198_196.out _).trans (((cell_far (p := ⟨gb196, _, none⟩) NB198_196.out _).trans (hHeld.2.2.2.2.1)))))))), ((cell_far (p := ⟨gb196, _, none⟩) NB198_196.out _).trans (((cell_far (p := ⟨gb196, _, none⟩) NB198_196.out _).trans (((cell_far (p := ⟨gb196, _, none⟩) NB198_196.out _).trans (((cell_far (p := ⟨gb196, _, none⟩) NB198_196.out _).trans (hHeld.2.2.2.2.2.1)))))))), ((cell_far (p := ⟨gb196, _, none⟩) NB198_196.out _).trans (((cell_far (p := ⟨gb196, _, none⟩) NB198_196.out _).trans (((cell_far (p := ⟨gb196, _, none⟩) NB198_196.out _).trans (((cell_far (p := ⟨gb196, _, none⟩) NB198_196.out _).trans (hHeld.2.2.2.2.2.2))))))))⟩) : P := h
theorem pmAx11_11_ {P : Prop} (h : P := by (with_reducible repeat (first | apply Kd.R_alloc | apply Kd.R_drewN | apply Kd.R_drew)); exact Kd.R_mono HO207.out (fun _ hk => hk.2)) : P := h
theorem pmAx11_12_ {P : Prop} (h : P := by (with_reducible repeat (first | apply Kd.R_alloc | apply Kd.R_drewN | apply Kd.R_drew)); exact Kd.R_mono HO210.out (fun _ hk => hk.2)) : P := h
theorem pmAx11_13_ {P : Prop} (h : P := by (with_reducible repeat (first | apply Kd.R_alloc | apply Kd.R_drewN | apply Kd.R_drew)); exact Kd.R_mono HO201.out (fun _ hk => hk.2)) : P := h
theorem pmAx11_14_ {P : Prop} (h : P := by (with_reducible repeat (first | refine blk_drewN ?_ _ | refine blk_drew ?_ | refine blk_alloc ?_ _)); refine blk_put (cs := #[.int .i64 2, .int .i64 0]) ?_ 1 _ rfl; (with_reducible repeat (first | refine blk_drewN ?_ _ | refine blk_drew ?_ | refine blk_alloc ?_ _)); refine blk_put (cs := #[.int .i64 0, .int .i64 0]) ?_ 0 _ rfl; (with_reducible repeat (first | refine blk_drewN ?_ _ | refine blk_drew ?_ | refine blk_alloc ?_ _)); exact BK197.out) : P := h
theorem pmAx11_15_ {P : Prop} (h : P := by (with_reducible repeat (first | refine blk_drewN ?_ _ | refine blk_drew ?_ | refine blk_alloc ?_ _)); refine blk_far ?_ NB196_197.out _; (with_reducible repeat (first | refine blk_drewN ?_ _ | refine blk_drew ?_ | refine blk_alloc ?_ _)); refine blk_far ?_ NB196_197.out _; (with_reducible repeat (first | refine blk_drewN ?_ _ | refine blk_drew ?_ | refine blk_alloc ?_ _)); exact BK196.out) : P := h
theorem pmAx11_16_ {P : Prop} (h : P := by (with_reducible repeat (first | refine blk_drewN ?_ _ | refine blk_drew ?_ | refine blk_alloc ?_ _)); refine blk_far ?_ NB197_196.out _; (with_reducible repeat (first | refine blk_drewN ?_ _ | refine blk_drew ?_ | refine blk_alloc ?_ _)); refine blk_far ?_ NB197_196.out _; (with_reducible repeat (first | refine blk_drewN ?_ _ | refine blk_drew ?_ | refine blk_alloc ?_ _)); refine blk_far ?_ NB197_196.out _; (with_reducible repeat (first | refine blk_drewN ?_ _ | refine blk_drew ?_ | refine blk_alloc ?_ _)); refine blk_far ?_ NB197_196.out _; (with_reducible repeat (first | refine blk_drewN ?_ _ | refine blk_drew ?_ | refine blk_alloc ?_ _)); exact BK197.out) : P := h
theorem pmAx11_17_ {P : Prop} (h : P := by (with_reducible repeat (first | refine blk_drewN ?_ _ | refine blk_drew ?_ | refine blk_alloc ?_ _)); refine blk_far ?_ NB198_196.out _; (with_reducible repeat (first | refine blk_drewN ?_ _ | refine blk_drew ?_ | refine blk_alloc ?_ _)); refine blk_far ?_ NB198_196.out _; (with_reducible repeat (first | refine blk_drewN ?_ _ | refine blk_drew ?_ | refine blk_alloc ?_ _)); refine blk_far ?_ NB198_196.out _; (with_reducible repeat (first | refine blk_drewN ?_ _ | refine blk_drew ?_ | refine blk_alloc ?_ _)); refine blk_far ?_ NB198_196.out _; (with_reducible repeat (first | refine blk_drewN ?_ _ | refine blk_drew ?_ | refine blk_alloc ?_ _)); exact BK198.out) : P := h
theorem pmAx11_18_ {P : Prop} (h : P := by repeat (first | (with_reducible first | exact HB.out | apply below_alloc | apply pw_below_drewN | apply below_drew1 | refine below_set ?_ GE196.out | refine below_set ?_ GE197.out) | exact HB.out)) : P := h
theorem pmAx11_19_ {P : Prop} (h : P := by decide) : P := h
theorem pmAx11_20_ {P : Prop} (h : P := by repeat (first | (with_reducible first | exact HB.out | apply below_alloc | apply pw_below_drewN | apply below_drew1 | refine below_set ?_ GE196.out) | exact HB.out)) : P := h
theorem pmAx11_21_ {P : Prop} (h : P := by kernel_rfl) : P := h
theorem pmAx11_22_ {P : Prop} (h : P := by repeat (first | (with_reducible first | exact HB.out | apply below_alloc | apply pw_below_drewN | apply below_drew1) | exact HB.out)) : P := h
theorem pmAx11_23_ {P : Prop} (h : P := by omega) : P := h
attribute [local go_sem] run_index_arr max2_int min2_int max_two min_two max_three min_three max_four min_four   -- for this text's walks alone
set_option linter.unusedVariables false
set_option linter.unusedSimpArgs false

/-! ### parterrelaw28_three: function 14 -/
def parterrelaw28_three.f  : Option (Int × (List (S57)) × List Bool × List Int × List Int) := if 3 ≤ 281474976710656 then (if 3 ≤ 35184372088832 then (some (0, (([(⟨(⟨2, 10⟩ : S55), (⟨2, 10⟩ : S55), false, (⟨0, 0⟩ : S55)⟩ : S57), (⟨(⟨2, 10⟩ : S55), (⟨2, 10⟩ : S55), false, (⟨0, 0⟩ : S55)⟩ : S57), (⟨(⟨2, 10⟩ : S55), (⟨2, 10⟩ : S55), false, (⟨0, 0⟩ : S55)⟩ : S57)] : List (S57))), (List.replicate 3 false), (List.replicate 3 0), (([10, 10, 10] : List Int)))) else (none)) else (none)
def parterrelaw28_three.T3 : Bool × List (List Nat × List Nat) := (true, [([], []), ([], []), ([], []), ([0, 1, 2], [0, 1, 2]), ([], []), ([], []), ([3, 4, 5], [3, 4, 5]), ([], []), ([6, 0, 1, 2, 3, 4, 5, 6], [6]), ([7, 8, 0, 1, 2, 3, 4, 5, 6, 7, 8], [7])])
def parterrelaw28_three.B3 : List Nat := [0, 0, 0, 7, 0, 0, 63, 0, 127, 511]
theorem parterrelaw28_three.tab3 : rtab .any (opsOf Try.f14 3) = parterrelaw28_three.T3 := by kernel_rfl
theorem parterrelaw28_three.bits3 : waitsOk parterrelaw28_three.T3.2 parterrelaw28_three.B3 = true := by kernel_rfl
set_option maxHeartbeats 8000000 in
set_option maxRecDepth 100000 in
theorem parterrelaw28_three.calls  (r1 : Int) (r2 : List (S57)) (r3 : List Bool) (r4 : List Int) (r5 : List Int) (w : World) (h : parterrelaw28_three.f  = some (r1, r2, r3, r4, r5)) :
    Calls Try.prog 14 #[] w fun e w' => ∃ v1_ v2_ v3_ v4_ : Value, e = .returned (.tuple #[.agg #[.int .i64 r1, v1_, v2_, v3_], v4_]) ∧ Kd.R k57 57 w' w.heap.size (fun _ => True) v1_ r2 ∧ Kd.R Kd.bool 4 w' w.heap.size (fun _ => True) v2_ r3 ∧ Kd.R (Kd.int .i64) 3 w' w.heap.size (fun k_ => some k_ ≠ (v4_ : Value).ownBlock) v3_ r4 ∧ Kd.R (Kd.int .i64) 3 w' w.heap.size (fun k_ => some k_ ≠ (v3_ : Value).ownBlock) v4_ r5 ∧ Below w.heap.size w w' := by
  have hu26 := Try.underlying26
  have hu55 := Try.underlying55
  have hu57 := Try.underlying57
  have HB := Aside0.mk (Below.refl w.heap.size w)
  have H : (if 3 ≤ 281474976710656 then (if 3 ≤ 35184372088832 then (some (0, (([(⟨(⟨2, 10⟩ : S55), (⟨2, 10⟩ : S55), false, (⟨0, 0⟩ : S55)⟩ : S57), (⟨(⟨2, 10⟩ : S55), (⟨2, 10⟩ : S55), false, (⟨0, 0⟩ : S55)⟩ : S57), (⟨(⟨2, 10⟩ : S55), (⟨2, 10⟩ : S55), false, (⟨0, 0⟩ : S55)⟩ : S57)] : List (S57))), (List.replicate 3 false), (List.replicate 3 0), (([10, 10, 10] : List Int)))) else (none)) else (none)) = some (r1, r2, r3, r4, r5) := h
  clear h
  obtain ⟨y199, hy199⟩ : ∃ y_ : List (S57), y_ = (([(⟨(⟨2, 10⟩ : S55), (⟨2, 10⟩ : S55), false, (⟨0, 0⟩ : S55)⟩ : S57), (⟨(⟨2, 10⟩ : S55), (⟨2, 10⟩ : S55), false, (⟨0, 0⟩ : S55)⟩ : S57), (⟨(⟨2, 10⟩ : S55), (⟨2, 10⟩ : S55), false, (⟨0, 0⟩ : S55)⟩ : S57)] : List (S57))) := ⟨_, rfl⟩
  replace H : (if 3 ≤ 281474976710656 then (if 3 ≤ 35184372088832 then (some (0, y199, (List.replicate 3 false), (List.replicate 3 0), (([10, 10, 10] : List Int)))) else (none)) else (none)) = some (r1, r2, r3, r4, r5) := by first | (rw [hy199]; with_reducible exact H) | (have H2_ := (Option.bind_some _ _).symm.trans H; rw [hy199]; with_reducible exact H2_) | (have H2_ := (Option.bind_some _ _).symm.trans H; with_reducible exact H2_) | with_reducible exact H | (rw [hy199]; exact H) | exact H
  have Ny199 := Aside0.mk hy199
  clear hy199
  by_cases c1 : 3 ≤ 281474976710656
  rotate_left
  · rw [if_neg c1] at H
    exact absurd H (by simp)

  rw [if_pos c1] at H
  have c1b0 := eq_true c1
  have c1b1 : decide (3 ≤ 281474976710656) = true := decide_eq_true c1
  clear c1
  obtain ⟨y202, hy202⟩ : ∃ y_ : List Bool, y_ = (List.replicate 3 false) := ⟨_, rfl⟩
  replace H : (if 3 ≤ 35184372088832 then (some (0, y199, y202, (List.replicate 3 0), (([10, 10, 10] : List Int)))) else (none)) = some (r1, r2, r3, r4, r5) := by first | (rw [hy202]; with_reducible exact H) | (have H2_ := (Option.bind_some _ _).symm.trans H; rw [hy202]; with_reducible exact H2_) | (have H2_ := (Option.bind_some _ _).symm.trans H; with_reducible exact H2_) | with_reducible exact H | (rw [hy202]; exact H) | exact H
  have Ny202 := Aside0.mk hy202
  clear hy202
  by_cases c2 : 3 ≤ 35184372088832
  rotate_left
  · rw [if_neg c2] at H
    exact absurd H (by simp)
  rw [if_pos c2] at H
  have c2b0 := eq_true c2
  have c2b1 : decide (3 ≤ 35184372088832) = true := decide_eq_true c2
  clear c2
  obtain ⟨y205, hy205⟩ : ∃ y_ : List Int, y_ = (List.replicate 3 0) := ⟨_, rfl⟩
  replace H : (some (0, y199, y202, y205, (([10, 10, 10] : List Int)))) = some (r1, r2, r3, r4, r5) := by first | (rw [hy205]; with_reducible exact H) | (have H2_ := (Option.bind_some _ _).symm.trans H; rw [hy205]; with_reducible exact H2_) | (have H2_ := (Option.bind_some _ _).symm.trans H; with_reducible exact H2_) | with_reducible exact H | (rw [hy205]; exact H) | exact H
  have Ny205 := Aside0.mk hy205
  clear hy205
  obtain ⟨y208, hy208⟩ : ∃ y_ : List Int, y_ = (([10, 10, 10] : List Int)) := ⟨_, rfl⟩
  replace H : (some (0, y199, y202, y205, y208)) = some (r1, r2, r3, r4, r5) := by first | (rw [hy208]; with_reducible exact H) | (have H2_ := (Option.bind_some _ _).symm.trans H; rw [hy208]; with_reducible exact H2_) | (have H2_ := (Option.bind_some _ _).symm.trans H; with_reducible exact H2_) | with_reducible exact H | (rw [hy208]; exact H) | exact H
  have Ny208 := Aside0.mk hy208
  clear hy208
  simp only [Option.some.injEq, Prod.mk.injEq] at H
  obtain ⟨rfl, rfl, rfl, rfl, rfl⟩ := H
  go_enter Try.func14, Try.ntmps14
  try go_wp2_with (first | ((with_reducible refine gate_dst (N := 0) rfl ?_); refine box_event ?hg (N := 0) ?hd (cs := #[.int .i64 0, .slice none 0 0, .slice none 0 0, .slice none 0 0]) (t := 26) ?hr ?_; (case hd => rfl); (case hg => rfl); (case hr => first | (go_simp; done) | (go_simp; rfl)); intro gb196 hg w3 hbox hb; have n0_ := Aside0.mk (below_step pmAx11_22_ hb); have n1_ := Aside0.mk (hbox); have n2_ := Aside0.mk ((by rw [hg]; exact (below_size pmAx11_22_) : w.heap.size ≤ gb196)); have n3_ := Aside0.mk ((by rw [hg]; exact (below_size pmAx11_22_) : w.heap.size ≤ gb196)); clear HB; have HB := n0_; have BK196 := n1_; have GW196 := n2_; have GE196 := n3_; clear n0_ n1_ n2_ n3_; clear hb hbox hg) | ((with_reducible refine gate_dst (N := 2) rfl ?_); refine box_event ?hg (N := 2) ?hd (cs := #[.int .i64 0, .int .i64 0]) (t := 55) ?hr ?_; (case hd => rfl); (case hg => rfl); (case hr => first | (go_simp; done) | (go_simp; rfl)); intro gb197 hg w4 hbox hb; have n0_ := Aside0.mk (blk_below (g := gb196) (o := .cells #[.int .i64 0, .slice none 0 0, .slice none 0 0, .slice none 0 0] 26 (0, 0)) pmAx11_2_ hb); have n1_ := Aside0.mk (below_step pmAx11_20_ hb); have n2_ := Aside0.mk (hbox); have n3_ := Aside0.mk ((by rw [hg]; exact (below_size pmAx11_20_) : w.heap.size ≤ gb197)); have n4_ := Aside0.mk ((by rw [hg]; exact (below_size pmAx11_20_) : w.heap.size ≤ gb197)); have n5_ := Aside0.mk ((by rw [hg]; exact Nat.ne_of_lt (blk_lt (g := gb196) (o := .cells #[.int .i64 0, .slice none 0 0, .slice none 0 0, .slice none 0 0] 26 (0, 0)) pmAx11_2_) : gb196 ≠ gb197)); have n6_ := Aside0.mk ((by rw [hg]; exact Nat.ne_of_gt (blk_lt (g := gb196) (o := .cells #[.int .i64 0, .slice none 0 0, .slice none 0 0, .slice none 0 0] 26 (0, 0)) pmAx11_2_) : gb197 ≠ gb196)); clear BK196; clear HB; have BK196 := n0_; have HB := n1_; have BK197 := n2_; have GW197 := n3_; have GE197 := n4_; have NB196_197 := n5_; have NB197_196 := n6_; clear n0_ n1_ n2_ n3_ n4_ n5_ n6_; clear hb hbox hg; have hnb5 := NB197_196.out; have hnc5 := NB196_197.out; have hcz6_0 : w4.cell? ⟨gb197, 0, none⟩ = some (.int .i64 0) := (blk_cell BK197.out 0).trans rfl; have hcz6_1 : w4.cell? ⟨gb197, 1, none⟩ = some (.int .i64 0) := (blk_cell BK197.out 1).trans rfl; have hfz6_0 := blk_frozen BK197.out 0; have hfz6_1 := blk_frozen BK197.out 1) | ((with_reducible refine gate_dst (N := 3) rfl ?_); refine box_event ?hg (N := 3) ?hd (cs := #[.int .i64 0, .int .i64 0, .int .i64 0, .int .i64 0, .bool false, .int .i64 0, .int .i64 0]) (t := 57) ?hr ?_; (case hd => rfl); (case hg => rfl); (case hr => first | (go_simp; done) | (go_simp; rfl)); intro gb198 hg w7 hbox hb; have n0_ := Aside0.mk (blk_below (g := gb196) (o := .cells #[.int .i64 0, .slice none 0 0, .slice none 0 0, .slice none 0 0] 26 (0, 0)) pmAx11_15_ hb); have n1_ := Aside0.mk (blk_below (g := gb197) (o := poAx11_0 2 10) pmAx11_14_ hb); have n2_ := Aside0.mk (below_step pmAx11_18_ hb); have n3_ := Aside0.mk (hbox); have n4_ := Aside0.mk ((by rw [hg]; exact (below_size pmAx11_18_) : w.heap.size ≤ gb198)); have n5_ := Aside0.mk ((by rw [hg]; exact (below_size pmAx11_18_) : w.heap.size ≤ gb198)); have n6_ := Aside0.mk ((by rw [hg]; exact Nat.ne_of_lt (blk_lt (g := gb196) (o := .cells #[.int .i64 0, .slice none 0 0, .slice none 0 0, .slice none 0 0] 26 (0, 0)) pmAx11_15_) : gb196 ≠ gb198)); have n7_ := Aside0.mk ((by rw [hg]; exact Nat.ne_of_gt (blk_lt (g := gb196) (o := .cells #[.int .i64 0, .slice none 0 0, .slice none 0 0, .slice none 0 0] 26 (0, 0)) pmAx11_15_) : gb198 ≠ gb196)); have n8_ := Aside0.mk ((by rw [hg]; exact Nat.ne_of_lt (blk_lt (g := gb197) (o := poAx11_0 2 10) pmAx11_14_) : gb197 ≠ gb198)); have n9_ := Aside0.mk ((by rw [hg]; exact Nat.ne_of_gt (blk_lt (g := gb197) (o := poAx11_0 2 10) pmAx11_14_) : gb198 ≠ gb197)); clear BK196; clear BK197; clear HB; have BK196 := n0_; have BK197 := n1_; have HB := n2_; have BK198 := n3_; have GW198 := n4_; have GE198 := n5_; have NB196_198 := n6_; have NB198_196 := n7_; have NB197_198 := n8_; have NB198_197 := n9_; clear n0_ n1_ n2_ n3_ n4_ n5_ n6_ n7_ n8_ n9_; clear hb hbox hg; have hnb8 := NB198_196.out; have hnc8 := NB196_198.out; have hnb9 := NB198_197.out; have hnc9 := NB197_198.out; have hcz10_0 : w7.cell? ⟨gb198, 0, none⟩ = some (.int .i64 0) := (blk_cell BK198.out 0).trans rfl; have hcz10_1 : w7.cell? ⟨gb198, 1, none⟩ = some (.int .i64 0) := (blk_cell BK198.out 1).trans rfl; have hcz10_2 : w7.cell? ⟨gb198, 2, none⟩ = some (.int .i64 0) := (blk_cell BK198.out 2).trans rfl; have hcz10_3 : w7.cell? ⟨gb198, 3, none⟩ = some (.int .i64 0) := (blk_cell BK198.out 3).trans rfl; have hcz10_4 : w7.cell? ⟨gb198, 4, none⟩ = some (.bool false) := (blk_cell BK198.out 4).trans rfl; have hcz10_5 : w7.cell? ⟨gb198, 5, none⟩ = some (.int .i64 0) := (blk_cell BK198.out 5).trans rfl; have hcz10_6 : w7.cell? ⟨gb198, 6, none⟩ = some (.int .i64 0) := (blk_cell BK198.out 6).trans rfl; have hfz10_0 := blk_frozen BK198.out 0; have hfz10_1 := blk_frozen BK198.out 1; have hfz10_2 := blk_frozen BK198.out 2; have hfz10_3 := blk_frozen BK198.out 3; have hfz10_4 := blk_frozen BK198.out 4; have hfz10_5 := blk_frozen BK198.out 5; have hfz10_6 := blk_frozen BK198.out 6))
  have n0_ : Aside0 ((((((((w7.setCell ⟨gb198, 0, none⟩ (.int .i64 2)).setCell ⟨gb198, 1, none⟩ (.int .i64 10)).setCell ⟨gb198, 2, none⟩ (.int .i64 2)).setCell ⟨gb198, 3, none⟩ (.int .i64 10)).setCell ⟨gb198, 4, none⟩ (.bool false)).setCell ⟨gb198, 5, none⟩ (.int .i64 0)).setCell ⟨gb198, 6, none⟩ (.int .i64 0)).heap[gb196]? = some (.cells #[.int .i64 0, .slice none 0 0, .slice none 0 0, .slice none 0 0] 26 (0, 0))) := ⟨by (with_reducible repeat (first | refine blk_drewN ?_ _ | refine blk_drew ?_ | refine blk_alloc ?_ _)); refine blk_far ?_ NB196_198.out _; (with_reducible repeat (first | refine blk_drewN ?_ _ | refine blk_drew ?_ | refine blk_alloc ?_ _)); refine blk_far ?_ NB196_198.out _; (with_reducible repeat (first | refine blk_drewN ?_ _ | refine blk_drew ?_ | refine blk_alloc ?_ _)); refine blk_far ?_ NB196_198.out _; (with_reducible repeat (first | refine blk_drewN ?_ _ | refine blk_drew ?_ | refine blk_alloc ?_ _)); refine blk_far ?_ NB196_198.out _; (with_reducible repeat (first | refine blk_drewN ?_ _ | refine blk_drew ?_ | refine blk_alloc ?_ _)); refine blk_far ?_ NB196_198.out _; (with_reducible repeat (first | refine blk_drewN ?_ _ | refine blk_drew ?_ | refine blk_alloc ?_ _)); refine blk_far ?_ NB196_198.out _; (with_reducible repeat (first | refine blk_drewN ?_ _ | refine blk_drew ?_ | refine blk_alloc ?_ _)); refine blk_far ?_ NB196_198.out _; (with_reducible repeat (first | refine blk_drewN ?_ _ | refine blk_drew ?_ | refine blk_alloc ?_ _)); exact BK196.out⟩
  have n1_ : Aside0 ((((((((w7.setCell ⟨gb198, 0, none⟩ (.int .i64 2)).setCell ⟨gb198, 1, none⟩ (.int .i64 10)).setCell ⟨gb198, 2, none⟩ (.int .i64 2)).setCell ⟨gb198, 3, none⟩ (.int .i64 10)).setCell ⟨gb198, 4, none⟩ (.bool false)).setCell ⟨gb198, 5, none⟩ (.int .i64 0)).setCell ⟨gb198, 6, none⟩ (.int .i64 0)).heap[gb197]? = some (.cells #[.int .i64 2, .int .i64 10] 55 (0, 0))) := ⟨by (with_reducible repeat (first | refine blk_drewN ?_ _ | refine blk_drew ?_ | refine blk_alloc ?_ _)); refine blk_far ?_ NB197_198.out _; (with_reducible repeat (first | refine blk_drewN ?_ _ | refine blk_drew ?_ | refine blk_alloc ?_ _)); refine blk_far ?_ NB197_198.out _; (with_reducible repeat (first | refine blk_drewN ?_ _ | refine blk_drew ?_ | refine blk_alloc ?_ _)); refine blk_far ?_ NB197_198.out _; (with_reducible repeat (first | refine blk_drewN ?_ _ | refine blk_drew ?_ | refine blk_alloc ?_ _)); refine blk_far ?_ NB197_198.out _; (with_reducible repeat (first | refine blk_drewN ?_ _ | refine blk_drew ?_ | refine blk_alloc ?_ _)); refine blk_far ?_ NB197_198.out _; (with_reducible repeat (first | refine blk_drewN ?_ _ | refine blk_drew ?_ | refine blk_alloc ?_ _)); refine blk_far ?_ NB197_198.out _; (with_reducible repeat (first | refine blk_drewN ?_ _ | refine blk_drew ?_ | refine blk_alloc ?_ _)); refine blk_far ?_ NB197_198.out _; (with_reducible repeat (first | refine blk_drewN ?_ _ | refine blk_drew ?_ | refine blk_alloc ?_ _)); exact BK197.out⟩
  have n2_ : Aside0 ((((((((w7.setCell ⟨gb198, 0, none⟩ (.int .i64 2)).setCell ⟨gb198, 1, none⟩ (.int .i64 10)).setCell ⟨gb198, 2, none⟩ (.int .i64 2)).setCell ⟨gb198, 3, none⟩ (.int .i64 10)).setCell ⟨gb198, 4, none⟩ (.bool false)).setCell ⟨gb198, 5, none⟩ (.int .i64 0)).setCell ⟨gb198, 6, none⟩ (.int .i64 0)).heap[gb198]? = some (.cells #[.int .i64 2, .int .i64 10, .int .i64 2, .int .i64 10, .bool false, .int .i64 0, .int .i64 0] 57 (0, 0))) := ⟨by (with_reducible repeat (first | refine blk_drewN ?_ _ | refine blk_drew ?_ | refine blk_alloc ?_ _)); refine blk_put (cs := #[.int .i64 2, .int .i64 10, .int .i64 2, .int .i64 10, .bool false, .int .i64 0, .int .i64 0]) ?_ 6 _ rfl; (with_reducible repeat (first | refine blk_drewN ?_ _ | refine blk_drew ?_ | refine blk_alloc ?_ _)); refine blk_put (cs := #[.int .i64 2, .int .i64 10, .int .i64 2, .int .i64 10, .bool false, .int .i64 0, .int .i64 0]) ?_ 5 _ rfl; (with_reducible repeat (first | refine blk_drewN ?_ _ | refine blk_drew ?_ | refine blk_alloc ?_ _)); refine blk_put (cs := #[.int .i64 2, .int .i64 10, .int .i64 2, .int .i64 10, .bool false, .int .i64 0, .int .i64 0]) ?_ 4 _ rfl; (with_reducible repeat (first | refine blk_drewN ?_ _ | refine blk_drew ?_ | refine blk_alloc ?_ _)); refine blk_put (cs := #[.int .i64 2, .int .i64 10, .int .i64 2, .int .i64 0, .bool false, .int .i64 0, .int .i64 0]) ?_ 3 _ rfl; (with_reducible repeat (first | refine blk_drewN ?_ _ | refine blk_drew ?_ | refine blk_alloc ?_ _)); refine blk_put (cs := #[.int .i64 2, .int .i64 10, .int .i64 0, .int .i64 0, .bool false, .int .i64 0, .int .i64 0]) ?_ 2 _ rfl; (with_reducible repeat (first | refine blk_drewN ?_ _ | refine blk_drew ?_ | refine blk_alloc ?_ _)); refine blk_put (cs := #[.int .i64 2, .int .i64 0, .int .i64 0, .int .i64 0, .bool false, .int .i64 0, .int .i64 0]) ?_ 1 _ rfl; (with_reducible repeat (first | refine blk_drewN ?_ _ | refine blk_drew ?_ | refine blk_alloc ?_ _)); refine blk_put (cs := #[.int .i64 0, .int .i64 0, .int .i64 0, .int .i64 0, .bool false, .int .i64 0, .int .i64 0]) ?_ 0 _ rfl; (with_reducible repeat (first | refine blk_drewN ?_ _ | refine blk_drew ?_ | refine blk_alloc ?_ _)); exact BK198.out⟩
  have n3_ : Aside0 (Below w.heap.size w (((((((w7.setCell ⟨gb198, 0, none⟩ (.int .i64 2)).setCell ⟨gb198, 1, none⟩ (.int .i64 10)).setCell ⟨gb198, 2, none⟩ (.int .i64 2)).setCell ⟨gb198, 3, none⟩ (.int .i64 10)).setCell ⟨gb198, 4, none⟩ (.bool false)).setCell ⟨gb198, 5, none⟩ (.int .i64 0)).setCell ⟨gb198, 6, none⟩ (.int .i64 0))) := ⟨pmAx11_0_⟩
  (try clear BK196)
  (try clear BK197)
  (try clear BK198)
  (try clear HB)
  generalize (((((((w7.setCell ⟨gb198, 0, none⟩ (.int .i64 2)).setCell ⟨gb198, 1, none⟩ (.int .i64 10)).setCell ⟨gb198, 2, none⟩ (.int .i64 2)).setCell ⟨gb198, 3, none⟩ (.int .i64 10)).setCell ⟨gb198, 4, none⟩ (.bool false)).setCell ⟨gb198, 5, none⟩ (.int .i64 0)).setCell ⟨gb198, 6, none⟩ (.int .i64 0)) = w11 at n0_ n1_ n2_ n3_ ⊢
  have BK196 := n0_
  have BK197 := n1_
  have BK198 := n2_
  have HB := n3_
  clear n0_ n1_ n2_ n3_
  replace BK196 := Aside0.mk (blk_drew BK196.out)
  replace BK197 := Aside0.mk (blk_drew BK197.out)
  replace BK198 := Aside0.mk (blk_drew BK198.out)
  replace HB := Aside0.mk (below_drew1 HB.out)
  refine start_ (n := 10) (S := fun w' => w'.cell? ⟨gb198, 0, none⟩ = some (.int .i64 2) ∧ w'.cell? ⟨gb198, 1, none⟩ = some (.int .i64 10) ∧ w'.cell? ⟨gb198, 2, none⟩ = some (.int .i64 2) ∧ w'.cell? ⟨gb198, 3, none⟩ = some (.int .i64 10) ∧ w'.cell? ⟨gb198, 4, none⟩ = some (.bool false) ∧ w'.cell? ⟨gb198, 5, none⟩ = some (.int .i64 0) ∧ w'.cell? ⟨gb198, 6, none⟩ = some (.int .i64 0)) (ds := []) #[false, false, false, false, false, false, false, false, false, false] pmAx11_21_ rfl rfl ⟨(blk_cell BK198.out 0).trans rfl, (blk_cell BK198.out 1).trans rfl, (blk_cell BK198.out 2).trans rfl, (blk_cell BK198.out 3).trans rfl, (blk_cell BK198.out 4).trans rfl, (blk_cell BK198.out 5).trans rfl, (blk_cell BK198.out 6).trans rfl⟩ (fun hHeld => ?_); refine with_tabW parterrelaw28_three.tab3 parterrelaw28_three.bits3 (fun HT_ HW_ => ?_)
  generalize w11.drew = w12 at BK196 BK197 BK198 HB hHeld ⊢
  refine take_ (i := 0) (N := some 8) (v := ?_) (a' := ?_) #[true, false, false, false, false, false, false, false, false, false] rfl rfl (take_ofW HT_.out HW_.out pmAx11_21_) (fun _ _ _ h => h) (Or.inl ⟨by rfl, ?_⟩) hHeld ?_ ?_
  rotate_left
  · rintro w' ⟨s0, s1, s2, s3, s4, s5, s6⟩
    go_simp
    with_reducible rfl
  rotate_left
  · simp only [Act.put, List.setIfInBounds_toArray, List.set_cons_zero, List.set_cons_succ, i64_w, i32_w]
    rfl
  refine take_ (i := 1) (N := some 9) (v := ?_) (a' := ?_) #[true, true, false, false, false, false, false, false, false, false] rfl rfl (take_ofW HT_.out HW_.out pmAx11_21_) (fun _ _ _ h => h) (Or.inl ⟨by rfl, ?_⟩) hHeld ?_ ?_
  rotate_left
  · rintro w' ⟨s0, s1, s2, s3, s4, s5, s6⟩
    go_simp
    with_reducible rfl
  rotate_left
  · simp only [Act.put, List.setIfInBounds_toArray, List.set_cons_zero, List.set_cons_succ, i64_w, i32_w]
    rfl
  refine take_ (i := 2) (N := some 10) (v := ?_) (a' := ?_) #[true, true, true, false, false, false, false, false, false, false] rfl rfl (take_ofW HT_.out HW_.out pmAx11_21_) (fun _ _ _ h => h) (Or.inl ⟨by rfl, ?_⟩) hHeld ?_ ?_
  rotate_left
  · rintro w' ⟨s0, s1, s2, s3, s4, s5, s6⟩
    go_simp
    with_reducible rfl
  rotate_left
  · simp only [Act.put, List.setIfInBounds_toArray, List.set_cons_zero, List.set_cons_succ, i64_w, i32_w]
    rfl
  refine join_ (σ := Value × Value × Value × Value) 1 pbAx11_0 (fun s_ => [(11, s_.1), (12, s_.2.1), (13, s_.2.2.1), (15, s_.2.2.2), (14, .agg #[.int .i64 0, s_.1, s_.2.1, s_.2.2.1])]) (fun s_ w' => (w'.cell? ⟨gb198, 0, none⟩ = some (.int .i64 2) ∧ w'.cell? ⟨gb198, 1, none⟩ = some (.int .i64 10) ∧ w'.cell? ⟨gb198, 2, none⟩ = some (.int .i64 2) ∧ w'.cell? ⟨gb198, 3, none⟩ = some (.int .i64 10) ∧ w'.cell? ⟨gb198, 4, none⟩ = some (.bool false) ∧ w'.cell? ⟨gb198, 5, none⟩ = some (.int .i64 0) ∧ w'.cell? ⟨gb198, 6, none⟩ = some (.int .i64 0)) ∧ (Kd.R k57 57 w' w.heap.size (fun k_ => k_ ≠ gb198) s_.1 y199) ∧ (Kd.R Kd.bool 4 w' w.heap.size (fun _ => True) s_.2.1 y202) ∧ (Kd.R (Kd.int .i64) 3 w' w.heap.size (fun k_ => some k_ ≠ (s_.2.2.2 : Value).ownBlock) s_.2.2.1 y205) ∧ (Kd.R (Kd.int .i64) 3 w' w.heap.size (fun k_ => some k_ ≠ (s_.2.2.1 : Value).ownBlock) s_.2.2.2 y208) ∧ (w'.heap[gb196]? = some (.cells #[.int .i64 0, s_.1, s_.2.1, s_.2.2.1] 26 (0, 0))) ∧ (w'.heap[gb197]? = some (.cells #[.int .i64 2, .int .i64 10] 55 (0, 0))) ∧ (w'.heap[gb198]? = some (.cells #[.int .i64 2, .int .i64 10, .int .i64 2, .int .i64 10, .bool false, .int .i64 0, .int .i64 0] 57 (0, 0))) ∧ (Below w.heap.size w w')) ?_ ?_
  rotate_left
  · intro hJ3_4_5_7_8
    refine join_ (σ := Value × Value × Value × Value) 2 pbAx11_1 (fun s_ => [(11, s_.1), (12, s_.2.1), (13, s_.2.2.1), (15, s_.2.2.2), (14, .agg #[.int .i64 0, s_.1, s_.2.1, s_.2.2.1])]) (fun s_ w' => (w'.cell? ⟨gb198, 0, none⟩ = some (.int .i64 2) ∧ w'.cell? ⟨gb198, 1, none⟩ = some (.int .i64 10) ∧ w'.cell? ⟨gb198, 2, none⟩ = some (.int .i64 2) ∧ w'.cell? ⟨gb198, 3, none⟩ = some (.int .i64 10) ∧ w'.cell? ⟨gb198, 4, none⟩ = some (.bool false) ∧ w'.cell? ⟨gb198, 5, none⟩ = some (.int .i64 0) ∧ w'.cell? ⟨gb198, 6, none⟩ = some (.int .i64 0)) ∧ (Kd.R k57 57 w' w.heap.size (fun k_ => k_ ≠ gb198) s_.1 y199) ∧ (Kd.R Kd.bool 4 w' w.heap.size (fun _ => True) s_.2.1 y202) ∧ (Kd.R (Kd.int .i64) 3 w' w.heap.size (fun k_ => some k_ ≠ (s_.2.2.2 : Value).ownBlock) s_.2.2.1 y205) ∧ (Kd.R (Kd.int .i64) 3 w' w.heap.size (fun k_ => some k_ ≠ (s_.2.2.1 : Value).ownBlock) s_.2.2.2 y208) ∧ (w'.heap[gb196]? = some (.cells #[.int .i64 0, .slice none 0 0, .slice none 0 0, .slice none 0 0] 26 (0, 0))) ∧ (w'.heap[gb197]? = some (.cells #[.int .i64 2, .int .i64 10] 55 (0, 0))) ∧ (w'.heap[gb198]? = some (.cells #[.int .i64 2, .int .i64 10, .int .i64 2, .int .i64 10, .bool false, .int .i64 0, .int .i64 0] 57 (0, 0))) ∧ (Below w.heap.size w w')) ?_ ?_
    rotate_left
    · intro hJ3_4_5_7
      refine join_ (σ := Value × Value × Value) 2 #[true, true, true, true, true, true, true, false, true, false] (fun s_ => [(11, s_.1), (12, s_.2.1), (13, s_.2.2), (14, .agg #[.int .i64 0, s_.1, s_.2.1, s_.2.2])]) (fun s_ w' => (w'.cell? ⟨gb198, 0, none⟩ = some (.int .i64 2) ∧ w'.cell? ⟨gb198, 1, none⟩ = some (.int .i64 10) ∧ w'.cell? ⟨gb198, 2, none⟩ = some (.int .i64 2) ∧ w'.cell? ⟨gb198, 3, none⟩ = some (.int .i64 10) ∧ w'.cell? ⟨gb198, 4, none⟩ = some (.bool false) ∧ w'.cell? ⟨gb198, 5, none⟩ = some (.int .i64 0) ∧ w'.cell? ⟨gb198, 6, none⟩ = some (.int .i64 0)) ∧ (Kd.R k57 57 w' w.heap.size (fun k_ => k_ ≠ gb198) s_.1 y199) ∧ (Kd.R Kd.bool 4 w' w.heap.size (fun _ => True) s_.2.1 y202) ∧ (Kd.R (Kd.int .i64) 3 w' w.heap.size (fun _ => True) s_.2.2 y205) ∧ (w'.heap[gb196]? = some (.cells #[.int .i64 0, s_.1, s_.2.1, s_.2.2] 26 (0, 0))) ∧ (w'.heap[gb197]? = some (.cells #[.int .i64 2, .int .i64 10] 55 (0, 0))) ∧ (w'.heap[gb198]? = some (.cells #[.int .i64 2, .int .i64 10, .int .i64 2, .int .i64 10, .bool false, .int .i64 0, .int .i64 0] 57 (0, 0))) ∧ (Below w.heap.size w w')) ?_ ?_
      rotate_left
      · intro hJ3_4_5_8
        refine join_ (σ := Value × Value × Value) 3 pbAx11_2 (fun s_ => [(11, s_.1), (12, s_.2.1), (13, s_.2.2), (14, .agg #[.int .i64 0, s_.1, s_.2.1, s_.2.2])]) (fun s_ w' => (w'.cell? ⟨gb198, 0, none⟩ = some (.int .i64 2) ∧ w'.cell? ⟨gb198, 1, none⟩ = some (.int .i64 10) ∧ w'.cell? ⟨gb198, 2, none⟩ = some (.int .i64 2) ∧ w'.cell? ⟨gb198, 3, none⟩ = some (.int .i64 10) ∧ w'.cell? ⟨gb198, 4, none⟩ = some (.bool false) ∧ w'.cell? ⟨gb198, 5, none⟩ = some (.int .i64 0) ∧ w'.cell? ⟨gb198, 6, none⟩ = some (.int .i64 0)) ∧ (Kd.R k57 57 w' w.heap.size (fun k_ => k_ ≠ gb198) s_.1 y199) ∧ (Kd.R Kd.bool 4 w' w.heap.size (fun _ => True) s_.2.1 y202) ∧ (Kd.R (Kd.int .i64) 3 w' w.heap.size (fun _ => True) s_.2.2 y205) ∧ (w'.heap[gb196]? = some (.cells #[.int .i64 0, .slice none 0 0, .slice none 0 0, .slice none 0 0] 26 (0, 0))) ∧ (w'.heap[gb197]? = some (.cells #[.int .i64 2, .int .i64 10] 55 (0, 0))) ∧ (w'.heap[gb198]? = some (.cells #[.int .i64 2, .int .i64 10, .int .i64 2, .int .i64 10, .bool false, .int .i64 0, .int .i64 0] 57 (0, 0))) ∧ (Below w.heap.size w w')) ?_ ?_
        rotate_left
        · intro hJ3_4_5
          refine join_ (σ := Value × Value × Value) 4 pbAx11_3 (fun s_ => [(11, s_.1), (12, s_.2.1), (15, s_.2.2)]) (fun s_ w' => (w'.cell? ⟨gb198, 0, none⟩ = some (.int .i64 2) ∧ w'.cell? ⟨gb198, 1, none⟩ = some (.int .i64 10) ∧ w'.cell? ⟨gb198, 2, none⟩ = some (.int .i64 2) ∧ w'.cell? ⟨gb198, 3, none⟩ = some (.int .i64 10) ∧ w'.cell? ⟨gb198, 4, none⟩ = some (.bool false) ∧ w'.cell? ⟨gb198, 5, none⟩ = some (.int .i64 0) ∧ w'.cell? ⟨gb198, 6, none⟩ = some (.int .i64 0)) ∧ (Kd.R k57 57 w' w.heap.size (fun k_ => k_ ≠ gb198) s_.1 y199) ∧ (Kd.R Kd.bool 4 w' w.heap.size (fun _ => True) s_.2.1 y202) ∧ (Kd.R (Kd.int .i64) 3 w' w.heap.size (fun _ => True) s_.2.2 y208) ∧ (w'.heap[gb196]? = some (.cells #[.int .i64 0, .slice none 0 0, .slice none 0 0, .slice none 0 0] 26 (0, 0))) ∧ (w'.heap[gb197]? = some (.cells #[.int .i64 2, .int .i64 10] 55 (0, 0))) ∧ (w'.heap[gb198]? = some (.cells #[.int .i64 2, .int .i64 10, .int .i64 2, .int .i64 10, .bool false, .int .i64 0, .int .i64 0] 57 (0, 0))) ∧ (Below w.heap.size w w')) ?_ ?_
          rotate_left
          · intro hJ3_4_7
            refine join_ (σ := Value × Value × Value) 4 pbAx11_4 (fun s_ => [(11, s_.1), (13, s_.2.1), (15, s_.2.2)]) (fun s_ w' => (w'.cell? ⟨gb198, 0, none⟩ = some (.int .i64 2) ∧ w'.cell? ⟨gb198, 1, none⟩ = some (.int .i64 10) ∧ w'.cell? ⟨gb198, 2, none⟩ = some (.int .i64 2) ∧ w'.cell? ⟨gb198, 3, none⟩ = some (.int .i64 10) ∧ w'.cell? ⟨gb198, 4, none⟩ = some (.bool false) ∧ w'.cell? ⟨gb198, 5, none⟩ = some (.int .i64 0) ∧ w'.cell? ⟨gb198, 6, none⟩ = some (.int .i64 0)) ∧ (Kd.R k57 57 w' w.heap.size (fun k_ => k_ ≠ gb198) s_.1 y199) ∧ (Kd.R (Kd.int .i64) 3 w' w.heap.size (fun k_ => some k_ ≠ (s_.2.2 : Value).ownBlock) s_.2.1 y205) ∧ (Kd.R (Kd.int .i64) 3 w' w.heap.size (fun k_ => some k_ ≠ (s_.2.1 : Value).ownBlock) s_.2.2 y208) ∧ (w'.heap[gb196]? = some (.cells #[.int .i64 0, .slice none 0 0, .slice none 0 0, .slice none 0 0] 26 (0, 0))) ∧ (w'.heap[gb197]? = some (.cells #[.int .i64 2, .int .i64 10] 55 (0, 0))) ∧ (w'.heap[gb198]? = some (.cells #[.int .i64 2, .int .i64 10, .int .i64 2, .int .i64 10, .bool false, .int .i64 0, .int .i64 0] 57 (0, 0))) ∧ (Below w.heap.size w w')) ?_ ?_
            rotate_left
            · intro hJ3_5_7
              refine join_ (σ := Value × Value × Value) 4 pbAx11_5 (fun s_ => [(12, s_.1), (13, s_.2.1), (15, s_.2.2)]) (fun s_ w' => (w'.cell? ⟨gb198, 0, none⟩ = some (.int .i64 2) ∧ w'.cell? ⟨gb198, 1, none⟩ = some (.int .i64 10) ∧ w'.cell? ⟨gb198, 2, none⟩ = some (.int .i64 2) ∧ w'.cell? ⟨gb198, 3, none⟩ = some (.int .i64 10) ∧ w'.cell? ⟨gb198, 4, none⟩ = some (.bool false) ∧ w'.cell? ⟨gb198, 5, none⟩ = some (.int .i64 0) ∧ w'.cell? ⟨gb198, 6, none⟩ = some (.int .i64 0)) ∧ (Kd.R Kd.bool 4 w' w.heap.size (fun _ => True) s_.1 y202) ∧ (Kd.R (Kd.int .i64) 3 w' w.heap.size (fun k_ => some k_ ≠ (s_.2.2 : Value).ownBlock) s_.2.1 y205) ∧ (Kd.R (Kd.int .i64) 3 w' w.heap.size (fun k_ => some k_ ≠ (s_.2.1 : Value).ownBlock) s_.2.2 y208) ∧ (w'.heap[gb196]? = some (.cells #[.int .i64 0, .slice none 0 0, .slice none 0 0, .slice none 0 0] 26 (0, 0))) ∧ (w'.heap[gb197]? = some (.cells #[.int .i64 2, .int .i64 10] 55 (0, 0))) ∧ (w'.heap[gb198]? = some (.cells #[.int .i64 2, .int .i64 10, .int .i64 2, .int .i64 10, .bool false, .int .i64 0, .int .i64 0] 57 (0, 0))) ∧ (Below w.heap.size w w')) ?_ ?_
              rotate_left
              · intro hJ4_5_7
                refine join_ (σ := Value × Value) 5 pbAx11_6 (fun s_ => [(11, s_.1), (12, s_.2)]) (fun s_ w' => (w'.cell? ⟨gb198, 0, none⟩ = some (.int .i64 2) ∧ w'.cell? ⟨gb198, 1, none⟩ = some (.int .i64 10) ∧ w'.cell? ⟨gb198, 2, none⟩ = some (.int .i64 2) ∧ w'.cell? ⟨gb198, 3, none⟩ = some (.int .i64 10) ∧ w'.cell? ⟨gb198, 4, none⟩ = some (.bool false) ∧ w'.cell? ⟨gb198, 5, none⟩ = some (.int .i64 0) ∧ w'.cell? ⟨gb198, 6, none⟩ = some (.int .i64 0)) ∧ (Kd.R k57 57 w' w.heap.size (fun k_ => k_ ≠ gb198) s_.1 y199) ∧ (Kd.R Kd.bool 4 w' w.heap.size (fun _ => True) s_.2 y202) ∧ (w'.heap[gb196]? = some (.cells #[.int .i64 0, .slice none 0 0, .slice none 0 0, .slice none 0 0] 26 (0, 0))) ∧ (w'.heap[gb197]? = some (.cells #[.int .i64 2, .int .i64 10] 55 (0, 0))) ∧ (w'.heap[gb198]? = some (.cells #[.int .i64 2, .int .i64 10, .int .i64 2, .int .i64 10, .bool false, .int .i64 0, .int .i64 0] 57 (0, 0))) ∧ (Below w.heap.size w w')) ?_ ?_
                rotate_left
                · intro hJ3_4
                  refine join_ (σ := Value × Value) 5 pbAx11_7 (fun s_ => [(11, s_.1), (13, s_.2)]) (fun s_ w' => (w'.cell? ⟨gb198, 0, none⟩ = some (.int .i64 2) ∧ w'.cell? ⟨gb198, 1, none⟩ = some (.int .i64 10) ∧ w'.cell? ⟨gb198, 2, none⟩ = some (.int .i64 2) ∧ w'.cell? ⟨gb198, 3, none⟩ = some (.int .i64 10) ∧ w'.cell? ⟨gb198, 4, none⟩ = some (.bool false) ∧ w'.cell? ⟨gb198, 5, none⟩ = some (.int .i64 0) ∧ w'.cell? ⟨gb198, 6, none⟩ = some (.int .i64 0)) ∧ (Kd.R k57 57 w' w.heap.size (fun k_ => k_ ≠ gb198) s_.1 y199) ∧ (Kd.R (Kd.int .i64) 3 w' w.heap.size (fun _ => True) s_.2 y205) ∧ (w'.heap[gb196]? = some (.cells #[.int .i64 0, .slice none 0 0, .slice none 0 0, .slice none 0 0] 26 (0, 0))) ∧ (w'.heap[gb197]? = some (.cells #[.int .i64 2, .int .i64 10] 55 (0, 0))) ∧ (w'.heap[gb198]? = some (.cells #[.int .i64 2, .int .i64 10, .int .i64 2, .int .i64 10, .bool false, .int .i64 0, .int .i64 0] 57 (0, 0))) ∧ (Below w.heap.size w w')) ?_ ?_
                  rotate_left
                  · intro hJ3_5
                    refine join_ (σ := Value × Value) 5 pbAx11_8 (fun s_ => [(11, s_.1), (15, s_.2)]) (fun s_ w' => (w'.cell? ⟨gb198, 0, none⟩ = some (.int .i64 2) ∧ w'.cell? ⟨gb198, 1, none⟩ = some (.int .i64 10) ∧ w'.cell? ⟨gb198, 2, none⟩ = some (.int .i64 2) ∧ w'.cell? ⟨gb198, 3, none⟩ = some (.int .i64 10) ∧ w'.cell? ⟨gb198, 4, none⟩ = some (.bool false) ∧ w'.cell? ⟨gb198, 5, none⟩ = some (.int .i64 0) ∧ w'.cell? ⟨gb198, 6, none⟩ = some (.int .i64 0)) ∧ (Kd.R k57 57 w' w.heap.size (fun k_ => k_ ≠ gb198) s_.1 y199) ∧ (Kd.R (Kd.int .i64) 3 w' w.heap.size (fun _ => True) s_.2 y208) ∧ (w'.heap[gb196]? = some (.cells #[.int .i64 0, .slice none 0 0, .slice none 0 0, .slice none 0 0] 26 (0, 0))) ∧ (w'.heap[gb197]? = some (.cells #[.int .i64 2, .int .i64 10] 55 (0, 0))) ∧ (w'.heap[gb198]? = some (.cells #[.int .i64 2, .int .i64 10, .int .i64 2, .int .i64 10, .bool false, .int .i64 0, .int .i64 0] 57 (0, 0))) ∧ (Below w.heap.size w w')) ?_ ?_
                    rotate_left
                    · intro hJ3_7
                      refine join_ (σ := Value × Value) 5 pbAx11_9 (fun s_ => [(12, s_.1), (13, s_.2)]) (fun s_ w' => (w'.cell? ⟨gb198, 0, none⟩ = some (.int .i64 2) ∧ w'.cell? ⟨gb198, 1, none⟩ = some (.int .i64 10) ∧ w'.cell? ⟨gb198, 2, none⟩ = some (.int .i64 2) ∧ w'.cell? ⟨gb198, 3, none⟩ = some (.int .i64 10) ∧ w'.cell? ⟨gb198, 4, none⟩ = some (.bool false) ∧ w'.cell? ⟨gb198, 5, none⟩ = some (.int .i64 0) ∧ w'.cell? ⟨gb198, 6, none⟩ = some (.int .i64 0)) ∧ (Kd.R Kd.bool 4 w' w.heap.size (fun _ => True) s_.1 y202) ∧ (Kd.R (Kd.int .i64) 3 w' w.heap.size (fun _ => True) s_.2 y205) ∧ (w'.heap[gb196]? = some (.cells #[.int .i64 0, .slice none 0 0, .slice none 0 0, .slice none 0 0] 26 (0, 0))) ∧ (w'.heap[gb197]? = some (.cells #[.int .i64 2, .int .i64 10] 55 (0, 0))) ∧ (w'.heap[gb198]? = some (.cells #[.int .i64 2, .int .i64 10, .int .i64 2, .int .i64 10, .bool false, .int .i64 0, .int .i64 0] 57 (0, 0))) ∧ (Below w.heap.size w w')) ?_ ?_
                      rotate_left
                      · intro hJ4_5
                        refine join_ (σ := Value × Value) 5 pbAx11_10 (fun s_ => [(12, s_.1), (15, s_.2)]) (fun s_ w' => (w'.cell? ⟨gb198, 0, none⟩ = some (.int .i64 2) ∧ w'.cell? ⟨gb198, 1, none⟩ = some (.int .i64 10) ∧ w'.cell? ⟨gb198, 2, none⟩ = some (.int .i64 2) ∧ w'.cell? ⟨gb198, 3, none⟩ = some (.int .i64 10) ∧ w'.cell? ⟨gb198, 4, none⟩ = some (.bool false) ∧ w'.cell? ⟨gb198, 5, none⟩ = some (.int .i64 0) ∧ w'.cell? ⟨gb198, 6, none⟩ = some (.int .i64 0)) ∧ (Kd.R Kd.bool 4 w' w.heap.size (fun _ => True) s_.1 y202) ∧ (Kd.R (Kd.int .i64) 3 w' w.heap.size (fun _ => True) s_.2 y208) ∧ (w'.heap[gb196]? = some (.cells #[.int .i64 0, .slice none 0 0, .slice none 0 0, .slice none 0 0] 26 (0, 0))) ∧ (w'.heap[gb197]? = some (.cells #[.int .i64 2, .int .i64 10] 55 (0, 0))) ∧ (w'.heap[gb198]? = some (.cells #[.int .i64 2, .int .i64 10, .int .i64 2, .int .i64 10, .bool false, .int .i64 0, .int .i64 0] 57 (0, 0))) ∧ (Below w.heap.size w w')) ?_ ?_
                        rotate_left
                        · intro hJ4_7
                          refine join_ (σ := Value × Value) 5 pbAx11_11 (fun s_ => [(13, s_.1), (15, s_.2)]) (fun s_ w' => (w'.cell? ⟨gb198, 0, none⟩ = some (.int .i64 2) ∧ w'.cell? ⟨gb198, 1, none⟩ = some (.int .i64 10) ∧ w'.cell? ⟨gb198, 2, none⟩ = some (.int .i64 2) ∧ w'.cell? ⟨gb198, 3, none⟩ = some (.int .i64 10) ∧ w'.cell? ⟨gb198, 4, none⟩ = some (.bool false) ∧ w'.cell? ⟨gb198, 5, none⟩ = some (.int .i64 0) ∧ w'.cell? ⟨gb198, 6, none⟩ = some (.int .i64 0)) ∧ (Kd.R (Kd.int .i64) 3 w' w.heap.size (fun k_ => some k_ ≠ (s_.2 : Value).ownBlock) s_.1 y205) ∧ (Kd.R (Kd.int .i64) 3 w' w.heap.size (fun k_ => some k_ ≠ (s_.1 : Value).ownBlock) s_.2 y208) ∧ (w'.heap[gb196]? = some (.cells #[.int .i64 0, .slice none 0 0, .slice none 0 0, .slice none 0 0] 26 (0, 0))) ∧ (w'.heap[gb197]? = some (.cells #[.int .i64 2, .int .i64 10] 55 (0, 0))) ∧ (w'.heap[gb198]? = some (.cells #[.int .i64 2, .int .i64 10, .int .i64 2, .int .i64 10, .bool false, .int .i64 0, .int .i64 0] 57 (0, 0))) ∧ (Below w.heap.size w w')) ?_ ?_
                          rotate_left
                          · intro hJ5_7
                            refine join_ (σ := Value) 6 #[true, true, true, true, false, false, false, false, false, false] (fun s_ => [(11, s_)]) (fun s_ w' => (w'.cell? ⟨gb198, 0, none⟩ = some (.int .i64 2) ∧ w'.cell? ⟨gb198, 1, none⟩ = some (.int .i64 10) ∧ w'.cell? ⟨gb198, 2, none⟩ = some (.int .i64 2) ∧ w'.cell? ⟨gb198, 3, none⟩ = some (.int .i64 10) ∧ w'.cell? ⟨gb198, 4, none⟩ = some (.bool false) ∧ w'.cell? ⟨gb198, 5, none⟩ = some (.int .i64 0) ∧ w'.cell? ⟨gb198, 6, none⟩ = some (.int .i64 0)) ∧ (Kd.R k57 57 w' w.heap.size (fun k_ => k_ ≠ gb198) s_ y199) ∧ (w'.heap[gb196]? = some (.cells #[.int .i64 0, .slice none 0 0, .slice none 0 0, .slice none 0 0] 26 (0, 0))) ∧ (w'.heap[gb197]? = some (.cells #[.int .i64 2, .int .i64 10] 55 (0, 0))) ∧ (w'.heap[gb198]? = some (.cells #[.int .i64 2, .int .i64 10, .int .i64 2, .int .i64 10, .bool false, .int .i64 0, .int .i64 0] 57 (0, 0))) ∧ (Below w.heap.size w w')) ?_ ?_
                            rotate_left
                            · intro hJ3
                              refine join_ (σ := Value) 6 #[true, true, true, false, true, false, false, false, false, false] (fun s_ => [(12, s_)]) (fun s_ w' => (w'.cell? ⟨gb198, 0, none⟩ = some (.int .i64 2) ∧ w'.cell? ⟨gb198, 1, none⟩ = some (.int .i64 10) ∧ w'.cell? ⟨gb198, 2, none⟩ = some (.int .i64 2) ∧ w'.cell? ⟨gb198, 3, none⟩ = some (.int .i64 10) ∧ w'.cell? ⟨gb198, 4, none⟩ = some (.bool false) ∧ w'.cell? ⟨gb198, 5, none⟩ = some (.int .i64 0) ∧ w'.cell? ⟨gb198, 6, none⟩ = some (.int .i64 0)) ∧ (Kd.R Kd.bool 4 w' w.heap.size (fun _ => True) s_ y202) ∧ (w'.heap[gb196]? = some (.cells #[.int .i64 0, .slice none 0 0, .slice none 0 0, .slice none 0 0] 26 (0, 0))) ∧ (w'.heap[gb197]? = some (.cells #[.int .i64 2, .int .i64 10] 55 (0, 0))) ∧ (w'.heap[gb198]? = some (.cells #[.int .i64 2, .int .i64 10, .int .i64 2, .int .i64 10, .bool false, .int .i64 0, .int .i64 0] 57 (0, 0))) ∧ (Below w.heap.size w w')) ?_ ?_
                              rotate_left
                              · intro hJ4
                                refine join_ (σ := Value) 6 #[true, true, true, false, false, true, false, false, false, false] (fun s_ => [(13, s_)]) (fun s_ w' => (w'.cell? ⟨gb198, 0, none⟩ = some (.int .i64 2) ∧ w'.cell? ⟨gb198, 1, none⟩ = some (.int .i64 10) ∧ w'.cell? ⟨gb198, 2, none⟩ = some (.int .i64 2) ∧ w'.cell? ⟨gb198, 3, none⟩ = some (.int .i64 10) ∧ w'.cell? ⟨gb198, 4, none⟩ = some (.bool false) ∧ w'.cell? ⟨gb198, 5, none⟩ = some (.int .i64 0) ∧ w'.cell? ⟨gb198, 6, none⟩ = some (.int .i64 0)) ∧ (Kd.R (Kd.int .i64) 3 w' w.heap.size (fun _ => True) s_ y205) ∧ (w'.heap[gb196]? = some (.cells #[.int .i64 0, .slice none 0 0, .slice none 0 0, .slice none 0 0] 26 (0, 0))) ∧ (w'.heap[gb197]? = some (.cells #[.int .i64 2, .int .i64 10] 55 (0, 0))) ∧ (w'.heap[gb198]? = some (.cells #[.int .i64 2, .int .i64 10, .int .i64 2, .int .i64 10, .bool false, .int .i64 0, .int .i64 0] 57 (0, 0))) ∧ (Below w.heap.size w w')) ?_ ?_
                                rotate_left
                                · intro hJ5
                                  refine join_ (σ := Value) 6 #[true, true, true, false, false, false, false, true, false, false] (fun s_ => [(15, s_)]) (fun s_ w' => (w'.cell? ⟨gb198, 0, none⟩ = some (.int .i64 2) ∧ w'.cell? ⟨gb198, 1, none⟩ = some (.int .i64 10) ∧ w'.cell? ⟨gb198, 2, none⟩ = some (.int .i64 2) ∧ w'.cell? ⟨gb198, 3, none⟩ = some (.int .i64 10) ∧ w'.cell? ⟨gb198, 4, none⟩ = some (.bool false) ∧ w'.cell? ⟨gb198, 5, none⟩ = some (.int .i64 0) ∧ w'.cell? ⟨gb198, 6, none⟩ = some (.int .i64 0)) ∧ (Kd.R (Kd.int .i64) 3 w' w.heap.size (fun _ => True) s_ y208) ∧ (w'.heap[gb196]? = some (.cells #[.int .i64 0, .slice none 0 0, .slice none 0 0, .slice none 0 0] 26 (0, 0))) ∧ (w'.heap[gb197]? = some (.cells #[.int .i64 2, .int .i64 10] 55 (0, 0))) ∧ (w'.heap[gb198]? = some (.cells #[.int .i64 2, .int .i64 10, .int .i64 2, .int .i64 10, .bool false, .int .i64 0, .int .i64 0] 57 (0, 0))) ∧ (Below w.heap.size w w')) ?_ ?_
                                  rotate_left
                                  · intro hJ7
                                    refine four_ (i := 3) (j := 4) (k := 5) (m := 7) (Ni := some 11) (Nj := some 12) (Nk := some 13) (Nm := some 15) #[true, true, true, true, false, false, false, false, false, false] #[true, true, true, false, true, false, false, false, false, false] #[true, true, true, false, false, true, false, false, false, false] #[true, true, true, false, false, false, false, true, false, false] rfl rfl rfl rfl rfl rfl rfl rfl (four_of HT_.out pmAx11_21_) pmAx11_19_ pmAx11_19_ pmAx11_19_ pmAx11_19_ (fun K hK => ?_) (fun K hK => ?_) (fun K hK => ?_) (fun K hK => ?_)
                                    · skip
                                      refine Kd.R_lit_step k57 _ 57 ?hg (N := 11) ?hd (xs := ([(⟨(⟨2, 10⟩ : S55), (⟨2, 10⟩ : S55), false, (⟨0, 0⟩ : S55)⟩ : S57), (⟨(⟨2, 10⟩ : S55), (⟨2, 10⟩ : S55), false, (⟨0, 0⟩ : S55)⟩ : S57), (⟨(⟨2, 10⟩ : S55), (⟨2, 10⟩ : S55), false, (⟨0, 0⟩ : S55)⟩ : S57)] : List (S57))) (inner := [.int .i64 2, .int .i64 10, .int .i64 2, .int .i64 10, .bool false, .int .i64 0, .int .i64 0, .int .i64 2, .int .i64 10, .int .i64 2, .int .i64 10, .bool false, .int .i64 0, .int .i64 0, .int .i64 2, .int .i64 10, .int .i64 2, .int .i64 10, .bool false, .int .i64 0, .int .i64 0]) (ok := fun _ => True) (okp := fun _ => True) ?hr ?hp (fun _ hk => hk) trivial (Below.refl _ _) (Nat.le_refl _) (by simp) ?_; (case hd => rfl); (case hg => rfl); (case hr => first | (go_simp; done) | (go_simp; rfl)); (case hp => exact (Reps.c7 (show Kd.M k57 _ _ _ (⟨(⟨2, 10⟩ : S55), (⟨2, 10⟩ : S55), false, (⟨0, 0⟩ : S55)⟩ : S57) [.int .i64 2, .int .i64 10, .int .i64 2, .int .i64 10, .bool false, .int .i64 0, .int .i64 0] from (k57_mkM _ _ _ (⟨(⟨2, 10⟩ : S55), (⟨2, 10⟩ : S55), false, (⟨0, 0⟩ : S55)⟩ : S57) )) (Reps.c7 (show Kd.M k57 _ _ _ (⟨(⟨2, 10⟩ : S55), (⟨2, 10⟩ : S55), false, (⟨0, 0⟩ : S55)⟩ : S57) [.int .i64 2, .int .i64 10, .int .i64 2, .int .i64 10, .bool false, .int .i64 0, .int .i64 0] from (k57_mkM _ _ _ (⟨(⟨2, 10⟩ : S55), (⟨2, 10⟩ : S55), false, (⟨0, 0⟩ : S55)⟩ : S57) )) (Reps.c7 (show Kd.M k57 _ _ _ (⟨(⟨2, 10⟩ : S55), (⟨2, 10⟩ : S55), false, (⟨0, 0⟩ : S55)⟩ : S57) [.int .i64 2, .int .i64 10, .int .i64 2, .int .i64 10, .bool false, .int .i64 0, .int .i64 0] from (k57_mkM _ _ _ (⟨(⟨2, 10⟩ : S55), (⟨2, 10⟩ : S55), false, (⟨0, 0⟩ : S55)⟩ : S57) )) (Reps.none _ _)))))
                                      intro v200 w13 ho14 hb hg_ hnew_
                                      clear hg_ hnew_
                                      (first | rw [← Ny199.out] at ho14 | (simp only [Int.reduceToNat] at ho14; rw [← Ny199.out] at ho14))
                                      have n0_ := Aside0.mk (Kd.R_lower (Kd.R_newB ho14 (g := gb198) (o := poAx11_1 2 10 2 10 false 0 0) pmAx11_1_) (below_size pmAx11_0_))
                                      have n1_ := Aside0.mk (blk_below (g := gb196) (o := .cells #[.int .i64 0, .slice none 0 0, .slice none 0 0, .slice none 0 0] 26 (0, 0)) pmAx11_2_ hb)
                                      have n2_ := Aside0.mk (blk_below (g := gb197) (o := poAx11_0 2 10) pmAx11_4_ hb)
                                      have n3_ := Aside0.mk (blk_below (g := gb198) (o := poAx11_1 2 10 2 10 false 0 0) pmAx11_1_ hb)
                                      have n4_ := Aside0.mk (below_step pmAx11_0_ hb)
                                      clear BK196 BK197 BK198 HB
                                      have HO201 := n0_
                                      have BK196 := n1_
                                      have BK197 := n2_
                                      have BK198 := n3_
                                      have HB := n4_
                                      clear n0_ n1_ n2_ n3_ n4_ hb ho14
                                      refine hK.out _ _ pmAx11_3_ (fun hHeld => ?_)
                                      clear hK K
                                      refine norm_ (a' := ?_) ?_ ?_
                                      rotate_left
                                      · show Act.put _ (some 11) _ = _
                                        simp only [Act.put, List.setIfInBounds_toArray, List.set_cons_zero, List.set_cons_succ, i64_w, i32_w]
                                        rfl
                                      exact norm_ pmAx11_5_ (hJ3 (v200) _ ⟨hHeld, pmAx11_13_, pmAx11_2_, pmAx11_4_, pmAx11_1_, pmAx11_0_⟩)
                                    · skip
                                      refine Kd.R_make_step Kd.bool _ 4 (by rfl) (N := 12) rfl 23 _ _ rfl 3 rfl rfl Try.underlying23 (.bool false) 1 info4 rfl pmAx11_19_ pmAx11_23_ false (ok := fun _ => True) (okp := fun _ => True) rfl (fun _ hk => hk) trivial pmAx11_23_ pmAx11_23_ (Below.refl _ _) (Nat.le_refl _) ?_
                                      intro v203 w13 ho14 hb hg_ hnew_
                                      clear hg_ hnew_
                                      (first | rw [← Ny202.out] at ho14 | (simp only [Int.reduceToNat] at ho14; rw [← Ny202.out] at ho14))
                                      have n0_ := Aside0.mk (Kd.R_lower ho14 (below_size pmAx11_0_))
                                      have n1_ := Aside0.mk (blk_below (g := gb196) (o := .cells #[.int .i64 0, .slice none 0 0, .slice none 0 0, .slice none 0 0] 26 (0, 0)) pmAx11_2_ hb)
                                      have n2_ := Aside0.mk (blk_below (g := gb197) (o := poAx11_0 2 10) pmAx11_4_ hb)
                                      have n3_ := Aside0.mk (blk_below (g := gb198) (o := poAx11_1 2 10 2 10 false 0 0) pmAx11_1_ hb)
                                      have n4_ := Aside0.mk (below_step pmAx11_0_ hb)
                                      clear BK196 BK197 BK198 HB
                                      have HO204 := n0_
                                      have BK196 := n1_
                                      have BK197 := n2_
                                      have BK198 := n3_
                                      have HB := n4_
                                      clear n0_ n1_ n2_ n3_ n4_ hb ho14
                                      refine hK.out _ _ pmAx11_3_ (fun hHeld => ?_)
                                      clear hK K
                                      refine norm_ (a' := ?_) ?_ ?_
                                      rotate_left
                                      · show Act.put _ (some 12) _ = _
                                        simp only [Act.put, List.setIfInBounds_toArray, List.set_cons_zero, List.set_cons_succ, i64_w, i32_w]
                                        rfl
                                      exact norm_ pmAx11_5_ (hJ4 (v203) _ ⟨hHeld, pmAx11_6_, pmAx11_2_, pmAx11_4_, pmAx11_1_, pmAx11_0_⟩)
                                    · skip
                                      refine Kd.R_make_step (Kd.int .i64) _ 3 (by rfl) (N := 13) rfl 24 _ _ rfl 3 rfl rfl Try.underlying24 (.int .i64 0) 8 info3 rfl pmAx11_19_ pmAx11_23_ 0 (ok := fun _ => True) (okp := fun _ => True) rfl (fun _ hk => hk) trivial pmAx11_23_ pmAx11_23_ (Below.refl _ _) (Nat.le_refl _) ?_
                                      intro v206 w13 ho14 hb hg_ hnew_
                                      clear hg_ hnew_
                                      (first | rw [← Ny205.out] at ho14 | (simp only [Int.reduceToNat] at ho14; rw [← Ny205.out] at ho14))
                                      have n0_ := Aside0.mk (Kd.R_lower ho14 (below_size pmAx11_0_))
                                      have n1_ := Aside0.mk (blk_below (g := gb196) (o := .cells #[.int .i64 0, .slice none 0 0, .slice none 0 0, .slice none 0 0] 26 (0, 0)) pmAx11_2_ hb)
                                      have n2_ := Aside0.mk (blk_below (g := gb197) (o := poAx11_0 2 10) pmAx11_4_ hb)
                                      have n3_ := Aside0.mk (blk_below (g := gb198) (o := poAx11_1 2 10 2 10 false 0 0) pmAx11_1_ hb)
                                      have n4_ := Aside0.mk (below_step pmAx11_0_ hb)
                                      clear BK196 BK197 BK198 HB
                                      have HO207 := n0_
                                      have BK196 := n1_
                                      have BK197 := n2_
                                      have BK198 := n3_
                                      have HB := n4_
                                      clear n0_ n1_ n2_ n3_ n4_ hb ho14
                                      refine hK.out _ _ pmAx11_3_ (fun hHeld => ?_)
                                      clear hK K
                                      refine norm_ (a' := ?_) ?_ ?_
                                      rotate_left
                                      · show Act.put _ (some 13) _ = _
                                        simp only [Act.put, List.setIfInBounds_toArray, List.set_cons_zero, List.set_cons_succ, i64_w, i32_w]
                                        rfl
                                      exact norm_ pmAx11_5_ (hJ5 (v206) _ ⟨hHeld, pmAx11_7_, pmAx11_2_, pmAx11_4_, pmAx11_1_, pmAx11_0_⟩)
                                    · skip
                                      refine Kd.R_lit_step (Kd.int .i64) _ 3 ?hg (N := 15) ?hd (xs := ([10, 10, 10] : List Int)) (inner := [.int .i64 10, .int .i64 10, .int .i64 10]) (ok := fun _ => True) (okp := fun _ => True) ?hr ?hp (fun _ hk => hk) trivial (Below.refl _ _) (Nat.le_refl _) (by simp) ?_; (case hd => rfl); (case hg => rfl); (case hr => first | (go_simp; done) | (go_simp; rfl)); (case hp => exact (Reps.one (show Kd.M (Kd.int .i64) _ _ _ 10 [.int .i64 10] from rfl) (Reps.one (show Kd.M (Kd.int .i64) _ _ _ 10 [.int .i64 10] from rfl) (Reps.one (show Kd.M (Kd.int .i64) _ _ _ 10 [.int .i64 10] from rfl) (Reps.none _ _)))))
                                      intro v209 w13 ho14 hb hg_ hnew_
                                      clear hg_ hnew_
                                      (first | rw [← Ny208.out] at ho14 | (simp only [Int.reduceToNat] at ho14; rw [← Ny208.out] at ho14))
                                      have n0_ := Aside0.mk (Kd.R_lower ho14 (below_size pmAx11_0_))
                                      have n1_ := Aside0.mk (blk_below (g := gb196) (o := .cells #[.int .i64 0, .slice none 0 0, .slice none 0 0, .slice none 0 0] 26 (0, 0)) pmAx11_2_ hb)
                                      have n2_ := Aside0.mk (blk_below (g := gb197) (o := poAx11_0 2 10) pmAx11_4_ hb)
                                      have n3_ := Aside0.mk (blk_below (g := gb198) (o := poAx11_1 2 10 2 10 false 0 0) pmAx11_1_ hb)
                                      have n4_ := Aside0.mk (below_step pmAx11_0_ hb)
                                      clear BK196 BK197 BK198 HB
                                      have HO210 := n0_
                                      have BK196 := n1_
                                      have BK197 := n2_
                                      have BK198 := n3_
                                      have HB := n4_
                                      clear n0_ n1_ n2_ n3_ n4_ hb ho14
                                      refine hK.out _ _ pmAx11_3_ (fun hHeld => ?_)
                                      clear hK K
                                      refine norm_ (a' := ?_) ?_ ?_
                                      rotate_left
                                      · show Act.put _ (some 15) _ = _
                                        simp only [Act.put, List.setIfInBounds_toArray, List.set_cons_zero, List.set_cons_succ, i64_w, i32_w]
                                        rfl
                                      exact norm_ pmAx11_5_ (hJ7 (v209) _ ⟨hHeld, pmAx11_8_, pmAx11_2_, pmAx11_4_, pmAx11_1_, pmAx11_0_⟩)
                                  · skip
                                    rintro v209 w15 ⟨hS_, h0_, h1_, h2_, h3_, h4_⟩
                                    have n0_ : Aside0 (Kd.R (Kd.int .i64) 3 w15 w.heap.size (fun _ => True) v209 y208) := ⟨h0_⟩
                                    have n1_ : Aside0 (w15.heap[gb196]? = some (.cells #[.int .i64 0, .slice none 0 0, .slice none 0 0, .slice none 0 0] 26 (0, 0))) := ⟨h1_⟩
                                    have n2_ : Aside0 (w15.heap[gb197]? = some (.cells #[.int .i64 2, .int .i64 10] 55 (0, 0))) := ⟨h2_⟩
                                    have n3_ : Aside0 (w15.heap[gb198]? = some (.cells #[.int .i64 2, .int .i64 10, .int .i64 2, .int .i64 10, .bool false, .int .i64 0, .int .i64 0] 57 (0, 0))) := ⟨h3_⟩
                                    have n4_ : Aside0 (Below w.heap.size w w15) := ⟨h4_⟩
                                    clear BK196 BK197 BK198 HB h0_ h1_ h2_ h3_ h4_
                                    have HO210 := n0_
                                    have BK196 := n1_
                                    have BK197 := n2_
                                    have BK198 := n3_
                                    have HB := n4_
                                    clear n0_ n1_ n2_ n3_ n4_
                                    have hHeld : w15.cell? ⟨gb198, 0, none⟩ = some (.int .i64 2) ∧ w15.cell? ⟨gb198, 1, none⟩ = some (.int .i64 10) ∧ w15.cell? ⟨gb198, 2, none⟩ = some (.int .i64 2) ∧ w15.cell? ⟨gb198, 3, none⟩ = some (.int .i64 10) ∧ w15.cell? ⟨gb198, 4, none⟩ = some (.bool false) ∧ w15.cell? ⟨gb198, 5, none⟩ = some (.int .i64 0) ∧ w15.cell? ⟨gb198, 6, none⟩ = some (.int .i64 0) := hS_
                                    refine norm_ (a' := ?_) ?_ ?_
                                    rotate_left
                                    · simp only [putAll, Act.put, List.setIfInBounds_toArray, List.set_cons_zero, List.set_cons_succ]
                                      rfl
                                    refine three_ (i := 3) (j := 4) (k := 5) (Ni := some 11) (Nj := some 12) (Nk := some 13) pbAx11_8 pbAx11_10 pbAx11_11 rfl rfl rfl rfl rfl rfl (three_of HT_.out pmAx11_21_) pmAx11_19_ pmAx11_19_ pmAx11_19_ (fun K hK => ?_) (fun K hK => ?_) (fun K hK => ?_)
                                    · skip
                                      refine Kd.R_lit_step k57 _ 57 ?hg (N := 11) ?hd (xs := ([(⟨(⟨2, 10⟩ : S55), (⟨2, 10⟩ : S55), false, (⟨0, 0⟩ : S55)⟩ : S57), (⟨(⟨2, 10⟩ : S55), (⟨2, 10⟩ : S55), false, (⟨0, 0⟩ : S55)⟩ : S57), (⟨(⟨2, 10⟩ : S55), (⟨2, 10⟩ : S55), false, (⟨0, 0⟩ : S55)⟩ : S57)] : List (S57))) (inner := [.int .i64 2, .int .i64 10, .int .i64 2, .int .i64 10, .bool false, .int .i64 0, .int .i64 0, .int .i64 2, .int .i64 10, .int .i64 2, .int .i64 10, .bool false, .int .i64 0, .int .i64 0, .int .i64 2, .int .i64 10, .int .i64 2, .int .i64 10, .bool false, .int .i64 0, .int .i64 0]) (ok := fun _ => True) (okp := fun _ => True) ?hr ?hp (fun _ hk => hk) trivial (Below.refl _ _) (Nat.le_refl _) (by simp) ?_; (case hd => rfl); (case hg => rfl); (case hr => first | (go_simp; done) | (go_simp; rfl)); (case hp => exact (Reps.c7 (show Kd.M k57 _ _ _ (⟨(⟨2, 10⟩ : S55), (⟨2, 10⟩ : S55), false, (⟨0, 0⟩ : S55)⟩ : S57) [.int .i64 2, .int .i64 10, .int .i64 2, .int .i64 10, .bool false, .int .i64 0, .int .i64 0] from (k57_mkM _ _ _ (⟨(⟨2, 10⟩ : S55), (⟨2, 10⟩ : S55), false, (⟨0, 0⟩ : S55)⟩ : S57) )) (Reps.c7 (show Kd.M k57 _ _ _ (⟨(⟨2, 10⟩ : S55), (⟨2, 10⟩ : S55), false, (⟨0, 0⟩ : S55)⟩ : S57) [.int .i64 2, .int .i64 10, .int .i64 2, .int .i64 10, .bool false, .int .i64 0, .int .i64 0] from (k57_mkM _ _ _ (⟨(⟨2, 10⟩ : S55), (⟨2, 10⟩ : S55), false, (⟨0, 0⟩ : S55)⟩ : S57) )) (Reps.c7 (show Kd.M k57 _ _ _ (⟨(⟨2, 10⟩ : S55), (⟨2, 10⟩ : S55), false, (⟨0, 0⟩ : S55)⟩ : S57) [.int .i64 2, .int .i64 10, .int .i64 2, .int .i64 10, .bool false, .int .i64 0, .int .i64 0] from (k57_mkM _ _ _ (⟨(⟨2, 10⟩ : S55), (⟨2, 10⟩ : S55), false, (⟨0, 0⟩ : S55)⟩ : S57) )) (Reps.none _ _)))))
                                      intro v200 w16 ho17 hb hg_ hnew_
                                      clear hg_ hnew_
                                      (first | rw [← Ny199.out] at ho17 | (simp only [Int.reduceToNat] at ho17; rw [← Ny199.out] at ho17))
                                      have n0_ := Aside0.mk (Kd.R_below pmAx11_8_ hb)
                                      have n1_ := Aside0.mk (Kd.R_lower (Kd.R_newB ho17 (g := gb198) (o := poAx11_1 2 10 2 10 false 0 0) pmAx11_1_) (below_size pmAx11_0_))
                                      have n2_ := Aside0.mk (blk_below (g := gb196) (o := .cells #[.int .i64 0, .slice none 0 0, .slice none 0 0, .slice none 0 0] 26 (0, 0)) pmAx11_2_ hb)
                                      have n3_ := Aside0.mk (blk_below (g := gb197) (o := poAx11_0 2 10) pmAx11_4_ hb)
                                      have n4_ := Aside0.mk (blk_below (g := gb198) (o := poAx11_1 2 10 2 10 false 0 0) pmAx11_1_ hb)
                                      have n5_ := Aside0.mk (below_step pmAx11_0_ hb)
                                      clear HO210 BK196 BK197 BK198 HB
                                      have HO210 := n0_
                                      have HO201 := n1_
                                      have BK196 := n2_
                                      have BK197 := n3_
                                      have BK198 := n4_
                                      have HB := n5_
                                      clear n0_ n1_ n2_ n3_ n4_ n5_ hb ho17
                                      refine hK.out _ _ pmAx11_3_ (fun hHeld => ?_)
                                      clear hK K
                                      refine norm_ (a' := ?_) ?_ ?_
                                      rotate_left
                                      · show Act.put _ (some 11) _ = _
                                        simp only [Act.put, List.setIfInBounds_toArray, List.set_cons_zero, List.set_cons_succ, i64_w, i32_w]
                                        rfl
                                      exact norm_ pmAx11_5_ (hJ3_7 (v200, v209) _ ⟨hHeld, pmAx11_13_, pmAx11_8_, pmAx11_2_, pmAx11_4_, pmAx11_1_, pmAx11_0_⟩)
                                    · skip
                                      refine Kd.R_make_step Kd.bool _ 4 (by rfl) (N := 12) rfl 23 _ _ rfl 3 rfl rfl Try.underlying23 (.bool false) 1 info4 rfl pmAx11_19_ pmAx11_23_ false (ok := fun _ => True) (okp := fun _ => True) rfl (fun _ hk => hk) trivial pmAx11_23_ pmAx11_23_ (Below.refl _ _) (Nat.le_refl _) ?_
                                      intro v203 w16 ho17 hb hg_ hnew_
                                      clear hg_ hnew_
                                      (first | rw [← Ny202.out] at ho17 | (simp only [Int.reduceToNat] at ho17; rw [← Ny202.out] at ho17))
                                      have n0_ := Aside0.mk (Kd.R_below pmAx11_8_ hb)
                                      have n1_ := Aside0.mk (Kd.R_lower ho17 (below_size pmAx11_0_))
                                      have n2_ := Aside0.mk (blk_below (g := gb196) (o := .cells #[.int .i64 0, .slice none 0 0, .slice none 0 0, .slice none 0 0] 26 (0, 0)) pmAx11_2_ hb)
                                      have n3_ := Aside0.mk (blk_below (g := gb197) (o := poAx11_0 2 10) pmAx11_4_ hb)
                                      have n4_ := Aside0.mk (blk_below (g := gb198) (o := poAx11_1 2 10 2 10 false 0 0) pmAx11_1_ hb)
                                      have n5_ := Aside0.mk (below_step pmAx11_0_ hb)
                                      clear HO210 BK196 BK197 BK198 HB
                                      have HO210 := n0_
                                      have HO204 := n1_
                                      have BK196 := n2_
                                      have BK197 := n3_
                                      have BK198 := n4_
                                      have HB := n5_
                                      clear n0_ n1_ n2_ n3_ n4_ n5_ hb ho17
                                      refine hK.out _ _ pmAx11_3_ (fun hHeld => ?_)
                                      clear hK K
                                      refine norm_ (a' := ?_) ?_ ?_
                                      rotate_left
                                      · show Act.put _ (some 12) _ = _
                                        simp only [Act.put, List.setIfInBounds_toArray, List.set_cons_zero, List.set_cons_succ, i64_w, i32_w]
                                        rfl
                                      exact norm_ pmAx11_5_ (hJ4_7 (v203, v209) _ ⟨hHeld, pmAx11_6_, pmAx11_8_, pmAx11_2_, pmAx11_4_, pmAx11_1_, pmAx11_0_⟩)
                                    · skip
                                      refine Kd.R_make_step (Kd.int .i64) _ 3 (by rfl) (N := 13) rfl 24 _ _ rfl 3 rfl rfl Try.underlying24 (.int .i64 0) 8 info3 rfl pmAx11_19_ pmAx11_23_ 0 (ok := fun _ => True) (okp := fun _ => True) rfl (fun _ hk => hk) trivial pmAx11_23_ pmAx11_23_ (Below.refl _ _) (Nat.le_refl _) ?_
                                      intro v206 w16 ho17 hb hg_ hnew_
                                      clear hg_ hnew_
                                      (first | rw [← Ny205.out] at ho17 | (simp only [Int.reduceToNat] at ho17; rw [← Ny205.out] at ho17))
                                      have n0_ := Aside0.mk (Kd.R_elder' pmAx11_8_ (Kd.R_base ho17) hb)
                                      have n1_ := Aside0.mk (Kd.R_lower (Kd.R_new' ho17 (Kd.R_lt pmAx11_8_)) (below_size pmAx11_0_))
                                      have n2_ := Aside0.mk (blk_below (g := gb196) (o := .cells #[.int .i64 0, .slice none 0 0, .slice none 0 0, .slice none 0 0] 26 (0, 0)) pmAx11_2_ hb)
                                      have n3_ := Aside0.mk (blk_below (g := gb197) (o := poAx11_0 2 10) pmAx11_4_ hb)
                                      have n4_ := Aside0.mk (blk_below (g := gb198) (o := poAx11_1 2 10 2 10 false 0 0) pmAx11_1_ hb)
                                      have n5_ := Aside0.mk (below_step pmAx11_0_ hb)
                                      clear HO210 BK196 BK197 BK198 HB
                                      have HO210 := n0_
                                      have HO207 := n1_
                                      have BK196 := n2_
                                      have BK197 := n3_
                                      have BK198 := n4_
                                      have HB := n5_
                                      clear n0_ n1_ n2_ n3_ n4_ n5_ hb ho17
                                      refine hK.out _ _ pmAx11_3_ (fun hHeld => ?_)
                                      clear hK K
                                      refine norm_ (a' := ?_) ?_ ?_
                                      rotate_left
                                      · show Act.put _ (some 13) _ = _
                                        simp only [Act.put, List.setIfInBounds_toArray, List.set_cons_zero, List.set_cons_succ, i64_w, i32_w]
                                        rfl
                                      exact norm_ pmAx11_5_ (hJ5_7 (v206, v209) _ ⟨hHeld, pmAx11_11_, pmAx11_12_, pmAx11_2_, pmAx11_4_, pmAx11_1_, pmAx11_0_⟩)
                                · skip
                                  rintro v206 w15 ⟨hS_, h0_, h1_, h2_, h3_, h4_⟩
                                  have n0_ : Aside0 (Kd.R (Kd.int .i64) 3 w15 w.heap.size (fun _ => True) v206 y205) := ⟨h0_⟩
                                  have n1_ : Aside0 (w15.heap[gb196]? = some (.cells #[.int .i64 0, .slice none 0 0, .slice none 0 0, .slice none 0 0] 26 (0, 0))) := ⟨h1_⟩
                                  have n2_ : Aside0 (w15.heap[gb197]? = some (.cells #[.int .i64 2, .int .i64 10] 55 (0, 0))) := ⟨h2_⟩
                                  have n3_ : Aside0 (w15.heap[gb198]? = some (.cells #[.int .i64 2, .int .i64 10, .int .i64 2, .int .i64 10, .bool false, .int .i64 0, .int .i64 0] 57 (0, 0))) := ⟨h3_⟩
                                  have n4_ : Aside0 (Below w.heap.size w w15) := ⟨h4_⟩
                                  clear BK196 BK197 BK198 HB h0_ h1_ h2_ h3_ h4_
                                  have HO207 := n0_
                                  have BK196 := n1_
                                  have BK197 := n2_
                                  have BK198 := n3_
                                  have HB := n4_
                                  clear n0_ n1_ n2_ n3_ n4_
                                  have hHeld : w15.cell? ⟨gb198, 0, none⟩ = some (.int .i64 2) ∧ w15.cell? ⟨gb198, 1, none⟩ = some (.int .i64 10) ∧ w15.cell? ⟨gb198, 2, none⟩ = some (.int .i64 2) ∧ w15.cell? ⟨gb198, 3, none⟩ = some (.int .i64 10) ∧ w15.cell? ⟨gb198, 4, none⟩ = some (.bool false) ∧ w15.cell? ⟨gb198, 5, none⟩ = some (.int .i64 0) ∧ w15.cell? ⟨gb198, 6, none⟩ = some (.int .i64 0) := hS_
                                  refine norm_ (a' := ?_) ?_ ?_
                                  rotate_left
                                  · simp only [putAll, Act.put, List.setIfInBounds_toArray, List.set_cons_zero, List.set_cons_succ]
                                    rfl
                                  refine three_ (i := 3) (j := 4) (k := 7) (Ni := some 11) (Nj := some 12) (Nk := some 15) pbAx11_7 pbAx11_9 pbAx11_11 rfl rfl rfl rfl rfl rfl (three_of HT_.out pmAx11_21_) pmAx11_19_ pmAx11_19_ pmAx11_19_ (fun K hK => ?_) (fun K hK => ?_) (fun K hK => ?_)
                                  · skip
                                    refine Kd.R_lit_step k57 _ 57 ?hg (N := 11) ?hd (xs := ([(⟨(⟨2, 10⟩ : S55), (⟨2, 10⟩ : S55), false, (⟨0, 0⟩ : S55)⟩ : S57), (⟨(⟨2, 10⟩ : S55), (⟨2, 10⟩ : S55), false, (⟨0, 0⟩ : S55)⟩ : S57), (⟨(⟨2, 10⟩ : S55), (⟨2, 10⟩ : S55), false, (⟨0, 0⟩ : S55)⟩ : S57)] : List (S57))) (inner := [.int .i64 2, .int .i64 10, .int .i64 2, .int .i64 10, .bool false, .int .i64 0, .int .i64 0, .int .i64 2, .int .i64 10, .int .i64 2, .int .i64 10, .bool false, .int .i64 0, .int .i64 0, .int .i64 2, .int .i64 10, .int .i64 2, .int .i64 10, .bool false, .int .i64 0, .int .i64 0]) (ok := fun _ => True) (okp := fun _ => True) ?hr ?hp (fun _ hk => hk) trivial (Below.refl _ _) (Nat.le_refl _) (by simp) ?_; (case hd => rfl); (case hg => rfl); (case hr => first | (go_simp; done) | (go_simp; rfl)); (case hp => exact (Reps.c7 (show Kd.M k57 _ _ _ (⟨(⟨2, 10⟩ : S55), (⟨2, 10⟩ : S55), false, (⟨0, 0⟩ : S55)⟩ : S57) [.int .i64 2, .int .i64 10, .int .i64 2, .int .i64 10, .bool false, .int .i64 0, .int .i64 0] from (k57_mkM _ _ _ (⟨(⟨2, 10⟩ : S55), (⟨2, 10⟩ : S55), false, (⟨0, 0⟩ : S55)⟩ : S57) )) (Reps.c7 (show Kd.M k57 _ _ _ (⟨(⟨2, 10⟩ : S55), (⟨2, 10⟩ : S55), false, (⟨0, 0⟩ : S55)⟩ : S57) [.int .i64 2, .int .i64 10, .int .i64 2, .int .i64 10, .bool false, .int .i64 0, .int .i64 0] from (k57_mkM _ _ _ (⟨(⟨2, 10⟩ : S55), (⟨2, 10⟩ : S55), false, (⟨0, 0⟩ : S55)⟩ : S57) )) (Reps.c7 (show Kd.M k57 _ _ _ (⟨(⟨2, 10⟩ : S55), (⟨2, 10⟩ : S55), false, (⟨0, 0⟩ : S55)⟩ : S57) [.int .i64 2, .int .i64 10, .int .i64 2, .int .i64 10, .bool false, .int .i64 0, .int .i64 0] from (k57_mkM _ _ _ (⟨(⟨2, 10⟩ : S55), (⟨2, 10⟩ : S55), false, (⟨0, 0⟩ : S55)⟩ : S57) )) (Reps.none _ _)))))
                                    intro v200 w16 ho17 hb hg_ hnew_
                                    clear hg_ hnew_
                                    (first | rw [← Ny199.out] at ho17 | (simp only [Int.reduceToNat] at ho17; rw [← Ny199.out] at ho17))
                                    have n0_ := Aside0.mk (Kd.R_below pmAx11_7_ hb)
                                    have n1_ := Aside0.mk (Kd.R_lower (Kd.R_newB ho17 (g := gb198) (o := poAx11_1 2 10 2 10 false 0 0) pmAx11_1_) (below_size pmAx11_0_))
                                    have n2_ := Aside0.mk (blk_below (g := gb196) (o := .cells #[.int .i64 0, .slice none 0 0, .slice none 0 0, .slice none 0 0] 26 (0, 0)) pmAx11_2_ hb)
                                    have n3_ := Aside0.mk (blk_below (g := gb197) (o := poAx11_0 2 10) pmAx11_4_ hb)
                                    have n4_ := Aside0.mk (blk_below (g := gb198) (o := poAx11_1 2 10 2 10 false 0 0) pmAx11_1_ hb)
                                    have n5_ := Aside0.mk (below_step pmAx11_0_ hb)
                                    clear HO207 BK196 BK197 BK198 HB
                                    have HO207 := n0_
                                    have HO201 := n1_
                                    have BK196 := n2_
                                    have BK197 := n3_
                                    have BK198 := n4_
                                    have HB := n5_
                                    clear n0_ n1_ n2_ n3_ n4_ n5_ hb ho17
                                    refine hK.out _ _ pmAx11_3_ (fun hHeld => ?_)
                                    clear hK K
                                    refine norm_ (a' := ?_) ?_ ?_
                                    rotate_left
                                    · show Act.put _ (some 11) _ = _
                                      simp only [Act.put, List.setIfInBounds_toArray, List.set_cons_zero, List.set_cons_succ, i64_w, i32_w]
                                      rfl
                                    exact norm_ pmAx11_5_ (hJ3_5 (v200, v206) _ ⟨hHeld, pmAx11_13_, pmAx11_7_, pmAx11_2_, pmAx11_4_, pmAx11_1_, pmAx11_0_⟩)
                                  · skip
                                    refine Kd.R_make_step Kd.bool _ 4 (by rfl) (N := 12) rfl 23 _ _ rfl 3 rfl rfl Try.underlying23 (.bool false) 1 info4 rfl pmAx11_19_ pmAx11_23_ false (ok := fun _ => True) (okp := fun _ => True) rfl (fun _ hk => hk) trivial pmAx11_23_ pmAx11_23_ (Below.refl _ _) (Nat.le_refl _) ?_
                                    intro v203 w16 ho17 hb hg_ hnew_
                                    clear hg_ hnew_
                                    (first | rw [← Ny202.out] at ho17 | (simp only [Int.reduceToNat] at ho17; rw [← Ny202.out] at ho17))
                                    have n0_ := Aside0.mk (Kd.R_below pmAx11_7_ hb)
                                    have n1_ := Aside0.mk (Kd.R_lower ho17 (below_size pmAx11_0_))
                                    have n2_ := Aside0.mk (blk_below (g := gb196) (o := .cells #[.int .i64 0, .slice none 0 0, .slice none 0 0, .slice none 0 0] 26 (0, 0)) pmAx11_2_ hb)
                                    have n3_ := Aside0.mk (blk_below (g := gb197) (o := poAx11_0 2 10) pmAx11_4_ hb)
                                    have n4_ := Aside0.mk (blk_below (g := gb198) (o := poAx11_1 2 10 2 10 false 0 0) pmAx11_1_ hb)
                                    have n5_ := Aside0.mk (below_step pmAx11_0_ hb)
                                    clear HO207 BK196 BK197 BK198 HB
                                    have HO207 := n0_
                                    have HO204 := n1_
                                    have BK196 := n2_
                                    have BK197 := n3_
                                    have BK198 := n4_
                                    have HB := n5_
                                    clear n0_ n1_ n2_ n3_ n4_ n5_ hb ho17
                                    refine hK.out _ _ pmAx11_3_ (fun hHeld => ?_)
                                    clear hK K
                                    refine norm_ (a' := ?_) ?_ ?_
                                    rotate_left
                                    · show Act.put _ (some 12) _ = _
                                      simp only [Act.put, List.setIfInBounds_toArray, List.set_cons_zero, List.set_cons_succ, i64_w, i32_w]
                                      rfl
                                    exact norm_ pmAx11_5_ (hJ4_5 (v203, v206) _ ⟨hHeld, pmAx11_6_, pmAx11_7_, pmAx11_2_, pmAx11_4_, pmAx11_1_, pmAx11_0_⟩)
                                  · skip
                                    refine Kd.R_lit_step (Kd.int .i64) _ 3 ?hg (N := 15) ?hd (xs := ([10, 10, 10] : List Int)) (inner := [.int .i64 10, .int .i64 10, .int .i64 10]) (ok := fun _ => True) (okp := fun _ => True) ?hr ?hp (fun _ hk => hk) trivial (Below.refl _ _) (Nat.le_refl _) (by simp) ?_; (case hd => rfl); (case hg => rfl); (case hr => first | (go_simp; done) | (go_simp; rfl)); (case hp => exact (Reps.one (show Kd.M (Kd.int .i64) _ _ _ 10 [.int .i64 10] from rfl) (Reps.one (show Kd.M (Kd.int .i64) _ _ _ 10 [.int .i64 10] from rfl) (Reps.one (show Kd.M (Kd.int .i64) _ _ _ 10 [.int .i64 10] from rfl) (Reps.none _ _)))))
                                    intro v209 w16 ho17 hb hg_ hnew_
                                    clear hg_ hnew_
                                    (first | rw [← Ny208.out] at ho17 | (simp only [Int.reduceToNat] at ho17; rw [← Ny208.out] at ho17))
                                    have n0_ := Aside0.mk (Kd.R_elder' pmAx11_7_ (Kd.R_base ho17) hb)
                                    have n1_ := Aside0.mk (Kd.R_lower (Kd.R_new' ho17 (Kd.R_lt pmAx11_7_)) (below_size pmAx11_0_))
                                    have n2_ := Aside0.mk (blk_below (g := gb196) (o := .cells #[.int .i64 0, .slice none 0 0, .slice none 0 0, .slice none 0 0] 26 (0, 0)) pmAx11_2_ hb)
                                    have n3_ := Aside0.mk (blk_below (g := gb197) (o := poAx11_0 2 10) pmAx11_4_ hb)
                                    have n4_ := Aside0.mk (blk_below (g := gb198) (o := poAx11_1 2 10 2 10 false 0 0) pmAx11_1_ hb)
                                    have n5_ := Aside0.mk (below_step pmAx11_0_ hb)
                                    clear HO207 BK196 BK197 BK198 HB
                                    have HO207 := n0_
                                    have HO210 := n1_
                                    have BK196 := n2_
                                    have BK197 := n3_
                                    have BK198 := n4_
                                    have HB := n5_
                                    clear n0_ n1_ n2_ n3_ n4_ n5_ hb ho17
                                    refine hK.out _ _ pmAx11_3_ (fun hHeld => ?_)
                                    clear hK K
                                    refine norm_ (a' := ?_) ?_ ?_
                                    rotate_left
                                    · show Act.put _ (some 15) _ = _
                                      simp only [Act.put, List.setIfInBounds_toArray, List.set_cons_zero, List.set_cons_succ, i64_w, i32_w]
                                      rfl
                                    exact norm_ pmAx11_5_ (hJ5_7 (v206, v209) _ ⟨hHeld, pmAx11_11_, pmAx11_12_, pmAx11_2_, pmAx11_4_, pmAx11_1_, pmAx11_0_⟩)
                              · skip
                                rintro v203 w15 ⟨hS_, h0_, h1_, h2_, h3_, h4_⟩
                                have n0_ : Aside0 (Kd.R Kd.bool 4 w15 w.heap.size (fun _ => True) v203 y202) := ⟨h0_⟩
                                have n1_ : Aside0 (w15.heap[gb196]? = some (.cells #[.int .i64 0, .slice none 0 0, .slice none 0 0, .slice none 0 0] 26 (0, 0))) := ⟨h1_⟩
                                have n2_ : Aside0 (w15.heap[gb197]? = some (.cells #[.int .i64 2, .int .i64 10] 55 (0, 0))) := ⟨h2_⟩
                                have n3_ : Aside0 (w15.heap[gb198]? = some (.cells #[.int .i64 2, .int .i64 10, .int .i64 2, .int .i64 10, .bool false, .int .i64 0, .int .i64 0] 57 (0, 0))) := ⟨h3_⟩
                                have n4_ : Aside0 (Below w.heap.size w w15) := ⟨h4_⟩
                                clear BK196 BK197 BK198 HB h0_ h1_ h2_ h3_ h4_
                                have HO204 := n0_
                                have BK196 := n1_
                                have BK197 := n2_
                                have BK198 := n3_
                                have HB := n4_
                                clear n0_ n1_ n2_ n3_ n4_
                                have hHeld : w15.cell? ⟨gb198, 0, none⟩ = some (.int .i64 2) ∧ w15.cell? ⟨gb198, 1, none⟩ = some (.int .i64 10) ∧ w15.cell? ⟨gb198, 2, none⟩ = some (.int .i64 2) ∧ w15.cell? ⟨gb198, 3, none⟩ = some (.int .i64 10) ∧ w15.cell? ⟨gb198, 4, none⟩ = some (.bool false) ∧ w15.cell? ⟨gb198, 5, none⟩ = some (.int .i64 0) ∧ w15.cell? ⟨gb198, 6, none⟩ = some (.int .i64 0) := hS_
                                refine norm_ (a' := ?_) ?_ ?_
                                rotate_left
                                · simp only [putAll, Act.put, List.setIfInBounds_toArray, List.set_cons_zero, List.set_cons_succ]
                                  rfl
                                refine three_ (i := 3) (j := 5) (k := 7) (Ni := some 11) (Nj := some 13) (Nk := some 15) pbAx11_6 pbAx11_9 pbAx11_10 rfl rfl rfl rfl rfl rfl (three_of HT_.out pmAx11_21_) pmAx11_19_ pmAx11_19_ pmAx11_19_ (fun K hK => ?_) (fun K hK => ?_) (fun K hK => ?_)
                                · skip
                                  refine Kd.R_lit_step k57 _ 57 ?hg (N := 11) ?hd (xs := ([(⟨(⟨2, 10⟩ : S55), (⟨2, 10⟩ : S55), false, (⟨0, 0⟩ : S55)⟩ : S57), (⟨(⟨2, 10⟩ : S55), (⟨2, 10⟩ : S55), false, (⟨0, 0⟩ : S55)⟩ : S57), (⟨(⟨2, 10⟩ : S55), (⟨2, 10⟩ : S55), false, (⟨0, 0⟩ : S55)⟩ : S57)] : List (S57))) (inner := [.int .i64 2, .int .i64 10, .int .i64 2, .int .i64 10, .bool false, .int .i64 0, .int .i64 0, .int .i64 2, .int .i64 10, .int .i64 2, .int .i64 10, .bool false, .int .i64 0, .int .i64 0, .int .i64 2, .int .i64 10, .int .i64 2, .int .i64 10, .bool false, .int .i64 0, .int .i64 0]) (ok := fun _ => True) (okp := fun _ => True) ?hr ?hp (fun _ hk => hk) trivial (Below.refl _ _) (Nat.le_refl _) (by simp) ?_; (case hd => rfl); (case hg => rfl); (case hr => first | (go_simp; done) | (go_simp; rfl)); (case hp => exact (Reps.c7 (show Kd.M k57 _ _ _ (⟨(⟨2, 10⟩ : S55), (⟨2, 10⟩ : S55), false, (⟨0, 0⟩ : S55)⟩ : S57) [.int .i64 2, .int .i64 10, .int .i64 2, .int .i64 10, .bool false, .int .i64 0, .int .i64 0] from (k57_mkM _ _ _ (⟨(⟨2, 10⟩ : S55), (⟨2, 10⟩ : S55), false, (⟨0, 0⟩ : S55)⟩ : S57) )) (Reps.c7 (show Kd.M k57 _ _ _ (⟨(⟨2, 10⟩ : S55), (⟨2, 10⟩ : S55), false, (⟨0, 0⟩ : S55)⟩ : S57) [.int .i64 2, .int .i64 10, .int .i64 2, .int .i64 10, .bool false, .int .i64 0, .int .i64 0] from (k57_mkM _ _ _ (⟨(⟨2, 10⟩ : S55), (⟨2, 10⟩ : S55), false, (⟨0, 0⟩ : S55)⟩ : S57) )) (Reps.c7 (show Kd.M k57 _ _ _ (⟨(⟨2, 10⟩ : S55), (⟨2, 10⟩ : S55), false, (⟨0, 0⟩ : S55)⟩ : S57) [.int .i64 2, .int .i64 10, .int .i64 2, .int .i64 10, .bool false, .int .i64 0, .int .i64 0] from (k57_mkM _ _ _ (⟨(⟨2, 10⟩ : S55), (⟨2, 10⟩ : S55), false, (⟨0, 0⟩ : S55)⟩ : S57) )) (Reps.none _ _)))))
                                  intro v200 w16 ho17 hb hg_ hnew_
                                  clear hg_ hnew_
                                  (first | rw [← Ny199.out] at ho17 | (simp only [Int.reduceToNat] at ho17; rw [← Ny199.out] at ho17))
                                  have n0_ := Aside0.mk (Kd.R_below pmAx11_6_ hb)
                                  have n1_ := Aside0.mk (Kd.R_lower (Kd.R_newB ho17 (g := gb198) (o := poAx11_1 2 10 2 10 false 0 0) pmAx11_1_) (below_size pmAx11_0_))
                                  have n2_ := Aside0.mk (blk_below (g := gb196) (o := .cells #[.int .i64 0, .slice none 0 0, .slice none 0 0, .slice none 0 0] 26 (0, 0)) pmAx11_2_ hb)
                                  have n3_ := Aside0.mk (blk_below (g := gb197) (o := poAx11_0 2 10) pmAx11_4_ hb)
                                  have n4_ := Aside0.mk (blk_below (g := gb198) (o := poAx11_1 2 10 2 10 false 0 0) pmAx11_1_ hb)
                                  have n5_ := Aside0.mk (below_step pmAx11_0_ hb)
                                  clear HO204 BK196 BK197 BK198 HB
                                  have HO204 := n0_
                                  have HO201 := n1_
                                  have BK196 := n2_
                                  have BK197 := n3_
                                  have BK198 := n4_
                                  have HB := n5_
                                  clear n0_ n1_ n2_ n3_ n4_ n5_ hb ho17
                                  refine hK.out _ _ pmAx11_3_ (fun hHeld => ?_)
                                  clear hK K
                                  refine norm_ (a' := ?_) ?_ ?_
                                  rotate_left
                                  · show Act.put _ (some 11) _ = _
                                    simp only [Act.put, List.setIfInBounds_toArray, List.set_cons_zero, List.set_cons_succ, i64_w, i32_w]
                                    rfl
                                  exact norm_ pmAx11_5_ (hJ3_4 (v200, v203) _ ⟨hHeld, pmAx11_13_, pmAx11_6_, pmAx11_2_, pmAx11_4_, pmAx11_1_, pmAx11_0_⟩)
                                · skip
                                  refine Kd.R_make_step (Kd.int .i64) _ 3 (by rfl) (N := 13) rfl 24 _ _ rfl 3 rfl rfl Try.underlying24 (.int .i64 0) 8 info3 rfl pmAx11_19_ pmAx11_23_ 0 (ok := fun _ => True) (okp := fun _ => True) rfl (fun _ hk => hk) trivial pmAx11_23_ pmAx11_23_ (Below.refl _ _) (Nat.le_refl _) ?_
                                  intro v206 w16 ho17 hb hg_ hnew_
                                  clear hg_ hnew_
                                  (first | rw [← Ny205.out] at ho17 | (simp only [Int.reduceToNat] at ho17; rw [← Ny205.out] at ho17))
                                  have n0_ := Aside0.mk (Kd.R_below pmAx11_6_ hb)
                                  have n1_ := Aside0.mk (Kd.R_lower ho17 (below_size pmAx11_0_))
                                  have n2_ := Aside0.mk (blk_below (g := gb196) (o := .cells #[.int .i64 0, .slice none 0 0, .slice none 0 0, .slice none 0 0] 26 (0, 0)) pmAx11_2_ hb)
                                  have n3_ := Aside0.mk (blk_below (g := gb197) (o := poAx11_0 2 10) pmAx11_4_ hb)
                                  have n4_ := Aside0.mk (blk_below (g := gb198) (o := poAx11_1 2 10 2 10 false 0 0) pmAx11_1_ hb)
                                  have n5_ := Aside0.mk (below_step pmAx11_0_ hb)
                                  clear HO204 BK196 BK197 BK198 HB
                                  have HO204 := n0_
                                  have HO207 := n1_
                                  have BK196 := n2_
                                  have BK197 := n3_
                                  have BK198 := n4_
                                  have HB := n5_
                                  clear n0_ n1_ n2_ n3_ n4_ n5_ hb ho17
                                  refine hK.out _ _ pmAx11_3_ (fun hHeld => ?_)
                                  clear hK K
                                  refine norm_ (a' := ?_) ?_ ?_
                                  rotate_left
                                  · show Act.put _ (some 13) _ = _
                                    simp only [Act.put, List.setIfInBounds_toArray, List.set_cons_zero, List.set_cons_succ, i64_w, i32_w]
                                    rfl
                                  exact norm_ pmAx11_5_ (hJ4_5 (v203, v206) _ ⟨hHeld, pmAx11_6_, pmAx11_7_, pmAx11_2_, pmAx11_4_, pmAx11_1_, pmAx11_0_⟩)
                                · skip
                                  refine Kd.R_lit_step (Kd.int .i64) _ 3 ?hg (N := 15) ?hd (xs := ([10, 10, 10] : List Int)) (inner := [.int .i64 10, .int .i64 10, .int .i64 10]) (ok := fun _ => True) (okp := fun _ => True) ?hr ?hp (fun _ hk => hk) trivial (Below.refl _ _) (Nat.le_refl _) (by simp) ?_; (case hd => rfl); (case hg => rfl); (case hr => first | (go_simp; done) | (go_simp; rfl)); (case hp => exact (Reps.one (show Kd.M (Kd.int .i64) _ _ _ 10 [.int .i64 10] from rfl) (Reps.one (show Kd.M (Kd.int .i64) _ _ _ 10 [.int .i64 10] from rfl) (Reps.one (show Kd.M (Kd.int .i64) _ _ _ 10 [.int .i64 10] from rfl) (Reps.none _ _)))))
                                  intro v209 w16 ho17 hb hg_ hnew_
                                  clear hg_ hnew_
                                  (first | rw [← Ny208.out] at ho17 | (simp only [Int.reduceToNat] at ho17; rw [← Ny208.out] at ho17))
                                  have n0_ := Aside0.mk (Kd.R_below pmAx11_6_ hb)
                                  have n1_ := Aside0.mk (Kd.R_lower ho17 (below_size pmAx11_0_))
                                  have n2_ := Aside0.mk (blk_below (g := gb196) (o := .cells #[.int .i64 0, .slice none 0 0, .slice none 0 0, .slice none 0 0] 26 (0, 0)) pmAx11_2_ hb)
                                  have n3_ := Aside0.mk (blk_below (g := gb197) (o := poAx11_0 2 10) pmAx11_4_ hb)
                                  have n4_ := Aside0.mk (blk_below (g := gb198) (o := poAx11_1 2 10 2 10 false 0 0) pmAx11_1_ hb)
                                  have n5_ := Aside0.mk (below_step pmAx11_0_ hb)
                                  clear HO204 BK196 BK197 BK198 HB
                                  have HO204 := n0_
                                  have HO210 := n1_
                                  have BK196 := n2_
                                  have BK197 := n3_
                                  have BK198 := n4_
                                  have HB := n5_
                                  clear n0_ n1_ n2_ n3_ n4_ n5_ hb ho17
                                  refine hK.out _ _ pmAx11_3_ (fun hHeld => ?_)
                                  clear hK K
                                  refine norm_ (a' := ?_) ?_ ?_
                                  rotate_left
                                  · show Act.put _ (some 15) _ = _
                                    simp only [Act.put, List.setIfInBounds_toArray, List.set_cons_zero, List.set_cons_succ, i64_w, i32_w]
                                    rfl
                                  exact norm_ pmAx11_5_ (hJ4_7 (v203, v209) _ ⟨hHeld, pmAx11_6_, pmAx11_8_, pmAx11_2_, pmAx11_4_, pmAx11_1_, pmAx11_0_⟩)
                            · skip
                              rintro v200 w15 ⟨hS_, h0_, h1_, h2_, h3_, h4_⟩
                              have n0_ : Aside0 (Kd.R k57 57 w15 w.heap.size (fun k_ => k_ ≠ gb198) v200 y199) := ⟨h0_⟩
                              have n1_ : Aside0 (w15.heap[gb196]? = some (.cells #[.int .i64 0, .slice none 0 0, .slice none 0 0, .slice none 0 0] 26 (0, 0))) := ⟨h1_⟩
                              have n2_ : Aside0 (w15.heap[gb197]? = some (.cells #[.int .i64 2, .int .i64 10] 55 (0, 0))) := ⟨h2_⟩
                              have n3_ : Aside0 (w15.heap[gb198]? = some (.cells #[.int .i64 2, .int .i64 10, .int .i64 2, .int .i64 10, .bool false, .int .i64 0, .int .i64 0] 57 (0, 0))) := ⟨h3_⟩
                              have n4_ : Aside0 (Below w.heap.size w w15) := ⟨h4_⟩
                              clear BK196 BK197 BK198 HB h0_ h1_ h2_ h3_ h4_
                              have HO201 := n0_
                              have BK196 := n1_
                              have BK197 := n2_
                              have BK198 := n3_
                              have HB := n4_
                              clear n0_ n1_ n2_ n3_ n4_
                              have hHeld : w15.cell? ⟨gb198, 0, none⟩ = some (.int .i64 2) ∧ w15.cell? ⟨gb198, 1, none⟩ = some (.int .i64 10) ∧ w15.cell? ⟨gb198, 2, none⟩ = some (.int .i64 2) ∧ w15.cell? ⟨gb198, 3, none⟩ = some (.int .i64 10) ∧ w15.cell? ⟨gb198, 4, none⟩ = some (.bool false) ∧ w15.cell? ⟨gb198, 5, none⟩ = some (.int .i64 0) ∧ w15.cell? ⟨gb198, 6, none⟩ = some (.int .i64 0) := hS_
                              refine norm_ (a' := ?_) ?_ ?_
                              rotate_left
                              · simp only [putAll, Act.put, List.setIfInBounds_toArray, List.set_cons_zero, List.set_cons_succ]
                                rfl
                              refine three_ (i := 4) (j := 5) (k := 7) (Ni := some 12) (Nj := some 13) (Nk := some 15) pbAx11_6 pbAx11_7 pbAx11_8 rfl rfl rfl rfl rfl rfl (three_of HT_.out pmAx11_21_) pmAx11_19_ pmAx11_19_ pmAx11_19_ (fun K hK => ?_) (fun K hK => ?_) (fun K hK => ?_)
                              · skip
                                refine Kd.R_make_step Kd.bool _ 4 (by rfl) (N := 12) rfl 23 _ _ rfl 3 rfl rfl Try.underlying23 (.bool false) 1 info4 rfl pmAx11_19_ pmAx11_23_ false (ok := fun _ => True) (okp := fun _ => True) rfl (fun _ hk => hk) trivial pmAx11_23_ pmAx11_23_ (Below.refl _ _) (Nat.le_refl _) ?_
                                intro v203 w16 ho17 hb hg_ hnew_
                                clear hg_ hnew_
                                (first | rw [← Ny202.out] at ho17 | (simp only [Int.reduceToNat] at ho17; rw [← Ny202.out] at ho17))
                                have n0_ := Aside0.mk (Kd.R_below pmAx11_9_ hb)
                                have n1_ := Aside0.mk (Kd.R_lower ho17 (below_size pmAx11_0_))
                                have n2_ := Aside0.mk (blk_below (g := gb196) (o := .cells #[.int .i64 0, .slice none 0 0, .slice none 0 0, .slice none 0 0] 26 (0, 0)) pmAx11_2_ hb)
                                have n3_ := Aside0.mk (blk_below (g := gb197) (o := poAx11_0 2 10) pmAx11_4_ hb)
                                have n4_ := Aside0.mk (blk_below (g := gb198) (o := poAx11_1 2 10 2 10 false 0 0) pmAx11_1_ hb)
                                have n5_ := Aside0.mk (below_step pmAx11_0_ hb)
                                clear HO201 BK196 BK197 BK198 HB
                                have HO201 := n0_
                                have HO204 := n1_
                                have BK196 := n2_
                                have BK197 := n3_
                                have BK198 := n4_
                                have HB := n5_
                                clear n0_ n1_ n2_ n3_ n4_ n5_ hb ho17
                                refine hK.out _ _ pmAx11_3_ (fun hHeld => ?_)
                                clear hK K
                                refine norm_ (a' := ?_) ?_ ?_
                                rotate_left
                                · show Act.put _ (some 12) _ = _
                                  simp only [Act.put, List.setIfInBounds_toArray, List.set_cons_zero, List.set_cons_succ, i64_w, i32_w]
                                  rfl
                                exact norm_ pmAx11_5_ (hJ3_4 (v200, v203) _ ⟨hHeld, pmAx11_9_, pmAx11_6_, pmAx11_2_, pmAx11_4_, pmAx11_1_, pmAx11_0_⟩)
                              · skip
                                refine Kd.R_make_step (Kd.int .i64) _ 3 (by rfl) (N := 13) rfl 24 _ _ rfl 3 rfl rfl Try.underlying24 (.int .i64 0) 8 info3 rfl pmAx11_19_ pmAx11_23_ 0 (ok := fun _ => True) (okp := fun _ => True) rfl (fun _ hk => hk) trivial pmAx11_23_ pmAx11_23_ (Below.refl _ _) (Nat.le_refl _) ?_
                                intro v206 w16 ho17 hb hg_ hnew_
                                clear hg_ hnew_
                                (first | rw [← Ny205.out] at ho17 | (simp only [Int.reduceToNat] at ho17; rw [← Ny205.out] at ho17))
                                have n0_ := Aside0.mk (Kd.R_below pmAx11_9_ hb)
                                have n1_ := Aside0.mk (Kd.R_lower ho17 (below_size pmAx11_0_))
                                have n2_ := Aside0.mk (blk_below (g := gb196) (o := .cells #[.int .i64 0, .slice none 0 0, .slice none 0 0, .slice none 0 0] 26 (0, 0)) pmAx11_2_ hb)
                                have n3_ := Aside0.mk (blk_below (g := gb197) (o := poAx11_0 2 10) pmAx11_4_ hb)
                                have n4_ := Aside0.mk (blk_below (g := gb198) (o := poAx11_1 2 10 2 10 false 0 0) pmAx11_1_ hb)
                                have n5_ := Aside0.mk (below_step pmAx11_0_ hb)
                                clear HO201 BK196 BK197 BK198 HB
                                have HO201 := n0_
                                have HO207 := n1_
                                have BK196 := n2_
                                have BK197 := n3_
                                have BK198 := n4_
                                have HB := n5_
                                clear n0_ n1_ n2_ n3_ n4_ n5_ hb ho17
                                refine hK.out _ _ pmAx11_3_ (fun hHeld => ?_)
                                clear hK K
                                refine norm_ (a' := ?_) ?_ ?_
                                rotate_left
                                · show Act.put _ (some 13) _ = _
                                  simp only [Act.put, List.setIfInBounds_toArray, List.set_cons_zero, List.set_cons_succ, i64_w, i32_w]
                                  rfl
                                exact norm_ pmAx11_5_ (hJ3_5 (v200, v206) _ ⟨hHeld, pmAx11_9_, pmAx11_7_, pmAx11_2_, pmAx11_4_, pmAx11_1_, pmAx11_0_⟩)
                              · skip
                                refine Kd.R_lit_step (Kd.int .i64) _ 3 ?hg (N := 15) ?hd (xs := ([10, 10, 10] : List Int)) (inner := [.int .i64 10, .int .i64 10, .int .i64 10]) (ok := fun _ => True) (okp := fun _ => True) ?hr ?hp (fun _ hk => hk) trivial (Below.refl _ _) (Nat.le_refl _) (by simp) ?_; (case hd => rfl); (case hg => rfl); (case hr => first | (go_simp; done) | (go_simp; rfl)); (case hp => exact (Reps.one (show Kd.M (Kd.int .i64) _ _ _ 10 [.int .i64 10] from rfl) (Reps.one (show Kd.M (Kd.int .i64) _ _ _ 10 [.int .i64 10] from rfl) (Reps.one (show Kd.M (Kd.int .i64) _ _ _ 10 [.int .i64 10] from rfl) (Reps.none _ _)))))
                                intro v209 w16 ho17 hb hg_ hnew_
                                clear hg_ hnew_
                                (first | rw [← Ny208.out] at ho17 | (simp only [Int.reduceToNat] at ho17; rw [← Ny208.out] at ho17))
                                have n0_ := Aside0.mk (Kd.R_below pmAx11_9_ hb)
                                have n1_ := Aside0.mk (Kd.R_lower ho17 (below_size pmAx11_0_))
                                have n2_ := Aside0.mk (blk_below (g := gb196) (o := .cells #[.int .i64 0, .slice none 0 0, .slice none 0 0, .slice none 0 0] 26 (0, 0)) pmAx11_2_ hb)
                                have n3_ := Aside0.mk (blk_below (g := gb197) (o := poAx11_0 2 10) pmAx11_4_ hb)
                                have n4_ := Aside0.mk (blk_below (g := gb198) (o := poAx11_1 2 10 2 10 false 0 0) pmAx11_1_ hb)
                                have n5_ := Aside0.mk (below_step pmAx11_0_ hb)
                                clear HO201 BK196 BK197 BK198 HB
                                have HO201 := n0_
                                have HO210 := n1_
                                have BK196 := n2_
                                have BK197 := n3_
                                have BK198 := n4_
                                have HB := n5_
                                clear n0_ n1_ n2_ n3_ n4_ n5_ hb ho17
                                refine hK.out _ _ pmAx11_3_ (fun hHeld => ?_)
                                clear hK K
                                refine norm_ (a' := ?_) ?_ ?_
                                rotate_left
                                · show Act.put _ (some 15) _ = _
                                  simp only [Act.put, List.setIfInBounds_toArray, List.set_cons_zero, List.set_cons_succ, i64_w, i32_w]
                                  rfl
                                exact norm_ pmAx11_5_ (hJ3_7 (v200, v209) _ ⟨hHeld, pmAx11_9_, pmAx11_8_, pmAx11_2_, pmAx11_4_, pmAx11_1_, pmAx11_0_⟩)
                          · skip
                            rintro ⟨v206, v209⟩ w17 ⟨hS_, h0_, h1_, h2_, h3_, h4_, h5_⟩
                            have n0_ : Aside0 (Kd.R (Kd.int .i64) 3 w17 w.heap.size (fun k_ => some k_ ≠ (v209 : Value).ownBlock) v206 y205) := ⟨h0_⟩
                            have n1_ : Aside0 (Kd.R (Kd.int .i64) 3 w17 w.heap.size (fun k_ => some k_ ≠ (v206 : Value).ownBlock) v209 y208) := ⟨h1_⟩
                            have n2_ : Aside0 (w17.heap[gb196]? = some (.cells #[.int .i64 0, .slice none 0 0, .slice none 0 0, .slice none 0 0] 26 (0, 0))) := ⟨h2_⟩
                            have n3_ : Aside0 (w17.heap[gb197]? = some (.cells #[.int .i64 2, .int .i64 10] 55 (0, 0))) := ⟨h3_⟩
                            have n4_ : Aside0 (w17.heap[gb198]? = some (.cells #[.int .i64 2, .int .i64 10, .int .i64 2, .int .i64 10, .bool false, .int .i64 0, .int .i64 0] 57 (0, 0))) := ⟨h4_⟩
                            have n5_ : Aside0 (Below w.heap.size w w17) := ⟨h5_⟩
                            clear BK196 BK197 BK198 HB h0_ h1_ h2_ h3_ h4_ h5_
                            have HO207 := n0_
                            have HO210 := n1_
                            have BK196 := n2_
                            have BK197 := n3_
                            have BK198 := n4_
                            have HB := n5_
                            clear n0_ n1_ n2_ n3_ n4_ n5_
                            have hHeld : w17.cell? ⟨gb198, 0, none⟩ = some (.int .i64 2) ∧ w17.cell? ⟨gb198, 1, none⟩ = some (.int .i64 10) ∧ w17.cell? ⟨gb198, 2, none⟩ = some (.int .i64 2) ∧ w17.cell? ⟨gb198, 3, none⟩ = some (.int .i64 10) ∧ w17.cell? ⟨gb198, 4, none⟩ = some (.bool false) ∧ w17.cell? ⟨gb198, 5, none⟩ = some (.int .i64 0) ∧ w17.cell? ⟨gb198, 6, none⟩ = some (.int .i64 0) := hS_
                            refine norm_ (a' := ?_) ?_ ?_
                            rotate_left
                            · simp only [putAll, Act.put, List.setIfInBounds_toArray, List.set_cons_zero, List.set_cons_succ]
                              rfl
                            refine two_ (i := 3) (j := 4) (Ni := some 11) (Nj := some 12) pbAx11_4 pbAx11_5 rfl rfl rfl rfl (two_of HT_.out pmAx11_21_) pmAx11_19_ pmAx11_19_ (fun K hK => ?_) (fun K hK => ?_)
                            · skip
                              refine Kd.R_lit_step k57 _ 57 ?hg (N := 11) ?hd (xs := ([(⟨(⟨2, 10⟩ : S55), (⟨2, 10⟩ : S55), false, (⟨0, 0⟩ : S55)⟩ : S57), (⟨(⟨2, 10⟩ : S55), (⟨2, 10⟩ : S55), false, (⟨0, 0⟩ : S55)⟩ : S57), (⟨(⟨2, 10⟩ : S55), (⟨2, 10⟩ : S55), false, (⟨0, 0⟩ : S55)⟩ : S57)] : List (S57))) (inner := [.int .i64 2, .int .i64 10, .int .i64 2, .int .i64 10, .bool false, .int .i64 0, .int .i64 0, .int .i64 2, .int .i64 10, .int .i64 2, .int .i64 10, .bool false, .int .i64 0, .int .i64 0, .int .i64 2, .int .i64 10, .int .i64 2, .int .i64 10, .bool false, .int .i64 0, .int .i64 0]) (ok := fun _ => True) (okp := fun _ => True) ?hr ?hp (fun _ hk => hk) trivial (Below.refl _ _) (Nat.le_refl _) (by simp) ?_; (case hd => rfl); (case hg => rfl); (case hr => first | (go_simp; done) | (go_simp; rfl)); (case hp => exact (Reps.c7 (show Kd.M k57 _ _ _ (⟨(⟨2, 10⟩ : S55), (⟨2, 10⟩ : S55), false, (⟨0, 0⟩ : S55)⟩ : S57) [.int .i64 2, .int .i64 10, .int .i64 2, .int .i64 10, .bool false, .int .i64 0, .int .i64 0] from (k57_mkM _ _ _ (⟨(⟨2, 10⟩ : S55), (⟨2, 10⟩ : S55), false, (⟨0, 0⟩ : S55)⟩ : S57) )) (Reps.c7 (show Kd.M k57 _ _ _ (⟨(⟨2, 10⟩ : S55), (⟨2, 10⟩ : S55), false, (⟨0, 0⟩ : S55)⟩ : S57) [.int .i64 2, .int .i64 10, .int .i64 2, .int .i64 10, .bool false, .int .i64 0, .int .i64 0] from (k57_mkM _ _ _ (⟨(⟨2, 10⟩ : S55), (⟨2, 10⟩ : S55), false, (⟨0, 0⟩ : S55)⟩ : S57) )) (Reps.c7 (show Kd.M k57 _ _ _ (⟨(⟨2, 10⟩ : S55), (⟨2, 10⟩ : S55), false, (⟨0, 0⟩ : S55)⟩ : S57) [.int .i64 2, .int .i64 10, .int .i64 2, .int .i64 10, .bool false, .int .i64 0, .int .i64 0] from (k57_mkM _ _ _ (⟨(⟨2, 10⟩ : S55), (⟨2, 10⟩ : S55), false, (⟨0, 0⟩ : S55)⟩ : S57) )) (Reps.none _ _)))))
                              intro v200 w18 ho19 hb hg_ hnew_
                              clear hg_ hnew_
                              (first | rw [← Ny199.out] at ho19 | (simp only [Int.reduceToNat] at ho19; rw [← Ny199.out] at ho19))
                              have n0_ := Aside0.mk (Kd.R_below pmAx11_7_ hb)
                              have n1_ := Aside0.mk (Kd.R_below pmAx11_8_ hb)
                              have n2_ := Aside0.mk (Kd.R_lower (Kd.R_newB ho19 (g := gb198) (o := poAx11_1 2 10 2 10 false 0 0) pmAx11_1_) (below_size pmAx11_0_))
                              have n3_ := Aside0.mk (blk_below (g := gb196) (o := .cells #[.int .i64 0, .slice none 0 0, .slice none 0 0, .slice none 0 0] 26 (0, 0)) pmAx11_2_ hb)
                              have n4_ := Aside0.mk (blk_below (g := gb197) (o := poAx11_0 2 10) pmAx11_4_ hb)
                              have n5_ := Aside0.mk (blk_below (g := gb198) (o := poAx11_1 2 10 2 10 false 0 0) pmAx11_1_ hb)
                              have n6_ := Aside0.mk (below_step pmAx11_0_ hb)
                              clear HO207 HO210 BK196 BK197 BK198 HB
                              have HO207 := n0_
                              have HO210 := n1_
                              have HO201 := n2_
                              have BK196 := n3_
                              have BK197 := n4_
                              have BK198 := n5_
                              have HB := n6_
                              clear n0_ n1_ n2_ n3_ n4_ n5_ n6_ hb ho19
                              refine hK.out _ _ pmAx11_3_ (fun hHeld => ?_)
                              clear hK K
                              refine norm_ (a' := ?_) ?_ ?_
                              rotate_left
                              · show Act.put _ (some 11) _ = _
                                simp only [Act.put, List.setIfInBounds_toArray, List.set_cons_zero, List.set_cons_succ, i64_w, i32_w]
                                rfl
                              exact norm_ pmAx11_5_ (hJ3_5_7 (v200, v206, v209) _ ⟨hHeld, pmAx11_13_, pmAx11_7_, pmAx11_8_, pmAx11_2_, pmAx11_4_, pmAx11_1_, pmAx11_0_⟩)
                            · skip
                              refine Kd.R_make_step Kd.bool _ 4 (by rfl) (N := 12) rfl 23 _ _ rfl 3 rfl rfl Try.underlying23 (.bool false) 1 info4 rfl pmAx11_19_ pmAx11_23_ false (ok := fun _ => True) (okp := fun _ => True) rfl (fun _ hk => hk) trivial pmAx11_23_ pmAx11_23_ (Below.refl _ _) (Nat.le_refl _) ?_
                              intro v203 w18 ho19 hb hg_ hnew_
                              clear hg_ hnew_
                              (first | rw [← Ny202.out] at ho19 | (simp only [Int.reduceToNat] at ho19; rw [← Ny202.out] at ho19))
                              have n0_ := Aside0.mk (Kd.R_below pmAx11_7_ hb)
                              have n1_ := Aside0.mk (Kd.R_below pmAx11_8_ hb)
                              have n2_ := Aside0.mk (Kd.R_lower ho19 (below_size pmAx11_0_))
                              have n3_ := Aside0.mk (blk_below (g := gb196) (o := .cells #[.int .i64 0, .slice none 0 0, .slice none 0 0, .slice none 0 0] 26 (0, 0)) pmAx11_2_ hb)
                              have n4_ := Aside0.mk (blk_below (g := gb197) (o := poAx11_0 2 10) pmAx11_4_ hb)
                              have n5_ := Aside0.mk (blk_below (g := gb198) (o := poAx11_1 2 10 2 10 false 0 0) pmAx11_1_ hb)
                              have n6_ := Aside0.mk (below_step pmAx11_0_ hb)
                              clear HO207 HO210 BK196 BK197 BK198 HB
                              have HO207 := n0_
                              have HO210 := n1_
                              have HO204 := n2_
                              have BK196 := n3_
                              have BK197 := n4_
                              have BK198 := n5_
                              have HB := n6_
                              clear n0_ n1_ n2_ n3_ n4_ n5_ n6_ hb ho19
                              refine hK.out _ _ pmAx11_3_ (fun hHeld => ?_)
                              clear hK K
                              refine norm_ (a' := ?_) ?_ ?_
                              rotate_left
                              · show Act.put _ (some 12) _ = _
                                simp only [Act.put, List.setIfInBounds_toArray, List.set_cons_zero, List.set_cons_succ, i64_w, i32_w]
                                rfl
                              exact norm_ pmAx11_5_ (hJ4_5_7 (v203, v206, v209) _ ⟨hHeld, pmAx11_6_, pmAx11_7_, pmAx11_8_, pmAx11_2_, pmAx11_4_, pmAx11_1_, pmAx11_0_⟩)
                        · skip
                          rintro ⟨v203, v209⟩ w17 ⟨hS_, h0_, h1_, h2_, h3_, h4_, h5_⟩
                          have n0_ : Aside0 (Kd.R Kd.bool 4 w17 w.heap.size (fun _ => True) v203 y202) := ⟨h0_⟩
                          have n1_ : Aside0 (Kd.R (Kd.int .i64) 3 w17 w.heap.size (fun _ => True) v209 y208) := ⟨h1_⟩
                          have n2_ : Aside0 (w17.heap[gb196]? = some (.cells #[.int .i64 0, .slice none 0 0, .slice none 0 0, .slice none 0 0] 26 (0, 0))) := ⟨h2_⟩
                          have n3_ : Aside0 (w17.heap[gb197]? = some (.cells #[.int .i64 2, .int .i64 10] 55 (0, 0))) := ⟨h3_⟩
                          have n4_ : Aside0 (w17.heap[gb198]? = some (.cells #[.int .i64 2, .int .i64 10, .int .i64 2, .int .i64 10, .bool false, .int .i64 0, .int .i64 0] 57 (0, 0))) := ⟨h4_⟩
                          have n5_ : Aside0 (Below w.heap.size w w17) := ⟨h5_⟩
                          clear BK196 BK197 BK198 HB h0_ h1_ h2_ h3_ h4_ h5_
                          have HO204 := n0_
                          have HO210 := n1_
                          have BK196 := n2_
                          have BK197 := n3_
                          have BK198 := n4_
                          have HB := n5_
                          clear n0_ n1_ n2_ n3_ n4_ n5_
                          have hHeld : w17.cell? ⟨gb198, 0, none⟩ = some (.int .i64 2) ∧ w17.cell? ⟨gb198, 1, none⟩ = some (.int .i64 10) ∧ w17.cell? ⟨gb198, 2, none⟩ = some (.int .i64 2) ∧ w17.cell? ⟨gb198, 3, none⟩ = some (.int .i64 10) ∧ w17.cell? ⟨gb198, 4, none⟩ = some (.bool false) ∧ w17.cell? ⟨gb198, 5, none⟩ = some (.int .i64 0) ∧ w17.cell? ⟨gb198, 6, none⟩ = some (.int .i64 0) := hS_
                          refine norm_ (a' := ?_) ?_ ?_
                          rotate_left
                          · simp only [putAll, Act.put, List.setIfInBounds_toArray, List.set_cons_zero, List.set_cons_succ]
                            rfl
                          refine two_ (i := 3) (j := 5) (Ni := some 11) (Nj := some 13) pbAx11_3 pbAx11_5 rfl rfl rfl rfl (two_of HT_.out pmAx11_21_) pmAx11_19_ pmAx11_19_ (fun K hK => ?_) (fun K hK => ?_)
                          · skip
                            refine Kd.R_lit_step k57 _ 57 ?hg (N := 11) ?hd (xs := ([(⟨(⟨2, 10⟩ : S55), (⟨2, 10⟩ : S55), false, (⟨0, 0⟩ : S55)⟩ : S57), (⟨(⟨2, 10⟩ : S55), (⟨2, 10⟩ : S55), false, (⟨0, 0⟩ : S55)⟩ : S57), (⟨(⟨2, 10⟩ : S55), (⟨2, 10⟩ : S55), false, (⟨0, 0⟩ : S55)⟩ : S57)] : List (S57))) (inner := [.int .i64 2, .int .i64 10, .int .i64 2, .int .i64 10, .bool false, .int .i64 0, .int .i64 0, .int .i64 2, .int .i64 10, .int .i64 2, .int .i64 10, .bool false, .int .i64 0, .int .i64 0, .int .i64 2, .int .i64 10, .int .i64 2, .int .i64 10, .bool false, .int .i64 0, .int .i64 0]) (ok := fun _ => True) (okp := fun _ => True) ?hr ?hp (fun _ hk => hk) trivial (Below.refl _ _) (Nat.le_refl _) (by simp) ?_; (case hd => rfl); (case hg => rfl); (case hr => first | (go_simp; done) | (go_simp; rfl)); (case hp => exact (Reps.c7 (show Kd.M k57 _ _ _ (⟨(⟨2, 10⟩ : S55), (⟨2, 10⟩ : S55), false, (⟨0, 0⟩ : S55)⟩ : S57) [.int .i64 2, .int .i64 10, .int .i64 2, .int .i64 10, .bool false, .int .i64 0, .int .i64 0] from (k57_mkM _ _ _ (⟨(⟨2, 10⟩ : S55), (⟨2, 10⟩ : S55), false, (⟨0, 0⟩ : S55)⟩ : S57) )) (Reps.c7 (show Kd.M k57 _ _ _ (⟨(⟨2, 10⟩ : S55), (⟨2, 10⟩ : S55), false, (⟨0, 0⟩ : S55)⟩ : S57) [.int .i64 2, .int .i64 10, .int .i64 2, .int .i64 10, .bool false, .int .i64 0, .int .i64 0] from (k57_mkM _ _ _ (⟨(⟨2, 10⟩ : S55), (⟨2, 10⟩ : S55), false, (⟨0, 0⟩ : S55)⟩ : S57) )) (Reps.c7 (show Kd.M k57 _ _ _ (⟨(⟨2, 10⟩ : S55), (⟨2, 10⟩ : S55), false, (⟨0, 0⟩ : S55)⟩ : S57) [.int .i64 2, .int .i64 10, .int .i64 2, .int .i64 10, .bool false, .int .i64 0, .int .i64 0] from (k57_mkM _ _ _ (⟨(⟨2, 10⟩ : S55), (⟨2, 10⟩ : S55), false, (⟨0, 0⟩ : S55)⟩ : S57) )) (Reps.none _ _)))))
                            intro v200 w18 ho19 hb hg_ hnew_
                            clear hg_ hnew_
                            (first | rw [← Ny199.out] at ho19 | (simp only [Int.reduceToNat] at ho19; rw [← Ny199.out] at ho19))
                            have n0_ := Aside0.mk (Kd.R_below pmAx11_6_ hb)
                            have n1_ := Aside0.mk (Kd.R_below pmAx11_8_ hb)
                            have n2_ := Aside0.mk (Kd.R_lower (Kd.R_newB ho19 (g := gb198) (o := poAx11_1 2 10 2 10 false 0 0) pmAx11_1_) (below_size pmAx11_0_))
                            have n3_ := Aside0.mk (blk_below (g := gb196) (o := .cells #[.int .i64 0, .slice none 0 0, .slice none 0 0, .slice none 0 0] 26 (0, 0)) pmAx11_2_ hb)
                            have n4_ := Aside0.mk (blk_below (g := gb197) (o := poAx11_0 2 10) pmAx11_4_ hb)
                            have n5_ := Aside0.mk (blk_below (g := gb198) (o := poAx11_1 2 10 2 10 false 0 0) pmAx11_1_ hb)
                            have n6_ := Aside0.mk (below_step pmAx11_0_ hb)
                            clear HO204 HO210 BK196 BK197 BK198 HB
                            have HO204 := n0_
                            have HO210 := n1_
                            have HO201 := n2_
                            have BK196 := n3_
                            have BK197 := n4_
                            have BK198 := n5_
                            have HB := n6_
                            clear n0_ n1_ n2_ n3_ n4_ n5_ n6_ hb ho19
                            refine hK.out _ _ pmAx11_3_ (fun hHeld => ?_)
                            clear hK K
                            refine norm_ (a' := ?_) ?_ ?_
                            rotate_left
                            · show Act.put _ (some 11) _ = _
                              simp only [Act.put, List.setIfInBounds_toArray, List.set_cons_zero, List.set_cons_succ, i64_w, i32_w]
                              rfl
                            exact norm_ pmAx11_5_ (hJ3_4_7 (v200, v203, v209) _ ⟨hHeld, pmAx11_13_, pmAx11_6_, pmAx11_8_, pmAx11_2_, pmAx11_4_, pmAx11_1_, pmAx11_0_⟩)
                          · skip
                            refine Kd.R_make_step (Kd.int .i64) _ 3 (by rfl) (N := 13) rfl 24 _ _ rfl 3 rfl rfl Try.underlying24 (.int .i64 0) 8 info3 rfl pmAx11_19_ pmAx11_23_ 0 (ok := fun _ => True) (okp := fun _ => True) rfl (fun _ hk => hk) trivial pmAx11_23_ pmAx11_23_ (Below.refl _ _) (Nat.le_refl _) ?_
                            intro v206 w18 ho19 hb hg_ hnew_
                            clear hg_ hnew_
                            (first | rw [← Ny205.out] at ho19 | (simp only [Int.reduceToNat] at ho19; rw [← Ny205.out] at ho19))
                            have n0_ := Aside0.mk (Kd.R_below pmAx11_6_ hb)
                            have n1_ := Aside0.mk (Kd.R_elder' pmAx11_8_ (Kd.R_base ho19) hb)
                            have n2_ := Aside0.mk (Kd.R_lower (Kd.R_new' ho19 (Kd.R_lt pmAx11_8_)) (below_size pmAx11_0_))
                            have n3_ := Aside0.mk (blk_below (g := gb196) (o := .cells #[.int .i64 0, .slice none 0 0, .slice none 0 0, .slice none 0 0] 26 (0, 0)) pmAx11_2_ hb)
                            have n4_ := Aside0.mk (blk_below (g := gb197) (o := poAx11_0 2 10) pmAx11_4_ hb)
                            have n5_ := Aside0.mk (blk_below (g := gb198) (o := poAx11_1 2 10 2 10 false 0 0) pmAx11_1_ hb)
                            have n6_ := Aside0.mk (below_step pmAx11_0_ hb)
                            clear HO204 HO210 BK196 BK197 BK198 HB
                            have HO204 := n0_
                            have HO210 := n1_
                            have HO207 := n2_
                            have BK196 := n3_
                            have BK197 := n4_
                            have BK198 := n5_
                            have HB := n6_
                            clear n0_ n1_ n2_ n3_ n4_ n5_ n6_ hb ho19
                            refine hK.out _ _ pmAx11_3_ (fun hHeld => ?_)
                            clear hK K
                            refine norm_ (a' := ?_) ?_ ?_
                            rotate_left
                            · show Act.put _ (some 13) _ = _
                              simp only [Act.put, List.setIfInBounds_toArray, List.set_cons_zero, List.set_cons_succ, i64_w, i32_w]
                              rfl
                            exact norm_ pmAx11_5_ (hJ4_5_7 (v203, v206, v209) _ ⟨hHeld, pmAx11_6_, pmAx11_11_, pmAx11_12_, pmAx11_2_, pmAx11_4_, pmAx11_1_, pmAx11_0_⟩)
                      · skip
                        rintro ⟨v203, v206⟩ w17 ⟨hS_, h0_, h1_, h2_, h3_, h4_, h5_⟩
                        have n0_ : Aside0 (Kd.R Kd.bool 4 w17 w.heap.size (fun _ => True) v203 y202) := ⟨h0_⟩
                        have n1_ : Aside0 (Kd.R (Kd.int .i64) 3 w17 w.heap.size (fun _ => True) v206 y205) := ⟨h1_⟩
                        have n2_ : Aside0 (w17.heap[gb196]? = some (.cells #[.int .i64 0, .slice none 0 0, .slice none 0 0, .slice none 0 0] 26 (0, 0))) := ⟨h2_⟩
                        have n3_ : Aside0 (w17.heap[gb197]? = some (.cells #[.int .i64 2, .int .i64 10] 55 (0, 0))) := ⟨h3_⟩
                        have n4_ : Aside0 (w17.heap[gb198]? = some (.cells #[.int .i64 2, .int .i64 10, .int .i64 2, .int .i64 10, .bool false, .int .i64 0, .int .i64 0] 57 (0, 0))) := ⟨h4_⟩
                        have n5_ : Aside0 (Below w.heap.size w w17) := ⟨h5_⟩
                        clear BK196 BK197 BK198 HB h0_ h1_ h2_ h3_ h4_ h5_
                        have HO204 := n0_
                        have HO207 := n1_
                        have BK196 := n2_
                        have BK197 := n3_
                        have BK198 := n4_
                        have HB := n5_
                        clear n0_ n1_ n2_ n3_ n4_ n5_
                        have hHeld : w17.cell? ⟨gb198, 0, none⟩ = some (.int .i64 2) ∧ w17.cell? ⟨gb198, 1, none⟩ = some (.int .i64 10) ∧ w17.cell? ⟨gb198, 2, none⟩ = some (.int .i64 2) ∧ w17.cell? ⟨gb198, 3, none⟩ = some (.int .i64 10) ∧ w17.cell? ⟨gb198, 4, none⟩ = some (.bool false) ∧ w17.cell? ⟨gb198, 5, none⟩ = some (.int .i64 0) ∧ w17.cell? ⟨gb198, 6, none⟩ = some (.int .i64 0) := hS_
                        refine norm_ (a' := ?_) ?_ ?_
                        rotate_left
                        · simp only [putAll, Act.put, List.setIfInBounds_toArray, List.set_cons_zero, List.set_cons_succ]
                          rfl
                        refine two_ (i := 3) (j := 7) (Ni := some 11) (Nj := some 15) pbAx11_12 pbAx11_5 rfl rfl rfl rfl (two_of HT_.out pmAx11_21_) pmAx11_19_ pmAx11_19_ (fun K hK => ?_) (fun K hK => ?_)
                        · skip
                          refine Kd.R_lit_step k57 _ 57 ?hg (N := 11) ?hd (xs := ([(⟨(⟨2, 10⟩ : S55), (⟨2, 10⟩ : S55), false, (⟨0, 0⟩ : S55)⟩ : S57), (⟨(⟨2, 10⟩ : S55), (⟨2, 10⟩ : S55), false, (⟨0, 0⟩ : S55)⟩ : S57), (⟨(⟨2, 10⟩ : S55), (⟨2, 10⟩ : S55), false, (⟨0, 0⟩ : S55)⟩ : S57)] : List (S57))) (inner := [.int .i64 2, .int .i64 10, .int .i64 2, .int .i64 10, .bool false, .int .i64 0, .int .i64 0, .int .i64 2, .int .i64 10, .int .i64 2, .int .i64 10, .bool false, .int .i64 0, .int .i64 0, .int .i64 2, .int .i64 10, .int .i64 2, .int .i64 10, .bool false, .int .i64 0, .int .i64 0]) (ok := fun _ => True) (okp := fun _ => True) ?hr ?hp (fun _ hk => hk) trivial (Below.refl _ _) (Nat.le_refl _) (by simp) ?_; (case hd => rfl); (case hg => rfl); (case hr => first | (go_simp; done) | (go_simp; rfl)); (case hp => exact (Reps.c7 (show Kd.M k57 _ _ _ (⟨(⟨2, 10⟩ : S55), (⟨2, 10⟩ : S55), false, (⟨0, 0⟩ : S55)⟩ : S57) [.int .i64 2, .int .i64 10, .int .i64 2, .int .i64 10, .bool false, .int .i64 0, .int .i64 0] from (k57_mkM _ _ _ (⟨(⟨2, 10⟩ : S55), (⟨2, 10⟩ : S55), false, (⟨0, 0⟩ : S55)⟩ : S57) )) (Reps.c7 (show Kd.M k57 _ _ _ (⟨(⟨2, 10⟩ : S55), (⟨2, 10⟩ : S55), false, (⟨0, 0⟩ : S55)⟩ : S57) [.int .i64 2, .int .i64 10, .int .i64 2, .int .i64 10, .bool false, .int .i64 0, .int .i64 0] from (k57_mkM _ _ _ (⟨(⟨2, 10⟩ : S55), (⟨2, 10⟩ : S55), false, (⟨0, 0⟩ : S55)⟩ : S57) )) (Reps.c7 (show Kd.M k57 _ _ _ (⟨(⟨2, 10⟩ : S55), (⟨2, 10⟩ : S55), false, (⟨0, 0⟩ : S55)⟩ : S57) [.int .i64 2, .int .i64 10, .int .i64 2, .int .i64 10, .bool false, .int .i64 0, .int .i64 0] from (k57_mkM _ _ _ (⟨(⟨2, 10⟩ : S55), (⟨2, 10⟩ : S55), false, (⟨0, 0⟩ : S55)⟩ : S57) )) (Reps.none _ _)))))
                          intro v200 w18 ho19 hb hg_ hnew_
                          clear hg_ hnew_
                          (first | rw [← Ny199.out] at ho19 | (simp only [Int.reduceToNat] at ho19; rw [← Ny199.out] at ho19))
                          have n0_ := Aside0.mk (Kd.R_below pmAx11_6_ hb)
                          have n1_ := Aside0.mk (Kd.R_below pmAx11_7_ hb)
                          have n2_ := Aside0.mk (Kd.R_lower (Kd.R_newB ho19 (g := gb198) (o := poAx11_1 2 10 2 10 false 0 0) pmAx11_1_) (below_size pmAx11_0_))
                          have n3_ := Aside0.mk (blk_below (g := gb196) (o := .cells #[.int .i64 0, .slice none 0 0, .slice none 0 0, .slice none 0 0] 26 (0, 0)) pmAx11_2_ hb)
                          have n4_ := Aside0.mk (blk_below (g := gb197) (o := poAx11_0 2 10) pmAx11_4_ hb)
                          have n5_ := Aside0.mk (blk_below (g := gb198) (o := poAx11_1 2 10 2 10 false 0 0) pmAx11_1_ hb)
                          have n6_ := Aside0.mk (below_step pmAx11_0_ hb)
                          clear HO204 HO207 BK196 BK197 BK198 HB
                          have HO204 := n0_
                          have HO207 := n1_
                          have HO201 := n2_
                          have BK196 := n3_
                          have BK197 := n4_
                          have BK198 := n5_
                          have HB := n6_
                          clear n0_ n1_ n2_ n3_ n4_ n5_ n6_ hb ho19
                          obtain ⟨Ao20, co20, eo20⟩ := Kd.R_slice HO207.out
                          (first | subst eo20 | (injection eo20 with f1_ f2_ f3_; have f4_ := f1_.symm; have f5_ := f3_.symm; clear f1_ f2_ f3_; subst f4_; subst f5_))
                          obtain ⟨Ao21, co21, eo21⟩ := Kd.R_slice HO204.out
                          (first | subst eo21 | (injection eo21 with f1_ f2_ f3_; have f4_ := f1_.symm; have f5_ := f3_.symm; clear f1_ f2_ f3_; subst f4_; subst f5_))
                          obtain ⟨Ao22, co22, eo22⟩ := Kd.R_slice HO201.out
                          (first | subst eo22 | (injection eo22 with f1_ f2_ f3_; have f4_ := f1_.symm; have f5_ := f3_.symm; clear f1_ f2_ f3_; subst f4_; subst f5_))
                          refine hK.out _ _ pmAx11_3_ (fun hHeld => ?_)
                          clear hK K
                          refine norm_ (a' := ?_) ?_ ?_
                          rotate_left
                          · show Act.put _ (some 11) _ = _
                            simp only [Act.put, List.setIfInBounds_toArray, List.set_cons_zero, List.set_cons_succ, i64_w, i32_w]
                            rfl
                          refine pure_ (i := 6) (N := some 14) (v := ?_) (a' := ?_) pbAx11_2 rfl rfl (any_of HT_.out pmAx11_21_) (fun _ _ _ h => h) (Or.inl ⟨by rfl, ?_⟩) ?_ ?_
                          rotate_left
                          · intro w'
                            go_simp
                            with_reducible rfl
                          rotate_left
                          · simp only [Act.put, List.setIfInBounds_toArray, List.set_cons_zero, List.set_cons_succ, i64_w, i32_w]
                            rfl
                          exact norm_ pmAx11_5_ (hJ3_4_5 (.slice Ao22 y199.length co22, .slice Ao21 y202.length co21, .slice Ao20 y205.length co20) _ ⟨hHeld, pmAx11_13_, pmAx11_6_, pmAx11_7_, pmAx11_2_, pmAx11_4_, pmAx11_1_, pmAx11_0_⟩)
                        · skip
                          refine Kd.R_lit_step (Kd.int .i64) _ 3 ?hg (N := 15) ?hd (xs := ([10, 10, 10] : List Int)) (inner := [.int .i64 10, .int .i64 10, .int .i64 10]) (ok := fun _ => True) (okp := fun _ => True) ?hr ?hp (fun _ hk => hk) trivial (Below.refl _ _) (Nat.le_refl _) (by simp) ?_; (case hd => rfl); (case hg => rfl); (case hr => first | (go_simp; done) | (go_simp; rfl)); (case hp => exact (Reps.one (show Kd.M (Kd.int .i64) _ _ _ 10 [.int .i64 10] from rfl) (Reps.one (show Kd.M (Kd.int .i64) _ _ _ 10 [.int .i64 10] from rfl) (Reps.one (show Kd.M (Kd.int .i64) _ _ _ 10 [.int .i64 10] from rfl) (Reps.none _ _)))))
                          intro v209 w18 ho19 hb hg_ hnew_
                          clear hg_ hnew_
                          (first | rw [← Ny208.out] at ho19 | (simp only [Int.reduceToNat] at ho19; rw [← Ny208.out] at ho19))
                          have n0_ := Aside0.mk (Kd.R_below pmAx11_6_ hb)
                          have n1_ := Aside0.mk (Kd.R_elder' pmAx11_7_ (Kd.R_base ho19) hb)
                          have n2_ := Aside0.mk (Kd.R_lower (Kd.R_new' ho19 (Kd.R_lt pmAx11_7_)) (below_size pmAx11_0_))
                          have n3_ := Aside0.mk (blk_below (g := gb196) (o := .cells #[.int .i64 0, .slice none 0 0, .slice none 0 0, .slice none 0 0] 26 (0, 0)) pmAx11_2_ hb)
                          have n4_ := Aside0.mk (blk_below (g := gb197) (o := poAx11_0 2 10) pmAx11_4_ hb)
                          have n5_ := Aside0.mk (blk_below (g := gb198) (o := poAx11_1 2 10 2 10 false 0 0) pmAx11_1_ hb)
                          have n6_ := Aside0.mk (below_step pmAx11_0_ hb)
                          clear HO204 HO207 BK196 BK197 BK198 HB
                          have HO204 := n0_
                          have HO207 := n1_
                          have HO210 := n2_
                          have BK196 := n3_
                          have BK197 := n4_
                          have BK198 := n5_
                          have HB := n6_
                          clear n0_ n1_ n2_ n3_ n4_ n5_ n6_ hb ho19
                          refine hK.out _ _ pmAx11_3_ (fun hHeld => ?_)
                          clear hK K
                          refine norm_ (a' := ?_) ?_ ?_
                          rotate_left
                          · show Act.put _ (some 15) _ = _
                            simp only [Act.put, List.setIfInBounds_toArray, List.set_cons_zero, List.set_cons_succ, i64_w, i32_w]
                            rfl
                          exact norm_ pmAx11_5_ (hJ4_5_7 (v203, v206, v209) _ ⟨hHeld, pmAx11_6_, pmAx11_11_, pmAx11_12_, pmAx11_2_, pmAx11_4_, pmAx11_1_, pmAx11_0_⟩)
                    · skip
                      rintro ⟨v200, v209⟩ w17 ⟨hS_, h0_, h1_, h2_, h3_, h4_, h5_⟩
                      have n0_ : Aside0 (Kd.R k57 57 w17 w.heap.size (fun k_ => k_ ≠ gb198) v200 y199) := ⟨h0_⟩
                      have n1_ : Aside0 (Kd.R (Kd.int .i64) 3 w17 w.heap.size (fun _ => True) v209 y208) := ⟨h1_⟩
                      have n2_ : Aside0 (w17.heap[gb196]? = some (.cells #[.int .i64 0, .slice none 0 0, .slice none 0 0, .slice none 0 0] 26 (0, 0))) := ⟨h2_⟩
                      have n3_ : Aside0 (w17.heap[gb197]? = some (.cells #[.int .i64 2, .int .i64 10] 55 (0, 0))) := ⟨h3_⟩
                      have n4_ : Aside0 (w17.heap[gb198]? = some (.cells #[.int .i64 2, .int .i64 10, .int .i64 2, .int .i64 10, .bool false, .int .i64 0, .int .i64 0] 57 (0, 0))) := ⟨h4_⟩
                      have n5_ : Aside0 (Below w.heap.size w w17) := ⟨h5_⟩
                      clear BK196 BK197 BK198 HB h0_ h1_ h2_ h3_ h4_ h5_
                      have HO201 := n0_
                      have HO210 := n1_
                      have BK196 := n2_
                      have BK197 := n3_
                      have BK198 := n4_
                      have HB := n5_
                      clear n0_ n1_ n2_ n3_ n4_ n5_
                      have hHeld : w17.cell? ⟨gb198, 0, none⟩ = some (.int .i64 2) ∧ w17.cell? ⟨gb198, 1, none⟩ = some (.int .i64 10) ∧ w17.cell? ⟨gb198, 2, none⟩ = some (.int .i64 2) ∧ w17.cell? ⟨gb198, 3, none⟩ = some (.int .i64 10) ∧ w17.cell? ⟨gb198, 4, none⟩ = some (.bool false) ∧ w17.cell? ⟨gb198, 5, none⟩ = some (.int .i64 0) ∧ w17.cell? ⟨gb198, 6, none⟩ = some (.int .i64 0) := hS_
                      refine norm_ (a' := ?_) ?_ ?_
                      rotate_left
                      · simp only [putAll, Act.put, List.setIfInBounds_toArray, List.set_cons_zero, List.set_cons_succ]
                        rfl
                      refine two_ (i := 4) (j := 5) (Ni := some 12) (Nj := some 13) pbAx11_3 pbAx11_4 rfl rfl rfl rfl (two_of HT_.out pmAx11_21_) pmAx11_19_ pmAx11_19_ (fun K hK => ?_) (fun K hK => ?_)
                      · skip
                        refine Kd.R_make_step Kd.bool _ 4 (by rfl) (N := 12) rfl 23 _ _ rfl 3 rfl rfl Try.underlying23 (.bool false) 1 info4 rfl pmAx11_19_ pmAx11_23_ false (ok := fun _ => True) (okp := fun _ => True) rfl (fun _ hk => hk) trivial pmAx11_23_ pmAx11_23_ (Below.refl _ _) (Nat.le_refl _) ?_
                        intro v203 w18 ho19 hb hg_ hnew_
                        clear hg_ hnew_
                        (first | rw [← Ny202.out] at ho19 | (simp only [Int.reduceToNat] at ho19; rw [← Ny202.out] at ho19))
                        have n0_ := Aside0.mk (Kd.R_below pmAx11_9_ hb)
                        have n1_ := Aside0.mk (Kd.R_below pmAx11_8_ hb)
                        have n2_ := Aside0.mk (Kd.R_lower ho19 (below_size pmAx11_0_))
                        have n3_ := Aside0.mk (blk_below (g := gb196) (o := .cells #[.int .i64 0, .slice none 0 0, .slice none 0 0, .slice none 0 0] 26 (0, 0)) pmAx11_2_ hb)
                        have n4_ := Aside0.mk (blk_below (g := gb197) (o := poAx11_0 2 10) pmAx11_4_ hb)
                        have n5_ := Aside0.mk (blk_below (g := gb198) (o := poAx11_1 2 10 2 10 false 0 0) pmAx11_1_ hb)
                        have n6_ := Aside0.mk (below_step pmAx11_0_ hb)
                        clear HO201 HO210 BK196 BK197 BK198 HB
                        have HO201 := n0_
                        have HO210 := n1_
                        have HO204 := n2_
                        have BK196 := n3_
                        have BK197 := n4_
                        have BK198 := n5_
                        have HB := n6_
                        clear n0_ n1_ n2_ n3_ n4_ n5_ n6_ hb ho19
                        refine hK.out _ _ pmAx11_3_ (fun hHeld => ?_)
                        clear hK K
                        refine norm_ (a' := ?_) ?_ ?_
                        rotate_left
                        · show Act.put _ (some 12) _ = _
                          simp only [Act.put, List.setIfInBounds_toArray, List.set_cons_zero, List.set_cons_succ, i64_w, i32_w]
                          rfl
                        exact norm_ pmAx11_5_ (hJ3_4_7 (v200, v203, v209) _ ⟨hHeld, pmAx11_9_, pmAx11_6_, pmAx11_8_, pmAx11_2_, pmAx11_4_, pmAx11_1_, pmAx11_0_⟩)
                      · skip
                        refine Kd.R_make_step (Kd.int .i64) _ 3 (by rfl) (N := 13) rfl 24 _ _ rfl 3 rfl rfl Try.underlying24 (.int .i64 0) 8 info3 rfl pmAx11_19_ pmAx11_23_ 0 (ok := fun _ => True) (okp := fun _ => True) rfl (fun _ hk => hk) trivial pmAx11_23_ pmAx11_23_ (Below.refl _ _) (Nat.le_refl _) ?_
                        intro v206 w18 ho19 hb hg_ hnew_
                        clear hg_ hnew_
                        (first | rw [← Ny205.out] at ho19 | (simp only [Int.reduceToNat] at ho19; rw [← Ny205.out] at ho19))
                        have n0_ := Aside0.mk (Kd.R_below pmAx11_9_ hb)
                        have n1_ := Aside0.mk (Kd.R_elder' pmAx11_8_ (Kd.R_base ho19) hb)
                        have n2_ := Aside0.mk (Kd.R_lower (Kd.R_new' ho19 (Kd.R_lt pmAx11_8_)) (below_size pmAx11_0_))
                        have n3_ := Aside0.mk (blk_below (g := gb196) (o := .cells #[.int .i64 0, .slice none 0 0, .slice none 0 0, .slice none 0 0] 26 (0, 0)) pmAx11_2_ hb)
                        have n4_ := Aside0.mk (blk_below (g := gb197) (o := poAx11_0 2 10) pmAx11_4_ hb)
                        have n5_ := Aside0.mk (blk_below (g := gb198) (o := poAx11_1 2 10 2 10 false 0 0) pmAx11_1_ hb)
                        have n6_ := Aside0.mk (below_step pmAx11_0_ hb)
                        clear HO201 HO210 BK196 BK197 BK198 HB
                        have HO201 := n0_
                        have HO210 := n1_
                        have HO207 := n2_
                        have BK196 := n3_
                        have BK197 := n4_
                        have BK198 := n5_
                        have HB := n6_
                        clear n0_ n1_ n2_ n3_ n4_ n5_ n6_ hb ho19
                        refine hK.out _ _ pmAx11_3_ (fun hHeld => ?_)
                        clear hK K
                        refine norm_ (a' := ?_) ?_ ?_
                        rotate_left
                        · show Act.put _ (some 13) _ = _
                          simp only [Act.put, List.setIfInBounds_toArray, List.set_cons_zero, List.set_cons_succ, i64_w, i32_w]
                          rfl
                        exact norm_ pmAx11_5_ (hJ3_5_7 (v200, v206, v209) _ ⟨hHeld, pmAx11_9_, pmAx11_11_, pmAx11_12_, pmAx11_2_, pmAx11_4_, pmAx11_1_, pmAx11_0_⟩)
                  · skip
                    rintro ⟨v200, v206⟩ w17 ⟨hS_, h0_, h1_, h2_, h3_, h4_, h5_⟩
                    have n0_ : Aside0 (Kd.R k57 57 w17 w.heap.size (fun k_ => k_ ≠ gb198) v200 y199) := ⟨h0_⟩
                    have n1_ : Aside0 (Kd.R (Kd.int .i64) 3 w17 w.heap.size (fun _ => True) v206 y205) := ⟨h1_⟩
                    have n2_ : Aside0 (w17.heap[gb196]? = some (.cells #[.int .i64 0, .slice none 0 0, .slice none 0 0, .slice none 0 0] 26 (0, 0))) := ⟨h2_⟩
                    have n3_ : Aside0 (w17.heap[gb197]? = some (.cells #[.int .i64 2, .int .i64 10] 55 (0, 0))) := ⟨h3_⟩
                    have n4_ : Aside0 (w17.heap[gb198]? = some (.cells #[.int .i64 2, .int .i64 10, .int .i64 2, .int .i64 10, .bool false, .int .i64 0, .int .i64 0] 57 (0, 0))) := ⟨h4_⟩
                    have n5_ : Aside0 (Below w.heap.size w w17) := ⟨h5_⟩
                    clear BK196 BK197 BK198 HB h0_ h1_ h2_ h3_ h4_ h5_
                    have HO201 := n0_
                    have HO207 := n1_
                    have BK196 := n2_
                    have BK197 := n3_
                    have BK198 := n4_
                    have HB := n5_
                    clear n0_ n1_ n2_ n3_ n4_ n5_
                    have hHeld : w17.cell? ⟨gb198, 0, none⟩ = some (.int .i64 2) ∧ w17.cell? ⟨gb198, 1, none⟩ = some (.int .i64 10) ∧ w17.cell? ⟨gb198, 2, none⟩ = some (.int .i64 2) ∧ w17.cell? ⟨gb198, 3, none⟩ = some (.int .i64 10) ∧ w17.cell? ⟨gb198, 4, none⟩ = some (.bool false) ∧ w17.cell? ⟨gb198, 5, none⟩ = some (.int .i64 0) ∧ w17.cell? ⟨gb198, 6, none⟩ = some (.int .i64 0) := hS_
                    refine norm_ (a' := ?_) ?_ ?_
                    rotate_left
                    · simp only [putAll, Act.put, List.setIfInBounds_toArray, List.set_cons_zero, List.set_cons_succ]
                      rfl
                    refine two_ (i := 4) (j := 7) (Ni := some 12) (Nj := some 15) pbAx11_12 pbAx11_4 rfl rfl rfl rfl (two_of HT_.out pmAx11_21_) pmAx11_19_ pmAx11_19_ (fun K hK => ?_) (fun K hK => ?_)
                    · skip
                      refine Kd.R_make_step Kd.bool _ 4 (by rfl) (N := 12) rfl 23 _ _ rfl 3 rfl rfl Try.underlying23 (.bool false) 1 info4 rfl pmAx11_19_ pmAx11_23_ false (ok := fun _ => True) (okp := fun _ => True) rfl (fun _ hk => hk) trivial pmAx11_23_ pmAx11_23_ (Below.refl _ _) (Nat.le_refl _) ?_
                      intro v203 w18 ho19 hb hg_ hnew_
                      clear hg_ hnew_
                      (first | rw [← Ny202.out] at ho19 | (simp only [Int.reduceToNat] at ho19; rw [← Ny202.out] at ho19))
                      have n0_ := Aside0.mk (Kd.R_below pmAx11_9_ hb)
                      have n1_ := Aside0.mk (Kd.R_below pmAx11_7_ hb)
                      have n2_ := Aside0.mk (Kd.R_lower ho19 (below_size pmAx11_0_))
                      have n3_ := Aside0.mk (blk_below (g := gb196) (o := .cells #[.int .i64 0, .slice none 0 0, .slice none 0 0, .slice none 0 0] 26 (0, 0)) pmAx11_2_ hb)
                      have n4_ := Aside0.mk (blk_below (g := gb197) (o := poAx11_0 2 10) pmAx11_4_ hb)
                      have n5_ := Aside0.mk (blk_below (g := gb198) (o := poAx11_1 2 10 2 10 false 0 0) pmAx11_1_ hb)
                      have n6_ := Aside0.mk (below_step pmAx11_0_ hb)
                      clear HO201 HO207 BK196 BK197 BK198 HB
                      have HO201 := n0_
                      have HO207 := n1_
                      have HO204 := n2_
                      have BK196 := n3_
                      have BK197 := n4_
                      have BK198 := n5_
                      have HB := n6_
                      clear n0_ n1_ n2_ n3_ n4_ n5_ n6_ hb ho19
                      obtain ⟨Ao20, co20, eo20⟩ := Kd.R_slice HO207.out
                      (first | subst eo20 | (injection eo20 with f1_ f2_ f3_; have f4_ := f1_.symm; have f5_ := f3_.symm; clear f1_ f2_ f3_; subst f4_; subst f5_))
                      obtain ⟨Ao21, co21, eo21⟩ := Kd.R_slice HO204.out
                      (first | subst eo21 | (injection eo21 with f1_ f2_ f3_; have f4_ := f1_.symm; have f5_ := f3_.symm; clear f1_ f2_ f3_; subst f4_; subst f5_))
                      obtain ⟨Ao22, co22, eo22⟩ := Kd.R_slice HO201.out
                      (first | subst eo22 | (injection eo22 with f1_ f2_ f3_; have f4_ := f1_.symm; have f5_ := f3_.symm; clear f1_ f2_ f3_; subst f4_; subst f5_))
                      refine hK.out _ _ pmAx11_3_ (fun hHeld => ?_)
                      clear hK K
                      refine norm_ (a' := ?_) ?_ ?_
                      rotate_left
                      · show Act.put _ (some 12) _ = _
                        simp only [Act.put, List.setIfInBounds_toArray, List.set_cons_zero, List.set_cons_succ, i64_w, i32_w]
                        rfl
                      refine pure_ (i := 6) (N := some 14) (v := ?_) (a' := ?_) pbAx11_2 rfl rfl (any_of HT_.out pmAx11_21_) (fun _ _ _ h => h) (Or.inl ⟨by rfl, ?_⟩) ?_ ?_
                      rotate_left
                      · intro w'
                        go_simp
                        with_reducible rfl
                      rotate_left
                      · simp only [Act.put, List.setIfInBounds_toArray, List.set_cons_zero, List.set_cons_succ, i64_w, i32_w]
                        rfl
                      exact norm_ pmAx11_5_ (hJ3_4_5 (.slice Ao22 y199.length co22, .slice Ao21 y202.length co21, .slice Ao20 y205.length co20) _ ⟨hHeld, pmAx11_9_, pmAx11_6_, pmAx11_7_, pmAx11_2_, pmAx11_4_, pmAx11_1_, pmAx11_0_⟩)
                    · skip
                      refine Kd.R_lit_step (Kd.int .i64) _ 3 ?hg (N := 15) ?hd (xs := ([10, 10, 10] : List Int)) (inner := [.int .i64 10, .int .i64 10, .int .i64 10]) (ok := fun _ => True) (okp := fun _ => True) ?hr ?hp (fun _ hk => hk) trivial (Below.refl _ _) (Nat.le_refl _) (by simp) ?_; (case hd => rfl); (case hg => rfl); (case hr => first | (go_simp; done) | (go_simp; rfl)); (case hp => exact (Reps.one (show Kd.M (Kd.int .i64) _ _ _ 10 [.int .i64 10] from rfl) (Reps.one (show Kd.M (Kd.int .i64) _ _ _ 10 [.int .i64 10] from rfl) (Reps.one (show Kd.M (Kd.int .i64) _ _ _ 10 [.int .i64 10] from rfl) (Reps.none _ _)))))
                      intro v209 w18 ho19 hb hg_ hnew_
                      clear hg_ hnew_
                      (first | rw [← Ny208.out] at ho19 | (simp only [Int.reduceToNat] at ho19; rw [← Ny208.out] at ho19))
                      have n0_ := Aside0.mk (Kd.R_below pmAx11_9_ hb)
                      have n1_ := Aside0.mk (Kd.R_elder' pmAx11_7_ (Kd.R_base ho19) hb)
                      have n2_ := Aside0.mk (Kd.R_lower (Kd.R_new' ho19 (Kd.R_lt pmAx11_7_)) (below_size pmAx11_0_))
                      have n3_ := Aside0.mk (blk_below (g := gb196) (o := .cells #[.int .i64 0, .slice none 0 0, .slice none 0 0, .slice none 0 0] 26 (0, 0)) pmAx11_2_ hb)
                      have n4_ := Aside0.mk (blk_below (g := gb197) (o := poAx11_0 2 10) pmAx11_4_ hb)
                      have n5_ := Aside0.mk (blk_below (g := gb198) (o := poAx11_1 2 10 2 10 false 0 0) pmAx11_1_ hb)
                      have n6_ := Aside0.mk (below_step pmAx11_0_ hb)
                      clear HO201 HO207 BK196 BK197 BK198 HB
                      have HO201 := n0_
                      have HO207 := n1_
                      have HO210 := n2_
                      have BK196 := n3_
                      have BK197 := n4_
                      have BK198 := n5_
                      have HB := n6_
                      clear n0_ n1_ n2_ n3_ n4_ n5_ n6_ hb ho19
                      refine hK.out _ _ pmAx11_3_ (fun hHeld => ?_)
                      clear hK K
                      refine norm_ (a' := ?_) ?_ ?_
                      rotate_left
                      · show Act.put _ (some 15) _ = _
                        simp only [Act.put, List.setIfInBounds_toArray, List.set_cons_zero, List.set_cons_succ, i64_w, i32_w]
                        rfl
                      exact norm_ pmAx11_5_ (hJ3_5_7 (v200, v206, v209) _ ⟨hHeld, pmAx11_9_, pmAx11_11_, pmAx11_12_, pmAx11_2_, pmAx11_4_, pmAx11_1_, pmAx11_0_⟩)
                · skip
                  rintro ⟨v200, v203⟩ w17 ⟨hS_, h0_, h1_, h2_, h3_, h4_, h5_⟩
                  have n0_ : Aside0 (Kd.R k57 57 w17 w.heap.size (fun k_ => k_ ≠ gb198) v200 y199) := ⟨h0_⟩
                  have n1_ : Aside0 (Kd.R Kd.bool 4 w17 w.heap.size (fun _ => True) v203 y202) := ⟨h1_⟩
                  have n2_ : Aside0 (w17.heap[gb196]? = some (.cells #[.int .i64 0, .slice none 0 0, .slice none 0 0, .slice none 0 0] 26 (0, 0))) := ⟨h2_⟩
                  have n3_ : Aside0 (w17.heap[gb197]? = some (.cells #[.int .i64 2, .int .i64 10] 55 (0, 0))) := ⟨h3_⟩
                  have n4_ : Aside0 (w17.heap[gb198]? = some (.cells #[.int .i64 2, .int .i64 10, .int .i64 2, .int .i64 10, .bool false, .int .i64 0, .int .i64 0] 57 (0, 0))) := ⟨h4_⟩
                  have n5_ : Aside0 (Below w.heap.size w w17) := ⟨h5_⟩
                  clear BK196 BK197 BK198 HB h0_ h1_ h2_ h3_ h4_ h5_
                  have HO201 := n0_
                  have HO204 := n1_
                  have BK196 := n2_
                  have BK197 := n3_
                  have BK198 := n4_
                  have HB := n5_
                  clear n0_ n1_ n2_ n3_ n4_ n5_
                  have hHeld : w17.cell? ⟨gb198, 0, none⟩ = some (.int .i64 2) ∧ w17.cell? ⟨gb198, 1, none⟩ = some (.int .i64 10) ∧ w17.cell? ⟨gb198, 2, none⟩ = some (.int .i64 2) ∧ w17.cell? ⟨gb198, 3, none⟩ = some (.int .i64 10) ∧ w17.cell? ⟨gb198, 4, none⟩ = some (.bool false) ∧ w17.cell? ⟨gb198, 5, none⟩ = some (.int .i64 0) ∧ w17.cell? ⟨gb198, 6, none⟩ = some (.int .i64 0) := hS_
                  refine norm_ (a' := ?_) ?_ ?_
                  rotate_left
                  · simp only [putAll, Act.put, List.setIfInBounds_toArray, List.set_cons_zero, List.set_cons_succ]
                    rfl
                  refine two_ (i := 5) (j := 7) (Ni := some 13) (Nj := some 15) pbAx11_12 pbAx11_3 rfl rfl rfl rfl (two_of HT_.out pmAx11_21_) pmAx11_19_ pmAx11_19_ (fun K hK => ?_) (fun K hK => ?_)
                  · skip
                    refine Kd.R_make_step (Kd.int .i64) _ 3 (by rfl) (N := 13) rfl 24 _ _ rfl 3 rfl rfl Try.underlying24 (.int .i64 0) 8 info3 rfl pmAx11_19_ pmAx11_23_ 0 (ok := fun _ => True) (okp := fun _ => True) rfl (fun _ hk => hk) trivial pmAx11_23_ pmAx11_23_ (Below.refl _ _) (Nat.le_refl _) ?_
                    intro v206 w18 ho19 hb hg_ hnew_
                    clear hg_ hnew_
                    (first | rw [← Ny205.out] at ho19 | (simp only [Int.reduceToNat] at ho19; rw [← Ny205.out] at ho19))
                    have n0_ := Aside0.mk (Kd.R_below pmAx11_9_ hb)
                    have n1_ := Aside0.mk (Kd.R_below pmAx11_6_ hb)
                    have n2_ := Aside0.mk (Kd.R_lower ho19 (below_size pmAx11_0_))
                    have n3_ := Aside0.mk (blk_below (g := gb196) (o := .cells #[.int .i64 0, .slice none 0 0, .slice none 0 0, .slice none 0 0] 26 (0, 0)) pmAx11_2_ hb)
                    have n4_ := Aside0.mk (blk_below (g := gb197) (o := poAx11_0 2 10) pmAx11_4_ hb)
                    have n5_ := Aside0.mk (blk_below (g := gb198) (o := poAx11_1 2 10 2 10 false 0 0) pmAx11_1_ hb)
                    have n6_ := Aside0.mk (below_step pmAx11_0_ hb)
                    clear HO201 HO204 BK196 BK197 BK198 HB
                    have HO201 := n0_
                    have HO204 := n1_
                    have HO207 := n2_
                    have BK196 := n3_
                    have BK197 := n4_
                    have BK198 := n5_
                    have HB := n6_
                    clear n0_ n1_ n2_ n3_ n4_ n5_ n6_ hb ho19
                    obtain ⟨Ao20, co20, eo20⟩ := Kd.R_slice HO207.out
                    (first | subst eo20 | (injection eo20 with f1_ f2_ f3_; have f4_ := f1_.symm; have f5_ := f3_.symm; clear f1_ f2_ f3_; subst f4_; subst f5_))
                    obtain ⟨Ao21, co21, eo21⟩ := Kd.R_slice HO204.out
                    (first | subst eo21 | (injection eo21 with f1_ f2_ f3_; have f4_ := f1_.symm; have f5_ := f3_.symm; clear f1_ f2_ f3_; subst f4_; subst f5_))
                    obtain ⟨Ao22, co22, eo22⟩ := Kd.R_slice HO201.out
                    (first | subst eo22 | (injection eo22 with f1_ f2_ f3_; have f4_ := f1_.symm; have f5_ := f3_.symm; clear f1_ f2_ f3_; subst f4_; subst f5_))
                    refine hK.out _ _ pmAx11_3_ (fun hHeld => ?_)
                    clear hK K
                    refine norm_ (a' := ?_) ?_ ?_
                    rotate_left
                    · show Act.put _ (some 13) _ = _
                      simp only [Act.put, List.setIfInBounds_toArray, List.set_cons_zero, List.set_cons_succ, i64_w, i32_w]
                      rfl
                    refine pure_ (i := 6) (N := some 14) (v := ?_) (a' := ?_) pbAx11_2 rfl rfl (any_of HT_.out pmAx11_21_) (fun _ _ _ h => h) (Or.inl ⟨by rfl, ?_⟩) ?_ ?_
                    rotate_left
                    · intro w'
                      go_simp
                      with_reducible rfl
                    rotate_left
                    · simp only [Act.put, List.setIfInBounds_toArray, List.set_cons_zero, List.set_cons_succ, i64_w, i32_w]
                      rfl
                    exact norm_ pmAx11_5_ (hJ3_4_5 (.slice Ao22 y199.length co22, .slice Ao21 y202.length co21, .slice Ao20 y205.length co20) _ ⟨hHeld, pmAx11_9_, pmAx11_6_, pmAx11_7_, pmAx11_2_, pmAx11_4_, pmAx11_1_, pmAx11_0_⟩)
                  · skip
                    refine Kd.R_lit_step (Kd.int .i64) _ 3 ?hg (N := 15) ?hd (xs := ([10, 10, 10] : List Int)) (inner := [.int .i64 10, .int .i64 10, .int .i64 10]) (ok := fun _ => True) (okp := fun _ => True) ?hr ?hp (fun _ hk => hk) trivial (Below.refl _ _) (Nat.le_refl _) (by simp) ?_; (case hd => rfl); (case hg => rfl); (case hr => first | (go_simp; done) | (go_simp; rfl)); (case hp => exact (Reps.one (show Kd.M (Kd.int .i64) _ _ _ 10 [.int .i64 10] from rfl) (Reps.one (show Kd.M (Kd.int .i64) _ _ _ 10 [.int .i64 10] from rfl) (Reps.one (show Kd.M (Kd.int .i64) _ _ _ 10 [.int .i64 10] from rfl) (Reps.none _ _)))))
                    intro v209 w18 ho19 hb hg_ hnew_
                    clear hg_ hnew_
                    (first | rw [← Ny208.out] at ho19 | (simp only [Int.reduceToNat] at ho19; rw [← Ny208.out] at ho19))
                    have n0_ := Aside0.mk (Kd.R_below pmAx11_9_ hb)
                    have n1_ := Aside0.mk (Kd.R_below pmAx11_6_ hb)
                    have n2_ := Aside0.mk (Kd.R_lower ho19 (below_size pmAx11_0_))
                    have n3_ := Aside0.mk (blk_below (g := gb196) (o := .cells #[.int .i64 0, .slice none 0 0, .slice none 0 0, .slice none 0 0] 26 (0, 0)) pmAx11_2_ hb)
                    have n4_ := Aside0.mk (blk_below (g := gb197) (o := poAx11_0 2 10) pmAx11_4_ hb)
                    have n5_ := Aside0.mk (blk_below (g := gb198) (o := poAx11_1 2 10 2 10 false 0 0) pmAx11_1_ hb)
                    have n6_ := Aside0.mk (below_step pmAx11_0_ hb)
                    clear HO201 HO204 BK196 BK197 BK198 HB
                    have HO201 := n0_
                    have HO204 := n1_
                    have HO210 := n2_
                    have BK196 := n3_
                    have BK197 := n4_
                    have BK198 := n5_
                    have HB := n6_
                    clear n0_ n1_ n2_ n3_ n4_ n5_ n6_ hb ho19
                    refine hK.out _ _ pmAx11_3_ (fun hHeld => ?_)
                    clear hK K
                    refine norm_ (a' := ?_) ?_ ?_
                    rotate_left
                    · show Act.put _ (some 15) _ = _
                      simp only [Act.put, List.setIfInBounds_toArray, List.set_cons_zero, List.set_cons_succ, i64_w, i32_w]
                      rfl
                    exact norm_ pmAx11_5_ (hJ3_4_7 (v200, v203, v209) _ ⟨hHeld, pmAx11_9_, pmAx11_6_, pmAx11_8_, pmAx11_2_, pmAx11_4_, pmAx11_1_, pmAx11_0_⟩)
              · skip
                rintro ⟨v203, v206, v209⟩ w19 ⟨hS_, h0_, h1_, h2_, h3_, h4_, h5_, h6_⟩
                have n0_ : Aside0 (Kd.R Kd.bool 4 w19 w.heap.size (fun _ => True) v203 y202) := ⟨h0_⟩
                have n1_ : Aside0 (Kd.R (Kd.int .i64) 3 w19 w.heap.size (fun k_ => some k_ ≠ (v209 : Value).ownBlock) v206 y205) := ⟨h1_⟩
                have n2_ : Aside0 (Kd.R (Kd.int .i64) 3 w19 w.heap.size (fun k_ => some k_ ≠ (v206 : Value).ownBlock) v209 y208) := ⟨h2_⟩
                have n3_ : Aside0 (w19.heap[gb196]? = some (.cells #[.int .i64 0, .slice none 0 0, .slice none 0 0, .slice none 0 0] 26 (0, 0))) := ⟨h3_⟩
                have n4_ : Aside0 (w19.heap[gb197]? = some (.cells #[.int .i64 2, .int .i64 10] 55 (0, 0))) := ⟨h4_⟩
                have n5_ : Aside0 (w19.heap[gb198]? = some (.cells #[.int .i64 2, .int .i64 10, .int .i64 2, .int .i64 10, .bool false, .int .i64 0, .int .i64 0] 57 (0, 0))) := ⟨h5_⟩
                have n6_ : Aside0 (Below w.heap.size w w19) := ⟨h6_⟩
                clear BK196 BK197 BK198 HB h0_ h1_ h2_ h3_ h4_ h5_ h6_
                have HO204 := n0_
                have HO207 := n1_
                have HO210 := n2_
                have BK196 := n3_
                have BK197 := n4_
                have BK198 := n5_
                have HB := n6_
                clear n0_ n1_ n2_ n3_ n4_ n5_ n6_
                have hHeld : w19.cell? ⟨gb198, 0, none⟩ = some (.int .i64 2) ∧ w19.cell? ⟨gb198, 1, none⟩ = some (.int .i64 10) ∧ w19.cell? ⟨gb198, 2, none⟩ = some (.int .i64 2) ∧ w19.cell? ⟨gb198, 3, none⟩ = some (.int .i64 10) ∧ w19.cell? ⟨gb198, 4, none⟩ = some (.bool false) ∧ w19.cell? ⟨gb198, 5, none⟩ = some (.int .i64 0) ∧ w19.cell? ⟨gb198, 6, none⟩ = some (.int .i64 0) := hS_
                refine norm_ (a' := ?_) ?_ ?_
                rotate_left
                · simp only [putAll, Act.put, List.setIfInBounds_toArray, List.set_cons_zero, List.set_cons_succ]
                  rfl
                refine one_ (i := 3) (N := some 11) pbAx11_13 rfl rfl (one_of HT_.out pmAx11_21_) pmAx11_19_ (fun K hK => ?_)
                refine Kd.R_lit_step k57 _ 57 ?hg (N := 11) ?hd (xs := ([(⟨(⟨2, 10⟩ : S55), (⟨2, 10⟩ : S55), false, (⟨0, 0⟩ : S55)⟩ : S57), (⟨(⟨2, 10⟩ : S55), (⟨2, 10⟩ : S55), false, (⟨0, 0⟩ : S55)⟩ : S57), (⟨(⟨2, 10⟩ : S55), (⟨2, 10⟩ : S55), false, (⟨0, 0⟩ : S55)⟩ : S57)] : List (S57))) (inner := [.int .i64 2, .int .i64 10, .int .i64 2, .int .i64 10, .bool false, .int .i64 0, .int .i64 0, .int .i64 2, .int .i64 10, .int .i64 2, .int .i64 10, .bool false, .int .i64 0, .int .i64 0, .int .i64 2, .int .i64 10, .int .i64 2, .int .i64 10, .bool false, .int .i64 0, .int .i64 0]) (ok := fun _ => True) (okp := fun _ => True) ?hr ?hp (fun _ hk => hk) trivial (Below.refl _ _) (Nat.le_refl _) (by simp) ?_; (case hd => rfl); (case hg => rfl); (case hr => first | (go_simp; done) | (go_simp; rfl)); (case hp => exact (Reps.c7 (show Kd.M k57 _ _ _ (⟨(⟨2, 10⟩ : S55), (⟨2, 10⟩ : S55), false, (⟨0, 0⟩ : S55)⟩ : S57) [.int .i64 2, .int .i64 10, .int .i64 2, .int .i64 10, .bool false, .int .i64 0, .int .i64 0] from (k57_mkM _ _ _ (⟨(⟨2, 10⟩ : S55), (⟨2, 10⟩ : S55), false, (⟨0, 0⟩ : S55)⟩ : S57) )) (Reps.c7 (show Kd.M k57 _ _ _ (⟨(⟨2, 10⟩ : S55), (⟨2, 10⟩ : S55), false, (⟨0, 0⟩ : S55)⟩ : S57) [.int .i64 2, .int .i64 10, .int .i64 2, .int .i64 10, .bool false, .int .i64 0, .int .i64 0] from (k57_mkM _ _ _ (⟨(⟨2, 10⟩ : S55), (⟨2, 10⟩ : S55), false, (⟨0, 0⟩ : S55)⟩ : S57) )) (Reps.c7 (show Kd.M k57 _ _ _ (⟨(⟨2, 10⟩ : S55), (⟨2, 10⟩ : S55), false, (⟨0, 0⟩ : S55)⟩ : S57) [.int .i64 2, .int .i64 10, .int .i64 2, .int .i64 10, .bool false, .int .i64 0, .int .i64 0] from (k57_mkM _ _ _ (⟨(⟨2, 10⟩ : S55), (⟨2, 10⟩ : S55), false, (⟨0, 0⟩ : S55)⟩ : S57) )) (Reps.none _ _)))))
                intro v200 w20 ho21 hb hg_ hnew_
                clear hg_ hnew_
                (first | rw [← Ny199.out] at ho21 | (simp only [Int.reduceToNat] at ho21; rw [← Ny199.out] at ho21))
                have n0_ := Aside0.mk (Kd.R_below pmAx11_6_ hb)
                have n1_ := Aside0.mk (Kd.R_below pmAx11_7_ hb)
                have n2_ := Aside0.mk (Kd.R_below pmAx11_8_ hb)
                have n3_ := Aside0.mk (Kd.R_lower (Kd.R_newB ho21 (g := gb198) (o := poAx11_1 2 10 2 10 false 0 0) pmAx11_1_) (below_size pmAx11_0_))
                have n4_ := Aside0.mk (blk_below (g := gb196) (o := .cells #[.int .i64 0, .slice none 0 0, .slice none 0 0, .slice none 0 0] 26 (0, 0)) pmAx11_2_ hb)
                have n5_ := Aside0.mk (blk_below (g := gb197) (o := poAx11_0 2 10) pmAx11_4_ hb)
                have n6_ := Aside0.mk (blk_below (g := gb198) (o := poAx11_1 2 10 2 10 false 0 0) pmAx11_1_ hb)
                have n7_ := Aside0.mk (below_step pmAx11_0_ hb)
                clear HO204 HO207 HO210 BK196 BK197 BK198 HB
                have HO204 := n0_
                have HO207 := n1_
                have HO210 := n2_
                have HO201 := n3_
                have BK196 := n4_
                have BK197 := n5_
                have BK198 := n6_
                have HB := n7_
                clear n0_ n1_ n2_ n3_ n4_ n5_ n6_ n7_ hb ho21
                obtain ⟨Ao22, co22, eo22⟩ := Kd.R_slice HO207.out
                (first | subst eo22 | (injection eo22 with f1_ f2_ f3_; have f4_ := f1_.symm; have f5_ := f3_.symm; clear f1_ f2_ f3_; subst f4_; subst f5_))
                obtain ⟨Ao23, co23, eo23⟩ := Kd.R_slice HO204.out
                (first | subst eo23 | (injection eo23 with f1_ f2_ f3_; have f4_ := f1_.symm; have f5_ := f3_.symm; clear f1_ f2_ f3_; subst f4_; subst f5_))
                obtain ⟨Ao24, co24, eo24⟩ := Kd.R_slice HO201.out
                (first | subst eo24 | (injection eo24 with f1_ f2_ f3_; have f4_ := f1_.symm; have f5_ := f3_.symm; clear f1_ f2_ f3_; subst f4_; subst f5_))
                refine hK.out _ _ pmAx11_3_ (fun hHeld => ?_)
                clear hK K
                refine norm_ (a' := ?_) ?_ ?_
                rotate_left
                · show Act.put _ (some 11) _ = _
                  simp only [Act.put, List.setIfInBounds_toArray, List.set_cons_zero, List.set_cons_succ, i64_w, i32_w]
                  rfl
                refine pure_ (i := 6) (N := some 14) (v := ?_) (a' := ?_) pbAx11_1 rfl rfl (any_of HT_.out pmAx11_21_) (fun _ _ _ h => h) (Or.inl ⟨by rfl, ?_⟩) ?_ ?_
                rotate_left
                · intro w'
                  go_simp
                  with_reducible rfl
                rotate_left
                · simp only [Act.put, List.setIfInBounds_toArray, List.set_cons_zero, List.set_cons_succ, i64_w, i32_w]
                  rfl
                exact norm_ pmAx11_5_ (hJ3_4_5_7 (.slice Ao24 y199.length co24, .slice Ao23 y202.length co23, .slice Ao22 y205.length co22, v209) _ ⟨hHeld, pmAx11_13_, pmAx11_6_, pmAx11_7_, pmAx11_8_, pmAx11_2_, pmAx11_4_, pmAx11_1_, pmAx11_0_⟩)
            · skip
              rintro ⟨v200, v206, v209⟩ w19 ⟨hS_, h0_, h1_, h2_, h3_, h4_, h5_, h6_⟩
              have n0_ : Aside0 (Kd.R k57 57 w19 w.heap.size (fun k_ => k_ ≠ gb198) v200 y199) := ⟨h0_⟩
              have n1_ : Aside0 (Kd.R (Kd.int .i64) 3 w19 w.heap.size (fun k_ => some k_ ≠ (v209 : Value).ownBlock) v206 y205) := ⟨h1_⟩
              have n2_ : Aside0 (Kd.R (Kd.int .i64) 3 w19 w.heap.size (fun k_ => some k_ ≠ (v206 : Value).ownBlock) v209 y208) := ⟨h2_⟩
              have n3_ : Aside0 (w19.heap[gb196]? = some (.cells #[.int .i64 0, .slice none 0 0, .slice none 0 0, .slice none 0 0] 26 (0, 0))) := ⟨h3_⟩
              have n4_ : Aside0 (w19.heap[gb197]? = some (.cells #[.int .i64 2, .int .i64 10] 55 (0, 0))) := ⟨h4_⟩
              have n5_ : Aside0 (w19.heap[gb198]? = some (.cells #[.int .i64 2, .int .i64 10, .int .i64 2, .int .i64 10, .bool false, .int .i64 0, .int .i64 0] 57 (0, 0))) := ⟨h5_⟩
              have n6_ : Aside0 (Below w.heap.size w w19) := ⟨h6_⟩
              clear BK196 BK197 BK198 HB h0_ h1_ h2_ h3_ h4_ h5_ h6_
              have HO201 := n0_
              have HO207 := n1_
              have HO210 := n2_
              have BK196 := n3_
              have BK197 := n4_
              have BK198 := n5_
              have HB := n6_
              clear n0_ n1_ n2_ n3_ n4_ n5_ n6_
              have hHeld : w19.cell? ⟨gb198, 0, none⟩ = some (.int .i64 2) ∧ w19.cell? ⟨gb198, 1, none⟩ = some (.int .i64 10) ∧ w19.cell? ⟨gb198, 2, none⟩ = some (.int .i64 2) ∧ w19.cell? ⟨gb198, 3, none⟩ = some (.int .i64 10) ∧ w19.cell? ⟨gb198, 4, none⟩ = some (.bool false) ∧ w19.cell? ⟨gb198, 5, none⟩ = some (.int .i64 0) ∧ w19.cell? ⟨gb198, 6, none⟩ = some (.int .i64 0) := hS_
              refine norm_ (a' := ?_) ?_ ?_
              rotate_left
              · simp only [putAll, Act.put, List.setIfInBounds_toArray, List.set_cons_zero, List.set_cons_succ]
                rfl
              refine one_ (i := 4) (N := some 12) pbAx11_13 rfl rfl (one_of HT_.out pmAx11_21_) pmAx11_19_ (fun K hK => ?_)
              refine Kd.R_make_step Kd.bool _ 4 (by rfl) (N := 12) rfl 23 _ _ rfl 3 rfl rfl Try.underlying23 (.bool false) 1 info4 rfl pmAx11_19_ pmAx11_23_ false (ok := fun _ => True) (okp := fun _ => True) rfl (fun _ hk => hk) trivial pmAx11_23_ pmAx11_23_ (Below.refl _ _) (Nat.le_refl _) ?_
              intro v203 w20 ho21 hb hg_ hnew_
              clear hg_ hnew_
              (first | rw [← Ny202.out] at ho21 | (simp only [Int.reduceToNat] at ho21; rw [← Ny202.out] at ho21))
              have n0_ := Aside0.mk (Kd.R_below pmAx11_9_ hb)
              have n1_ := Aside0.mk (Kd.R_below pmAx11_7_ hb)
              have n2_ := Aside0.mk (Kd.R_below pmAx11_8_ hb)
              have n3_ := Aside0.mk (Kd.R_lower ho21 (below_size pmAx11_0_))
              have n4_ := Aside0.mk (blk_below (g := gb196) (o := .cells #[.int .i64 0, .slice none 0 0, .slice none 0 0, .slice none 0 0] 26 (0, 0)) pmAx11_2_ hb)
              have n5_ := Aside0.mk (blk_below (g := gb197) (o := poAx11_0 2 10) pmAx11_4_ hb)
              have n6_ := Aside0.mk (blk_below (g := gb198) (o := poAx11_1 2 10 2 10 false 0 0) pmAx11_1_ hb)
              have n7_ := Aside0.mk (below_step pmAx11_0_ hb)
              clear HO201 HO207 HO210 BK196 BK197 BK198 HB
              have HO201 := n0_
              have HO207 := n1_
              have HO210 := n2_
              have HO204 := n3_
              have BK196 := n4_
              have BK197 := n5_
              have BK198 := n6_
              have HB := n7_
              clear n0_ n1_ n2_ n3_ n4_ n5_ n6_ n7_ hb ho21
              obtain ⟨Ao22, co22, eo22⟩ := Kd.R_slice HO207.out
              (first | subst eo22 | (injection eo22 with f1_ f2_ f3_; have f4_ := f1_.symm; have f5_ := f3_.symm; clear f1_ f2_ f3_; subst f4_; subst f5_))
              obtain ⟨Ao23, co23, eo23⟩ := Kd.R_slice HO204.out
              (first | subst eo23 | (injection eo23 with f1_ f2_ f3_; have f4_ := f1_.symm; have f5_ := f3_.symm; clear f1_ f2_ f3_; subst f4_; subst f5_))
              obtain ⟨Ao24, co24, eo24⟩ := Kd.R_slice HO201.out
              (first | subst eo24 | (injection eo24 with f1_ f2_ f3_; have f4_ := f1_.symm; have f5_ := f3_.symm; clear f1_ f2_ f3_; subst f4_; subst f5_))
              refine hK.out _ _ pmAx11_3_ (fun hHeld => ?_)
              clear hK K
              refine norm_ (a' := ?_) ?_ ?_
              rotate_left
              · show Act.put _ (some 12) _ = _
                simp only [Act.put, List.setIfInBounds_toArray, List.set_cons_zero, List.set_cons_succ, i64_w, i32_w]
                rfl
              refine pure_ (i := 6) (N := some 14) (v := ?_) (a' := ?_) pbAx11_1 rfl rfl (any_of HT_.out pmAx11_21_) (fun _ _ _ h => h) (Or.inl ⟨by rfl, ?_⟩) ?_ ?_
              rotate_left
              · intro w'
                go_simp
                with_reducible rfl
              rotate_left
              · simp only [Act.put, List.setIfInBounds_toArray, List.set_cons_zero, List.set_cons_succ, i64_w, i32_w]
                rfl
              exact norm_ pmAx11_5_ (hJ3_4_5_7 (.slice Ao24 y199.length co24, .slice Ao23 y202.length co23, .slice Ao22 y205.length co22, v209) _ ⟨hHeld, pmAx11_9_, pmAx11_6_, pmAx11_7_, pmAx11_8_, pmAx11_2_, pmAx11_4_, pmAx11_1_, pmAx11_0_⟩)
          · skip
            rintro ⟨v200, v203, v209⟩ w19 ⟨hS_, h0_, h1_, h2_, h3_, h4_, h5_, h6_⟩
            have n0_ : Aside0 (Kd.R k57 57 w19 w.heap.size (fun k_ => k_ ≠ gb198) v200 y199) := ⟨h0_⟩
            have n1_ : Aside0 (Kd.R Kd.bool 4 w19 w.heap.size (fun _ => True) v203 y202) := ⟨h1_⟩
            have n2_ : Aside0 (Kd.R (Kd.int .i64) 3 w19 w.heap.size (fun _ => True) v209 y208) := ⟨h2_⟩
            have n3_ : Aside0 (w19.heap[gb196]? = some (.cells #[.int .i64 0, .slice none 0 0, .slice none 0 0, .slice none 0 0] 26 (0, 0))) := ⟨h3_⟩
            have n4_ : Aside0 (w19.heap[gb197]? = some (.cells #[.int .i64 2, .int .i64 10] 55 (0, 0))) := ⟨h4_⟩
            have n5_ : Aside0 (w19.heap[gb198]? = some (.cells #[.int .i64 2, .int .i64 10, .int .i64 2, .int .i64 10, .bool false, .int .i64 0, .int .i64 0] 57 (0, 0))) := ⟨h5_⟩
            have n6_ : Aside0 (Below w.heap.size w w19) := ⟨h6_⟩
            clear BK196 BK197 BK198 HB h0_ h1_ h2_ h3_ h4_ h5_ h6_
            have HO201 := n0_
            have HO204 := n1_
            have HO210 := n2_
            have BK196 := n3_
            have BK197 := n4_
            have BK198 := n5_
            have HB := n6_
            clear n0_ n1_ n2_ n3_ n4_ n5_ n6_
            have hHeld : w19.cell? ⟨gb198, 0, none⟩ = some (.int .i64 2) ∧ w19.cell? ⟨gb198, 1, none⟩ = some (.int .i64 10) ∧ w19.cell? ⟨gb198, 2, none⟩ = some (.int .i64 2) ∧ w19.cell? ⟨gb198, 3, none⟩ = some (.int .i64 10) ∧ w19.cell? ⟨gb198, 4, none⟩ = some (.bool false) ∧ w19.cell? ⟨gb198, 5, none⟩ = some (.int .i64 0) ∧ w19.cell? ⟨gb198, 6, none⟩ = some (.int .i64 0) := hS_
            refine norm_ (a' := ?_) ?_ ?_
            rotate_left
            · simp only [putAll, Act.put, List.setIfInBounds_toArray, List.set_cons_zero, List.set_cons_succ]
              rfl
            refine one_ (i := 5) (N := some 13) pbAx11_13 rfl rfl (one_of HT_.out pmAx11_21_) pmAx11_19_ (fun K hK => ?_)
            refine Kd.R_make_step (Kd.int .i64) _ 3 (by rfl) (N := 13) rfl 24 _ _ rfl 3 rfl rfl Try.underlying24 (.int .i64 0) 8 info3 rfl pmAx11_19_ pmAx11_23_ 0 (ok := fun _ => True) (okp := fun _ => True) rfl (fun _ hk => hk) trivial pmAx11_23_ pmAx11_23_ (Below.refl _ _) (Nat.le_refl _) ?_
            intro v206 w20 ho21 hb hg_ hnew_
            clear hg_ hnew_
            (first | rw [← Ny205.out] at ho21 | (simp only [Int.reduceToNat] at ho21; rw [← Ny205.out] at ho21))
            have n0_ := Aside0.mk (Kd.R_below pmAx11_9_ hb)
            have n1_ := Aside0.mk (Kd.R_below pmAx11_6_ hb)
            have n2_ := Aside0.mk (Kd.R_elder' pmAx11_8_ (Kd.R_base ho21) hb)
            have n3_ := Aside0.mk (Kd.R_lower (Kd.R_new' ho21 (Kd.R_lt pmAx11_8_)) (below_size pmAx11_0_))
            have n4_ := Aside0.mk (blk_below (g := gb196) (o := .cells #[.int .i64 0, .slice none 0 0, .slice none 0 0, .slice none 0 0] 26 (0, 0)) pmAx11_2_ hb)
            have n5_ := Aside0.mk (blk_below (g := gb197) (o := poAx11_0 2 10) pmAx11_4_ hb)
            have n6_ := Aside0.mk (blk_below (g := gb198) (o := poAx11_1 2 10 2 10 false 0 0) pmAx11_1_ hb)
            have n7_ := Aside0.mk (below_step pmAx11_0_ hb)
            clear HO201 HO204 HO210 BK196 BK197 BK198 HB
            have HO201 := n0_
            have HO204 := n1_
            have HO210 := n2_
            have HO207 := n3_
            have BK196 := n4_
            have BK197 := n5_
            have BK198 := n6_
            have HB := n7_
            clear n0_ n1_ n2_ n3_ n4_ n5_ n6_ n7_ hb ho21
            obtain ⟨Ao22, co22, eo22⟩ := Kd.R_slice HO207.out
            (first | subst eo22 | (injection eo22 with f1_ f2_ f3_; have f4_ := f1_.symm; have f5_ := f3_.symm; clear f1_ f2_ f3_; subst f4_; subst f5_))
            obtain ⟨Ao23, co23, eo23⟩ := Kd.R_slice HO204.out
            (first | subst eo23 | (injection eo23 with f1_ f2_ f3_; have f4_ := f1_.symm; have f5_ := f3_.symm; clear f1_ f2_ f3_; subst f4_; subst f5_))
            obtain ⟨Ao24, co24, eo24⟩ := Kd.R_slice HO201.out
            (first | subst eo24 | (injection eo24 with f1_ f2_ f3_; have f4_ := f1_.symm; have f5_ := f3_.symm; clear f1_ f2_ f3_; subst f4_; subst f5_))
            refine hK.out _ _ pmAx11_3_ (fun hHeld => ?_)
            clear hK K
            refine norm_ (a' := ?_) ?_ ?_
            rotate_left
            · show Act.put _ (some 13) _ = _
              simp only [Act.put, List.setIfInBounds_toArray, List.set_cons_zero, List.set_cons_succ, i64_w, i32_w]
              rfl
            refine pure_ (i := 6) (N := some 14) (v := ?_) (a' := ?_) pbAx11_1 rfl rfl (any_of HT_.out pmAx11_21_) (fun _ _ _ h => h) (Or.inl ⟨by rfl, ?_⟩) ?_ ?_
            rotate_left
            · intro w'
              go_simp
              with_reducible rfl
            rotate_left
            · simp only [Act.put, List.setIfInBounds_toArray, List.set_cons_zero, List.set_cons_succ, i64_w, i32_w]
              rfl
            exact norm_ pmAx11_5_ (hJ3_4_5_7 (.slice Ao24 y199.length co24, .slice Ao23 y202.length co23, .slice Ao22 y205.length co22, v209) _ ⟨hHeld, pmAx11_9_, pmAx11_6_, pmAx11_11_, pmAx11_12_, pmAx11_2_, pmAx11_4_, pmAx11_1_, pmAx11_0_⟩)
        · skip
          rintro ⟨v200, v203, v206⟩ w22 ⟨hS_, h0_, h1_, h2_, h3_, h4_, h5_, h6_⟩
          have n0_ : Aside0 (Kd.R k57 57 w22 w.heap.size (fun k_ => k_ ≠ gb198) v200 y199) := ⟨h0_⟩
          have n1_ : Aside0 (Kd.R Kd.bool 4 w22 w.heap.size (fun _ => True) v203 y202) := ⟨h1_⟩
          have n2_ : Aside0 (Kd.R (Kd.int .i64) 3 w22 w.heap.size (fun _ => True) v206 y205) := ⟨h2_⟩
          have n3_ : Aside0 (w22.heap[gb196]? = some (.cells #[.int .i64 0, .slice none 0 0, .slice none 0 0, .slice none 0 0] 26 (0, 0))) := ⟨h3_⟩
          have n4_ : Aside0 (w22.heap[gb197]? = some (.cells #[.int .i64 2, .int .i64 10] 55 (0, 0))) := ⟨h4_⟩
          have n5_ : Aside0 (w22.heap[gb198]? = some (.cells #[.int .i64 2, .int .i64 10, .int .i64 2, .int .i64 10, .bool false, .int .i64 0, .int .i64 0] 57 (0, 0))) := ⟨h5_⟩
          have n6_ : Aside0 (Below w.heap.size w w22) := ⟨h6_⟩
          clear BK196 BK197 BK198 HB h0_ h1_ h2_ h3_ h4_ h5_ h6_
          have HO201 := n0_
          have HO204 := n1_
          have HO207 := n2_
          have BK196 := n3_
          have BK197 := n4_
          have BK198 := n5_
          have HB := n6_
          clear n0_ n1_ n2_ n3_ n4_ n5_ n6_
          have hHeld : w22.cell? ⟨gb198, 0, none⟩ = some (.int .i64 2) ∧ w22.cell? ⟨gb198, 1, none⟩ = some (.int .i64 10) ∧ w22.cell? ⟨gb198, 2, none⟩ = some (.int .i64 2) ∧ w22.cell? ⟨gb198, 3, none⟩ = some (.int .i64 10) ∧ w22.cell? ⟨gb198, 4, none⟩ = some (.bool false) ∧ w22.cell? ⟨gb198, 5, none⟩ = some (.int .i64 0) ∧ w22.cell? ⟨gb198, 6, none⟩ = some (.int .i64 0) := hS_
          obtain ⟨Ao23, co23, eo23⟩ := Kd.R_slice HO207.out
          (first | subst eo23 | (injection eo23 with f1_ f2_ f3_; have f4_ := f1_.symm; have f5_ := f3_.symm; clear f1_ f2_ f3_; subst f4_; subst f5_))
          obtain ⟨Ao24, co24, eo24⟩ := Kd.R_slice HO204.out
          (first | subst eo24 | (injection eo24 with f1_ f2_ f3_; have f4_ := f1_.symm; have f5_ := f3_.symm; clear f1_ f2_ f3_; subst f4_; subst f5_))
          obtain ⟨Ao25, co25, eo25⟩ := Kd.R_slice HO201.out
          (first | subst eo25 | (injection eo25 with f1_ f2_ f3_; have f4_ := f1_.symm; have f5_ := f3_.symm; clear f1_ f2_ f3_; subst f4_; subst f5_))
          refine norm_ (a' := ?_) ?_ ?_
          rotate_left
          · simp only [putAll, Act.put, List.setIfInBounds_toArray, List.set_cons_zero, List.set_cons_succ]
            rfl
          refine two_ (i := 7) (j := 8) (Ni := some 15) (Nj := none) pbAx11_1 #[true, true, true, true, true, true, true, false, true, false] rfl rfl rfl rfl (two_of HT_.out pmAx11_21_) pmAx11_19_ pmAx11_19_ (fun K hK => ?_) (fun K hK => ?_)
          · skip
            refine Kd.R_lit_step (Kd.int .i64) _ 3 ?hg (N := 15) ?hd (xs := ([10, 10, 10] : List Int)) (inner := [.int .i64 10, .int .i64 10, .int .i64 10]) (ok := fun _ => True) (okp := fun _ => True) ?hr ?hp (fun _ hk => hk) trivial (Below.refl _ _) (Nat.le_refl _) (by simp) ?_; (case hd => rfl); (case hg => rfl); (case hr => first | (go_simp; done) | (go_simp; rfl)); (case hp => exact (Reps.one (show Kd.M (Kd.int .i64) _ _ _ 10 [.int .i64 10] from rfl) (Reps.one (show Kd.M (Kd.int .i64) _ _ _ 10 [.int .i64 10] from rfl) (Reps.one (show Kd.M (Kd.int .i64) _ _ _ 10 [.int .i64 10] from rfl) (Reps.none _ _)))))
            intro v209 w26 ho27 hb hg_ hnew_
            clear hg_ hnew_
            (first | rw [← Ny208.out] at ho27 | (simp only [Int.reduceToNat] at ho27; rw [← Ny208.out] at ho27))
            have n0_ := Aside0.mk (Kd.R_below pmAx11_9_ hb)
            have n1_ := Aside0.mk (Kd.R_below pmAx11_6_ hb)
            have n2_ := Aside0.mk (Kd.R_elder' pmAx11_7_ (Kd.R_base ho27) hb)
            have n3_ := Aside0.mk (Kd.R_lower (Kd.R_new' ho27 (Kd.R_lt pmAx11_7_)) (below_size pmAx11_0_))
            have n4_ := Aside0.mk (blk_below (g := gb196) (o := .cells #[.int .i64 0, .slice none 0 0, .slice none 0 0, .slice none 0 0] 26 (0, 0)) pmAx11_2_ hb)
            have n5_ := Aside0.mk (blk_below (g := gb197) (o := poAx11_0 2 10) pmAx11_4_ hb)
            have n6_ := Aside0.mk (blk_below (g := gb198) (o := poAx11_1 2 10 2 10 false 0 0) pmAx11_1_ hb)
            have n7_ := Aside0.mk (below_step pmAx11_0_ hb)
            clear HO201 HO204 HO207 BK196 BK197 BK198 HB
            have HO201 := n0_
            have HO204 := n1_
            have HO207 := n2_
            have HO210 := n3_
            have BK196 := n4_
            have BK197 := n5_
            have BK198 := n6_
            have HB := n7_
            clear n0_ n1_ n2_ n3_ n4_ n5_ n6_ n7_ hb ho27
            refine hK.out _ _ pmAx11_3_ (fun hHeld => ?_)
            clear hK K
            refine norm_ (a' := ?_) ?_ ?_
            rotate_left
            · show Act.put _ (some 15) _ = _
              simp only [Act.put, List.setIfInBounds_toArray, List.set_cons_zero, List.set_cons_succ, i64_w, i32_w]
              rfl
            exact norm_ pmAx11_5_ (hJ3_4_5_7 (.slice Ao25 y199.length co25, .slice Ao24 y202.length co24, .slice Ao23 y205.length co23, v209) _ ⟨hHeld, pmAx11_9_, pmAx11_6_, pmAx11_11_, pmAx11_12_, pmAx11_2_, pmAx11_4_, pmAx11_1_, pmAx11_0_⟩)
          · skip
            have hs26 : w22.cell? ⟨gb196, 0, none⟩ = some (.int .i64 0) := (blk_cell BK196.out 0).trans rfl
            have hfs26 := blk_frozen BK196.out 0
            have hns26_1 := NB197_196.out
            have hns26_2 := NB198_196.out
            have hms26_1 := NB196_197.out
            have hms26_2 := NB196_198.out
            have hs27 : w22.cell? ⟨gb196, 1, none⟩ = some (.slice none 0 0) := (blk_cell BK196.out 1).trans rfl
            have hfs27 := blk_frozen BK196.out 1
            have hns27_1 := NB197_196.out
            have hns27_2 := NB198_196.out
            have hms27_1 := NB196_197.out
            have hms27_2 := NB196_198.out
            have hs28 : w22.cell? ⟨gb196, 2, none⟩ = some (.slice none 0 0) := (blk_cell BK196.out 2).trans rfl
            have hfs28 := blk_frozen BK196.out 2
            have hns28_1 := NB197_196.out
            have hns28_2 := NB198_196.out
            have hms28_1 := NB196_197.out
            have hms28_2 := NB196_198.out
            have hs29 : w22.cell? ⟨gb196, 3, none⟩ = some (.slice none 0 0) := (blk_cell BK196.out 3).trans rfl
            have hfs29 := blk_frozen BK196.out 3
            have hns29_1 := NB197_196.out
            have hns29_2 := NB198_196.out
            have hms29_1 := NB196_197.out
            have hms29_2 := NB196_198.out
            refine skip_ (w1 := ?_) (by rfl) rfl ?_ ?_
            rotate_left
            · go_simp
              rfl
            refine hK.out _ _ pmAx11_10_ (fun hHeld => ?_)
            clear hK K
            exact norm_ pmAx11_5_ (hJ3_4_5_8 (.slice Ao25 y199.length co25, .slice Ao24 y202.length co24, .slice Ao23 y205.length co23) _ ⟨hHeld, (by (with_reducible repeat (first | apply Kd.R_alloc | apply Kd.R_drewN | apply Kd.R_drew)); exact Kd.R_mono (Kd.R_far (p := ⟨gb196, 3, none⟩) (Kd.R_far (p := ⟨gb196, 2, none⟩) (Kd.R_far (p := ⟨gb196, 1, none⟩) (Kd.R_far (p := ⟨gb196, 0, none⟩) (Kd.R_types HO201.out BK196.out pmAx11_19_) (fun _ hk => hk.2) (.int .i64 0)) (fun _ hk => hk.2) (.slice Ao25 y199.length co25)) (fun _ hk => hk.2) (.slice Ao24 y202.length co24)) (fun _ hk => hk.2) (.slice Ao23 y205.length co23)) (fun _ hk => hk.1)), (by (with_reducible repeat (first | apply Kd.R_alloc | apply Kd.R_drewN | apply Kd.R_drew)); exact Kd.R_mono (Kd.R_far (p := ⟨gb196, 3, none⟩) (Kd.R_far (p := ⟨gb196, 2, none⟩) (Kd.R_far (p := ⟨gb196, 1, none⟩) (Kd.R_far (p := ⟨gb196, 0, none⟩) (Kd.R_types HO204.out BK196.out pmAx11_19_) (fun _ hk => hk.2) (.int .i64 0)) (fun _ hk => hk.2) (.slice Ao25 y199.length co25)) (fun _ hk => hk.2) (.slice Ao24 y202.length co24)) (fun _ hk => hk.2) (.slice Ao23 y205.length co23)) (fun _ hk => trivial)), (by (with_reducible repeat (first | apply Kd.R_alloc | apply Kd.R_drewN | apply Kd.R_drew)); exact Kd.R_mono (Kd.R_far (p := ⟨gb196, 3, none⟩) (Kd.R_far (p := ⟨gb196, 2, none⟩) (Kd.R_far (p := ⟨gb196, 1, none⟩) (Kd.R_far (p := ⟨gb196, 0, none⟩) (Kd.R_types HO207.out BK196.out pmAx11_19_) (fun _ hk => hk.2) (.int .i64 0)) (fun _ hk => hk.2) (.slice Ao25 y199.length co25)) (fun _ hk => hk.2) (.slice Ao24 y202.length co24)) (fun _ hk => hk.2) (.slice Ao23 y205.length co23)) (fun _ hk => trivial)), (by (with_reducible repeat (first | refine blk_drewN ?_ _ | refine blk_drew ?_ | refine blk_alloc ?_ _)); refine blk_put (cs := #[.int .i64 0, .slice Ao25 y199.length co25, .slice Ao24 y202.length co24, .slice none 0 0]) ?_ 3 _ rfl; (with_reducible repeat (first | refine blk_drewN ?_ _ | refine blk_drew ?_ | refine blk_alloc ?_ _)); refine blk_put (cs := #[.int .i64 0, .slice Ao25 y199.length co25, .slice none 0 0, .slice none 0 0]) ?_ 2 _ rfl; (with_reducible repeat (first | refine blk_drewN ?_ _ | refine blk_drew ?_ | refine blk_alloc ?_ _)); refine blk_put (cs := #[.int .i64 0, .slice none 0 0, .slice none 0 0, .slice none 0 0]) ?_ 1 _ rfl; (with_reducible repeat (first | refine blk_drewN ?_ _ | refine blk_drew ?_ | refine blk_alloc ?_ _)); refine blk_put (cs := #[.int .i64 0, .slice none 0 0, .slice none 0 0, .slice none 0 0]) ?_ 0 _ rfl; (with_reducible repeat (first | refine blk_drewN ?_ _ | refine blk_drew ?_ | refine blk_alloc ?_ _)); exact BK196.out), pmAx11_16_, pmAx11_17_, pmAx11_0_⟩)
      · skip
        rintro ⟨v200, v203, v206⟩ w26 ⟨hS_, h0_, h1_, h2_, h3_, h4_, h5_, h6_⟩
        have n0_ : Aside0 (Kd.R k57 57 w26 w.heap.size (fun k_ => k_ ≠ gb198) v200 y199) := ⟨h0_⟩
        have n1_ : Aside0 (Kd.R Kd.bool 4 w26 w.heap.size (fun _ => True) v203 y202) := ⟨h1_⟩
        have n2_ : Aside0 (Kd.R (Kd.int .i64) 3 w26 w.heap.size (fun _ => True) v206 y205) := ⟨h2_⟩
        have n3_ : Aside0 (w26.heap[gb196]? = some (.cells #[.int .i64 0, v200, v203, v206] 26 (0, 0))) := ⟨h3_⟩
        have n4_ : Aside0 (w26.heap[gb197]? = some (.cells #[.int .i64 2, .int .i64 10] 55 (0, 0))) := ⟨h4_⟩
        have n5_ : Aside0 (w26.heap[gb198]? = some (.cells #[.int .i64 2, .int .i64 10, .int .i64 2, .int .i64 10, .bool false, .int .i64 0, .int .i64 0] 57 (0, 0))) := ⟨h5_⟩
        have n6_ : Aside0 (Below w.heap.size w w26) := ⟨h6_⟩
        clear BK196 BK197 BK198 HB h0_ h1_ h2_ h3_ h4_ h5_ h6_
        have HO201 := n0_
        have HO204 := n1_
        have HO207 := n2_
        have BK196 := n3_
        have BK197 := n4_
        have BK198 := n5_
        have HB := n6_
        clear n0_ n1_ n2_ n3_ n4_ n5_ n6_
        have hHeld : w26.cell? ⟨gb198, 0, none⟩ = some (.int .i64 2) ∧ w26.cell? ⟨gb198, 1, none⟩ = some (.int .i64 10) ∧ w26.cell? ⟨gb198, 2, none⟩ = some (.int .i64 2) ∧ w26.cell? ⟨gb198, 3, none⟩ = some (.int .i64 10) ∧ w26.cell? ⟨gb198, 4, none⟩ = some (.bool false) ∧ w26.cell? ⟨gb198, 5, none⟩ = some (.int .i64 0) ∧ w26.cell? ⟨gb198, 6, none⟩ = some (.int .i64 0) := hS_
        obtain ⟨Ao27, co27, eo27⟩ := Kd.R_slice HO207.out
        (first | subst eo27 | (injection eo27 with f1_ f2_ f3_; have f4_ := f1_.symm; have f5_ := f3_.symm; clear f1_ f2_ f3_; subst f4_; subst f5_))
        obtain ⟨Ao28, co28, eo28⟩ := Kd.R_slice HO204.out
        (first | subst eo28 | (injection eo28 with f1_ f2_ f3_; have f4_ := f1_.symm; have f5_ := f3_.symm; clear f1_ f2_ f3_; subst f4_; subst f5_))
        obtain ⟨Ao29, co29, eo29⟩ := Kd.R_slice HO201.out
        (first | subst eo29 | (injection eo29 with f1_ f2_ f3_; have f4_ := f1_.symm; have f5_ := f3_.symm; clear f1_ f2_ f3_; subst f4_; subst f5_))
        refine norm_ (a' := ?_) ?_ ?_
        rotate_left
        · simp only [putAll, Act.put, List.setIfInBounds_toArray, List.set_cons_zero, List.set_cons_succ]
          rfl
        refine one_ (i := 7) (N := some 15) pbAx11_0 rfl rfl (one_of HT_.out pmAx11_21_) pmAx11_19_ (fun K hK => ?_)
        refine Kd.R_lit_step (Kd.int .i64) _ 3 ?hg (N := 15) ?hd (xs := ([10, 10, 10] : List Int)) (inner := [.int .i64 10, .int .i64 10, .int .i64 10]) (ok := fun _ => True) (okp := fun _ => True) ?hr ?hp (fun _ hk => hk) trivial (Below.refl _ _) (Nat.le_refl _) (by simp) ?_; (case hd => rfl); (case hg => rfl); (case hr => first | (go_simp; done) | (go_simp; rfl)); (case hp => exact (Reps.one (show Kd.M (Kd.int .i64) _ _ _ 10 [.int .i64 10] from rfl) (Reps.one (show Kd.M (Kd.int .i64) _ _ _ 10 [.int .i64 10] from rfl) (Reps.one (show Kd.M (Kd.int .i64) _ _ _ 10 [.int .i64 10] from rfl) (Reps.none _ _)))))
        intro v209 w30 ho31 hb hg_ hnew_
        clear hg_ hnew_
        (first | rw [← Ny208.out] at ho31 | (simp only [Int.reduceToNat] at ho31; rw [← Ny208.out] at ho31))
        have n0_ := Aside0.mk (Kd.R_below pmAx11_9_ hb)
        have n1_ := Aside0.mk (Kd.R_below pmAx11_6_ hb)
        have n2_ := Aside0.mk (Kd.R_elder' pmAx11_7_ (Kd.R_base ho31) hb)
        have n3_ := Aside0.mk (Kd.R_lower (Kd.R_new' ho31 (Kd.R_lt pmAx11_7_)) (below_size pmAx11_0_))
        have n4_ := Aside0.mk (blk_below (g := gb196) (o := .cells #[.int .i64 0, .slice Ao29 y199.length co29, .slice Ao28 y202.length co28, .slice Ao27 y205.length co27] 26 (0, 0)) pmAx11_2_ hb)
        have n5_ := Aside0.mk (blk_below (g := gb197) (o := poAx11_0 2 10) pmAx11_4_ hb)
        have n6_ := Aside0.mk (blk_below (g := gb198) (o := poAx11_1 2 10 2 10 false 0 0) pmAx11_1_ hb)
        have n7_ := Aside0.mk (below_step pmAx11_0_ hb)
        clear HO201 HO204 HO207 BK196 BK197 BK198 HB
        have HO201 := n0_
        have HO204 := n1_
        have HO207 := n2_
        have HO210 := n3_
        have BK196 := n4_
        have BK197 := n5_
        have BK198 := n6_
        have HB := n7_
        clear n0_ n1_ n2_ n3_ n4_ n5_ n6_ n7_ hb ho31
        refine hK.out _ _ pmAx11_3_ (fun hHeld => ?_)
        clear hK K
        refine norm_ (a' := ?_) ?_ ?_
        rotate_left
        · show Act.put _ (some 15) _ = _
          simp only [Act.put, List.setIfInBounds_toArray, List.set_cons_zero, List.set_cons_succ, i64_w, i32_w]
          rfl
        exact norm_ pmAx11_5_ (hJ3_4_5_7_8 (.slice Ao29 y199.length co29, .slice Ao28 y202.length co28, .slice Ao27 y205.length co27, v209) _ ⟨hHeld, pmAx11_9_, pmAx11_6_, pmAx11_11_, pmAx11_12_, pmAx11_2_, pmAx11_4_, pmAx11_1_, pmAx11_0_⟩)
    · skip
      rintro ⟨v200, v203, v206, v209⟩ w24 ⟨hS_, h0_, h1_, h2_, h3_, h4_, h5_, h6_, h7_⟩
      have n0_ : Aside0 (Kd.R k57 57 w24 w.heap.size (fun k_ => k_ ≠ gb198) v200 y199) := ⟨h0_⟩
      have n1_ : Aside0 (Kd.R Kd.bool 4 w24 w.heap.size (fun _ => True) v203 y202) := ⟨h1_⟩
      have n2_ : Aside0 (Kd.R (Kd.int .i64) 3 w24 w.heap.size (fun k_ => some k_ ≠ (v209 : Value).ownBlock) v206 y205) := ⟨h2_⟩
      have n3_ : Aside0 (Kd.R (Kd.int .i64) 3 w24 w.heap.size (fun k_ => some k_ ≠ (v206 : Value).ownBlock) v209 y208) := ⟨h3_⟩
      have n4_ : Aside0 (w24.heap[gb196]? = some (.cells #[.int .i64 0, .slice none 0 0, .slice none 0 0, .slice none 0 0] 26 (0, 0))) := ⟨h4_⟩
      have n5_ : Aside0 (w24.heap[gb197]? = some (.cells #[.int .i64 2, .int .i64 10] 55 (0, 0))) := ⟨h5_⟩
      have n6_ : Aside0 (w24.heap[gb198]? = some (.cells #[.int .i64 2, .int .i64 10, .int .i64 2, .int .i64 10, .bool false, .int .i64 0, .int .i64 0] 57 (0, 0))) := ⟨h6_⟩
      have n7_ : Aside0 (Below w.heap.size w w24) := ⟨h7_⟩
      clear BK196 BK197 BK198 HB h0_ h1_ h2_ h3_ h4_ h5_ h6_ h7_
      have HO201 := n0_
      have HO204 := n1_
      have HO207 := n2_
      have HO210 := n3_
      have BK196 := n4_
      have BK197 := n5_
      have BK198 := n6_
      have HB := n7_
      clear n0_ n1_ n2_ n3_ n4_ n5_ n6_ n7_
      have hHeld : w24.cell? ⟨gb198, 0, none⟩ = some (.int .i64 2) ∧ w24.cell? ⟨gb198, 1, none⟩ = some (.int .i64 10) ∧ w24.cell? ⟨gb198, 2, none⟩ = some (.int .i64 2) ∧ w24.cell? ⟨gb198, 3, none⟩ = some (.int .i64 10) ∧ w24.cell? ⟨gb198, 4, none⟩ = some (.bool false) ∧ w24.cell? ⟨gb198, 5, none⟩ = some (.int .i64 0) ∧ w24.cell? ⟨gb198, 6, none⟩ = some (.int .i64 0) := hS_
      obtain ⟨Ao25, co25, eo25⟩ := Kd.R_slice HO207.out
      (first | subst eo25 | (injection eo25 with f1_ f2_ f3_; have f4_ := f1_.symm; have f5_ := f3_.symm; clear f1_ f2_ f3_; subst f4_; subst f5_))
      obtain ⟨Ao26, co26, eo26⟩ := Kd.R_slice HO204.out
      (first | subst eo26 | (injection eo26 with f1_ f2_ f3_; have f4_ := f1_.symm; have f5_ := f3_.symm; clear f1_ f2_ f3_; subst f4_; subst f5_))
      obtain ⟨Ao27, co27, eo27⟩ := Kd.R_slice HO201.out
      (first | subst eo27 | (injection eo27 with f1_ f2_ f3_; have f4_ := f1_.symm; have f5_ := f3_.symm; clear f1_ f2_ f3_; subst f4_; subst f5_))
      refine norm_ (a' := ?_) ?_ ?_
      rotate_left
      · simp only [putAll, Act.put, List.setIfInBounds_toArray, List.set_cons_zero, List.set_cons_succ]
        rfl
      refine one_ (i := 8) (N := none) pbAx11_0 rfl rfl (one_of HT_.out pmAx11_21_) pmAx11_19_ (fun K hK => ?_)
      have hs28 : w24.cell? ⟨gb196, 0, none⟩ = some (.int .i64 0) := (blk_cell BK196.out 0).trans rfl
      have hfs28 := blk_frozen BK196.out 0
      have hns28_1 := NB197_196.out
      have hns28_2 := NB198_196.out
      have hms28_1 := NB196_197.out
      have hms28_2 := NB196_198.out
      have hs29 : w24.cell? ⟨gb196, 1, none⟩ = some (.slice none 0 0) := (blk_cell BK196.out 1).trans rfl
      have hfs29 := blk_frozen BK196.out 1
      have hns29_1 := NB197_196.out
      have hns29_2 := NB198_196.out
      have hms29_1 := NB196_197.out
      have hms29_2 := NB196_198.out
      have hs30 : w24.cell? ⟨gb196, 2, none⟩ = some (.slice none 0 0) := (blk_cell BK196.out 2).trans rfl
      have hfs30 := blk_frozen BK196.out 2
      have hns30_1 := NB197_196.out
      have hns30_2 := NB198_196.out
      have hms30_1 := NB196_197.out
      have hms30_2 := NB196_198.out
      have hs31 : w24.cell? ⟨gb196, 3, none⟩ = some (.slice none 0 0) := (blk_cell BK196.out 3).trans rfl
      have hfs31 := blk_frozen BK196.out 3
      have hns31_1 := NB197_196.out
      have hns31_2 := NB198_196.out
      have hms31_1 := NB196_197.out
      have hms31_2 := NB196_198.out
      refine skip_ (w1 := ?_) (by rfl) rfl ?_ ?_
      rotate_left
      · go_simp
        rfl
      refine hK.out _ _ pmAx11_10_ (fun hHeld => ?_)
      clear hK K
      exact norm_ pmAx11_5_ (hJ3_4_5_7_8 (.slice Ao27 y199.length co27, .slice Ao26 y202.length co26, .slice Ao25 y205.length co25, v209) _ ⟨hHeld, (by (with_reducible repeat (first | apply Kd.R_alloc | apply Kd.R_drewN | apply Kd.R_drew)); exact Kd.R_mono (Kd.R_far (p := ⟨gb196, 3, none⟩) (Kd.R_far (p := ⟨gb196, 2, none⟩) (Kd.R_far (p := ⟨gb196, 1, none⟩) (Kd.R_far (p := ⟨gb196, 0, none⟩) (Kd.R_types HO201.out BK196.out pmAx11_19_) (fun _ hk => hk.2) (.int .i64 0)) (fun _ hk => hk.2) (.slice Ao27 y199.length co27)) (fun _ hk => hk.2) (.slice Ao26 y202.length co26)) (fun _ hk => hk.2) (.slice Ao25 y205.length co25)) (fun _ hk => hk.1)), (by (with_reducible repeat (first | apply Kd.R_alloc | apply Kd.R_drewN | apply Kd.R_drew)); exact Kd.R_mono (Kd.R_far (p := ⟨gb196, 3, none⟩) (Kd.R_far (p := ⟨gb196, 2, none⟩) (Kd.R_far (p := ⟨gb196, 1, none⟩) (Kd.R_far (p := ⟨gb196, 0, none⟩) (Kd.R_types HO204.out BK196.out pmAx11_19_) (fun _ hk => hk.2) (.int .i64 0)) (fun _ hk => hk.2) (.slice Ao27 y199.length co27)) (fun _ hk => hk.2) (.slice Ao26 y202.length co26)) (fun _ hk => hk.2) (.slice Ao25 y205.length co25)) (fun _ hk => trivial)), (by (with_reducible repeat (first | apply Kd.R_alloc | apply Kd.R_drewN | apply Kd.R_drew)); exact Kd.R_mono (Kd.R_far (p := ⟨gb196, 3, none⟩) (Kd.R_far (p := ⟨gb196, 2, none⟩) (Kd.R_far (p := ⟨gb196, 1, none⟩) (Kd.R_far (p := ⟨gb196, 0, none⟩) (Kd.R_types HO207.out BK196.out pmAx11_19_) (fun _ hk => hk.2) (.int .i64 0)) (fun _ hk => hk.2) (.slice Ao27 y199.length co27)) (fun _ hk => hk.2) (.slice Ao26 y202.length co26)) (fun _ hk => hk.2) (.slice Ao25 y205.length co25)) (fun _ hk => hk.1)), (by (with_reducible repeat (first | apply Kd.R_alloc | apply Kd.R_drewN | apply Kd.R_drew)); exact Kd.R_mono (Kd.R_far (p := ⟨gb196, 3, none⟩) (Kd.R_far (p := ⟨gb196, 2, none⟩) (Kd.R_far (p := ⟨gb196, 1, none⟩) (Kd.R_far (p := ⟨gb196, 0, none⟩) (Kd.R_types HO210.out BK196.out pmAx11_19_) (fun _ hk => hk.2) (.int .i64 0)) (fun _ hk => hk.2) (.slice Ao27 y199.length co27)) (fun _ hk => hk.2) (.slice Ao26 y202.length co26)) (fun _ hk => hk.2) (.slice Ao25 y205.length co25)) (fun _ hk => hk.1)), (by (with_reducible repeat (first | refine blk_drewN ?_ _ | refine blk_drew ?_ | refine blk_alloc ?_ _)); refine blk_put (cs := #[.int .i64 0, .slice Ao27 y199.length co27, .slice Ao26 y202.length co26, .slice none 0 0]) ?_ 3 _ rfl; (with_reducible repeat (first | refine blk_drewN ?_ _ | refine blk_drew ?_ | refine blk_alloc ?_ _)); refine blk_put (cs := #[.int .i64 0, .slice Ao27 y199.length co27, .slice none 0 0, .slice none 0 0]) ?_ 2 _ rfl; (with_reducible repeat (first | refine blk_drewN ?_ _ | refine blk_drew ?_ | refine blk_alloc ?_ _)); refine blk_put (cs := #[.int .i64 0, .slice none 0 0, .slice none 0 0, .slice none 0 0]) ?_ 1 _ rfl; (with_reducible repeat (first | refine blk_drewN ?_ _ | refine blk_drew ?_ | refine blk_alloc ?_ _)); refine blk_put (cs := #[.int .i64 0, .slice none 0 0, .slice none 0 0, .slice none 0 0]) ?_ 0 _ rfl; (with_reducible repeat (first | refine blk_drewN ?_ _ | refine blk_drew ?_ | refine blk_alloc ?_ _)); exact BK196.out), pmAx11_16_, pmAx11_17_, pmAx11_0_⟩)
  rintro ⟨v200, v203, v206, v209⟩ w28 ⟨hS_, h0_, h1_, h2_, h3_, h4_, h5_, h6_, h7_⟩
  have n0_ : Aside0 (Kd.R k57 57 w28 w.heap.size (fun k_ => k_ ≠ gb198) v200 y199) := ⟨h0_⟩
  have n1_ : Aside0 (Kd.R Kd.bool 4 w28 w.heap.size (fun _ => True) v203 y202) := ⟨h1_⟩
  have n2_ : Aside0 (Kd.R (Kd.int .i64) 3 w28 w.heap.size (fun k_ => some k_ ≠ (v209 : Value).ownBlock) v206 y205) := ⟨h2_⟩
  have n3_ : Aside0 (Kd.R (Kd.int .i64) 3 w28 w.heap.size (fun k_ => some k_ ≠ (v206 : Value).ownBlock) v209 y208) := ⟨h3_⟩
  have n4_ : Aside0 (w28.heap[gb196]? = some (.cells #[.int .i64 0, v200, v203, v206] 26 (0, 0))) := ⟨h4_⟩
  have n5_ : Aside0 (w28.heap[gb197]? = some (.cells #[.int .i64 2, .int .i64 10] 55 (0, 0))) := ⟨h5_⟩
  have n6_ : Aside0 (w28.heap[gb198]? = some (.cells #[.int .i64 2, .int .i64 10, .int .i64 2, .int .i64 10, .bool false, .int .i64 0, .int .i64 0] 57 (0, 0))) := ⟨h6_⟩
  have n7_ : Aside0 (Below w.heap.size w w28) := ⟨h7_⟩
  clear BK196 BK197 BK198 HB h0_ h1_ h2_ h3_ h4_ h5_ h6_ h7_
  have HO201 := n0_
  have HO204 := n1_
  have HO207 := n2_
  have HO210 := n3_
  have BK196 := n4_
  have BK197 := n5_
  have BK198 := n6_
  have HB := n7_
  clear n0_ n1_ n2_ n3_ n4_ n5_ n6_ n7_
  have hHeld : w28.cell? ⟨gb198, 0, none⟩ = some (.int .i64 2) ∧ w28.cell? ⟨gb198, 1, none⟩ = some (.int .i64 10) ∧ w28.cell? ⟨gb198, 2, none⟩ = some (.int .i64 2) ∧ w28.cell? ⟨gb198, 3, none⟩ = some (.int .i64 10) ∧ w28.cell? ⟨gb198, 4, none⟩ = some (.bool false) ∧ w28.cell? ⟨gb198, 5, none⟩ = some (.int .i64 0) ∧ w28.cell? ⟨gb198, 6, none⟩ = some (.int .i64 0) := hS_
  obtain ⟨Ao29, co29, eo29⟩ := Kd.R_slice HO207.out
  (first | subst eo29 | (injection eo29 with f1_ f2_ f3_; have f4_ := f1_.symm; have f5_ := f3_.symm; clear f1_ f2_ f3_; subst f4_; subst f5_))
  obtain ⟨Ao30, co30, eo30⟩ := Kd.R_slice HO204.out
  (first | subst eo30 | (injection eo30 with f1_ f2_ f3_; have f4_ := f1_.symm; have f5_ := f3_.symm; clear f1_ f2_ f3_; subst f4_; subst f5_))
  obtain ⟨Ao31, co31, eo31⟩ := Kd.R_slice HO201.out
  (first | subst eo31 | (injection eo31 with f1_ f2_ f3_; have f4_ := f1_.symm; have f5_ := f3_.symm; clear f1_ f2_ f3_; subst f4_; subst f5_))
  refine norm_ (a' := ?_) ?_ ?_
  rotate_left
  · simp only [putAll, Act.put, List.setIfInBounds_toArray, List.set_cons_zero, List.set_cons_succ]
    rfl
  refine pure_ (i := 9) (N := some 1) (v := ?_) (a' := ?_) #[true, true, true, true, true, true, true, true, true, true] rfl rfl (any_of HT_.out pmAx11_21_) (fun _ _ _ h => h) (Or.inl ⟨by rfl, ?_⟩) ?_ ?_
  rotate_left
  · intro w'
    go_simp
    with_reducible rfl
  rotate_left
  · simp only [Act.put, List.setIfInBounds_toArray, List.set_cons_zero, List.set_cons_succ, i64_w, i32_w]
    rfl
  refine done_ (done_of HT_.out pmAx11_21_) ?_
  try go_wp2
  refine bodyPost_ret (results_ct rfl _ _ gb196 26 #[.int .i64 0, .slice Ao31 y199.length co31, .slice Ao30 y202.length co30, .slice Ao29 y205.length co29] (0, 0) _ rfl pmAx11_2_ Try.underlying26 rfl pmAx11_21_) rfl ?_
  exact ⟨_, _, _, _, by first | rfl | (simp [errW_none, errW_some] <;> rfl) | (simp [*, errW_none, errW_some] <;> rfl), by (with_reducible repeat (first | apply Kd.R_alloc | apply Kd.R_drewN | apply Kd.R_drew)); exact Kd.R_mono HO201.out (fun _ hk => trivial), by (with_reducible repeat (first | apply Kd.R_alloc | apply Kd.R_drewN | apply Kd.R_drew)); exact HO204.out, by (with_reducible repeat (first | apply Kd.R_alloc | apply Kd.R_drewN | apply Kd.R_drew)); exact HO207.out, by (with_reducible repeat (first | apply Kd.R_alloc | apply Kd.R_drewN | apply Kd.R_drew)); exact HO210.out, by repeat (first | (with_reducible first | exact HB.out | apply below_alloc | apply pw_below_drewN | apply below_drew1 | refine below_set ?_ GE196.out | refine below_set ?_ GE197.out | refine below_set ?_ GE198.out) | exact HB.out)⟩
end Go.Proofs.Ytbkohlhonhmhmaa.PA
