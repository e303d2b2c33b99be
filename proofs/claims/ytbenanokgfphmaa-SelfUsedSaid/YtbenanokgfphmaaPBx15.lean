-- written by a program of this session (a print of the translation with changes of its own)
import Derived.Test.YtbenanokgfphmaaPBx0
import Derived.Test.YtbenanokgfphmaaPBx5
import Derived.Test.YtbenanokgfphmaaPBx11
import Derived.Test.YtbenanokgfphmaaPBx12
import Derived.Test.YtbenanokgfphmaaPBx13
import Derived.Test.YtbenanokgfphmaaPBx14
namespace Go.Proofs.Ytbenanokgfphmaa.PB
open Go.RowKit Go.Proofs.YtbenanokgfphmaaW.PrintWords Go.Proofs.YtbenanokgfphmaaW.PrintLast Go.Proofs.YtbenanokgfphmaaW.PrintMore
theorem pmBx15_0_ {P : Prop} (h : P := by (with_reducible repeat (first | refine blk_drewN ?_ _ | refine blk_drew ?_ | refine blk_alloc ?_ _)); exact BK291.out) : P := h
theorem pmBx15_1_ {P : Prop} (h : P := by (with_reducible repeat (first | refine blk_drewN ?_ _ | refine blk_drew ?_ | refine blk_alloc ?_ _)); exact BK292.out) : P := h
theorem pmBx15_2_ {P : Prop} (h : P := by repeat (first | (with_reducible first | exact HB.out | apply below_alloc | apply pw_below_drewN | apply below_drew1 | refine below_set ?_ GE291.out | refine below_set ?_ GE292.out | refine below_set ?_ GE293.out | refine below_set ?_ GE294.out) | exact HB.out)) : P := h
theorem pmBx15_3_ {P : Prop} (h : P := by (with_reducible repeat (first | refine blk_drewN ?_ _ | refine blk_drew ?_ | refine blk_alloc ?_ _)); exact BK293.out) : P := h
theorem pmBx15_4_ {P : Prop} (h : P := by repeat (first | (with_reducible first | exact HB.out | apply below_alloc | apply pw_below_drewN | apply below_drew1 | refine below_set ?_ GE291.out | refine below_set ?_ GE292.out | refine below_set ?_ GE293.out) | exact HB.out)) : P := h
theorem pmBx15_5_ {P : Prop} (h : P := by repeat (first | (with_reducible first | exact HB.out | apply below_alloc | apply pw_below_drewN | apply below_drew1 | refine below_set ?_ GE291.out | refine below_set ?_ GE292.out) | exact HB.out)) : P := h
theorem pmBx15_6_ {P : Prop} (h : P := by rw [hg]; exact Nat.ne_of_lt (blk_lt (g := gb291) (o := .cells #[.int .i64 a0_0, .int .i64 a0_1, .int .i64 a0_2, .int .i64 a0_3, .int .i64 a0_4, .int .i64 a0_5] 56 (0, 0)) pmBx15_0_)) : P := h
theorem pmBx15_7_ {P : Prop} (h : P := by rw [hg]; exact Nat.ne_of_gt (blk_lt (g := gb291) (o := .cells #[.int .i64 a0_0, .int .i64 a0_1, .int .i64 a0_2, .int .i64 a0_3, .int .i64 a0_4, .int .i64 a0_5] 56 (0, 0)) pmBx15_0_)) : P := h
theorem pmBx15_8_ {P : Prop} (h : P := by repeat (first | (with_reducible first | exact HB.out | apply below_alloc | apply pw_below_drewN | apply below_drew1 | refine below_set ?_ GE291.out) | exact HB.out)) : P := h
theorem pmBx15_9_ {P : Prop} (h : P := by (try simp only [List.map_toArray, List.map_cons, List.map_nil]); first | done | rfl | (simp only [List.length_drop, List.length_take]; rfl)) : P := h
theorem pmBx15_10_ {P : Prop} (h : P := by repeat (first | (with_reducible first | exact HB.out | apply below_alloc | apply pw_below_drewN | apply below_drew1) | exact HB.out)) : P := h
theorem pmBx15_11_ {P : Prop} (h : P := by (with_reducible repeat (first | refine blk_drewN ?_ _ | refine blk_drew ?_ | refine blk_alloc ?_ _)); exact BK294.out) : P := h
theorem pmBx15_12_ {P : Prop} (h : P := by kernel_rfl) : P := h
theorem pmBx15_13_ {P : Prop} (h : P := by rw [hg]; exact Nat.ne_of_lt (blk_lt (g := gb292) (o := .cells #[.bool a2_0, .int .i64 a2_1] 23 (0, 0)) pmBx15_1_)) : P := h
theorem pmBx15_14_ {P : Prop} (h : P := by rw [hg]; exact Nat.ne_of_gt (blk_lt (g := gb292) (o := .cells #[.bool a2_0, .int .i64 a2_1] 23 (0, 0)) pmBx15_1_)) : P := h
theorem pmBx15_15_ {P : Prop} (h : P := by rw [hg]; exact Nat.ne_of_lt (blk_lt (g := gb293) (o := .cells #[.bool a3_0, .int .i64 a3_1] 23 (0, 0)) pmBx15_3_)) : P := h
theorem pmBx15_16_ {P : Prop} (h : P := by rw [hg]; exact Nat.ne_of_gt (blk_lt (g := gb293) (o := .cells #[.bool a3_0, .int .i64 a3_1] 23 (0, 0)) pmBx15_3_)) : P := h
theorem pmBx15_17_ {P : Prop} (h : P := by rw [hg]; exact (below_size pmBx15_10_)) : P := h
theorem pmBx15_18_ {P : Prop} (h : P := by rw [hg]; exact (below_size pmBx15_8_)) : P := h
theorem pmBx15_19_ {P : Prop} (h : P := by rw [hg]; exact (below_size pmBx15_5_)) : P := h
theorem pmBx15_20_ {P : Prop} (h : P := by rw [hg]; exact (below_size pmBx15_4_)) : P := h
attribute [local go_sem] max2_int min2_int max_two min_two max_three min_three max_four min_four   -- for this text's walks alone
set_option linter.unusedVariables false
set_option linter.unusedSimpArgs false

/-! ### parterrelaw29_SelfUsed: function 6 -/
def parterrelaw29_SelfUsed.f (k : Nat) (a0_0 : Int) (a0_1 : Int) (a0_2 : Int) (a0_3 : Int) (a0_4 : Int) (a0_5 : Int) (a1 : Int) (a2_0 : Bool) (a2_1 : Int) (a3_0 : Bool) (a3_1 : Int) (a4_0 : Int) (a4_1 : Int) (a5 : Bool) : Option (Bool) := (self_Used.f k a0_0 a0_1 a0_2 a0_3 a0_4 a0_5 a1 a2_0 a2_1 a3_0 a3_1 a4_0 a4_1 a5).bind fun bt295 => ((parterreref29_Used.f k a0_0 a0_1 a0_2 a0_3 a0_4 a0_5 a1 a2_0 a2_1 a3_0 a3_1 a4_0 a4_1 a5).bind fun bt297 => (if bt295.1 = bt297.1 then (if bt295.2 = bt297.2 then ((self_Inner.f a1 a2_0 a2_1 a3_0 a3_1).bind fun t299 => ((parterreref29_Inner.f a1 a2_0 a2_1 a3_0 a3_1).bind fun t300 => (if t299 = t300 then ((parterrelaw29_lives.f k).bind fun t301 => (some t301)) else (some false)))) else (some false)) else (some false)))
theorem parterrelaw29_SelfUsed.mono : ∀ a0 a1 a2 a3 a4 a5 a6 a7 a8 a9 a10 a11 a12 a13 k, LeO (parterrelaw29_SelfUsed.f k a0 a1 a2 a3 a4 a5 a6 a7 a8 a9 a10 a11 a12 a13) (parterrelaw29_SelfUsed.f (k + 1) a0 a1 a2 a3 a4 a5 a6 a7 a8 a9 a10 a11 a12 a13) := by
  intro a0 a1 a2 a3 a4 a5 a6 a7 a8 a9 a10 a11 a12 a13 k
  unfold parterrelaw29_SelfUsed.f
  repeat' first
      | (with_reducible exact parterrelaw29_lives.mono _)
      | (with_reducible exact parterreref29_Used.mono _ _ _ _ _ _ _ _ _ _ _ _ _ _ _)
      | (with_reducible exact self_Used.mono _ _ _ _ _ _ _ _ _ _ _ _ _ _ _)
      | (with_reducible exact LeO.refl _)
      | (with_reducible exact LeO.none _)
      | (with_reducible refine LeO.ite ?_ ?_)
      | (with_reducible refine LeO.bind ?_ (fun _ => ?_))
      | exact parterrelaw29_lives.mono _
      | exact parterreref29_Used.mono _ _ _ _ _ _ _ _ _ _ _ _ _ _ _
      | exact self_Used.mono _ _ _ _ _ _ _ _ _ _ _ _ _ _ _
      | exact LeO.none _
      | refine LeO.ite ?_ ?_
      | refine LeO.bind ?_ (fun _ => ?_)
def parterrelaw29_SelfUsed.T3 : Bool × List (List Nat × List Nat) := (true, [([], []), ([], []), ([0, 1], [0, 1]), ([2], [2]), ([3], [3]), ([3], [3]), ([4, 5, 3], [3, 4, 5]), ([3, 6], [3, 6]), ([7, 3], [7]), ([8], [8]), ([8], [8]), ([8], [8]), ([9, 10, 11, 8, 8], [8, 9, 10, 11]), ([8], [8]), ([8], [8]), ([8], [8]), ([13, 14, 15, 12, 8], [8, 13, 14, 15]), ([12, 16, 8], [8, 12, 16]), ([8, 17], [8, 17]), ([18, 16], [18]), ([19, 19], [19]), ([19, 20], [19, 20]), ([21, 20, 0, 1, 2, 3, 4, 5, 6, 7, 8, 9, 10, 11, 12, 13, 14, 15, 16, 17, 18, 19, 20, 21], [21])])
def parterrelaw29_SelfUsed.B3 : List Nat := [0, 0, 3, 7, 15, 15, 63, 127, 255, 511, 511, 511, 4095, 511, 511, 511, 65535, 131071, 262143, 524287, 1048575, 2097151, 4194303]
theorem parterrelaw29_SelfUsed.tab3 : rtab .any (opsOf Try.f6 3) = parterrelaw29_SelfUsed.T3 := by kernel_rfl
theorem parterrelaw29_SelfUsed.bits3 : waitsOk parterrelaw29_SelfUsed.T3.2 parterrelaw29_SelfUsed.B3 = true := by kernel_rfl
set_option maxHeartbeats 8000000 in
set_option maxRecDepth 100000 in
theorem parterrelaw29_SelfUsed.calls (k : Nat) (a0_0 : Int) (a0_1 : Int) (a0_2 : Int) (a0_3 : Int) (a0_4 : Int) (a0_5 : Int) (a1 : Int) (a2_0 : Bool) (a2_1 : Int) (a3_0 : Bool) (a3_1 : Int) (a4_0 : Int) (a4_1 : Int) (a5 : Bool) (r : Bool) (w : World) (h : parterrelaw29_SelfUsed.f k a0_0 a0_1 a0_2 a0_3 a0_4 a0_5 a1 a2_0 a2_1 a3_0 a3_1 a4_0 a4_1 a5 = some r) :
    Calls Try.prog 6 #[.agg #[.int .i64 a0_0, .int .i64 a0_1, .int .i64 a0_2, .int .i64 a0_3, .int .i64 a0_4, .int .i64 a0_5], .int .i64 a1, .agg #[.bool a2_0, .int .i64 a2_1], .agg #[.bool a3_0, .int .i64 a3_1], .agg #[.int .i64 a4_0, .int .i64 a4_1], .bool a5] w fun e w' => e = .returned (.bool r) ∧ Below w.heap.size w w' := by
  have hu56 := Try.underlying56
  have hu23 := Try.underlying23
  have hu46 := Try.underlying46
  have hu31 := Try.underlying31
  have HB := Aside0.mk (Below.refl w.heap.size w)
  have H : ((self_Used.f k a0_0 a0_1 a0_2 a0_3 a0_4 a0_5 a1 a2_0 a2_1 a3_0 a3_1 a4_0 a4_1 a5).bind fun bt295 => ((parterreref29_Used.f k a0_0 a0_1 a0_2 a0_3 a0_4 a0_5 a1 a2_0 a2_1 a3_0 a3_1 a4_0 a4_1 a5).bind fun bt297 => (if bt295.1 = bt297.1 then (if bt295.2 = bt297.2 then ((self_Inner.f a1 a2_0 a2_1 a3_0 a3_1).bind fun t299 => ((parterreref29_Inner.f a1 a2_0 a2_1 a3_0 a3_1).bind fun t300 => (if t299 = t300 then ((parterrelaw29_lives.f k).bind fun t301 => (some t301)) else (some false)))) else (some false)) else (some false)))) = some r := h
  clear h
  replace H := Option.bind_eq_some_iff.mp H
  obtain ⟨⟨t295, t296⟩, A70, H⟩ := H
  replace H : ((parterreref29_Used.f k a0_0 a0_1 a0_2 a0_3 a0_4 a0_5 a1 a2_0 a2_1 a3_0 a3_1 a4_0 a4_1 a5).bind fun bt297 => (if t295 = bt297.1 then (if t296 = bt297.2 then ((self_Inner.f a1 a2_0 a2_1 a3_0 a3_1).bind fun t299 => ((parterreref29_Inner.f a1 a2_0 a2_1 a3_0 a3_1).bind fun t300 => (if t299 = t300 then ((parterrelaw29_lives.f k).bind fun t301 => (some t301)) else (some false)))) else (some false)) else (some false))) = some r := H
  have A7 := Aside0.mk A70
  clear A70
  replace H := Option.bind_eq_some_iff.mp H
  obtain ⟨⟨t297, t298⟩, A80, H⟩ := H
  replace H : (if t295 = t297 then (if t296 = t298 then ((self_Inner.f a1 a2_0 a2_1 a3_0 a3_1).bind fun t299 => ((parterreref29_Inner.f a1 a2_0 a2_1 a3_0 a3_1).bind fun t300 => (if t299 = t300 then ((parterrelaw29_lives.f k).bind fun t301 => (some t301)) else (some false)))) else (some false)) else (some false)) = some r := H
  have A8 := Aside0.mk A80
  clear A80
  by_cases c9 : t295 = t297
  · rw [if_pos c9] at H
    have c9b0 : (t295 == t297) = true := beq_iff_eq.mpr c9
    have c9b1 : (t295 != t297) = false := bne_eq_false_iff_eq.mpr c9
    clear c9
    by_cases c10 : t296 = t298
    · rw [if_pos c10] at H
      have c10b0 : (t296 == t298) = true := beq_iff_eq.mpr c10
      have c10b1 : (t296 != t298) = false := bne_eq_false_iff_eq.mpr c10
      clear c10
      replace H := Option.bind_eq_some_iff.mp H
      obtain ⟨t299, A110, H⟩ := H
      replace H : ((parterreref29_Inner.f a1 a2_0 a2_1 a3_0 a3_1).bind fun t300 => (if t299 = t300 then ((parterrelaw29_lives.f k).bind fun t301 => (some t301)) else (some false))) = some r := H
      have A11 := Aside0.mk A110
      clear A110
      replace H := Option.bind_eq_some_iff.mp H
      obtain ⟨t300, A120, H⟩ := H
      replace H : (if t299 = t300 then ((parterrelaw29_lives.f k).bind fun t301 => (some t301)) else (some false)) = some r := H
      have A12 := Aside0.mk A120
      clear A120
      by_cases c13 : t299 = t300
      · rw [if_pos c13] at H
        have c13b0 : (t299 == t300) = true := beq_iff_eq.mpr c13
        have c13b1 : (t299 != t300) = false := bne_eq_false_iff_eq.mpr c13
        clear c13
        replace H := Option.bind_eq_some_iff.mp H
        obtain ⟨t301, A140, H⟩ := H
        replace H : (some t301) = some r := H
        have A14 := Aside0.mk A140
        clear A140
        obtain rfl := Option.some.inj H
        go_enter Try.func6, Try.ntmps6
        try go_wp2_with (first | ((with_reducible refine gate_dst (N := 6) rfl ?_); refine box_event ?hg (N := 6) ?hd (cs := #[.int .i64 a0_0, .int .i64 a0_1, .int .i64 a0_2, .int .i64 a0_3, .int .i64 a0_4, .int .i64 a0_5]) (t := 56) ?hr ?_; (case hd => rfl); (case hg => rfl); (case hr => first | (go_simp; done) | (go_simp; rfl)); intro gb291 hg w15 hbox hb; have n0_ := Aside0.mk (below_step pmBx15_10_ hb); have n1_ := Aside0.mk (hbox); have n2_ := Aside0.mk ((pmBx15_17_ : w.heap.size ≤ gb291)); have n3_ := Aside0.mk ((pmBx15_17_ : w.heap.size ≤ gb291)); clear HB; have HB := n0_; have BK291 := n1_; have GW291 := n2_; have GE291 := n3_; clear n0_ n1_ n2_ n3_; clear hb hbox hg) | ((with_reducible refine gate_dst (N := 8) rfl ?_); refine box_event ?hg (N := 8) ?hd (cs := #[.bool a2_0, .int .i64 a2_1]) (t := 23) ?hr ?_; (case hd => rfl); (case hg => rfl); (case hr => first | (go_simp; done) | (go_simp; rfl)); intro gb292 hg w16 hbox hb; have n0_ := Aside0.mk (blk_below (g := gb291) (o := .cells #[.int .i64 a0_0, .int .i64 a0_1, .int .i64 a0_2, .int .i64 a0_3, .int .i64 a0_4, .int .i64 a0_5] 56 (0, 0)) pmBx15_0_ hb); have n1_ := Aside0.mk (below_step pmBx15_8_ hb); have n2_ := Aside0.mk (hbox); have n3_ := Aside0.mk ((pmBx15_18_ : w.heap.size ≤ gb292)); have n4_ := Aside0.mk ((pmBx15_18_ : w.heap.size ≤ gb292)); have n5_ := Aside0.mk ((pmBx15_6_ : gb291 ≠ gb292)); have n6_ := Aside0.mk ((pmBx15_7_ : gb292 ≠ gb291)); clear BK291; clear HB; have BK291 := n0_; have HB := n1_; have BK292 := n2_; have GW292 := n3_; have GE292 := n4_; have NB291_292 := n5_; have NB292_291 := n6_; clear n0_ n1_ n2_ n3_ n4_ n5_ n6_; clear hb hbox hg) | ((with_reducible refine gate_dst (N := 9) rfl ?_); refine box_event ?hg (N := 9) ?hd (cs := #[.bool a3_0, .int .i64 a3_1]) (t := 23) ?hr ?_; (case hd => rfl); (case hg => rfl); (case hr => first | (go_simp; done) | (go_simp; rfl)); intro gb293 hg w17 hbox hb; have n0_ := Aside0.mk (blk_below (g := gb291) (o := .cells #[.int .i64 a0_0, .int .i64 a0_1, .int .i64 a0_2, .int .i64 a0_3, .int .i64 a0_4, .int .i64 a0_5] 56 (0, 0)) pmBx15_0_ hb); have n1_ := Aside0.mk (blk_below (g := gb292) (o := .cells #[.bool a2_0, .int .i64 a2_1] 23 (0, 0)) pmBx15_1_ hb); have n2_ := Aside0.mk (below_step pmBx15_5_ hb); have n3_ := Aside0.mk (hbox); have n4_ := Aside0.mk ((pmBx15_19_ : w.heap.size ≤ gb293)); have n5_ := Aside0.mk ((pmBx15_19_ : w.heap.size ≤ gb293)); have n6_ := Aside0.mk ((pmBx15_6_ : gb291 ≠ gb293)); have n7_ := Aside0.mk ((pmBx15_7_ : gb293 ≠ gb291)); have n8_ := Aside0.mk ((pmBx15_13_ : gb292 ≠ gb293)); have n9_ := Aside0.mk ((pmBx15_14_ : gb293 ≠ gb292)); clear BK291; clear BK292; clear HB; have BK291 := n0_; have BK292 := n1_; have HB := n2_; have BK293 := n3_; have GW293 := n4_; have GE293 := n5_; have NB291_293 := n6_; have NB293_291 := n7_; have NB292_293 := n8_; have NB293_292 := n9_; clear n0_ n1_ n2_ n3_ n4_ n5_ n6_ n7_ n8_ n9_; clear hb hbox hg) | ((with_reducible refine gate_dst (N := 10) rfl ?_); refine box_event ?hg (N := 10) ?hd (cs := #[.int .i64 a4_0, .int .i64 a4_1]) (t := 46) ?hr ?_; (case hd => rfl); (case hg => rfl); (case hr => first | (go_simp; done) | (go_simp; rfl)); intro gb294 hg w18 hbox hb; have n0_ := Aside0.mk (blk_below (g := gb291) (o := .cells #[.int .i64 a0_0, .int .i64 a0_1, .int .i64 a0_2, .int .i64 a0_3, .int .i64 a0_4, .int .i64 a0_5] 56 (0, 0)) pmBx15_0_ hb); have n1_ := Aside0.mk (blk_below (g := gb292) (o := .cells #[.bool a2_0, .int .i64 a2_1] 23 (0, 0)) pmBx15_1_ hb); have n2_ := Aside0.mk (blk_below (g := gb293) (o := .cells #[.bool a3_0, .int .i64 a3_1] 23 (0, 0)) pmBx15_3_ hb); have n3_ := Aside0.mk (below_step pmBx15_4_ hb); have n4_ := Aside0.mk (hbox); have n5_ := Aside0.mk ((pmBx15_20_ : w.heap.size ≤ gb294)); have n6_ := Aside0.mk ((pmBx15_20_ : w.heap.size ≤ gb294)); have n7_ := Aside0.mk ((pmBx15_6_ : gb291 ≠ gb294)); have n8_ := Aside0.mk ((pmBx15_7_ : gb294 ≠ gb291)); have n9_ := Aside0.mk ((pmBx15_13_ : gb292 ≠ gb294)); have n10_ := Aside0.mk ((pmBx15_14_ : gb294 ≠ gb292)); have n11_ := Aside0.mk ((pmBx15_15_ : gb293 ≠ gb294)); have n12_ := Aside0.mk ((pmBx15_16_ : gb294 ≠ gb293)); clear BK291; clear BK292; clear BK293; clear HB; have BK291 := n0_; have BK292 := n1_; have BK293 := n2_; have HB := n3_; have BK294 := n4_; have GW294 := n5_; have GE294 := n6_; have NB291_294 := n7_; have NB294_291 := n8_; have NB292_294 := n9_; have NB294_292 := n10_; have NB293_294 := n11_; have NB294_293 := n12_; clear n0_ n1_ n2_ n3_ n4_ n5_ n6_ n7_ n8_ n9_ n10_ n11_ n12_; clear hb hbox hg; have hnb19 := NB291_292.out; have hnc19 := NB292_291.out; have hnb20 := NB291_293.out; have hnc20 := NB293_291.out; have hnb21 := NB291_294.out; have hnc21 := NB294_291.out; have hcz22_0 : w18.cell? ⟨gb291, 0, none⟩ = some (.int .i64 a0_0) := (blk_cell BK291.out 0).trans rfl; have hcz22_1 : w18.cell? ⟨gb291, 1, none⟩ = some (.int .i64 a0_1) := (blk_cell BK291.out 1).trans rfl; have hcz22_2 : w18.cell? ⟨gb291, 2, none⟩ = some (.int .i64 a0_2) := (blk_cell BK291.out 2).trans rfl; have hcz22_3 : w18.cell? ⟨gb291, 3, none⟩ = some (.int .i64 a0_3) := (blk_cell BK291.out 3).trans rfl; have hcz22_4 : w18.cell? ⟨gb291, 4, none⟩ = some (.int .i64 a0_4) := (blk_cell BK291.out 4).trans rfl; have hcz22_5 : w18.cell? ⟨gb291, 5, none⟩ = some (.int .i64 a0_5) := (blk_cell BK291.out 5).trans rfl; have hfz22_0 := blk_frozen BK291.out 0; have hfz22_1 := blk_frozen BK291.out 1; have hfz22_2 := blk_frozen BK291.out 2; have hfz22_3 := blk_frozen BK291.out 3; have hfz22_4 := blk_frozen BK291.out 4; have hfz22_5 := blk_frozen BK291.out 5; have hnb23 := NB292_293.out; have hnc23 := NB293_292.out; have hnb24 := NB292_294.out; have hnc24 := NB294_292.out; have hcz25_0 : w18.cell? ⟨gb292, 0, none⟩ = some (.bool a2_0) := (blk_cell BK292.out 0).trans rfl; have hcz25_1 : w18.cell? ⟨gb292, 1, none⟩ = some (.int .i64 a2_1) := (blk_cell BK292.out 1).trans rfl; have hfz25_0 := blk_frozen BK292.out 0; have hfz25_1 := blk_frozen BK292.out 1; have hnb26 := NB293_294.out; have hnc26 := NB294_293.out; have hcz27_0 : w18.cell? ⟨gb293, 0, none⟩ = some (.bool a3_0) := (blk_cell BK293.out 0).trans rfl; have hcz27_1 : w18.cell? ⟨gb293, 1, none⟩ = some (.int .i64 a3_1) := (blk_cell BK293.out 1).trans rfl; have hfz27_0 := blk_frozen BK293.out 0; have hfz27_1 := blk_frozen BK293.out 1; have hcz28_0 : w18.cell? ⟨gb294, 0, none⟩ = some (.int .i64 a4_0) := (blk_cell BK294.out 0).trans rfl; have hcz28_1 : w18.cell? ⟨gb294, 1, none⟩ = some (.int .i64 a4_1) := (blk_cell BK294.out 1).trans rfl; have hfz28_0 := blk_frozen BK294.out 0; have hfz28_1 := blk_frozen BK294.out 1) | ((with_reducible refine gate_callee (f := 17) rfl ?_); refine goesL_ (some 29) rfl rfl Try.func17 pmBx15_12_ rfl #[.agg #[.int .i64 a0_0, .int .i64 a0_1], .agg #[.int .i64 a0_2, .int .i64 a0_3], .agg #[.int .i64 a0_4, .int .i64 a0_5], .int .i64 a1, .agg #[.bool a2_0, .int .i64 a2_1], .agg #[.bool a3_0, .int .i64 a3_1], .agg #[.int .i64 a4_0, .int .i64 a4_1], .bool a5] rfl pmBx15_9_ ?_; (with_reducible refine (self_Used.calls k a0_0 a0_1 a0_2 a0_3 a0_4 a0_5 a1 a2_0 a2_1 a3_0 a3_1 a4_0 a4_1 a5 t295 t296 _ A7.out).mono ?_); rintro e w29 ⟨rfl, hb⟩; refine ⟨_, rfl, ?_⟩; have n0_ := Aside0.mk (blk_below (g := gb291) (o := .cells #[.int .i64 a0_0, .int .i64 a0_1, .int .i64 a0_2, .int .i64 a0_3, .int .i64 a0_4, .int .i64 a0_5] 56 (0, 0)) pmBx15_0_ hb); have n1_ := Aside0.mk (blk_below (g := gb292) (o := .cells #[.bool a2_0, .int .i64 a2_1] 23 (0, 0)) pmBx15_1_ hb); have n2_ := Aside0.mk (blk_below (g := gb293) (o := .cells #[.bool a3_0, .int .i64 a3_1] 23 (0, 0)) pmBx15_3_ hb); have n3_ := Aside0.mk (blk_below (g := gb294) (o := .cells #[.int .i64 a4_0, .int .i64 a4_1] 46 (0, 0)) pmBx15_11_ hb); have n4_ := Aside0.mk (below_step pmBx15_2_ hb); clear BK291; clear BK292; clear BK293; clear BK294; clear HB; have BK291 := n0_; have BK292 := n1_; have BK293 := n2_; have BK294 := n3_; have HB := n4_; clear n0_ n1_ n2_ n3_ n4_; (try clear hb); (try clear hb2); (try clear hk); (try clear hi); have hcz30_0 : w29.cell? ⟨gb291, 0, none⟩ = some (.int .i64 a0_0) := (blk_cell BK291.out 0).trans rfl; have hcz30_1 : w29.cell? ⟨gb291, 1, none⟩ = some (.int .i64 a0_1) := (blk_cell BK291.out 1).trans rfl; have hcz30_2 : w29.cell? ⟨gb291, 2, none⟩ = some (.int .i64 a0_2) := (blk_cell BK291.out 2).trans rfl; have hcz30_3 : w29.cell? ⟨gb291, 3, none⟩ = some (.int .i64 a0_3) := (blk_cell BK291.out 3).trans rfl; have hcz30_4 : w29.cell? ⟨gb291, 4, none⟩ = some (.int .i64 a0_4) := (blk_cell BK291.out 4).trans rfl; have hcz30_5 : w29.cell? ⟨gb291, 5, none⟩ = some (.int .i64 a0_5) := (blk_cell BK291.out 5).trans rfl; have hfz30_0 := blk_frozen BK291.out 0; have hfz30_1 := blk_frozen BK291.out 1; have hfz30_2 := blk_frozen BK291.out 2; have hfz30_3 := blk_frozen BK291.out 3; have hfz30_4 := blk_frozen BK291.out 4; have hfz30_5 := blk_frozen BK291.out 5; have hcz31_0 : w29.cell? ⟨gb292, 0, none⟩ = some (.bool a2_0) := (blk_cell BK292.out 0).trans rfl; have hcz31_1 : w29.cell? ⟨gb292, 1, none⟩ = some (.int .i64 a2_1) := (blk_cell BK292.out 1).trans rfl; have hfz31_0 := blk_frozen BK292.out 0; have hfz31_1 := blk_frozen BK292.out 1; have hcz32_0 : w29.cell? ⟨gb293, 0, none⟩ = some (.bool a3_0) := (blk_cell BK293.out 0).trans rfl; have hcz32_1 : w29.cell? ⟨gb293, 1, none⟩ = some (.int .i64 a3_1) := (blk_cell BK293.out 1).trans rfl; have hfz32_0 := blk_frozen BK293.out 0; have hfz32_1 := blk_frozen BK293.out 1; have hcz33_0 : w29.cell? ⟨gb294, 0, none⟩ = some (.int .i64 a4_0) := (blk_cell BK294.out 0).trans rfl; have hcz33_1 : w29.cell? ⟨gb294, 1, none⟩ = some (.int .i64 a4_1) := (blk_cell BK294.out 1).trans rfl; have hfz33_0 := blk_frozen BK294.out 0; have hfz33_1 := blk_frozen BK294.out 1) | ((with_reducible refine gate_callee (f := 18) rfl ?_); refine goesL_ (some 44) rfl rfl Try.func18 pmBx15_12_ rfl #[.agg #[.int .i64 a0_0, .int .i64 a0_1], .agg #[.int .i64 a0_2, .int .i64 a0_3], .agg #[.int .i64 a0_4, .int .i64 a0_5], .int .i64 a1, .agg #[.bool a2_0, .int .i64 a2_1], .agg #[.bool a3_0, .int .i64 a3_1], .agg #[.int .i64 a4_0, .int .i64 a4_1], .bool a5] rfl pmBx15_9_ ?_; (with_reducible refine (parterreref29_Used.calls k a0_0 a0_1 a0_2 a0_3 a0_4 a0_5 a1 a2_0 a2_1 a3_0 a3_1 a4_0 a4_1 a5 t297 t298 _ A8.out).mono ?_); rintro e w34 ⟨rfl, hb⟩; refine ⟨_, rfl, ?_⟩; have n0_ := Aside0.mk (blk_below (g := gb291) (o := .cells #[.int .i64 a0_0, .int .i64 a0_1, .int .i64 a0_2, .int .i64 a0_3, .int .i64 a0_4, .int .i64 a0_5] 56 (0, 0)) pmBx15_0_ hb); have n1_ := Aside0.mk (blk_below (g := gb292) (o := .cells #[.bool a2_0, .int .i64 a2_1] 23 (0, 0)) pmBx15_1_ hb); have n2_ := Aside0.mk (blk_below (g := gb293) (o := .cells #[.bool a3_0, .int .i64 a3_1] 23 (0, 0)) pmBx15_3_ hb); have n3_ := Aside0.mk (blk_below (g := gb294) (o := .cells #[.int .i64 a4_0, .int .i64 a4_1] 46 (0, 0)) pmBx15_11_ hb); have n4_ := Aside0.mk (below_step pmBx15_2_ hb); clear BK291; clear BK292; clear BK293; clear BK294; clear HB; have BK291 := n0_; have BK292 := n1_; have BK293 := n2_; have BK294 := n3_; have HB := n4_; clear n0_ n1_ n2_ n3_ n4_; (try clear hb); (try clear hb2); (try clear hk); (try clear hi)))
        have n0_ := Aside0.mk (blk_drew BK291.out)
        have n1_ := Aside0.mk (blk_drew BK292.out)
        have n2_ := Aside0.mk (blk_drew BK293.out)
        have n3_ := Aside0.mk (blk_drew BK294.out)
        have n4_ := Aside0.mk (below_drew1 HB.out)
        clear BK291
        clear BK292
        clear BK293
        clear BK294
        clear HB
        have BK291 := n0_
        have BK292 := n1_
        have BK293 := n2_
        have BK294 := n3_
        have HB := n4_
        clear n0_ n1_ n2_ n3_ n4_
        refine start_ (n := 23) (S := fun w' => w'.cell? ⟨gb292, 0, none⟩ = some (.bool a2_0) ∧ w'.cell? ⟨gb292, 1, none⟩ = some (.int .i64 a2_1) ∧ w'.cell? ⟨gb293, 0, none⟩ = some (.bool a3_0) ∧ w'.cell? ⟨gb293, 1, none⟩ = some (.int .i64 a3_1)) (ds := []) #[false, false, false, false, false, false, false, false, false, false, false, false, false, false, false, false, false, false, false, false, false, false, false] pmBx15_12_ rfl rfl ⟨(blk_cell BK292.out 0).trans rfl, (blk_cell BK292.out 1).trans rfl, (blk_cell BK293.out 0).trans rfl, (blk_cell BK293.out 1).trans rfl⟩ (fun hHeld => ?_); refine with_tabW parterrelaw29_SelfUsed.tab3 parterrelaw29_SelfUsed.bits3 (fun HT_ HW_ => ?_)
        generalize w34.drew = w35 at BK291 BK292 BK293 BK294 HB hHeld ⊢
        refine pure_ (i := 0) (N := some 47) (v := ?_) (a' := ?_) #[true, false, false, false, false, false, false, false, false, false, false, false, false, false, false, false, false, false, false, false, false, false, false] rfl rfl (any_of HT_.out pmBx15_12_) (fun _ _ _ h => h) (Or.inl ⟨by rfl, ?_⟩) ?_ ?_
        rotate_left
        · intro w'
          go_simp
          with_reducible rfl
        rotate_left
        · simp only [Act.put, List.setIfInBounds_toArray, List.set_cons_zero, List.set_cons_succ, i64_w, i32_w]
          rfl
        refine pure_ (i := 1) (N := some 48) (v := ?_) (a' := ?_) #[true, true, false, false, false, false, false, false, false, false, false, false, false, false, false, false, false, false, false, false, false, false, false] rfl rfl (any_of HT_.out pmBx15_12_) (fun _ _ _ h => h) (Or.inl ⟨by rfl, ?_⟩) ?_ ?_
        rotate_left
        · intro w'
          go_simp
          with_reducible rfl
        rotate_left
        · simp only [Act.put, List.setIfInBounds_toArray, List.set_cons_zero, List.set_cons_succ, i64_w, i32_w]
          rfl
        refine pure_ (i := 2) (N := some 49) (v := ?_) (a' := ?_) #[true, true, true, false, false, false, false, false, false, false, false, false, false, false, false, false, false, false, false, false, false, false, false] rfl rfl (any_of HT_.out pmBx15_12_) (fun _ _ _ h => h) (Or.inl ⟨by rfl, ?_⟩) ?_ ?_
        rotate_left
        · intro w'
          go_simp
          with_reducible rfl
        rotate_left
        · simp only [Act.put, List.setIfInBounds_toArray, List.set_cons_zero, List.set_cons_succ, i64_w, i32_w]
          rfl
        refine pure_ (i := 3) (N := some 50) (v := ?_) (a' := ?_) #[true, true, true, true, false, false, false, false, false, false, false, false, false, false, false, false, false, false, false, false, false, false, false] rfl rfl (any_of HT_.out pmBx15_12_) (fun _ _ _ h => h) (Or.inl ⟨by rfl, ?_⟩) ?_ ?_
        rotate_left
        · intro w'
          go_simp
          with_reducible rfl
        rotate_left
        · simp only [Act.put, List.setIfInBounds_toArray, List.set_cons_zero, List.set_cons_succ, i64_w, i32_w]
          rfl
        refine pure_ (i := 4) (N := some 51) (v := ?_) (a' := ?_) #[true, true, true, true, true, false, false, false, false, false, false, false, false, false, false, false, false, false, false, false, false, false, false] rfl rfl (any_of HT_.out pmBx15_12_) (fun _ _ _ h => h) (Or.inl ⟨by rfl, ?_⟩) ?_ ?_
        rotate_left
        · intro w'
          go_simp
          with_reducible rfl
        rotate_left
        · simp only [Act.put, List.setIfInBounds_toArray, List.set_cons_zero, List.set_cons_succ, i64_w, i32_w]
          rfl
        refine pure_ (i := 5) (N := some 52) (v := ?_) (a' := ?_) #[true, true, true, true, true, true, false, false, false, false, false, false, false, false, false, false, false, false, false, false, false, false, false] rfl rfl (any_of HT_.out pmBx15_12_) (fun _ _ _ h => h) (Or.inl ⟨by rfl, ?_⟩) ?_ ?_
        rotate_left
        · intro w'
          go_simp
          with_reducible rfl
        rotate_left
        · simp only [Act.put, List.setIfInBounds_toArray, List.set_cons_zero, List.set_cons_succ, i64_w, i32_w]
          rfl
        refine pure_ (i := 6) (N := some 53) (v := ?_) (a' := ?_) #[true, true, true, true, true, true, true, false, false, false, false, false, false, false, false, false, false, false, false, false, false, false, false] rfl rfl (any_of HT_.out pmBx15_12_) (fun _ _ _ h => h) (Or.inl ⟨by rfl, ?_⟩) ?_ ?_
        rotate_left
        · intro w'
          go_simp
          with_reducible rfl
        rotate_left
        · simp only [Act.put, List.setIfInBounds_toArray, List.set_cons_zero, List.set_cons_succ, i64_w, i32_w]
          rfl
        refine pure_ (i := 7) (N := some 54) (v := ?_) (a' := ?_) #[true, true, true, true, true, true, true, true, false, false, false, false, false, false, false, false, false, false, false, false, false, false, false] rfl rfl (any_of HT_.out pmBx15_12_) (fun _ _ _ h => h) (Or.inl ⟨by rfl, ?_⟩) ?_ ?_
        rotate_left
        · intro w'
          go_simp
          with_reducible rfl
        rotate_left
        · simp only [Act.put, List.setIfInBounds_toArray, List.set_cons_zero, List.set_cons_succ, i64_w, i32_w]
          rfl
        refine pure_ (i := 8) (N := some 55) (v := ?_) (a' := ?_) #[true, true, true, true, true, true, true, true, true, false, false, false, false, false, false, false, false, false, false, false, false, false, false] rfl rfl (any_of HT_.out pmBx15_12_) (fun _ _ _ h => h) (Or.inl ⟨by rfl, ?_⟩) ?_ ?_
        rotate_left
        · intro w'
          go_simp
          with_reducible rfl
        rotate_left
        · simp only [Act.put, List.setIfInBounds_toArray, List.set_cons_zero, List.set_cons_succ, i64_w, i32_w]
          rfl
        refine pure_ (i := 9) (N := some 56) (v := ?_) (a' := ?_) #[true, true, true, true, true, true, true, true, true, true, false, false, false, false, false, false, false, false, false, false, false, false, false] rfl rfl (any_of HT_.out pmBx15_12_) (fun _ _ _ h => h) (Or.inl ⟨by rfl, ?_⟩) ?_ ?_
        rotate_left
        · intro w'
          go_simp
          with_reducible rfl
        rotate_left
        · simp only [Act.put, List.setIfInBounds_toArray, List.set_cons_zero, List.set_cons_succ, i64_w, i32_w]
          rfl
        refine pure_ (i := 13) (N := some 60) (v := ?_) (a' := ?_) #[true, true, true, true, true, true, true, true, true, true, false, false, false, true, false, false, false, false, false, false, false, false, false] rfl rfl (any_of HT_.out pmBx15_12_) (fun _ _ _ h => h) (Or.inl ⟨by rfl, ?_⟩) ?_ ?_
        rotate_left
        · intro w'
          go_simp
          with_reducible rfl
        rotate_left
        · simp only [Act.put, List.setIfInBounds_toArray, List.set_cons_zero, List.set_cons_succ, i64_w, i32_w]
          rfl
        refine take_ (i := 10) (N := some 57) (v := ?_) (a' := ?_) #[true, true, true, true, true, true, true, true, true, true, true, false, false, true, false, false, false, false, false, false, false, false, false] rfl rfl (take_ofW HT_.out HW_.out pmBx15_12_) (fun _ _ _ h => h) (Or.inl ⟨by rfl, ?_⟩) hHeld ?_ ?_
        rotate_left
        · rintro w' ⟨s0, s1, s2, s3⟩
          go_simp
          with_reducible rfl
        rotate_left
        · simp only [Act.put, List.setIfInBounds_toArray, List.set_cons_zero, List.set_cons_succ, i64_w, i32_w]
          rfl
        refine take_ (i := 11) (N := some 58) (v := ?_) (a' := ?_) #[true, true, true, true, true, true, true, true, true, true, true, true, false, true, false, false, false, false, false, false, false, false, false] rfl rfl (take_ofW HT_.out HW_.out pmBx15_12_) (fun _ _ _ h => h) (Or.inl ⟨by rfl, ?_⟩) hHeld ?_ ?_
        rotate_left
        · rintro w' ⟨s0, s1, s2, s3⟩
          go_simp
          with_reducible rfl
        rotate_left
        · simp only [Act.put, List.setIfInBounds_toArray, List.set_cons_zero, List.set_cons_succ, i64_w, i32_w]
          rfl
        refine take_ (i := 14) (N := some 61) (v := ?_) (a' := ?_) #[true, true, true, true, true, true, true, true, true, true, true, true, false, true, true, false, false, false, false, false, false, false, false] rfl rfl (take_ofW HT_.out HW_.out pmBx15_12_) (fun _ _ _ h => h) (Or.inl ⟨by rfl, ?_⟩) hHeld ?_ ?_
        rotate_left
        · rintro w' ⟨s0, s1, s2, s3⟩
          go_simp
          with_reducible rfl
        rotate_left
        · simp only [Act.put, List.setIfInBounds_toArray, List.set_cons_zero, List.set_cons_succ, i64_w, i32_w]
          rfl
        refine take_ (i := 15) (N := some 62) (v := ?_) (a' := ?_) #[true, true, true, true, true, true, true, true, true, true, true, true, false, true, true, true, false, false, false, false, false, false, false] rfl rfl (take_ofW HT_.out HW_.out pmBx15_12_) (fun _ _ _ h => h) (Or.inl ⟨by rfl, ?_⟩) hHeld ?_ ?_
        rotate_left
        · rintro w' ⟨s0, s1, s2, s3⟩
          go_simp
          with_reducible rfl
        rotate_left
        · simp only [Act.put, List.setIfInBounds_toArray, List.set_cons_zero, List.set_cons_succ, i64_w, i32_w]
          rfl
        refine one_ (i := 12) (N := some 59) #[true, true, true, true, true, true, true, true, true, true, true, true, true, true, true, true, false, false, false, false, false, false, false] rfl rfl (one_of HT_.out pmBx15_12_) (by decide) (fun K hK => ?_)
        refine goes_ Try.func19 pmBx15_12_ rfl #[.int .i64 a1, .agg #[.bool a2_0, .int .i64 a2_1], .agg #[.bool a3_0, .int .i64 a3_1]] (by rfl) rfl rfl pmBx15_9_ ?_
        with_reducible refine (self_Inner.calls a1 a2_0 a2_1 a3_0 a3_1 t299 _ A11.out).mono ?_
        rintro e w36 ⟨rfl, hb⟩
        refine ⟨_, rfl, ?_⟩
        have n0_ := Aside0.mk (blk_below (g := gb291) (o := .cells #[.int .i64 a0_0, .int .i64 a0_1, .int .i64 a0_2, .int .i64 a0_3, .int .i64 a0_4, .int .i64 a0_5] 56 (0, 0)) pmBx15_0_ hb)
        have n1_ := Aside0.mk (blk_below (g := gb292) (o := .cells #[.bool a2_0, .int .i64 a2_1] 23 (0, 0)) pmBx15_1_ hb)
        have n2_ := Aside0.mk (blk_below (g := gb293) (o := .cells #[.bool a3_0, .int .i64 a3_1] 23 (0, 0)) pmBx15_3_ hb)
        have n3_ := Aside0.mk (blk_below (g := gb294) (o := .cells #[.int .i64 a4_0, .int .i64 a4_1] 46 (0, 0)) pmBx15_11_ hb)
        have n4_ := Aside0.mk (below_step pmBx15_2_ hb)
        clear BK291
        clear BK292
        clear BK293
        clear BK294
        clear HB
        have BK291 := n0_
        have BK292 := n1_
        have BK293 := n2_
        have BK294 := n3_
        have HB := n4_
        clear n0_ n1_ n2_ n3_ n4_
        (try clear hb)
        (try clear hb2)
        (try clear hk)
        (try clear hi)
        refine hK.out _ _ ⟨(blk_cell BK292.out 0).trans rfl, (blk_cell BK292.out 1).trans rfl, (blk_cell BK293.out 0).trans rfl, (blk_cell BK293.out 1).trans rfl⟩ (fun hHeld => ?_)
        clear hK K
        refine norm_ (a' := ?_) ?_ ?_
        rotate_left
        · show Act.put _ (some 59) _ = _
          simp only [Act.put, List.setIfInBounds_toArray, List.set_cons_zero, List.set_cons_succ, i64_w, i32_w]
          rfl
        refine one_ (i := 16) (N := some 63) #[true, true, true, true, true, true, true, true, true, true, true, true, true, true, true, true, true, false, false, false, false, false, false] rfl rfl (one_of HT_.out pmBx15_12_) (by decide) (fun K hK => ?_)
        refine goes_ Try.func20 pmBx15_12_ rfl #[.int .i64 a1, .agg #[.bool a2_0, .int .i64 a2_1], .agg #[.bool a3_0, .int .i64 a3_1]] (by rfl) rfl rfl pmBx15_9_ ?_
        with_reducible refine (parterreref29_Inner.calls a1 a2_0 a2_1 a3_0 a3_1 t300 _ A12.out).mono ?_
        rintro e w37 ⟨rfl, hb⟩
        refine ⟨_, rfl, ?_⟩
        have n0_ := Aside0.mk (blk_below (g := gb291) (o := .cells #[.int .i64 a0_0, .int .i64 a0_1, .int .i64 a0_2, .int .i64 a0_3, .int .i64 a0_4, .int .i64 a0_5] 56 (0, 0)) pmBx15_0_ hb)
        have n1_ := Aside0.mk (blk_below (g := gb292) (o := .cells #[.bool a2_0, .int .i64 a2_1] 23 (0, 0)) pmBx15_1_ hb)
        have n2_ := Aside0.mk (blk_below (g := gb293) (o := .cells #[.bool a3_0, .int .i64 a3_1] 23 (0, 0)) pmBx15_3_ hb)
        have n3_ := Aside0.mk (blk_below (g := gb294) (o := .cells #[.int .i64 a4_0, .int .i64 a4_1] 46 (0, 0)) pmBx15_11_ hb)
        have n4_ := Aside0.mk (below_step pmBx15_2_ hb)
        clear BK291
        clear BK292
        clear BK293
        clear BK294
        clear HB
        have BK291 := n0_
        have BK292 := n1_
        have BK293 := n2_
        have BK294 := n3_
        have HB := n4_
        clear n0_ n1_ n2_ n3_ n4_
        (try clear hb)
        (try clear hb2)
        (try clear hk)
        (try clear hi)
        refine hK.out _ _ ⟨(blk_cell BK292.out 0).trans rfl, (blk_cell BK292.out 1).trans rfl, (blk_cell BK293.out 0).trans rfl, (blk_cell BK293.out 1).trans rfl⟩ (fun hHeld => ?_)
        clear hK K
        refine norm_ (a' := ?_) ?_ ?_
        rotate_left
        · show Act.put _ (some 63) _ = _
          simp only [Act.put, List.setIfInBounds_toArray, List.set_cons_zero, List.set_cons_succ, i64_w, i32_w]
          rfl
        refine pure_ (i := 17) (N := some 64) (v := ?_) (a' := ?_) #[true, true, true, true, true, true, true, true, true, true, true, true, true, true, true, true, true, true, false, false, false, false, false] rfl rfl (any_of HT_.out pmBx15_12_) (fun _ _ _ h => h) (Or.inl ⟨by rfl, ?_⟩) ?_ ?_
        rotate_left
        · intro w'
          go_simp
          with_reducible rfl
        rotate_left
        · simp only [Act.put, List.setIfInBounds_toArray, List.set_cons_zero, List.set_cons_succ, i64_w, i32_w]
          rfl
        refine pure_ (i := 18) (N := some 65) (v := ?_) (a' := ?_) #[true, true, true, true, true, true, true, true, true, true, true, true, true, true, true, true, true, true, true, false, false, false, false] rfl rfl (any_of HT_.out pmBx15_12_) (fun _ _ _ h => h) (Or.inl ⟨by rfl, ?_⟩) ?_ ?_
        rotate_left
        · intro w'
          go_simp
          with_reducible rfl
        rotate_left
        · simp only [Act.put, List.setIfInBounds_toArray, List.set_cons_zero, List.set_cons_succ, i64_w, i32_w]
          rfl
        refine pure_ (i := 19) (N := some 66) (v := ?_) (a' := ?_) #[true, true, true, true, true, true, true, true, true, true, true, true, true, true, true, true, true, true, true, true, false, false, false] rfl rfl (any_of HT_.out pmBx15_12_) (fun _ _ _ h => h) (Or.inl ⟨by rfl, ?_⟩) ?_ ?_
        rotate_left
        · intro w'
          go_simp
          with_reducible rfl
        rotate_left
        · simp only [Act.put, List.setIfInBounds_toArray, List.set_cons_zero, List.set_cons_succ, i64_w, i32_w]
          rfl
        refine one_ (i := 20) (N := some 67) #[true, true, true, true, true, true, true, true, true, true, true, true, true, true, true, true, true, true, true, true, true, false, false] rfl rfl (one_of HT_.out pmBx15_12_) (by decide) (fun K hK => ?_)
        refine goes_ Try.func10 pmBx15_12_ rfl #[] (by rfl) rfl rfl pmBx15_9_ ?_
        with_reducible refine (parterrelaw29_lives.calls k  t301 _ A14.out).mono ?_
        rintro e w38 ⟨rfl, hb⟩
        refine ⟨_, rfl, ?_⟩
        have n0_ := Aside0.mk (blk_below (g := gb291) (o := .cells #[.int .i64 a0_0, .int .i64 a0_1, .int .i64 a0_2, .int .i64 a0_3, .int .i64 a0_4, .int .i64 a0_5] 56 (0, 0)) pmBx15_0_ hb)
        have n1_ := Aside0.mk (blk_below (g := gb292) (o := .cells #[.bool a2_0, .int .i64 a2_1] 23 (0, 0)) pmBx15_1_ hb)
        have n2_ := Aside0.mk (blk_below (g := gb293) (o := .cells #[.bool a3_0, .int .i64 a3_1] 23 (0, 0)) pmBx15_3_ hb)
        have n3_ := Aside0.mk (blk_below (g := gb294) (o := .cells #[.int .i64 a4_0, .int .i64 a4_1] 46 (0, 0)) pmBx15_11_ hb)
        have n4_ := Aside0.mk (below_step pmBx15_2_ hb)
        clear BK291
        clear BK292
        clear BK293
        clear BK294
        clear HB
        have BK291 := n0_
        have BK292 := n1_
        have BK293 := n2_
        have BK294 := n3_
        have HB := n4_
        clear n0_ n1_ n2_ n3_ n4_
        (try clear hb)
        (try clear hb2)
        (try clear hk)
        (try clear hi)
        refine hK.out _ _ ⟨(blk_cell BK292.out 0).trans rfl, (blk_cell BK292.out 1).trans rfl, (blk_cell BK293.out 0).trans rfl, (blk_cell BK293.out 1).trans rfl⟩ (fun hHeld => ?_)
        clear hK K
        refine norm_ (a' := ?_) ?_ ?_
        rotate_left
        · show Act.put _ (some 67) _ = _
          simp only [Act.put, List.setIfInBounds_toArray, List.set_cons_zero, List.set_cons_succ, i64_w, i32_w]
          rfl
        refine pure_ (i := 21) (N := some 68) (v := ?_) (a' := ?_) #[true, true, true, true, true, true, true, true, true, true, true, true, true, true, true, true, true, true, true, true, true, true, false] rfl rfl (any_of HT_.out pmBx15_12_) (fun _ _ _ h => h) (Or.inl ⟨by rfl, ?_⟩) ?_ ?_
        rotate_left
        · intro w'
          go_simp
          with_reducible rfl
        rotate_left
        · simp only [Act.put, List.setIfInBounds_toArray, List.set_cons_zero, List.set_cons_succ, i64_w, i32_w]
          rfl
        refine pure_ (i := 22) (N := some 12) (v := ?_) (a' := ?_) #[true, true, true, true, true, true, true, true, true, true, true, true, true, true, true, true, true, true, true, true, true, true, true] rfl rfl (any_of HT_.out pmBx15_12_) (fun _ _ _ h => h) (Or.inl ⟨by rfl, ?_⟩) ?_ ?_
        rotate_left
        · intro w'
          go_simp
          with_reducible rfl
        rotate_left
        · simp only [Act.put, List.setIfInBounds_toArray, List.set_cons_zero, List.set_cons_succ, i64_w, i32_w]
          rfl
        refine done_ (done_of HT_.out pmBx15_12_) ?_
        try go_wp2
        go_ret
        exact ⟨by first | rfl | (simp [errW_none, errW_some] <;> rfl) | (simp [*, errW_none, errW_some] <;> rfl), by repeat (first | (with_reducible first | exact HB.out | apply below_alloc | apply pw_below_drewN | apply below_drew1 | refine below_set ?_ GE291.out | refine below_set ?_ GE292.out | refine below_set ?_ GE293.out | refine below_set ?_ GE294.out) | exact HB.out)⟩
      · rw [if_neg c13] at H
        have c13b0 : (t299 == t300) = false := beq_eq_false_iff_ne.mpr c13
        have c13b1 : (t299 != t300) = true := bne_iff_ne.mpr c13
        obtain rfl := Option.some.inj H
        go_enter Try.func6, Try.ntmps6
        try go_wp2_with (first | ((with_reducible refine gate_dst (N := 6) rfl ?_); refine box_event ?hg (N := 6) ?hd (cs := #[.int .i64 a0_0, .int .i64 a0_1, .int .i64 a0_2, .int .i64 a0_3, .int .i64 a0_4, .int .i64 a0_5]) (t := 56) ?hr ?_; (case hd => rfl); (case hg => rfl); (case hr => first | (go_simp; done) | (go_simp; rfl)); intro gb291 hg w39 hbox hb; have n0_ := Aside0.mk (below_step pmBx15_10_ hb); have n1_ := Aside0.mk (hbox); have n2_ := Aside0.mk ((pmBx15_17_ : w.heap.size ≤ gb291)); have n3_ := Aside0.mk ((pmBx15_17_ : w.heap.size ≤ gb291)); clear HB; have HB := n0_; have BK291 := n1_; have GW291 := n2_; have GE291 := n3_; clear n0_ n1_ n2_ n3_; clear hb hbox hg) | ((with_reducible refine gate_dst (N := 8) rfl ?_); refine box_event ?hg (N := 8) ?hd (cs := #[.bool a2_0, .int .i64 a2_1]) (t := 23) ?hr ?_; (case hd => rfl); (case hg => rfl); (case hr => first | (go_simp; done) | (go_simp; rfl)); intro gb292 hg w40 hbox hb; have n0_ := Aside0.mk (blk_below (g := gb291) (o := .cells #[.int .i64 a0_0, .int .i64 a0_1, .int .i64 a0_2, .int .i64 a0_3, .int .i64 a0_4, .int .i64 a0_5] 56 (0, 0)) pmBx15_0_ hb); have n1_ := Aside0.mk (below_step pmBx15_8_ hb); have n2_ := Aside0.mk (hbox); have n3_ := Aside0.mk ((pmBx15_18_ : w.heap.size ≤ gb292)); have n4_ := Aside0.mk ((pmBx15_18_ : w.heap.size ≤ gb292)); have n5_ := Aside0.mk ((pmBx15_6_ : gb291 ≠ gb292)); have n6_ := Aside0.mk ((pmBx15_7_ : gb292 ≠ gb291)); clear BK291; clear HB; have BK291 := n0_; have HB := n1_; have BK292 := n2_; have GW292 := n3_; have GE292 := n4_; have NB291_292 := n5_; have NB292_291 := n6_; clear n0_ n1_ n2_ n3_ n4_ n5_ n6_; clear hb hbox hg) | ((with_reducible refine gate_dst (N := 9) rfl ?_); refine box_event ?hg (N := 9) ?hd (cs := #[.bool a3_0, .int .i64 a3_1]) (t := 23) ?hr ?_; (case hd => rfl); (case hg => rfl); (case hr => first | (go_simp; done) | (go_simp; rfl)); intro gb293 hg w41 hbox hb; have n0_ := Aside0.mk (blk_below (g := gb291) (o := .cells #[.int .i64 a0_0, .int .i64 a0_1, .int .i64 a0_2, .int .i64 a0_3, .int .i64 a0_4, .int .i64 a0_5] 56 (0, 0)) pmBx15_0_ hb); have n1_ := Aside0.mk (blk_below (g := gb292) (o := .cells #[.bool a2_0, .int .i64 a2_1] 23 (0, 0)) pmBx15_1_ hb); have n2_ := Aside0.mk (below_step pmBx15_5_ hb); have n3_ := Aside0.mk (hbox); have n4_ := Aside0.mk ((pmBx15_19_ : w.heap.size ≤ gb293)); have n5_ := Aside0.mk ((pmBx15_19_ : w.heap.size ≤ gb293)); have n6_ := Aside0.mk ((pmBx15_6_ : gb291 ≠ gb293)); have n7_ := Aside0.mk ((pmBx15_7_ : gb293 ≠ gb291)); have n8_ := Aside0.mk ((pmBx15_13_ : gb292 ≠ gb293)); have n9_ := Aside0.mk ((pmBx15_14_ : gb293 ≠ gb292)); clear BK291; clear BK292; clear HB; have BK291 := n0_; have BK292 := n1_; have HB := n2_; have BK293 := n3_; have GW293 := n4_; have GE293 := n5_; have NB291_293 := n6_; have NB293_291 := n7_; have NB292_293 := n8_; have NB293_292 := n9_; clear n0_ n1_ n2_ n3_ n4_ n5_ n6_ n7_ n8_ n9_; clear hb hbox hg) | ((with_reducible refine gate_dst (N := 10) rfl ?_); refine box_event ?hg (N := 10) ?hd (cs := #[.int .i64 a4_0, .int .i64 a4_1]) (t := 46) ?hr ?_; (case hd => rfl); (case hg => rfl); (case hr => first | (go_simp; done) | (go_simp; rfl)); intro gb294 hg w42 hbox hb; have n0_ := Aside0.mk (blk_below (g := gb291) (o := .cells #[.int .i64 a0_0, .int .i64 a0_1, .int .i64 a0_2, .int .i64 a0_3, .int .i64 a0_4, .int .i64 a0_5] 56 (0, 0)) pmBx15_0_ hb); have n1_ := Aside0.mk (blk_below (g := gb292) (o := .cells #[.bool a2_0, .int .i64 a2_1] 23 (0, 0)) pmBx15_1_ hb); have n2_ := Aside0.mk (blk_below (g := gb293) (o := .cells #[.bool a3_0, .int .i64 a3_1] 23 (0, 0)) pmBx15_3_ hb); have n3_ := Aside0.mk (below_step pmBx15_4_ hb); have n4_ := Aside0.mk (hbox); have n5_ := Aside0.mk ((pmBx15_20_ : w.heap.size ≤ gb294)); have n6_ := Aside0.mk ((pmBx15_20_ : w.heap.size ≤ gb294)); have n7_ := Aside0.mk ((pmBx15_6_ : gb291 ≠ gb294)); have n8_ := Aside0.mk ((pmBx15_7_ : gb294 ≠ gb291)); have n9_ := Aside0.mk ((pmBx15_13_ : gb292 ≠ gb294)); have n10_ := Aside0.mk ((pmBx15_14_ : gb294 ≠ gb292)); have n11_ := Aside0.mk ((pmBx15_15_ : gb293 ≠ gb294)); have n12_ := Aside0.mk ((pmBx15_16_ : gb294 ≠ gb293)); clear BK291; clear BK292; clear BK293; clear HB; have BK291 := n0_; have BK292 := n1_; have BK293 := n2_; have HB := n3_; have BK294 := n4_; have GW294 := n5_; have GE294 := n6_; have NB291_294 := n7_; have NB294_291 := n8_; have NB292_294 := n9_; have NB294_292 := n10_; have NB293_294 := n11_; have NB294_293 := n12_; clear n0_ n1_ n2_ n3_ n4_ n5_ n6_ n7_ n8_ n9_ n10_ n11_ n12_; clear hb hbox hg; have hnb43 := NB291_292.out; have hnc43 := NB292_291.out; have hnb44 := NB291_293.out; have hnc44 := NB293_291.out; have hnb45 := NB291_294.out; have hnc45 := NB294_291.out; have hcz46_0 : w42.cell? ⟨gb291, 0, none⟩ = some (.int .i64 a0_0) := (blk_cell BK291.out 0).trans rfl; have hcz46_1 : w42.cell? ⟨gb291, 1, none⟩ = some (.int .i64 a0_1) := (blk_cell BK291.out 1).trans rfl; have hcz46_2 : w42.cell? ⟨gb291, 2, none⟩ = some (.int .i64 a0_2) := (blk_cell BK291.out 2).trans rfl; have hcz46_3 : w42.cell? ⟨gb291, 3, none⟩ = some (.int .i64 a0_3) := (blk_cell BK291.out 3).trans rfl; have hcz46_4 : w42.cell? ⟨gb291, 4, none⟩ = some (.int .i64 a0_4) := (blk_cell BK291.out 4).trans rfl; have hcz46_5 : w42.cell? ⟨gb291, 5, none⟩ = some (.int .i64 a0_5) := (blk_cell BK291.out 5).trans rfl; have hfz46_0 := blk_frozen BK291.out 0; have hfz46_1 := blk_frozen BK291.out 1; have hfz46_2 := blk_frozen BK291.out 2; have hfz46_3 := blk_frozen BK291.out 3; have hfz46_4 := blk_frozen BK291.out 4; have hfz46_5 := blk_frozen BK291.out 5; have hnb47 := NB292_293.out; have hnc47 := NB293_292.out; have hnb48 := NB292_294.out; have hnc48 := NB294_292.out; have hcz49_0 : w42.cell? ⟨gb292, 0, none⟩ = some (.bool a2_0) := (blk_cell BK292.out 0).trans rfl; have hcz49_1 : w42.cell? ⟨gb292, 1, none⟩ = some (.int .i64 a2_1) := (blk_cell BK292.out 1).trans rfl; have hfz49_0 := blk_frozen BK292.out 0; have hfz49_1 := blk_frozen BK292.out 1; have hnb50 := NB293_294.out; have hnc50 := NB294_293.out; have hcz51_0 : w42.cell? ⟨gb293, 0, none⟩ = some (.bool a3_0) := (blk_cell BK293.out 0).trans rfl; have hcz51_1 : w42.cell? ⟨gb293, 1, none⟩ = some (.int .i64 a3_1) := (blk_cell BK293.out 1).trans rfl; have hfz51_0 := blk_frozen BK293.out 0; have hfz51_1 := blk_frozen BK293.out 1; have hcz52_0 : w42.cell? ⟨gb294, 0, none⟩ = some (.int .i64 a4_0) := (blk_cell BK294.out 0).trans rfl; have hcz52_1 : w42.cell? ⟨gb294, 1, none⟩ = some (.int .i64 a4_1) := (blk_cell BK294.out 1).trans rfl; have hfz52_0 := blk_frozen BK294.out 0; have hfz52_1 := blk_frozen BK294.out 1) | ((with_reducible refine gate_callee (f := 17) rfl ?_); refine goesL_ (some 29) rfl rfl Try.func17 pmBx15_12_ rfl #[.agg #[.int .i64 a0_0, .int .i64 a0_1], .agg #[.int .i64 a0_2, .int .i64 a0_3], .agg #[.int .i64 a0_4, .int .i64 a0_5], .int .i64 a1, .agg #[.bool a2_0, .int .i64 a2_1], .agg #[.bool a3_0, .int .i64 a3_1], .agg #[.int .i64 a4_0, .int .i64 a4_1], .bool a5] rfl pmBx15_9_ ?_; (with_reducible refine (self_Used.calls k a0_0 a0_1 a0_2 a0_3 a0_4 a0_5 a1 a2_0 a2_1 a3_0 a3_1 a4_0 a4_1 a5 t295 t296 _ A7.out).mono ?_); rintro e w53 ⟨rfl, hb⟩; refine ⟨_, rfl, ?_⟩; have n0_ := Aside0.mk (blk_below (g := gb291) (o := .cells #[.int .i64 a0_0, .int .i64 a0_1, .int .i64 a0_2, .int .i64 a0_3, .int .i64 a0_4, .int .i64 a0_5] 56 (0, 0)) pmBx15_0_ hb); have n1_ := Aside0.mk (blk_below (g := gb292) (o := .cells #[.bool a2_0, .int .i64 a2_1] 23 (0, 0)) pmBx15_1_ hb); have n2_ := Aside0.mk (blk_below (g := gb293) (o := .cells #[.bool a3_0, .int .i64 a3_1] 23 (0, 0)) pmBx15_3_ hb); have n3_ := Aside0.mk (blk_below (g := gb294) (o := .cells #[.int .i64 a4_0, .int .i64 a4_1] 46 (0, 0)) pmBx15_11_ hb); have n4_ := Aside0.mk (below_step pmBx15_2_ hb); clear BK291; clear BK292; clear BK293; clear BK294; clear HB; have BK291 := n0_; have BK292 := n1_; have BK293 := n2_; have BK294 := n3_; have HB := n4_; clear n0_ n1_ n2_ n3_ n4_; (try clear hb); (try clear hb2); (try clear hk); (try clear hi); have hcz54_0 : w53.cell? ⟨gb291, 0, none⟩ = some (.int .i64 a0_0) := (blk_cell BK291.out 0).trans rfl; have hcz54_1 : w53.cell? ⟨gb291, 1, none⟩ = some (.int .i64 a0_1) := (blk_cell BK291.out 1).trans rfl; have hcz54_2 : w53.cell? ⟨gb291, 2, none⟩ = some (.int .i64 a0_2) := (blk_cell BK291.out 2).trans rfl; have hcz54_3 : w53.cell? ⟨gb291, 3, none⟩ = some (.int .i64 a0_3) := (blk_cell BK291.out 3).trans rfl; have hcz54_4 : w53.cell? ⟨gb291, 4, none⟩ = some (.int .i64 a0_4) := (blk_cell BK291.out 4).trans rfl; have hcz54_5 : w53.cell? ⟨gb291, 5, none⟩ = some (.int .i64 a0_5) := (blk_cell BK291.out 5).trans rfl; have hfz54_0 := blk_frozen BK291.out 0; have hfz54_1 := blk_frozen BK291.out 1; have hfz54_2 := blk_frozen BK291.out 2; have hfz54_3 := blk_frozen BK291.out 3; have hfz54_4 := blk_frozen BK291.out 4; have hfz54_5 := blk_frozen BK291.out 5; have hcz55_0 : w53.cell? ⟨gb292, 0, none⟩ = some (.bool a2_0) := (blk_cell BK292.out 0).trans rfl; have hcz55_1 : w53.cell? ⟨gb292, 1, none⟩ = some (.int .i64 a2_1) := (blk_cell BK292.out 1).trans rfl; have hfz55_0 := blk_frozen BK292.out 0; have hfz55_1 := blk_frozen BK292.out 1; have hcz56_0 : w53.cell? ⟨gb293, 0, none⟩ = some (.bool a3_0) := (blk_cell BK293.out 0).trans rfl; have hcz56_1 : w53.cell? ⟨gb293, 1, none⟩ = some (.int .i64 a3_1) := (blk_cell BK293.out 1).trans rfl; have hfz56_0 := blk_frozen BK293.out 0; have hfz56_1 := blk_frozen BK293.out 1; have hcz57_0 : w53.cell? ⟨gb294, 0, none⟩ = some (.int .i64 a4_0) := (blk_cell BK294.out 0).trans rfl; have hcz57_1 : w53.cell? ⟨gb294, 1, none⟩ = some (.int .i64 a4_1) := (blk_cell BK294.out 1).trans rfl; have hfz57_0 := blk_frozen BK294.out 0; have hfz57_1 := blk_frozen BK294.out 1) | ((with_reducible refine gate_callee (f := 18) rfl ?_); refine goesL_ (some 44) rfl rfl Try.func18 pmBx15_12_ rfl #[.agg #[.int .i64 a0_0, .int .i64 a0_1], .agg #[.int .i64 a0_2, .int .i64 a0_3], .agg #[.int .i64 a0_4, .int .i64 a0_5], .int .i64 a1, .agg #[.bool a2_0, .int .i64 a2_1], .agg #[.bool a3_0, .int .i64 a3_1], .agg #[.int .i64 a4_0, .int .i64 a4_1], .bool a5] rfl pmBx15_9_ ?_; (with_reducible refine (parterreref29_Used.calls k a0_0 a0_1 a0_2 a0_3 a0_4 a0_5 a1 a2_0 a2_1 a3_0 a3_1 a4_0 a4_1 a5 t297 t298 _ A8.out).mono ?_); rintro e w58 ⟨rfl, hb⟩; refine ⟨_, rfl, ?_⟩; have n0_ := Aside0.mk (blk_below (g := gb291) (o := .cells #[.int .i64 a0_0, .int .i64 a0_1, .int .i64 a0_2, .int .i64 a0_3, .int .i64 a0_4, .int .i64 a0_5] 56 (0, 0)) pmBx15_0_ hb); have n1_ := Aside0.mk (blk_below (g := gb292) (o := .cells #[.bool a2_0, .int .i64 a2_1] 23 (0, 0)) pmBx15_1_ hb); have n2_ := Aside0.mk (blk_below (g := gb293) (o := .cells #[.bool a3_0, .int .i64 a3_1] 23 (0, 0)) pmBx15_3_ hb); have n3_ := Aside0.mk (blk_below (g := gb294) (o := .cells #[.int .i64 a4_0, .int .i64 a4_1] 46 (0, 0)) pmBx15_11_ hb); have n4_ := Aside0.mk (below_step pmBx15_2_ hb); clear BK291; clear BK292; clear BK293; clear BK294; clear HB; have BK291 := n0_; have BK292 := n1_; have BK293 := n2_; have BK294 := n3_; have HB := n4_; clear n0_ n1_ n2_ n3_ n4_; (try clear hb); (try clear hb2); (try clear hk); (try clear hi)))
        have n0_ := Aside0.mk (blk_drew BK291.out)
        have n1_ := Aside0.mk (blk_drew BK292.out)
        have n2_ := Aside0.mk (blk_drew BK293.out)
        have n3_ := Aside0.mk (blk_drew BK294.out)
        have n4_ := Aside0.mk (below_drew1 HB.out)
        clear BK291
        clear BK292
        clear BK293
        clear BK294
        clear HB
        have BK291 := n0_
        have BK292 := n1_
        have BK293 := n2_
        have BK294 := n3_
        have HB := n4_
        clear n0_ n1_ n2_ n3_ n4_
        refine start_ (n := 23) (S := fun w' => w'.cell? ⟨gb292, 0, none⟩ = some (.bool a2_0) ∧ w'.cell? ⟨gb292, 1, none⟩ = some (.int .i64 a2_1) ∧ w'.cell? ⟨gb293, 0, none⟩ = some (.bool a3_0) ∧ w'.cell? ⟨gb293, 1, none⟩ = some (.int .i64 a3_1)) (ds := []) #[false, false, false, false, false, false, false, false, false, false, false, false, false, false, false, false, false, false, false, false, false, false, false] pmBx15_12_ rfl rfl ⟨(blk_cell BK292.out 0).trans rfl, (blk_cell BK292.out 1).trans rfl, (blk_cell BK293.out 0).trans rfl, (blk_cell BK293.out 1).trans rfl⟩ (fun hHeld => ?_); refine with_tabW parterrelaw29_SelfUsed.tab3 parterrelaw29_SelfUsed.bits3 (fun HT_ HW_ => ?_)
        generalize w58.drew = w59 at BK291 BK292 BK293 BK294 HB hHeld ⊢
        refine pure_ (i := 0) (N := some 47) (v := ?_) (a' := ?_) #[true, false, false, false, false, false, false, false, false, false, false, false, false, false, false, false, false, false, false, false, false, false, false] rfl rfl (any_of HT_.out pmBx15_12_) (fun _ _ _ h => h) (Or.inl ⟨by rfl, ?_⟩) ?_ ?_
        rotate_left
        · intro w'
          go_simp
          with_reducible rfl
        rotate_left
        · simp only [Act.put, List.setIfInBounds_toArray, List.set_cons_zero, List.set_cons_succ, i64_w, i32_w]
          rfl
        refine pure_ (i := 1) (N := some 48) (v := ?_) (a' := ?_) #[true, true, false, false, false, false, false, false, false, false, false, false, false, false, false, false, false, false, false, false, false, false, false] rfl rfl (any_of HT_.out pmBx15_12_) (fun _ _ _ h => h) (Or.inl ⟨by rfl, ?_⟩) ?_ ?_
        rotate_left
        · intro w'
          go_simp
          with_reducible rfl
        rotate_left
        · simp only [Act.put, List.setIfInBounds_toArray, List.set_cons_zero, List.set_cons_succ, i64_w, i32_w]
          rfl
        refine pure_ (i := 2) (N := some 49) (v := ?_) (a' := ?_) #[true, true, true, false, false, false, false, false, false, false, false, false, false, false, false, false, false, false, false, false, false, false, false] rfl rfl (any_of HT_.out pmBx15_12_) (fun _ _ _ h => h) (Or.inl ⟨by rfl, ?_⟩) ?_ ?_
        rotate_left
        · intro w'
          go_simp
          with_reducible rfl
        rotate_left
        · simp only [Act.put, List.setIfInBounds_toArray, List.set_cons_zero, List.set_cons_succ, i64_w, i32_w]
          rfl
        refine pure_ (i := 3) (N := some 50) (v := ?_) (a' := ?_) #[true, true, true, true, false, false, false, false, false, false, false, false, false, false, false, false, false, false, false, false, false, false, false] rfl rfl (any_of HT_.out pmBx15_12_) (fun _ _ _ h => h) (Or.inl ⟨by rfl, ?_⟩) ?_ ?_
        rotate_left
        · intro w'
          go_simp
          with_reducible rfl
        rotate_left
        · simp only [Act.put, List.setIfInBounds_toArray, List.set_cons_zero, List.set_cons_succ, i64_w, i32_w]
          rfl
        refine pure_ (i := 4) (N := some 51) (v := ?_) (a' := ?_) #[true, true, true, true, true, false, false, false, false, false, false, false, false, false, false, false, false, false, false, false, false, false, false] rfl rfl (any_of HT_.out pmBx15_12_) (fun _ _ _ h => h) (Or.inl ⟨by rfl, ?_⟩) ?_ ?_
        rotate_left
        · intro w'
          go_simp
          with_reducible rfl
        rotate_left
        · simp only [Act.put, List.setIfInBounds_toArray, List.set_cons_zero, List.set_cons_succ, i64_w, i32_w]
          rfl
        refine pure_ (i := 5) (N := some 52) (v := ?_) (a' := ?_) #[true, true, true, true, true, true, false, false, false, false, false, false, false, false, false, false, false, false, false, false, false, false, false] rfl rfl (any_of HT_.out pmBx15_12_) (fun _ _ _ h => h) (Or.inl ⟨by rfl, ?_⟩) ?_ ?_
        rotate_left
        · intro w'
          go_simp
          with_reducible rfl
        rotate_left
        · simp only [Act.put, List.setIfInBounds_toArray, List.set_cons_zero, List.set_cons_succ, i64_w, i32_w]
          rfl
        refine pure_ (i := 6) (N := some 53) (v := ?_) (a' := ?_) #[true, true, true, true, true, true, true, false, false, false, false, false, false, false, false, false, false, false, false, false, false, false, false] rfl rfl (any_of HT_.out pmBx15_12_) (fun _ _ _ h => h) (Or.inl ⟨by rfl, ?_⟩) ?_ ?_
        rotate_left
        · intro w'
          go_simp
          with_reducible rfl
        rotate_left
        · simp only [Act.put, List.setIfInBounds_toArray, List.set_cons_zero, List.set_cons_succ, i64_w, i32_w]
          rfl
        refine pure_ (i := 7) (N := some 54) (v := ?_) (a' := ?_) #[true, true, true, true, true, true, true, true, false, false, false, false, false, false, false, false, false, false, false, false, false, false, false] rfl rfl (any_of HT_.out pmBx15_12_) (fun _ _ _ h => h) (Or.inl ⟨by rfl, ?_⟩) ?_ ?_
        rotate_left
        · intro w'
          go_simp
          with_reducible rfl
        rotate_left
        · simp only [Act.put, List.setIfInBounds_toArray, List.set_cons_zero, List.set_cons_succ, i64_w, i32_w]
          rfl
        refine pure_ (i := 8) (N := some 55) (v := ?_) (a' := ?_) #[true, true, true, true, true, true, true, true, true, false, false, false, false, false, false, false, false, false, false, false, false, false, false] rfl rfl (any_of HT_.out pmBx15_12_) (fun _ _ _ h => h) (Or.inl ⟨by rfl, ?_⟩) ?_ ?_
        rotate_left
        · intro w'
          go_simp
          with_reducible rfl
        rotate_left
        · simp only [Act.put, List.setIfInBounds_toArray, List.set_cons_zero, List.set_cons_succ, i64_w, i32_w]
          rfl
        refine pure_ (i := 9) (N := some 56) (v := ?_) (a' := ?_) #[true, true, true, true, true, true, true, true, true, true, false, false, false, false, false, false, false, false, false, false, false, false, false] rfl rfl (any_of HT_.out pmBx15_12_) (fun _ _ _ h => h) (Or.inl ⟨by rfl, ?_⟩) ?_ ?_
        rotate_left
        · intro w'
          go_simp
          with_reducible rfl
        rotate_left
        · simp only [Act.put, List.setIfInBounds_toArray, List.set_cons_zero, List.set_cons_succ, i64_w, i32_w]
          rfl
        refine pure_ (i := 13) (N := some 60) (v := ?_) (a' := ?_) #[true, true, true, true, true, true, true, true, true, true, false, false, false, true, false, false, false, false, false, false, false, false, false] rfl rfl (any_of HT_.out pmBx15_12_) (fun _ _ _ h => h) (Or.inl ⟨by rfl, ?_⟩) ?_ ?_
        rotate_left
        · intro w'
          go_simp
          with_reducible rfl
        rotate_left
        · simp only [Act.put, List.setIfInBounds_toArray, List.set_cons_zero, List.set_cons_succ, i64_w, i32_w]
          rfl
        refine take_ (i := 10) (N := some 57) (v := ?_) (a' := ?_) #[true, true, true, true, true, true, true, true, true, true, true, false, false, true, false, false, false, false, false, false, false, false, false] rfl rfl (take_ofW HT_.out HW_.out pmBx15_12_) (fun _ _ _ h => h) (Or.inl ⟨by rfl, ?_⟩) hHeld ?_ ?_
        rotate_left
        · rintro w' ⟨s0, s1, s2, s3⟩
          go_simp
          with_reducible rfl
        rotate_left
        · simp only [Act.put, List.setIfInBounds_toArray, List.set_cons_zero, List.set_cons_succ, i64_w, i32_w]
          rfl
        refine take_ (i := 11) (N := some 58) (v := ?_) (a' := ?_) #[true, true, true, true, true, true, true, true, true, true, true, true, false, true, false, false, false, false, false, false, false, false, false] rfl rfl (take_ofW HT_.out HW_.out pmBx15_12_) (fun _ _ _ h => h) (Or.inl ⟨by rfl, ?_⟩) hHeld ?_ ?_
        rotate_left
        · rintro w' ⟨s0, s1, s2, s3⟩
          go_simp
          with_reducible rfl
        rotate_left
        · simp only [Act.put, List.setIfInBounds_toArray, List.set_cons_zero, List.set_cons_succ, i64_w, i32_w]
          rfl
        refine take_ (i := 14) (N := some 61) (v := ?_) (a' := ?_) #[true, true, true, true, true, true, true, true, true, true, true, true, false, true, true, false, false, false, false, false, false, false, false] rfl rfl (take_ofW HT_.out HW_.out pmBx15_12_) (fun _ _ _ h => h) (Or.inl ⟨by rfl, ?_⟩) hHeld ?_ ?_
        rotate_left
        · rintro w' ⟨s0, s1, s2, s3⟩
          go_simp
          with_reducible rfl
        rotate_left
        · simp only [Act.put, List.setIfInBounds_toArray, List.set_cons_zero, List.set_cons_succ, i64_w, i32_w]
          rfl
        refine take_ (i := 15) (N := some 62) (v := ?_) (a' := ?_) #[true, true, true, true, true, true, true, true, true, true, true, true, false, true, true, true, false, false, false, false, false, false, false] rfl rfl (take_ofW HT_.out HW_.out pmBx15_12_) (fun _ _ _ h => h) (Or.inl ⟨by rfl, ?_⟩) hHeld ?_ ?_
        rotate_left
        · rintro w' ⟨s0, s1, s2, s3⟩
          go_simp
          with_reducible rfl
        rotate_left
        · simp only [Act.put, List.setIfInBounds_toArray, List.set_cons_zero, List.set_cons_succ, i64_w, i32_w]
          rfl
        refine one_ (i := 12) (N := some 59) #[true, true, true, true, true, true, true, true, true, true, true, true, true, true, true, true, false, false, false, false, false, false, false] rfl rfl (one_of HT_.out pmBx15_12_) (by decide) (fun K hK => ?_)
        refine goes_ Try.func19 pmBx15_12_ rfl #[.int .i64 a1, .agg #[.bool a2_0, .int .i64 a2_1], .agg #[.bool a3_0, .int .i64 a3_1]] (by rfl) rfl rfl pmBx15_9_ ?_
        with_reducible refine (self_Inner.calls a1 a2_0 a2_1 a3_0 a3_1 t299 _ A11.out).mono ?_
        rintro e w60 ⟨rfl, hb⟩
        refine ⟨_, rfl, ?_⟩
        have n0_ := Aside0.mk (blk_below (g := gb291) (o := .cells #[.int .i64 a0_0, .int .i64 a0_1, .int .i64 a0_2, .int .i64 a0_3, .int .i64 a0_4, .int .i64 a0_5] 56 (0, 0)) pmBx15_0_ hb)
        have n1_ := Aside0.mk (blk_below (g := gb292) (o := .cells #[.bool a2_0, .int .i64 a2_1] 23 (0, 0)) pmBx15_1_ hb)
        have n2_ := Aside0.mk (blk_below (g := gb293) (o := .cells #[.bool a3_0, .int .i64 a3_1] 23 (0, 0)) pmBx15_3_ hb)
        have n3_ := Aside0.mk (blk_below (g := gb294) (o := .cells #[.int .i64 a4_0, .int .i64 a4_1] 46 (0, 0)) pmBx15_11_ hb)
        have n4_ := Aside0.mk (below_step pmBx15_2_ hb)
        clear BK291
        clear BK292
        clear BK293
        clear BK294
        clear HB
        have BK291 := n0_
        have BK292 := n1_
        have BK293 := n2_
        have BK294 := n3_
        have HB := n4_
        clear n0_ n1_ n2_ n3_ n4_
        (try clear hb)
        (try clear hb2)
        (try clear hk)
        (try clear hi)
        refine hK.out _ _ ⟨(blk_cell BK292.out 0).trans rfl, (blk_cell BK292.out 1).trans rfl, (blk_cell BK293.out 0).trans rfl, (blk_cell BK293.out 1).trans rfl⟩ (fun hHeld => ?_)
        clear hK K
        refine norm_ (a' := ?_) ?_ ?_
        rotate_left
        · show Act.put _ (some 59) _ = _
          simp only [Act.put, List.setIfInBounds_toArray, List.set_cons_zero, List.set_cons_succ, i64_w, i32_w]
          rfl
        refine one_ (i := 16) (N := some 63) #[true, true, true, true, true, true, true, true, true, true, true, true, true, true, true, true, true, false, false, false, false, false, false] rfl rfl (one_of HT_.out pmBx15_12_) (by decide) (fun K hK => ?_)
        refine goes_ Try.func20 pmBx15_12_ rfl #[.int .i64 a1, .agg #[.bool a2_0, .int .i64 a2_1], .agg #[.bool a3_0, .int .i64 a3_1]] (by rfl) rfl rfl pmBx15_9_ ?_
        with_reducible refine (parterreref29_Inner.calls a1 a2_0 a2_1 a3_0 a3_1 t300 _ A12.out).mono ?_
        rintro e w61 ⟨rfl, hb⟩
        refine ⟨_, rfl, ?_⟩
        have n0_ := Aside0.mk (blk_below (g := gb291) (o := .cells #[.int .i64 a0_0, .int .i64 a0_1, .int .i64 a0_2, .int .i64 a0_3, .int .i64 a0_4, .int .i64 a0_5] 56 (0, 0)) pmBx15_0_ hb)
        have n1_ := Aside0.mk (blk_below (g := gb292) (o := .cells #[.bool a2_0, .int .i64 a2_1] 23 (0, 0)) pmBx15_1_ hb)
        have n2_ := Aside0.mk (blk_below (g := gb293) (o := .cells #[.bool a3_0, .int .i64 a3_1] 23 (0, 0)) pmBx15_3_ hb)
        have n3_ := Aside0.mk (blk_below (g := gb294) (o := .cells #[.int .i64 a4_0, .int .i64 a4_1] 46 (0, 0)) pmBx15_11_ hb)
        have n4_ := Aside0.mk (below_step pmBx15_2_ hb)
        clear BK291
        clear BK292
        clear BK293
        clear BK294
        clear HB
        have BK291 := n0_
        have BK292 := n1_
        have BK293 := n2_
        have BK294 := n3_
        have HB := n4_
        clear n0_ n1_ n2_ n3_ n4_
        (try clear hb)
        (try clear hb2)
        (try clear hk)
        (try clear hi)
        refine hK.out _ _ ⟨(blk_cell BK292.out 0).trans rfl, (blk_cell BK292.out 1).trans rfl, (blk_cell BK293.out 0).trans rfl, (blk_cell BK293.out 1).trans rfl⟩ (fun hHeld => ?_)
        clear hK K
        refine norm_ (a' := ?_) ?_ ?_
        rotate_left
        · show Act.put _ (some 63) _ = _
          simp only [Act.put, List.setIfInBounds_toArray, List.set_cons_zero, List.set_cons_succ, i64_w, i32_w]
          rfl
        refine pure_ (i := 17) (N := some 64) (v := ?_) (a' := ?_) #[true, true, true, true, true, true, true, true, true, true, true, true, true, true, true, true, true, true, false, false, false, false, false] rfl rfl (any_of HT_.out pmBx15_12_) (fun _ _ _ h => h) (Or.inl ⟨by rfl, ?_⟩) ?_ ?_
        rotate_left
        · intro w'
          go_simp
          with_reducible rfl
        rotate_left
        · simp only [Act.put, List.setIfInBounds_toArray, List.set_cons_zero, List.set_cons_succ, i64_w, i32_w]
          rfl
        refine pure_ (i := 18) (N := some 65) (v := ?_) (a' := ?_) #[true, true, true, true, true, true, true, true, true, true, true, true, true, true, true, true, true, true, true, false, false, false, false] rfl rfl (any_of HT_.out pmBx15_12_) (fun _ _ _ h => h) (Or.inl ⟨by rfl, ?_⟩) ?_ ?_
        rotate_left
        · intro w'
          go_simp
          with_reducible rfl
        rotate_left
        · simp only [Act.put, List.setIfInBounds_toArray, List.set_cons_zero, List.set_cons_succ, i64_w, i32_w]
          rfl
        refine pure_ (i := 19) (N := some 66) (v := ?_) (a' := ?_) #[true, true, true, true, true, true, true, true, true, true, true, true, true, true, true, true, true, true, true, true, false, false, false] rfl rfl (any_of HT_.out pmBx15_12_) (fun _ _ _ h => h) (Or.inl ⟨by rfl, ?_⟩) ?_ ?_
        rotate_left
        · intro w'
          go_simp
          with_reducible rfl
        rotate_left
        · simp only [Act.put, List.setIfInBounds_toArray, List.set_cons_zero, List.set_cons_succ, i64_w, i32_w]
          rfl
        refine pure_ (i := 20) (N := some 67) (v := undef) (a' := ?_) #[true, true, true, true, true, true, true, true, true, true, true, true, true, true, true, true, true, true, true, true, true, false, false] rfl rfl (any_of HT_.out pmBx15_12_) (fun _ _ _ h => h) (Or.inr ⟨by rfl, rfl⟩) ?_ ?_
        rotate_left
        · simp only [Act.put, List.setIfInBounds_toArray, List.set_cons_zero, List.set_cons_succ, i64_w, i32_w]
          rfl
        refine pure_ (i := 21) (N := some 68) (v := ?_) (a' := ?_) #[true, true, true, true, true, true, true, true, true, true, true, true, true, true, true, true, true, true, true, true, true, true, false] rfl rfl (any_of HT_.out pmBx15_12_) (fun _ _ _ h => h) (Or.inl ⟨by rfl, ?_⟩) ?_ ?_
        rotate_left
        · intro w'
          go_simp
          with_reducible rfl
        rotate_left
        · simp only [Act.put, List.setIfInBounds_toArray, List.set_cons_zero, List.set_cons_succ, i64_w, i32_w]
          rfl
        refine pure_ (i := 22) (N := some 12) (v := ?_) (a' := ?_) #[true, true, true, true, true, true, true, true, true, true, true, true, true, true, true, true, true, true, true, true, true, true, true] rfl rfl (any_of HT_.out pmBx15_12_) (fun _ _ _ h => h) (Or.inl ⟨by rfl, ?_⟩) ?_ ?_
        rotate_left
        · intro w'
          go_simp
          with_reducible rfl
        rotate_left
        · simp only [Act.put, List.setIfInBounds_toArray, List.set_cons_zero, List.set_cons_succ, i64_w, i32_w]
          rfl
        refine done_ (done_of HT_.out pmBx15_12_) ?_
        try go_wp2
        go_ret
        exact ⟨by first | rfl | (simp [errW_none, errW_some] <;> rfl) | (simp [*, errW_none, errW_some] <;> rfl), by repeat (first | (with_reducible first | exact HB.out | apply below_alloc | apply pw_below_drewN | apply below_drew1 | refine below_set ?_ GE291.out | refine below_set ?_ GE292.out | refine below_set ?_ GE293.out | refine below_set ?_ GE294.out) | exact HB.out)⟩
    · rw [if_neg c10] at H
      have c10b0 : (t296 == t298) = false := beq_eq_false_iff_ne.mpr c10
      have c10b1 : (t296 != t298) = true := bne_iff_ne.mpr c10
      obtain rfl := Option.some.inj H
      go_enter Try.func6, Try.ntmps6
      try go_wp2_with (first | ((with_reducible refine gate_dst (N := 6) rfl ?_); refine box_event ?hg (N := 6) ?hd (cs := #[.int .i64 a0_0, .int .i64 a0_1, .int .i64 a0_2, .int .i64 a0_3, .int .i64 a0_4, .int .i64 a0_5]) (t := 56) ?hr ?_; (case hd => rfl); (case hg => rfl); (case hr => first | (go_simp; done) | (go_simp; rfl)); intro gb291 hg w62 hbox hb; have n0_ := Aside0.mk (below_step pmBx15_10_ hb); have n1_ := Aside0.mk (hbox); have n2_ := Aside0.mk ((pmBx15_17_ : w.heap.size ≤ gb291)); have n3_ := Aside0.mk ((pmBx15_17_ : w.heap.size ≤ gb291)); clear HB; have HB := n0_; have BK291 := n1_; have GW291 := n2_; have GE291 := n3_; clear n0_ n1_ n2_ n3_; clear hb hbox hg) | ((with_reducible refine gate_dst (N := 8) rfl ?_); refine box_event ?hg (N := 8) ?hd (cs := #[.bool a2_0, .int .i64 a2_1]) (t := 23) ?hr ?_; (case hd => rfl); (case hg => rfl); (case hr => first | (go_simp; done) | (go_simp; rfl)); intro gb292 hg w63 hbox hb; have n0_ := Aside0.mk (blk_below (g := gb291) (o := .cells #[.int .i64 a0_0, .int .i64 a0_1, .int .i64 a0_2, .int .i64 a0_3, .int .i64 a0_4, .int .i64 a0_5] 56 (0, 0)) pmBx15_0_ hb); have n1_ := Aside0.mk (below_step pmBx15_8_ hb); have n2_ := Aside0.mk (hbox); have n3_ := Aside0.mk ((pmBx15_18_ : w.heap.size ≤ gb292)); have n4_ := Aside0.mk ((pmBx15_18_ : w.heap.size ≤ gb292)); have n5_ := Aside0.mk ((pmBx15_6_ : gb291 ≠ gb292)); have n6_ := Aside0.mk ((pmBx15_7_ : gb292 ≠ gb291)); clear BK291; clear HB; have BK291 := n0_; have HB := n1_; have BK292 := n2_; have GW292 := n3_; have GE292 := n4_; have NB291_292 := n5_; have NB292_291 := n6_; clear n0_ n1_ n2_ n3_ n4_ n5_ n6_; clear hb hbox hg) | ((with_reducible refine gate_dst (N := 9) rfl ?_); refine box_event ?hg (N := 9) ?hd (cs := #[.bool a3_0, .int .i64 a3_1]) (t := 23) ?hr ?_; (case hd => rfl); (case hg => rfl); (case hr => first | (go_simp; done) | (go_simp; rfl)); intro gb293 hg w64 hbox hb; have n0_ := Aside0.mk (blk_below (g := gb291) (o := .cells #[.int .i64 a0_0, .int .i64 a0_1, .int .i64 a0_2, .int .i64 a0_3, .int .i64 a0_4, .int .i64 a0_5] 56 (0, 0)) pmBx15_0_ hb); have n1_ := Aside0.mk (blk_below (g := gb292) (o := .cells #[.bool a2_0, .int .i64 a2_1] 23 (0, 0)) pmBx15_1_ hb); have n2_ := Aside0.mk (below_step pmBx15_5_ hb); have n3_ := Aside0.mk (hbox); have n4_ := Aside0.mk ((pmBx15_19_ : w.heap.size ≤ gb293)); have n5_ := Aside0.mk ((pmBx15_19_ : w.heap.size ≤ gb293)); have n6_ := Aside0.mk ((pmBx15_6_ : gb291 ≠ gb293)); have n7_ := Aside0.mk ((pmBx15_7_ : gb293 ≠ gb291)); have n8_ := Aside0.mk ((pmBx15_13_ : gb292 ≠ gb293)); have n9_ := Aside0.mk ((pmBx15_14_ : gb293 ≠ gb292)); clear BK291; clear BK292; clear HB; have BK291 := n0_; have BK292 := n1_; have HB := n2_; have BK293 := n3_; have GW293 := n4_; have GE293 := n5_; have NB291_293 := n6_; have NB293_291 := n7_; have NB292_293 := n8_; have NB293_292 := n9_; clear n0_ n1_ n2_ n3_ n4_ n5_ n6_ n7_ n8_ n9_; clear hb hbox hg) | ((with_reducible refine gate_dst (N := 10) rfl ?_); refine box_event ?hg (N := 10) ?hd (cs := #[.int .i64 a4_0, .int .i64 a4_1]) (t := 46) ?hr ?_; (case hd => rfl); (case hg => rfl); (case hr => first | (go_simp; done) | (go_simp; rfl)); intro gb294 hg w65 hbox hb; have n0_ := Aside0.mk (blk_below (g := gb291) (o := .cells #[.int .i64 a0_0, .int .i64 a0_1, .int .i64 a0_2, .int .i64 a0_3, .int .i64 a0_4, .int .i64 a0_5] 56 (0, 0)) pmBx15_0_ hb); have n1_ := Aside0.mk (blk_below (g := gb292) (o := .cells #[.bool a2_0, .int .i64 a2_1] 23 (0, 0)) pmBx15_1_ hb); have n2_ := Aside0.mk (blk_below (g := gb293) (o := .cells #[.bool a3_0, .int .i64 a3_1] 23 (0, 0)) pmBx15_3_ hb); have n3_ := Aside0.mk (below_step pmBx15_4_ hb); have n4_ := Aside0.mk (hbox); have n5_ := Aside0.mk ((pmBx15_20_ : w.heap.size ≤ gb294)); have n6_ := Aside0.mk ((pmBx15_20_ : w.heap.size ≤ gb294)); have n7_ := Aside0.mk ((pmBx15_6_ : gb291 ≠ gb294)); have n8_ := Aside0.mk ((pmBx15_7_ : gb294 ≠ gb291)); have n9_ := Aside0.mk ((pmBx15_13_ : gb292 ≠ gb294)); have n10_ := Aside0.mk ((pmBx15_14_ : gb294 ≠ gb292)); have n11_ := Aside0.mk ((pmBx15_15_ : gb293 ≠ gb294)); have n12_ := Aside0.mk ((pmBx15_16_ : gb294 ≠ gb293)); clear BK291; clear BK292; clear BK293; clear HB; have BK291 := n0_; have BK292 := n1_; have BK293 := n2_; have HB := n3_; have BK294 := n4_; have GW294 := n5_; have GE294 := n6_; have NB291_294 := n7_; have NB294_291 := n8_; have NB292_294 := n9_; have NB294_292 := n10_; have NB293_294 := n11_; have NB294_293 := n12_; clear n0_ n1_ n2_ n3_ n4_ n5_ n6_ n7_ n8_ n9_ n10_ n11_ n12_; clear hb hbox hg; have hnb66 := NB291_292.out; have hnc66 := NB292_291.out; have hnb67 := NB291_293.out; have hnc67 := NB293_291.out; have hnb68 := NB291_294.out; have hnc68 := NB294_291.out; have hcz69_0 : w65.cell? ⟨gb291, 0, none⟩ = some (.int .i64 a0_0) := (blk_cell BK291.out 0).trans rfl; have hcz69_1 : w65.cell? ⟨gb291, 1, none⟩ = some (.int .i64 a0_1) := (blk_cell BK291.out 1).trans rfl; have hcz69_2 : w65.cell? ⟨gb291, 2, none⟩ = some (.int .i64 a0_2) := (blk_cell BK291.out 2).trans rfl; have hcz69_3 : w65.cell? ⟨gb291, 3, none⟩ = some (.int .i64 a0_3) := (blk_cell BK291.out 3).trans rfl; have hcz69_4 : w65.cell? ⟨gb291, 4, none⟩ = some (.int .i64 a0_4) := (blk_cell BK291.out 4).trans rfl; have hcz69_5 : w65.cell? ⟨gb291, 5, none⟩ = some (.int .i64 a0_5) := (blk_cell BK291.out 5).trans rfl; have hfz69_0 := blk_frozen BK291.out 0; have hfz69_1 := blk_frozen BK291.out 1; have hfz69_2 := blk_frozen BK291.out 2; have hfz69_3 := blk_frozen BK291.out 3; have hfz69_4 := blk_frozen BK291.out 4; have hfz69_5 := blk_frozen BK291.out 5; have hnb70 := NB292_293.out; have hnc70 := NB293_292.out; have hnb71 := NB292_294.out; have hnc71 := NB294_292.out; have hcz72_0 : w65.cell? ⟨gb292, 0, none⟩ = some (.bool a2_0) := (blk_cell BK292.out 0).trans rfl; have hcz72_1 : w65.cell? ⟨gb292, 1, none⟩ = some (.int .i64 a2_1) := (blk_cell BK292.out 1).trans rfl; have hfz72_0 := blk_frozen BK292.out 0; have hfz72_1 := blk_frozen BK292.out 1; have hnb73 := NB293_294.out; have hnc73 := NB294_293.out; have hcz74_0 : w65.cell? ⟨gb293, 0, none⟩ = some (.bool a3_0) := (blk_cell BK293.out 0).trans rfl; have hcz74_1 : w65.cell? ⟨gb293, 1, none⟩ = some (.int .i64 a3_1) := (blk_cell BK293.out 1).trans rfl; have hfz74_0 := blk_frozen BK293.out 0; have hfz74_1 := blk_frozen BK293.out 1; have hcz75_0 : w65.cell? ⟨gb294, 0, none⟩ = some (.int .i64 a4_0) := (blk_cell BK294.out 0).trans rfl; have hcz75_1 : w65.cell? ⟨gb294, 1, none⟩ = some (.int .i64 a4_1) := (blk_cell BK294.out 1).trans rfl; have hfz75_0 := blk_frozen BK294.out 0; have hfz75_1 := blk_frozen BK294.out 1) | ((with_reducible refine gate_callee (f := 17) rfl ?_); refine goesL_ (some 29) rfl rfl Try.func17 pmBx15_12_ rfl #[.agg #[.int .i64 a0_0, .int .i64 a0_1], .agg #[.int .i64 a0_2, .int .i64 a0_3], .agg #[.int .i64 a0_4, .int .i64 a0_5], .int .i64 a1, .agg #[.bool a2_0, .int .i64 a2_1], .agg #[.bool a3_0, .int .i64 a3_1], .agg #[.int .i64 a4_0, .int .i64 a4_1], .bool a5] rfl pmBx15_9_ ?_; (with_reducible refine (self_Used.calls k a0_0 a0_1 a0_2 a0_3 a0_4 a0_5 a1 a2_0 a2_1 a3_0 a3_1 a4_0 a4_1 a5 t295 t296 _ A7.out).mono ?_); rintro e w76 ⟨rfl, hb⟩; refine ⟨_, rfl, ?_⟩; have n0_ := Aside0.mk (blk_below (g := gb291) (o := .cells #[.int .i64 a0_0, .int .i64 a0_1, .int .i64 a0_2, .int .i64 a0_3, .int .i64 a0_4, .int .i64 a0_5] 56 (0, 0)) pmBx15_0_ hb); have n1_ := Aside0.mk (blk_below (g := gb292) (o := .cells #[.bool a2_0, .int .i64 a2_1] 23 (0, 0)) pmBx15_1_ hb); have n2_ := Aside0.mk (blk_below (g := gb293) (o := .cells #[.bool a3_0, .int .i64 a3_1] 23 (0, 0)) pmBx15_3_ hb); have n3_ := Aside0.mk (blk_below (g := gb294) (o := .cells #[.int .i64 a4_0, .int .i64 a4_1] 46 (0, 0)) pmBx15_11_ hb); have n4_ := Aside0.mk (below_step pmBx15_2_ hb); clear BK291; clear BK292; clear BK293; clear BK294; clear HB; have BK291 := n0_; have BK292 := n1_; have BK293 := n2_; have BK294 := n3_; have HB := n4_; clear n0_ n1_ n2_ n3_ n4_; (try clear hb); (try clear hb2); (try clear hk); (try clear hi); have hcz77_0 : w76.cell? ⟨gb291, 0, none⟩ = some (.int .i64 a0_0) := (blk_cell BK291.out 0).trans rfl; have hcz77_1 : w76.cell? ⟨gb291, 1, none⟩ = some (.int .i64 a0_1) := (blk_cell BK291.out 1).trans rfl; have hcz77_2 : w76.cell? ⟨gb291, 2, none⟩ = some (.int .i64 a0_2) := (blk_cell BK291.out 2).trans rfl; have hcz77_3 : w76.cell? ⟨gb291, 3, none⟩ = some (.int .i64 a0_3) := (blk_cell BK291.out 3).trans rfl; have hcz77_4 : w76.cell? ⟨gb291, 4, none⟩ = some (.int .i64 a0_4) := (blk_cell BK291.out 4).trans rfl; have hcz77_5 : w76.cell? ⟨gb291, 5, none⟩ = some (.int .i64 a0_5) := (blk_cell BK291.out 5).trans rfl; have hfz77_0 := blk_frozen BK291.out 0; have hfz77_1 := blk_frozen BK291.out 1; have hfz77_2 := blk_frozen BK291.out 2; have hfz77_3 := blk_frozen BK291.out 3; have hfz77_4 := blk_frozen BK291.out 4; have hfz77_5 := blk_frozen BK291.out 5; have hcz78_0 : w76.cell? ⟨gb292, 0, none⟩ = some (.bool a2_0) := (blk_cell BK292.out 0).trans rfl; have hcz78_1 : w76.cell? ⟨gb292, 1, none⟩ = some (.int .i64 a2_1) := (blk_cell BK292.out 1).trans rfl; have hfz78_0 := blk_frozen BK292.out 0; have hfz78_1 := blk_frozen BK292.out 1; have hcz79_0 : w76.cell? ⟨gb293, 0, none⟩ = some (.bool a3_0) := (blk_cell BK293.out 0).trans rfl; have hcz79_1 : w76.cell? ⟨gb293, 1, none⟩ = some (.int .i64 a3_1) := (blk_cell BK293.out 1).trans rfl; have hfz79_0 := blk_frozen BK293.out 0; have hfz79_1 := blk_frozen BK293.out 1; have hcz80_0 : w76.cell? ⟨gb294, 0, none⟩ = some (.int .i64 a4_0) := (blk_cell BK294.out 0).trans rfl; have hcz80_1 : w76.cell? ⟨gb294, 1, none⟩ = some (.int .i64 a4_1) := (blk_cell BK294.out 1).trans rfl; have hfz80_0 := blk_frozen BK294.out 0; have hfz80_1 := blk_frozen BK294.out 1) | ((with_reducible refine gate_callee (f := 18) rfl ?_); refine goesL_ (some 44) rfl rfl Try.func18 pmBx15_12_ rfl #[.agg #[.int .i64 a0_0, .int .i64 a0_1], .agg #[.int .i64 a0_2, .int .i64 a0_3], .agg #[.int .i64 a0_4, .int .i64 a0_5], .int .i64 a1, .agg #[.bool a2_0, .int .i64 a2_1], .agg #[.bool a3_0, .int .i64 a3_1], .agg #[.int .i64 a4_0, .int .i64 a4_1], .bool a5] rfl pmBx15_9_ ?_; (with_reducible refine (parterreref29_Used.calls k a0_0 a0_1 a0_2 a0_3 a0_4 a0_5 a1 a2_0 a2_1 a3_0 a3_1 a4_0 a4_1 a5 t297 t298 _ A8.out).mono ?_); rintro e w81 ⟨rfl, hb⟩; refine ⟨_, rfl, ?_⟩; have n0_ := Aside0.mk (blk_below (g := gb291) (o := .cells #[.int .i64 a0_0, .int .i64 a0_1, .int .i64 a0_2, .int .i64 a0_3, .int .i64 a0_4, .int .i64 a0_5] 56 (0, 0)) pmBx15_0_ hb); have n1_ := Aside0.mk (blk_below (g := gb292) (o := .cells #[.bool a2_0, .int .i64 a2_1] 23 (0, 0)) pmBx15_1_ hb); have n2_ := Aside0.mk (blk_below (g := gb293) (o := .cells #[.bool a3_0, .int .i64 a3_1] 23 (0, 0)) pmBx15_3_ hb); have n3_ := Aside0.mk (blk_below (g := gb294) (o := .cells #[.int .i64 a4_0, .int .i64 a4_1] 46 (0, 0)) pmBx15_11_ hb); have n4_ := Aside0.mk (below_step pmBx15_2_ hb); clear BK291; clear BK292; clear BK293; clear BK294; clear HB; have BK291 := n0_; have BK292 := n1_; have BK293 := n2_; have BK294 := n3_; have HB := n4_; clear n0_ n1_ n2_ n3_ n4_; (try clear hb); (try clear hb2); (try clear hk); (try clear hi)))
      have n0_ := Aside0.mk (blk_drew BK291.out)
      have n1_ := Aside0.mk (blk_drew BK292.out)
      have n2_ := Aside0.mk (blk_drew BK293.out)
      have n3_ := Aside0.mk (blk_drew BK294.out)
      have n4_ := Aside0.mk (below_drew1 HB.out)
      clear BK291
      clear BK292
      clear BK293
      clear BK294
      clear HB
      have BK291 := n0_
      have BK292 := n1_
      have BK293 := n2_
      have BK294 := n3_
      have HB := n4_
      clear n0_ n1_ n2_ n3_ n4_
      refine start_ (n := 23) (S := fun w' => True) (ds := []) #[false, false, false, false, false, false, false, false, false, false, false, false, false, false, false, false, false, false, false, false, false, false, false] pmBx15_12_ rfl rfl trivial (fun hHeld => ?_); refine with_tabW parterrelaw29_SelfUsed.tab3 parterrelaw29_SelfUsed.bits3 (fun HT_ HW_ => ?_)
      generalize w81.drew = w82 at BK291 BK292 BK293 BK294 HB hHeld ⊢
      refine pure_ (i := 0) (N := some 47) (v := ?_) (a' := ?_) #[true, false, false, false, false, false, false, false, false, false, false, false, false, false, false, false, false, false, false, false, false, false, false] rfl rfl (any_of HT_.out pmBx15_12_) (fun _ _ _ h => h) (Or.inl ⟨by rfl, ?_⟩) ?_ ?_
      rotate_left
      · intro w'
        go_simp
        with_reducible rfl
      rotate_left
      · simp only [Act.put, List.setIfInBounds_toArray, List.set_cons_zero, List.set_cons_succ, i64_w, i32_w]
        rfl
      refine pure_ (i := 1) (N := some 48) (v := ?_) (a' := ?_) #[true, true, false, false, false, false, false, false, false, false, false, false, false, false, false, false, false, false, false, false, false, false, false] rfl rfl (any_of HT_.out pmBx15_12_) (fun _ _ _ h => h) (Or.inl ⟨by rfl, ?_⟩) ?_ ?_
      rotate_left
      · intro w'
        go_simp
        with_reducible rfl
      rotate_left
      · simp only [Act.put, List.setIfInBounds_toArray, List.set_cons_zero, List.set_cons_succ, i64_w, i32_w]
        rfl
      refine pure_ (i := 2) (N := some 49) (v := ?_) (a' := ?_) #[true, true, true, false, false, false, false, false, false, false, false, false, false, false, false, false, false, false, false, false, false, false, false] rfl rfl (any_of HT_.out pmBx15_12_) (fun _ _ _ h => h) (Or.inl ⟨by rfl, ?_⟩) ?_ ?_
      rotate_left
      · intro w'
        go_simp
        with_reducible rfl
      rotate_left
      · simp only [Act.put, List.setIfInBounds_toArray, List.set_cons_zero, List.set_cons_succ, i64_w, i32_w]
        rfl
      refine pure_ (i := 3) (N := some 50) (v := ?_) (a' := ?_) #[true, true, true, true, false, false, false, false, false, false, false, false, false, false, false, false, false, false, false, false, false, false, false] rfl rfl (any_of HT_.out pmBx15_12_) (fun _ _ _ h => h) (Or.inl ⟨by rfl, ?_⟩) ?_ ?_
      rotate_left
      · intro w'
        go_simp
        with_reducible rfl
      rotate_left
      · simp only [Act.put, List.setIfInBounds_toArray, List.set_cons_zero, List.set_cons_succ, i64_w, i32_w]
        rfl
      refine pure_ (i := 4) (N := some 51) (v := ?_) (a' := ?_) #[true, true, true, true, true, false, false, false, false, false, false, false, false, false, false, false, false, false, false, false, false, false, false] rfl rfl (any_of HT_.out pmBx15_12_) (fun _ _ _ h => h) (Or.inl ⟨by rfl, ?_⟩) ?_ ?_
      rotate_left
      · intro w'
        go_simp
        with_reducible rfl
      rotate_left
      · simp only [Act.put, List.setIfInBounds_toArray, List.set_cons_zero, List.set_cons_succ, i64_w, i32_w]
        rfl
      refine pure_ (i := 5) (N := some 52) (v := ?_) (a' := ?_) #[true, true, true, true, true, true, false, false, false, false, false, false, false, false, false, false, false, false, false, false, false, false, false] rfl rfl (any_of HT_.out pmBx15_12_) (fun _ _ _ h => h) (Or.inl ⟨by rfl, ?_⟩) ?_ ?_
      rotate_left
      · intro w'
        go_simp
        with_reducible rfl
      rotate_left
      · simp only [Act.put, List.setIfInBounds_toArray, List.set_cons_zero, List.set_cons_succ, i64_w, i32_w]
        rfl
      refine pure_ (i := 6) (N := some 53) (v := ?_) (a' := ?_) #[true, true, true, true, true, true, true, false, false, false, false, false, false, false, false, false, false, false, false, false, false, false, false] rfl rfl (any_of HT_.out pmBx15_12_) (fun _ _ _ h => h) (Or.inl ⟨by rfl, ?_⟩) ?_ ?_
      rotate_left
      · intro w'
        go_simp
        with_reducible rfl
      rotate_left
      · simp only [Act.put, List.setIfInBounds_toArray, List.set_cons_zero, List.set_cons_succ, i64_w, i32_w]
        rfl
      refine pure_ (i := 7) (N := some 54) (v := ?_) (a' := ?_) #[true, true, true, true, true, true, true, true, false, false, false, false, false, false, false, false, false, false, false, false, false, false, false] rfl rfl (any_of HT_.out pmBx15_12_) (fun _ _ _ h => h) (Or.inl ⟨by rfl, ?_⟩) ?_ ?_
      rotate_left
      · intro w'
        go_simp
        with_reducible rfl
      rotate_left
      · simp only [Act.put, List.setIfInBounds_toArray, List.set_cons_zero, List.set_cons_succ, i64_w, i32_w]
        rfl
      refine pure_ (i := 8) (N := some 55) (v := ?_) (a' := ?_) #[true, true, true, true, true, true, true, true, true, false, false, false, false, false, false, false, false, false, false, false, false, false, false] rfl rfl (any_of HT_.out pmBx15_12_) (fun _ _ _ h => h) (Or.inl ⟨by rfl, ?_⟩) ?_ ?_
      rotate_left
      · intro w'
        go_simp
        with_reducible rfl
      rotate_left
      · simp only [Act.put, List.setIfInBounds_toArray, List.set_cons_zero, List.set_cons_succ, i64_w, i32_w]
        rfl
      refine pure_ (i := 9) (N := some 56) (v := undef) (a' := ?_) #[true, true, true, true, true, true, true, true, true, true, false, false, false, false, false, false, false, false, false, false, false, false, false] rfl rfl (any_of HT_.out pmBx15_12_) (fun _ _ _ h => h) (Or.inr ⟨by rfl, rfl⟩) ?_ ?_
      rotate_left
      · simp only [Act.put, List.setIfInBounds_toArray, List.set_cons_zero, List.set_cons_succ, i64_w, i32_w]
        rfl
      refine pure_ (i := 10) (N := some 57) (v := undef) (a' := ?_) #[true, true, true, true, true, true, true, true, true, true, true, false, false, false, false, false, false, false, false, false, false, false, false] rfl rfl (any_of HT_.out pmBx15_12_) (fun _ _ _ h => h) (Or.inr ⟨by rfl, rfl⟩) ?_ ?_
      rotate_left
      · simp only [Act.put, List.setIfInBounds_toArray, List.set_cons_zero, List.set_cons_succ, i64_w, i32_w]
        rfl
      refine pure_ (i := 11) (N := some 58) (v := undef) (a' := ?_) #[true, true, true, true, true, true, true, true, true, true, true, true, false, false, false, false, false, false, false, false, false, false, false] rfl rfl (any_of HT_.out pmBx15_12_) (fun _ _ _ h => h) (Or.inr ⟨by rfl, rfl⟩) ?_ ?_
      rotate_left
      · simp only [Act.put, List.setIfInBounds_toArray, List.set_cons_zero, List.set_cons_succ, i64_w, i32_w]
        rfl
      refine pure_ (i := 12) (N := some 59) (v := undef) (a' := ?_) #[true, true, true, true, true, true, true, true, true, true, true, true, true, false, false, false, false, false, false, false, false, false, false] rfl rfl (any_of HT_.out pmBx15_12_) (fun _ _ _ h => h) (Or.inr ⟨by rfl, rfl⟩) ?_ ?_
      rotate_left
      · simp only [Act.put, List.setIfInBounds_toArray, List.set_cons_zero, List.set_cons_succ, i64_w, i32_w]
        rfl
      refine pure_ (i := 13) (N := some 60) (v := undef) (a' := ?_) #[true, true, true, true, true, true, true, true, true, true, true, true, true, true, false, false, false, false, false, false, false, false, false] rfl rfl (any_of HT_.out pmBx15_12_) (fun _ _ _ h => h) (Or.inr ⟨by rfl, rfl⟩) ?_ ?_
      rotate_left
      · simp only [Act.put, List.setIfInBounds_toArray, List.set_cons_zero, List.set_cons_succ, i64_w, i32_w]
        rfl
      refine pure_ (i := 14) (N := some 61) (v := undef) (a' := ?_) #[true, true, true, true, true, true, true, true, true, true, true, true, true, true, true, false, false, false, false, false, false, false, false] rfl rfl (any_of HT_.out pmBx15_12_) (fun _ _ _ h => h) (Or.inr ⟨by rfl, rfl⟩) ?_ ?_
      rotate_left
      · simp only [Act.put, List.setIfInBounds_toArray, List.set_cons_zero, List.set_cons_succ, i64_w, i32_w]
        rfl
      refine pure_ (i := 15) (N := some 62) (v := undef) (a' := ?_) #[true, true, true, true, true, true, true, true, true, true, true, true, true, true, true, true, false, false, false, false, false, false, false] rfl rfl (any_of HT_.out pmBx15_12_) (fun _ _ _ h => h) (Or.inr ⟨by rfl, rfl⟩) ?_ ?_
      rotate_left
      · simp only [Act.put, List.setIfInBounds_toArray, List.set_cons_zero, List.set_cons_succ, i64_w, i32_w]
        rfl
      refine pure_ (i := 16) (N := some 63) (v := undef) (a' := ?_) #[true, true, true, true, true, true, true, true, true, true, true, true, true, true, true, true, true, false, false, false, false, false, false] rfl rfl (any_of HT_.out pmBx15_12_) (fun _ _ _ h => h) (Or.inr ⟨by rfl, rfl⟩) ?_ ?_
      rotate_left
      · simp only [Act.put, List.setIfInBounds_toArray, List.set_cons_zero, List.set_cons_succ, i64_w, i32_w]
        rfl
      refine pure_ (i := 17) (N := some 64) (v := undef) (a' := ?_) #[true, true, true, true, true, true, true, true, true, true, true, true, true, true, true, true, true, true, false, false, false, false, false] rfl rfl (any_of HT_.out pmBx15_12_) (fun _ _ _ h => h) (Or.inr ⟨by rfl, rfl⟩) ?_ ?_
      rotate_left
      · simp only [Act.put, List.setIfInBounds_toArray, List.set_cons_zero, List.set_cons_succ, i64_w, i32_w]
        rfl
      refine pure_ (i := 18) (N := some 65) (v := ?_) (a' := ?_) #[true, true, true, true, true, true, true, true, true, true, true, true, true, true, true, true, true, true, true, false, false, false, false] rfl rfl (any_of HT_.out pmBx15_12_) (fun _ _ _ h => h) (Or.inl ⟨by rfl, ?_⟩) ?_ ?_
      rotate_left
      · intro w'
        go_simp
        with_reducible rfl
      rotate_left
      · simp only [Act.put, List.setIfInBounds_toArray, List.set_cons_zero, List.set_cons_succ, i64_w, i32_w]
        rfl
      refine pure_ (i := 19) (N := some 66) (v := ?_) (a' := ?_) #[true, true, true, true, true, true, true, true, true, true, true, true, true, true, true, true, true, true, true, true, false, false, false] rfl rfl (any_of HT_.out pmBx15_12_) (fun _ _ _ h => h) (Or.inl ⟨by rfl, ?_⟩) ?_ ?_
      rotate_left
      · intro w'
        go_simp
        with_reducible rfl
      rotate_left
      · simp only [Act.put, List.setIfInBounds_toArray, List.set_cons_zero, List.set_cons_succ, i64_w, i32_w]
        rfl
      refine pure_ (i := 20) (N := some 67) (v := undef) (a' := ?_) #[true, true, true, true, true, true, true, true, true, true, true, true, true, true, true, true, true, true, true, true, true, false, false] rfl rfl (any_of HT_.out pmBx15_12_) (fun _ _ _ h => h) (Or.inr ⟨by rfl, rfl⟩) ?_ ?_
      rotate_left
      · simp only [Act.put, List.setIfInBounds_toArray, List.set_cons_zero, List.set_cons_succ, i64_w, i32_w]
        rfl
      refine pure_ (i := 21) (N := some 68) (v := ?_) (a' := ?_) #[true, true, true, true, true, true, true, true, true, true, true, true, true, true, true, true, true, true, true, true, true, true, false] rfl rfl (any_of HT_.out pmBx15_12_) (fun _ _ _ h => h) (Or.inl ⟨by rfl, ?_⟩) ?_ ?_
      rotate_left
      · intro w'
        go_simp
        with_reducible rfl
      rotate_left
      · simp only [Act.put, List.setIfInBounds_toArray, List.set_cons_zero, List.set_cons_succ, i64_w, i32_w]
        rfl
      refine pure_ (i := 22) (N := some 12) (v := ?_) (a' := ?_) #[true, true, true, true, true, true, true, true, true, true, true, true, true, true, true, true, true, true, true, true, true, true, true] rfl rfl (any_of HT_.out pmBx15_12_) (fun _ _ _ h => h) (Or.inl ⟨by rfl, ?_⟩) ?_ ?_
      rotate_left
      · intro w'
        go_simp
        with_reducible rfl
      rotate_left
      · simp only [Act.put, List.setIfInBounds_toArray, List.set_cons_zero, List.set_cons_succ, i64_w, i32_w]
        rfl
      refine done_ (done_of HT_.out pmBx15_12_) ?_
      try go_wp2
      go_ret
      exact ⟨by first | rfl | (simp [errW_none, errW_some] <;> rfl) | (simp [*, errW_none, errW_some] <;> rfl), by repeat (first | (with_reducible first | exact HB.out | apply below_alloc | apply pw_below_drewN | apply below_drew1 | refine below_set ?_ GE291.out | refine below_set ?_ GE292.out | refine below_set ?_ GE293.out | refine below_set ?_ GE294.out) | exact HB.out)⟩
  · rw [if_neg c9] at H
    have c9b0 : (t295 == t297) = false := beq_eq_false_iff_ne.mpr c9
    have c9b1 : (t295 != t297) = true := bne_iff_ne.mpr c9
    obtain rfl := Option.some.inj H
    go_enter Try.func6, Try.ntmps6
    try go_wp2_with (first | ((with_reducible refine gate_dst (N := 6) rfl ?_); refine box_event ?hg (N := 6) ?hd (cs := #[.int .i64 a0_0, .int .i64 a0_1, .int .i64 a0_2, .int .i64 a0_3, .int .i64 a0_4, .int .i64 a0_5]) (t := 56) ?hr ?_; (case hd => rfl); (case hg => rfl); (case hr => first | (go_simp; done) | (go_simp; rfl)); intro gb291 hg w83 hbox hb; have n0_ := Aside0.mk (below_step pmBx15_10_ hb); have n1_ := Aside0.mk (hbox); have n2_ := Aside0.mk ((pmBx15_17_ : w.heap.size ≤ gb291)); have n3_ := Aside0.mk ((pmBx15_17_ : w.heap.size ≤ gb291)); clear HB; have HB := n0_; have BK291 := n1_; have GW291 := n2_; have GE291 := n3_; clear n0_ n1_ n2_ n3_; clear hb hbox hg) | ((with_reducible refine gate_dst (N := 8) rfl ?_); refine box_event ?hg (N := 8) ?hd (cs := #[.bool a2_0, .int .i64 a2_1]) (t := 23) ?hr ?_; (case hd => rfl); (case hg => rfl); (case hr => first | (go_simp; done) | (go_simp; rfl)); intro gb292 hg w84 hbox hb; have n0_ := Aside0.mk (blk_below (g := gb291) (o := .cells #[.int .i64 a0_0, .int .i64 a0_1, .int .i64 a0_2, .int .i64 a0_3, .int .i64 a0_4, .int .i64 a0_5] 56 (0, 0)) pmBx15_0_ hb); have n1_ := Aside0.mk (below_step pmBx15_8_ hb); have n2_ := Aside0.mk (hbox); have n3_ := Aside0.mk ((pmBx15_18_ : w.heap.size ≤ gb292)); have n4_ := Aside0.mk ((pmBx15_18_ : w.heap.size ≤ gb292)); have n5_ := Aside0.mk ((pmBx15_6_ : gb291 ≠ gb292)); have n6_ := Aside0.mk ((pmBx15_7_ : gb292 ≠ gb291)); clear BK291; clear HB; have BK291 := n0_; have HB := n1_; have BK292 := n2_; have GW292 := n3_; have GE292 := n4_; have NB291_292 := n5_; have NB292_291 := n6_; clear n0_ n1_ n2_ n3_ n4_ n5_ n6_; clear hb hbox hg) | ((with_reducible refine gate_dst (N := 9) rfl ?_); refine box_event ?hg (N := 9) ?hd (cs := #[.bool a3_0, .int .i64 a3_1]) (t := 23) ?hr ?_; (case hd => rfl); (case hg => rfl); (case hr => first | (go_simp; done) | (go_simp; rfl)); intro gb293 hg w85 hbox hb; have n0_ := Aside0.mk (blk_below (g := gb291) (o := .cells #[.int .i64 a0_0, .int .i64 a0_1, .int .i64 a0_2, .int .i64 a0_3, .int .i64 a0_4, .int .i64 a0_5] 56 (0, 0)) pmBx15_0_ hb); have n1_ := Aside0.mk (blk_below (g := gb292) (o := .cells #[.bool a2_0, .int .i64 a2_1] 23 (0, 0)) pmBx15_1_ hb); have n2_ := Aside0.mk (below_step pmBx15_5_ hb); have n3_ := Aside0.mk (hbox); have n4_ := Aside0.mk ((pmBx15_19_ : w.heap.size ≤ gb293)); have n5_ := Aside0.mk ((pmBx15_19_ : w.heap.size ≤ gb293)); have n6_ := Aside0.mk ((pmBx15_6_ : gb291 ≠ gb293)); have n7_ := Aside0.mk ((pmBx15_7_ : gb293 ≠ gb291)); have n8_ := Aside0.mk ((pmBx15_13_ : gb292 ≠ gb293)); have n9_ := Aside0.mk ((pmBx15_14_ : gb293 ≠ gb292)); clear BK291; clear BK292; clear HB; have BK291 := n0_; have BK292 := n1_; have HB := n2_; have BK293 := n3_; have GW293 := n4_; have GE293 := n5_; have NB291_293 := n6_; have NB293_291 := n7_; have NB292_293 := n8_; have NB293_292 := n9_; clear n0_ n1_ n2_ n3_ n4_ n5_ n6_ n7_ n8_ n9_; clear hb hbox hg) | ((with_reducible refine gate_dst (N := 10) rfl ?_); refine box_event ?hg (N := 10) ?hd (cs := #[.int .i64 a4_0, .int .i64 a4_1]) (t := 46) ?hr ?_; (case hd => rfl); (case hg => rfl); (case hr => first | (go_simp; done) | (go_simp; rfl)); intro gb294 hg w86 hbox hb; have n0_ := Aside0.mk (blk_below (g := gb291) (o := .cells #[.int .i64 a0_0, .int .i64 a0_1, .int .i64 a0_2, .int .i64 a0_3, .int .i64 a0_4, .int .i64 a0_5] 56 (0, 0)) pmBx15_0_ hb); have n1_ := Aside0.mk (blk_below (g := gb292) (o := .cells #[.bool a2_0, .int .i64 a2_1] 23 (0, 0)) pmBx15_1_ hb); have n2_ := Aside0.mk (blk_below (g := gb293) (o := .cells #[.bool a3_0, .int .i64 a3_1] 23 (0, 0)) pmBx15_3_ hb); have n3_ := Aside0.mk (below_step pmBx15_4_ hb); have n4_ := Aside0.mk (hbox); have n5_ := Aside0.mk ((pmBx15_20_ : w.heap.size ≤ gb294)); have n6_ := Aside0.mk ((pmBx15_20_ : w.heap.size ≤ gb294)); have n7_ := Aside0.mk ((pmBx15_6_ : gb291 ≠ gb294)); have n8_ := Aside0.mk ((pmBx15_7_ : gb294 ≠ gb291)); have n9_ := Aside0.mk ((pmBx15_13_ : gb292 ≠ gb294)); have n10_ := Aside0.mk ((pmBx15_14_ : gb294 ≠ gb292)); have n11_ := Aside0.mk ((pmBx15_15_ : gb293 ≠ gb294)); have n12_ := Aside0.mk ((pmBx15_16_ : gb294 ≠ gb293)); clear BK291; clear BK292; clear BK293; clear HB; have BK291 := n0_; have BK292 := n1_; have BK293 := n2_; have HB := n3_; have BK294 := n4_; have GW294 := n5_; have GE294 := n6_; have NB291_294 := n7_; have NB294_291 := n8_; have NB292_294 := n9_; have NB294_292 := n10_; have NB293_294 := n11_; have NB294_293 := n12_; clear n0_ n1_ n2_ n3_ n4_ n5_ n6_ n7_ n8_ n9_ n10_ n11_ n12_; clear hb hbox hg; have hnb87 := NB291_292.out; have hnc87 := NB292_291.out; have hnb88 := NB291_293.out; have hnc88 := NB293_291.out; have hnb89 := NB291_294.out; have hnc89 := NB294_291.out; have hcz90_0 : w86.cell? ⟨gb291, 0, none⟩ = some (.int .i64 a0_0) := (blk_cell BK291.out 0).trans rfl; have hcz90_1 : w86.cell? ⟨gb291, 1, none⟩ = some (.int .i64 a0_1) := (blk_cell BK291.out 1).trans rfl; have hcz90_2 : w86.cell? ⟨gb291, 2, none⟩ = some (.int .i64 a0_2) := (blk_cell BK291.out 2).trans rfl; have hcz90_3 : w86.cell? ⟨gb291, 3, none⟩ = some (.int .i64 a0_3) := (blk_cell BK291.out 3).trans rfl; have hcz90_4 : w86.cell? ⟨gb291, 4, none⟩ = some (.int .i64 a0_4) := (blk_cell BK291.out 4).trans rfl; have hcz90_5 : w86.cell? ⟨gb291, 5, none⟩ = some (.int .i64 a0_5) := (blk_cell BK291.out 5).trans rfl; have hfz90_0 := blk_frozen BK291.out 0; have hfz90_1 := blk_frozen BK291.out 1; have hfz90_2 := blk_frozen BK291.out 2; have hfz90_3 := blk_frozen BK291.out 3; have hfz90_4 := blk_frozen BK291.out 4; have hfz90_5 := blk_frozen BK291.out 5; have hnb91 := NB292_293.out; have hnc91 := NB293_292.out; have hnb92 := NB292_294.out; have hnc92 := NB294_292.out; have hcz93_0 : w86.cell? ⟨gb292, 0, none⟩ = some (.bool a2_0) := (blk_cell BK292.out 0).trans rfl; have hcz93_1 : w86.cell? ⟨gb292, 1, none⟩ = some (.int .i64 a2_1) := (blk_cell BK292.out 1).trans rfl; have hfz93_0 := blk_frozen BK292.out 0; have hfz93_1 := blk_frozen BK292.out 1; have hnb94 := NB293_294.out; have hnc94 := NB294_293.out; have hcz95_0 : w86.cell? ⟨gb293, 0, none⟩ = some (.bool a3_0) := (blk_cell BK293.out 0).trans rfl; have hcz95_1 : w86.cell? ⟨gb293, 1, none⟩ = some (.int .i64 a3_1) := (blk_cell BK293.out 1).trans rfl; have hfz95_0 := blk_frozen BK293.out 0; have hfz95_1 := blk_frozen BK293.out 1; have hcz96_0 : w86.cell? ⟨gb294, 0, none⟩ = some (.int .i64 a4_0) := (blk_cell BK294.out 0).trans rfl; have hcz96_1 : w86.cell? ⟨gb294, 1, none⟩ = some (.int .i64 a4_1) := (blk_cell BK294.out 1).trans rfl; have hfz96_0 := blk_frozen BK294.out 0; have hfz96_1 := blk_frozen BK294.out 1) | ((with_reducible refine gate_callee (f := 17) rfl ?_); refine goesL_ (some 29) rfl rfl Try.func17 pmBx15_12_ rfl #[.agg #[.int .i64 a0_0, .int .i64 a0_1], .agg #[.int .i64 a0_2, .int .i64 a0_3], .agg #[.int .i64 a0_4, .int .i64 a0_5], .int .i64 a1, .agg #[.bool a2_0, .int .i64 a2_1], .agg #[.bool a3_0, .int .i64 a3_1], .agg #[.int .i64 a4_0, .int .i64 a4_1], .bool a5] rfl pmBx15_9_ ?_; (with_reducible refine (self_Used.calls k a0_0 a0_1 a0_2 a0_3 a0_4 a0_5 a1 a2_0 a2_1 a3_0 a3_1 a4_0 a4_1 a5 t295 t296 _ A7.out).mono ?_); rintro e w97 ⟨rfl, hb⟩; refine ⟨_, rfl, ?_⟩; have n0_ := Aside0.mk (blk_below (g := gb291) (o := .cells #[.int .i64 a0_0, .int .i64 a0_1, .int .i64 a0_2, .int .i64 a0_3, .int .i64 a0_4, .int .i64 a0_5] 56 (0, 0)) pmBx15_0_ hb); have n1_ := Aside0.mk (blk_below (g := gb292) (o := .cells #[.bool a2_0, .int .i64 a2_1] 23 (0, 0)) pmBx15_1_ hb); have n2_ := Aside0.mk (blk_below (g := gb293) (o := .cells #[.bool a3_0, .int .i64 a3_1] 23 (0, 0)) pmBx15_3_ hb); have n3_ := Aside0.mk (blk_below (g := gb294) (o := .cells #[.int .i64 a4_0, .int .i64 a4_1] 46 (0, 0)) pmBx15_11_ hb); have n4_ := Aside0.mk (below_step pmBx15_2_ hb); clear BK291; clear BK292; clear BK293; clear BK294; clear HB; have BK291 := n0_; have BK292 := n1_; have BK293 := n2_; have BK294 := n3_; have HB := n4_; clear n0_ n1_ n2_ n3_ n4_; (try clear hb); (try clear hb2); (try clear hk); (try clear hi); have hcz98_0 : w97.cell? ⟨gb291, 0, none⟩ = some (.int .i64 a0_0) := (blk_cell BK291.out 0).trans rfl; have hcz98_1 : w97.cell? ⟨gb291, 1, none⟩ = some (.int .i64 a0_1) := (blk_cell BK291.out 1).trans rfl; have hcz98_2 : w97.cell? ⟨gb291, 2, none⟩ = some (.int .i64 a0_2) := (blk_cell BK291.out 2).trans rfl; have hcz98_3 : w97.cell? ⟨gb291, 3, none⟩ = some (.int .i64 a0_3) := (blk_cell BK291.out 3).trans rfl; have hcz98_4 : w97.cell? ⟨gb291, 4, none⟩ = some (.int .i64 a0_4) := (blk_cell BK291.out 4).trans rfl; have hcz98_5 : w97.cell? ⟨gb291, 5, none⟩ = some (.int .i64 a0_5) := (blk_cell BK291.out 5).trans rfl; have hfz98_0 := blk_frozen BK291.out 0; have hfz98_1 := blk_frozen BK291.out 1; have hfz98_2 := blk_frozen BK291.out 2; have hfz98_3 := blk_frozen BK291.out 3; have hfz98_4 := blk_frozen BK291.out 4; have hfz98_5 := blk_frozen BK291.out 5; have hcz99_0 : w97.cell? ⟨gb292, 0, none⟩ = some (.bool a2_0) := (blk_cell BK292.out 0).trans rfl; have hcz99_1 : w97.cell? ⟨gb292, 1, none⟩ = some (.int .i64 a2_1) := (blk_cell BK292.out 1).trans rfl; have hfz99_0 := blk_frozen BK292.out 0; have hfz99_1 := blk_frozen BK292.out 1; have hcz100_0 : w97.cell? ⟨gb293, 0, none⟩ = some (.bool a3_0) := (blk_cell BK293.out 0).trans rfl; have hcz100_1 : w97.cell? ⟨gb293, 1, none⟩ = some (.int .i64 a3_1) := (blk_cell BK293.out 1).trans rfl; have hfz100_0 := blk_frozen BK293.out 0; have hfz100_1 := blk_frozen BK293.out 1; have hcz101_0 : w97.cell? ⟨gb294, 0, none⟩ = some (.int .i64 a4_0) := (blk_cell BK294.out 0).trans rfl; have hcz101_1 : w97.cell? ⟨gb294, 1, none⟩ = some (.int .i64 a4_1) := (blk_cell BK294.out 1).trans rfl; have hfz101_0 := blk_frozen BK294.out 0; have hfz101_1 := blk_frozen BK294.out 1) | ((with_reducible refine gate_callee (f := 18) rfl ?_); refine goesL_ (some 44) rfl rfl Try.func18 pmBx15_12_ rfl #[.agg #[.int .i64 a0_0, .int .i64 a0_1], .agg #[.int .i64 a0_2, .int .i64 a0_3], .agg #[.int .i64 a0_4, .int .i64 a0_5], .int .i64 a1, .agg #[.bool a2_0, .int .i64 a2_1], .agg #[.bool a3_0, .int .i64 a3_1], .agg #[.int .i64 a4_0, .int .i64 a4_1], .bool a5] rfl pmBx15_9_ ?_; (with_reducible refine (parterreref29_Used.calls k a0_0 a0_1 a0_2 a0_3 a0_4 a0_5 a1 a2_0 a2_1 a3_0 a3_1 a4_0 a4_1 a5 t297 t298 _ A8.out).mono ?_); rintro e w102 ⟨rfl, hb⟩; refine ⟨_, rfl, ?_⟩; have n0_ := Aside0.mk (blk_below (g := gb291) (o := .cells #[.int .i64 a0_0, .int .i64 a0_1, .int .i64 a0_2, .int .i64 a0_3, .int .i64 a0_4, .int .i64 a0_5] 56 (0, 0)) pmBx15_0_ hb); have n1_ := Aside0.mk (blk_below (g := gb292) (o := .cells #[.bool a2_0, .int .i64 a2_1] 23 (0, 0)) pmBx15_1_ hb); have n2_ := Aside0.mk (blk_below (g := gb293) (o := .cells #[.bool a3_0, .int .i64 a3_1] 23 (0, 0)) pmBx15_3_ hb); have n3_ := Aside0.mk (blk_below (g := gb294) (o := .cells #[.int .i64 a4_0, .int .i64 a4_1] 46 (0, 0)) pmBx15_11_ hb); have n4_ := Aside0.mk (below_step pmBx15_2_ hb); clear BK291; clear BK292; clear BK293; clear BK294; clear HB; have BK291 := n0_; have BK292 := n1_; have BK293 := n2_; have BK294 := n3_; have HB := n4_; clear n0_ n1_ n2_ n3_ n4_; (try clear hb); (try clear hb2); (try clear hk); (try clear hi)))
    have n0_ := Aside0.mk (blk_drew BK291.out)
    have n1_ := Aside0.mk (blk_drew BK292.out)
    have n2_ := Aside0.mk (blk_drew BK293.out)
    have n3_ := Aside0.mk (blk_drew BK294.out)
    have n4_ := Aside0.mk (below_drew1 HB.out)
    clear BK291
    clear BK292
    clear BK293
    clear BK294
    clear HB
    have BK291 := n0_
    have BK292 := n1_
    have BK293 := n2_
    have BK294 := n3_
    have HB := n4_
    clear n0_ n1_ n2_ n3_ n4_
    refine start_ (n := 23) (S := fun w' => True) (ds := []) #[false, false, false, false, false, false, false, false, false, false, false, false, false, false, false, false, false, false, false, false, false, false, false] pmBx15_12_ rfl rfl trivial (fun hHeld => ?_); refine with_tabW parterrelaw29_SelfUsed.tab3 parterrelaw29_SelfUsed.bits3 (fun HT_ HW_ => ?_)
    generalize w102.drew = w103 at BK291 BK292 BK293 BK294 HB hHeld ⊢
    refine pure_ (i := 0) (N := some 47) (v := ?_) (a' := ?_) #[true, false, false, false, false, false, false, false, false, false, false, false, false, false, false, false, false, false, false, false, false, false, false] rfl rfl (any_of HT_.out pmBx15_12_) (fun _ _ _ h => h) (Or.inl ⟨by rfl, ?_⟩) ?_ ?_
    rotate_left
    · intro w'
      go_simp
      with_reducible rfl
    rotate_left
    · simp only [Act.put, List.setIfInBounds_toArray, List.set_cons_zero, List.set_cons_succ, i64_w, i32_w]
      rfl
    refine pure_ (i := 1) (N := some 48) (v := ?_) (a' := ?_) #[true, true, false, false, false, false, false, false, false, false, false, false, false, false, false, false, false, false, false, false, false, false, false] rfl rfl (any_of HT_.out pmBx15_12_) (fun _ _ _ h => h) (Or.inl ⟨by rfl, ?_⟩) ?_ ?_
    rotate_left
    · intro w'
      go_simp
      with_reducible rfl
    rotate_left
    · simp only [Act.put, List.setIfInBounds_toArray, List.set_cons_zero, List.set_cons_succ, i64_w, i32_w]
      rfl
    refine pure_ (i := 2) (N := some 49) (v := ?_) (a' := ?_) #[true, true, true, false, false, false, false, false, false, false, false, false, false, false, false, false, false, false, false, false, false, false, false] rfl rfl (any_of HT_.out pmBx15_12_) (fun _ _ _ h => h) (Or.inl ⟨by rfl, ?_⟩) ?_ ?_
    rotate_left
    · intro w'
      go_simp
      with_reducible rfl
    rotate_left
    · simp only [Act.put, List.setIfInBounds_toArray, List.set_cons_zero, List.set_cons_succ, i64_w, i32_w]
      rfl
    refine pure_ (i := 3) (N := some 50) (v := ?_) (a' := ?_) #[true, true, true, true, false, false, false, false, false, false, false, false, false, false, false, false, false, false, false, false, false, false, false] rfl rfl (any_of HT_.out pmBx15_12_) (fun _ _ _ h => h) (Or.inl ⟨by rfl, ?_⟩) ?_ ?_
    rotate_left
    · intro w'
      go_simp
      with_reducible rfl
    rotate_left
    · simp only [Act.put, List.setIfInBounds_toArray, List.set_cons_zero, List.set_cons_succ, i64_w, i32_w]
      rfl
    refine pure_ (i := 4) (N := some 51) (v := undef) (a' := ?_) #[true, true, true, true, true, false, false, false, false, false, false, false, false, false, false, false, false, false, false, false, false, false, false] rfl rfl (any_of HT_.out pmBx15_12_) (fun _ _ _ h => h) (Or.inr ⟨by rfl, rfl⟩) ?_ ?_
    rotate_left
    · simp only [Act.put, List.setIfInBounds_toArray, List.set_cons_zero, List.set_cons_succ, i64_w, i32_w]
      rfl
    refine pure_ (i := 5) (N := some 52) (v := undef) (a' := ?_) #[true, true, true, true, true, true, false, false, false, false, false, false, false, false, false, false, false, false, false, false, false, false, false] rfl rfl (any_of HT_.out pmBx15_12_) (fun _ _ _ h => h) (Or.inr ⟨by rfl, rfl⟩) ?_ ?_
    rotate_left
    · simp only [Act.put, List.setIfInBounds_toArray, List.set_cons_zero, List.set_cons_succ, i64_w, i32_w]
      rfl
    refine pure_ (i := 6) (N := some 53) (v := undef) (a' := ?_) #[true, true, true, true, true, true, true, false, false, false, false, false, false, false, false, false, false, false, false, false, false, false, false] rfl rfl (any_of HT_.out pmBx15_12_) (fun _ _ _ h => h) (Or.inr ⟨by rfl, rfl⟩) ?_ ?_
    rotate_left
    · simp only [Act.put, List.setIfInBounds_toArray, List.set_cons_zero, List.set_cons_succ, i64_w, i32_w]
      rfl
    refine pure_ (i := 7) (N := some 54) (v := ?_) (a' := ?_) #[true, true, true, true, true, true, true, true, false, false, false, false, false, false, false, false, false, false, false, false, false, false, false] rfl rfl (any_of HT_.out pmBx15_12_) (fun _ _ _ h => h) (Or.inl ⟨by rfl, ?_⟩) ?_ ?_
    rotate_left
    · intro w'
      go_simp
      with_reducible rfl
    rotate_left
    · simp only [Act.put, List.setIfInBounds_toArray, List.set_cons_zero, List.set_cons_succ, i64_w, i32_w]
      rfl
    refine pure_ (i := 8) (N := some 55) (v := ?_) (a' := ?_) #[true, true, true, true, true, true, true, true, true, false, false, false, false, false, false, false, false, false, false, false, false, false, false] rfl rfl (any_of HT_.out pmBx15_12_) (fun _ _ _ h => h) (Or.inl ⟨by rfl, ?_⟩) ?_ ?_
    rotate_left
    · intro w'
      go_simp
      with_reducible rfl
    rotate_left
    · simp only [Act.put, List.setIfInBounds_toArray, List.set_cons_zero, List.set_cons_succ, i64_w, i32_w]
      rfl
    refine pure_ (i := 9) (N := some 56) (v := undef) (a' := ?_) #[true, true, true, true, true, true, true, true, true, true, false, false, false, false, false, false, false, false, false, false, false, false, false] rfl rfl (any_of HT_.out pmBx15_12_) (fun _ _ _ h => h) (Or.inr ⟨by rfl, rfl⟩) ?_ ?_
    rotate_left
    · simp only [Act.put, List.setIfInBounds_toArray, List.set_cons_zero, List.set_cons_succ, i64_w, i32_w]
      rfl
    refine pure_ (i := 10) (N := some 57) (v := undef) (a' := ?_) #[true, true, true, true, true, true, true, true, true, true, true, false, false, false, false, false, false, false, false, false, false, false, false] rfl rfl (any_of HT_.out pmBx15_12_) (fun _ _ _ h => h) (Or.inr ⟨by rfl, rfl⟩) ?_ ?_
    rotate_left
    · simp only [Act.put, List.setIfInBounds_toArray, List.set_cons_zero, List.set_cons_succ, i64_w, i32_w]
      rfl
    refine pure_ (i := 11) (N := some 58) (v := undef) (a' := ?_) #[true, true, true, true, true, true, true, true, true, true, true, true, false, false, false, false, false, false, false, false, false, false, false] rfl rfl (any_of HT_.out pmBx15_12_) (fun _ _ _ h => h) (Or.inr ⟨by rfl, rfl⟩) ?_ ?_
    rotate_left
    · simp only [Act.put, List.setIfInBounds_toArray, List.set_cons_zero, List.set_cons_succ, i64_w, i32_w]
      rfl
    refine pure_ (i := 12) (N := some 59) (v := undef) (a' := ?_) #[true, true, true, true, true, true, true, true, true, true, true, true, true, false, false, false, false, false, false, false, false, false, false] rfl rfl (any_of HT_.out pmBx15_12_) (fun _ _ _ h => h) (Or.inr ⟨by rfl, rfl⟩) ?_ ?_
    rotate_left
    · simp only [Act.put, List.setIfInBounds_toArray, List.set_cons_zero, List.set_cons_succ, i64_w, i32_w]
      rfl
    refine pure_ (i := 13) (N := some 60) (v := undef) (a' := ?_) #[true, true, true, true, true, true, true, true, true, true, true, true, true, true, false, false, false, false, false, false, false, false, false] rfl rfl (any_of HT_.out pmBx15_12_) (fun _ _ _ h => h) (Or.inr ⟨by rfl, rfl⟩) ?_ ?_
    rotate_left
    · simp only [Act.put, List.setIfInBounds_toArray, List.set_cons_zero, List.set_cons_succ, i64_w, i32_w]
      rfl
    refine pure_ (i := 14) (N := some 61) (v := undef) (a' := ?_) #[true, true, true, true, true, true, true, true, true, true, true, true, true, true, true, false, false, false, false, false, false, false, false] rfl rfl (any_of HT_.out pmBx15_12_) (fun _ _ _ h => h) (Or.inr ⟨by rfl, rfl⟩) ?_ ?_
    rotate_left
    · simp only [Act.put, List.setIfInBounds_toArray, List.set_cons_zero, List.set_cons_succ, i64_w, i32_w]
      rfl
    refine pure_ (i := 15) (N := some 62) (v := undef) (a' := ?_) #[true, true, true, true, true, true, true, true, true, true, true, true, true, true, true, true, false, false, false, false, false, false, false] rfl rfl (any_of HT_.out pmBx15_12_) (fun _ _ _ h => h) (Or.inr ⟨by rfl, rfl⟩) ?_ ?_
    rotate_left
    · simp only [Act.put, List.setIfInBounds_toArray, List.set_cons_zero, List.set_cons_succ, i64_w, i32_w]
      rfl
    refine pure_ (i := 16) (N := some 63) (v := undef) (a' := ?_) #[true, true, true, true, true, true, true, true, true, true, true, true, true, true, true, true, true, false, false, false, false, false, false] rfl rfl (any_of HT_.out pmBx15_12_) (fun _ _ _ h => h) (Or.inr ⟨by rfl, rfl⟩) ?_ ?_
    rotate_left
    · simp only [Act.put, List.setIfInBounds_toArray, List.set_cons_zero, List.set_cons_succ, i64_w, i32_w]
      rfl
    refine pure_ (i := 17) (N := some 64) (v := undef) (a' := ?_) #[true, true, true, true, true, true, true, true, true, true, true, true, true, true, true, true, true, true, false, false, false, false, false] rfl rfl (any_of HT_.out pmBx15_12_) (fun _ _ _ h => h) (Or.inr ⟨by rfl, rfl⟩) ?_ ?_
    rotate_left
    · simp only [Act.put, List.setIfInBounds_toArray, List.set_cons_zero, List.set_cons_succ, i64_w, i32_w]
      rfl
    refine pure_ (i := 18) (N := some 65) (v := ?_) (a' := ?_) #[true, true, true, true, true, true, true, true, true, true, true, true, true, true, true, true, true, true, true, false, false, false, false] rfl rfl (any_of HT_.out pmBx15_12_) (fun _ _ _ h => h) (Or.inl ⟨by rfl, ?_⟩) ?_ ?_
    rotate_left
    · intro w'
      go_simp
      with_reducible rfl
    rotate_left
    · simp only [Act.put, List.setIfInBounds_toArray, List.set_cons_zero, List.set_cons_succ, i64_w, i32_w]
      rfl
    refine pure_ (i := 19) (N := some 66) (v := ?_) (a' := ?_) #[true, true, true, true, true, true, true, true, true, true, true, true, true, true, true, true, true, true, true, true, false, false, false] rfl rfl (any_of HT_.out pmBx15_12_) (fun _ _ _ h => h) (Or.inl ⟨by rfl, ?_⟩) ?_ ?_
    rotate_left
    · intro w'
      go_simp
      with_reducible rfl
    rotate_left
    · simp only [Act.put, List.setIfInBounds_toArray, List.set_cons_zero, List.set_cons_succ, i64_w, i32_w]
      rfl
    refine pure_ (i := 20) (N := some 67) (v := undef) (a' := ?_) #[true, true, true, true, true, true, true, true, true, true, true, true, true, true, true, true, true, true, true, true, true, false, false] rfl rfl (any_of HT_.out pmBx15_12_) (fun _ _ _ h => h) (Or.inr ⟨by rfl, rfl⟩) ?_ ?_
    rotate_left
    · simp only [Act.put, List.setIfInBounds_toArray, List.set_cons_zero, List.set_cons_succ, i64_w, i32_w]
      rfl
    refine pure_ (i := 21) (N := some 68) (v := ?_) (a' := ?_) #[true, true, true, true, true, true, true, true, true, true, true, true, true, true, true, true, true, true, true, true, true, true, false] rfl rfl (any_of HT_.out pmBx15_12_) (fun _ _ _ h => h) (Or.inl ⟨by rfl, ?_⟩) ?_ ?_
    rotate_left
    · intro w'
      go_simp
      with_reducible rfl
    rotate_left
    · simp only [Act.put, List.setIfInBounds_toArray, List.set_cons_zero, List.set_cons_succ, i64_w, i32_w]
      rfl
    refine pure_ (i := 22) (N := some 12) (v := ?_) (a' := ?_) #[true, true, true, true, true, true, true, true, true, true, true, true, true, true, true, true, true, true, true, true, true, true, true] rfl rfl (any_of HT_.out pmBx15_12_) (fun _ _ _ h => h) (Or.inl ⟨by rfl, ?_⟩) ?_ ?_
    rotate_left
    · intro w'
      go_simp
      with_reducible rfl
    rotate_left
    · simp only [Act.put, List.setIfInBounds_toArray, List.set_cons_zero, List.set_cons_succ, i64_w, i32_w]
      rfl
    refine done_ (done_of HT_.out pmBx15_12_) ?_
    try go_wp2
    go_ret
    exact ⟨by first | rfl | (simp [errW_none, errW_some] <;> rfl) | (simp [*, errW_none, errW_some] <;> rfl), by repeat (first | (with_reducible first | exact HB.out | apply below_alloc | apply pw_below_drewN | apply below_drew1 | refine below_set ?_ GE291.out | refine below_set ?_ GE292.out | refine below_set ?_ GE293.out | refine below_set ?_ GE294.out) | exact HB.out)⟩
/-- Well formed, field by field. -/
def wf56 (x : S56) : Prop := wf31 x.f0 ∧ (wf31 x.f1 ∧ (wf31 x.f2))
/-- Well formed, field by field. -/
def wf23 (x : S23) : Prop := True ∧ ((Lit.int .i64 x.f1).wf = true)
/-- THE ONE PURE STATEMENT of parterrelaw29_SelfUsed. -/
def parterrelaw29_SelfUsed.Pure : Prop := ∀ (a0_0 : Int) (a0_1 : Int) (a0_2 : Int) (a0_3 : Int) (a0_4 : Int) (a0_5 : Int) (a1 : Int) (a2_0 : Bool) (a2_1 : Int) (a3_0 : Bool) (a3_1 : Int) (a4_0 : Int) (a4_1 : Int) (a5 : Bool), (Lit.int .i64 a0_0).wf = true → (Lit.int .i64 a0_1).wf = true → (Lit.int .i64 a0_2).wf = true → (Lit.int .i64 a0_3).wf = true → (Lit.int .i64 a0_4).wf = true → (Lit.int .i64 a0_5).wf = true → (Lit.int .i64 a1).wf = true → (Lit.int .i64 a2_1).wf = true → (Lit.int .i64 a3_1).wf = true → (Lit.int .i64 a4_0).wf = true → (Lit.int .i64 a4_1).wf = true → ∃ k, parterrelaw29_SelfUsed.f k a0_0 a0_1 a0_2 a0_3 a0_4 a0_5 a1 a2_0 a2_1 a3_0 a3_1 a4_0 a4_1 a5 = some true

end Go.Proofs.Ytbenanokgfphmaa.PB
