-- written by a program of this session (a print of the translation with changes of its own)
import Derived.Test.YtbenanokgfphmaaPBx0
import Derived.Test.YtbenanokgfphmaaPBx5
import Derived.Test.YtbenanokgfphmaaPBx7
import Derived.Test.YtbenanokgfphmaaPBx9
namespace Go.Proofs.Ytbenanokgfphmaa.PB
open Go.RowKit Go.Proofs.YtbenanokgfphmaaW.PrintWords Go.Proofs.YtbenanokgfphmaaW.PrintLast Go.Proofs.YtbenanokgfphmaaW.PrintMore
theorem pmBx10_0_ {P : Prop} (h : P := by (with_reducible repeat (first | refine blk_drewN ?_ _ | refine blk_drew ?_ | refine blk_alloc ?_ _)); exact BK197.out) : P := h
theorem pmBx10_1_ {P : Prop} (h : P := by (with_reducible repeat (first | refine blk_drewN ?_ _ | refine blk_drew ?_ | refine blk_alloc ?_ _)); exact BK198.out) : P := h
theorem pmBx10_2_ {P : Prop} (h : P := by repeat (first | (with_reducible first | exact HB.out | apply below_alloc | apply pw_below_drewN | apply below_drew1 | refine below_set ?_ GE197.out | refine below_set ?_ GE198.out | refine below_set ?_ GE199.out | refine below_set ?_ GE200.out | refine below_set ?_ GE201.out | refine below_set ?_ GE202.out) | exact HB.out)) : P := h
theorem pmBx10_3_ {P : Prop} (h : P := by (with_reducible repeat (first | refine blk_drewN ?_ _ | refine blk_drew ?_ | refine blk_alloc ?_ _)); exact BK199.out) : P := h
theorem pmBx10_4_ {P : Prop} (h : P := by (with_reducible repeat (first | refine blk_drewN ?_ _ | refine blk_drew ?_ | refine blk_alloc ?_ _)); exact BK200.out) : P := h
theorem pmBx10_5_ {P : Prop} (h : P := by (with_reducible repeat (first | refine blk_drewN ?_ _ | refine blk_drew ?_ | refine blk_alloc ?_ _)); exact BK201.out) : P := h
theorem pmBx10_6_ {P : Prop} (h : P := by (with_reducible repeat (first | refine blk_drewN ?_ _ | refine blk_drew ?_ | refine blk_alloc ?_ _)); exact BK202.out) : P := h
theorem pmBx10_7_ {P : Prop} (h : P := by (with_reducible repeat (first | refine blk_drewN ?_ _ | refine blk_drew ?_ | refine blk_alloc ?_ _)); exact BK214.out) : P := h
theorem pmBx10_8_ {P : Prop} (h : P := by (try simp only [List.map_toArray, List.map_cons, List.map_nil]); first | done | rfl | (simp only [List.length_drop, List.length_take]; rfl)) : P := h
theorem pmBx10_9_ {P : Prop} (h : P := by repeat (first | (with_reducible first | exact HB.out | apply below_alloc | apply pw_below_drewN | apply below_drew1) | exact HB.out)) : P := h
theorem pmBx10_10_ {P : Prop} (h : P := by repeat (first | (with_reducible first | exact HB.out | apply below_alloc | apply pw_below_drewN | apply below_drew1 | refine below_set ?_ GE197.out | refine below_set ?_ GE198.out | refine below_set ?_ GE199.out | refine below_set ?_ GE200.out | refine below_set ?_ GE201.out | refine below_set ?_ GE202.out | refine below_set ?_ GE209.out) | exact HB.out)) : P := h
theorem pmBx10_11_ {P : Prop} (h : P := by (with_reducible repeat (first | refine blk_drewN ?_ _ | refine blk_drew ?_ | refine blk_alloc ?_ _)); exact BK215.out) : P := h
theorem pmBx10_12_ {P : Prop} (h : P := by repeat (first | (with_reducible first | exact HB.out | apply below_alloc | apply pw_below_drewN | apply below_drew1 | refine below_set ?_ GE214.out | refine below_set ?_ GE215.out) | exact HB.out)) : P := h
theorem pmBx10_13_ {P : Prop} (h : P := by rw [hg]; exact Nat.ne_of_lt (blk_lt (g := gb198) (o := .cells #[.int .i64 a1_0, .int .i64 a1_1] 31 (0, 0)) pmBx10_1_)) : P := h
theorem pmBx10_14_ {P : Prop} (h : P := by rw [hg]; exact Nat.ne_of_gt (blk_lt (g := gb198) (o := .cells #[.int .i64 a1_0, .int .i64 a1_1] 31 (0, 0)) pmBx10_1_)) : P := h
theorem pmBx10_15_ {P : Prop} (h : P := by repeat (first | (with_reducible first | exact HB.out | apply below_alloc | apply pw_below_drewN | apply below_drew1 | refine below_set ?_ GE197.out | refine below_set ?_ GE198.out | refine below_set ?_ GE199.out | refine below_set ?_ GE200.out | refine below_set ?_ GE201.out) | exact HB.out)) : P := h
theorem pmBx10_16_ {P : Prop} (h : P := by repeat (first | (with_reducible first | exact HB.out | apply below_alloc | apply pw_below_drewN | apply below_drew1 | refine below_set ?_ GE197.out | refine below_set ?_ GE198.out | refine below_set ?_ GE199.out | refine below_set ?_ GE200.out | refine below_set ?_ GE201.out | refine below_set ?_ GE202.out | refine below_set ?_ GE204.out) | exact HB.out)) : P := h
theorem pmBx10_17_ {P : Prop} (h : P := by repeat (first | (with_reducible first | exact HB.out | apply below_alloc | apply pw_below_drewN | apply below_drew1 | refine below_set ?_ GE214.out | refine below_set ?_ GE215.out | refine below_set ?_ GE216.out) | exact HB.out)) : P := h
theorem pmBx10_18_ {P : Prop} (h : P := by repeat (first | (with_reducible first | exact HB.out | apply below_alloc | apply pw_below_drewN | apply below_drew1 | refine below_set ?_ GE214.out) | exact HB.out)) : P := h
theorem pmBx10_19_ {P : Prop} (h : P := by repeat (first | (with_reducible first | exact HB.out | apply below_alloc | apply pw_below_drewN | apply below_drew1 | refine below_set ?_ GE197.out | refine below_set ?_ GE198.out | refine below_set ?_ GE199.out | refine below_set ?_ GE200.out) | exact HB.out)) : P := h
theorem pmBx10_20_ {P : Prop} (h : P := by rw [hg]; exact Nat.ne_of_lt (blk_lt (g := gb199) (o := .cells #[.int .i64 a2_0, .int .i64 a2_1] 31 (0, 0)) pmBx10_3_)) : P := h
theorem pmBx10_21_ {P : Prop} (h : P := by rw [hg]; exact Nat.ne_of_gt (blk_lt (g := gb199) (o := .cells #[.int .i64 a2_0, .int .i64 a2_1] 31 (0, 0)) pmBx10_3_)) : P := h
theorem pmBx10_22_ {P : Prop} (h : P := by repeat (first | (with_reducible first | exact HB.out | apply below_alloc | apply pw_below_drewN | apply below_drew1 | refine below_set ?_ GE190.out | refine below_set ?_ GE191.out) | exact HB.out)) : P := h
theorem pmBx10_23_ {P : Prop} (h : P := by repeat (first | (with_reducible first | exact HB.out | apply below_alloc | apply pw_below_drewN | apply below_drew1 | refine below_set ?_ GE197.out | refine below_set ?_ GE198.out | refine below_set ?_ GE199.out) | exact HB.out)) : P := h
theorem pmBx10_24_ {P : Prop} (h : P := by rw [hg]; exact Nat.ne_of_lt (blk_lt (g := gb197) (o := .cells #[.int .i64 a0] 3 (0, 0)) pmBx10_0_)) : P := h
theorem pmBx10_25_ {P : Prop} (h : P := by rw [hg]; exact Nat.ne_of_gt (blk_lt (g := gb197) (o := .cells #[.int .i64 a0] 3 (0, 0)) pmBx10_0_)) : P := h
theorem pmBx10_26_ {P : Prop} (h : P := by (with_reducible repeat (first | refine blk_drewN ?_ _ | refine blk_drew ?_ | refine blk_alloc ?_ _)); exact BK190.out) : P := h
theorem pmBx10_27_ {P : Prop} (h : P := by repeat (first | (with_reducible first | exact HB.out | apply below_alloc | apply pw_below_drewN | apply below_drew1 | refine below_set ?_ GE197.out | refine below_set ?_ GE198.out) | exact HB.out)) : P := h
theorem pmBx10_28_ {P : Prop} (h : P := by rw [hg]; exact Nat.ne_of_lt (blk_lt (g := gb200) (o := .cells #[.int .i64 a3] 3 (0, 0)) pmBx10_4_)) : P := h
theorem pmBx10_29_ {P : Prop} (h : P := by rw [hg]; exact Nat.ne_of_gt (blk_lt (g := gb200) (o := .cells #[.int .i64 a3] 3 (0, 0)) pmBx10_4_)) : P := h
theorem pmBx10_30_ {P : Prop} (h : P := by repeat (first | (with_reducible first | exact HB.out | apply below_alloc | apply pw_below_drewN | apply below_drew1 | refine below_set ?_ GE197.out) | exact HB.out)) : P := h
theorem pmBx10_31_ {P : Prop} (h : P := by (with_reducible repeat (first | refine blk_drewN ?_ _ | refine blk_drew ?_ | refine blk_alloc ?_ _)); exact BK191.out) : P := h
theorem pmBx10_32_ {P : Prop} (h : P := by (with_reducible repeat (first | refine blk_drewN ?_ _ | refine blk_drew ?_ | refine blk_alloc ?_ _)); exact BK216.out) : P := h
theorem pmBx10_33_ {P : Prop} (h : P := by rw [hg]; exact Nat.ne_of_lt (blk_lt (g := gb201) (o := .cells #[.bool a4] 4 (0, 0)) pmBx10_5_)) : P := h
theorem pmBx10_34_ {P : Prop} (h : P := by rw [hg]; exact Nat.ne_of_gt (blk_lt (g := gb201) (o := .cells #[.bool a4] 4 (0, 0)) pmBx10_5_)) : P := h
theorem pmBx10_35_ {P : Prop} (h : P := by rw [hg]; exact Nat.ne_of_lt (blk_lt (g := gb202) (o := .cells #[.int .i64 a5_0, .int .i64 a5_1] 46 (0, 0)) pmBx10_6_)) : P := h
theorem pmBx10_36_ {P : Prop} (h : P := by rw [hg]; exact Nat.ne_of_gt (blk_lt (g := gb202) (o := .cells #[.int .i64 a5_0, .int .i64 a5_1] 46 (0, 0)) pmBx10_6_)) : P := h
theorem pmBx10_37_ {P : Prop} (h : P := by (with_reducible repeat (first | refine blk_drewN ?_ _ | refine blk_drew ?_ | refine blk_alloc ?_ _)); exact BK209.out) : P := h
theorem pmBx10_38_ {P : Prop} (h : P := by rw [hg]; exact Nat.ne_of_lt (blk_lt (g := gb214) (o := .cells #[.int .i64 a1_0, .int .i64 a1_1] 31 (0, 0)) pmBx10_7_)) : P := h
theorem pmBx10_39_ {P : Prop} (h : P := by rw [hg]; exact Nat.ne_of_gt (blk_lt (g := gb214) (o := .cells #[.int .i64 a1_0, .int .i64 a1_1] 31 (0, 0)) pmBx10_7_)) : P := h
theorem pmBx10_40_ {P : Prop} (h : P := by rw [hg]; exact (below_size pmBx10_9_)) : P := h
theorem pmBx10_41_ {P : Prop} (h : P := by rw [hg]; exact (below_size pmBx10_2_)) : P := h
theorem pmBx10_42_ {P : Prop} (h : P := by repeat (first | (with_reducible first | exact HB.out | apply below_alloc | apply pw_below_drewN | apply below_drew1 | refine below_set ?_ GE190.out) | exact HB.out)) : P := h
theorem pmBx10_43_ {P : Prop} (h : P := by rw [hg]; exact Nat.ne_of_lt (blk_lt (g := gb197) (o := .cells #[.int .i64 x198000_8] 3 (0, 0)) pmBx10_0_)) : P := h
theorem pmBx10_44_ {P : Prop} (h : P := by rw [hg]; exact Nat.ne_of_gt (blk_lt (g := gb197) (o := .cells #[.int .i64 x198000_8] 3 (0, 0)) pmBx10_0_)) : P := h
theorem pmBx10_45_ {P : Prop} (h : P := by rw [hg]; exact Nat.ne_of_lt (blk_lt (g := gb215) (o := .cells #[.int .i64 a2_0, .int .i64 a2_1] 31 (0, 0)) pmBx10_11_)) : P := h
theorem pmBx10_46_ {P : Prop} (h : P := by rw [hg]; exact Nat.ne_of_gt (blk_lt (g := gb215) (o := .cells #[.int .i64 a2_0, .int .i64 a2_1] 31 (0, 0)) pmBx10_11_)) : P := h
theorem pmBx10_47_ {P : Prop} (h : P := by (with_reducible repeat (first | refine blk_drewN ?_ _ | refine blk_drew ?_ | refine blk_alloc ?_ _)); exact BK204.out) : P := h
theorem pmBx10_48_ {P : Prop} (h : P := by first | rfl | (simp; done) | (simp [*]; done)) : P := h
theorem pmBx10_49_ {P : Prop} (h : P := by first | omega | exact Nat.le_refl _) : P := h
attribute [local go_sem] max2_int min2_int max_two min_two max_three min_three max_four min_four   -- for this text's walks alone
set_option linter.unusedVariables false
set_option linter.unusedSimpArgs false

/-! ### parterreref29_Limit: function 14 -/
def parterreref29_Limit.j0 : Nat → Int → Bool → Bool → Int → Int → Int → Int → Option (Int × Bool × Int)
  | 0, _, _, _, _, _, _, _ => none
  | k + 1, x1, x2, x24, x191000, x191001, x192000, x192001 => if x24 = true then (some (0, false, 2)) else (if x191000 = 4 then (some (x192000, true, 0)) else (if x191000 = 5 then (some (x192001, true, 0)) else ((parterreref05_Resolve.f k x191000 x191001 x1 x2).bind fun bt194 => (some (mx 0 bt194.1, bt194.2.1, bt194.2.2)))))
def parterreref29_Limit.f (k : Nat) (a0_0 : Int) (a0_1 : Int) (a1 : Int) (a2 : Bool) (a3_0 : Int) (a3_1 : Int) : Option (Int × Bool × Int) := (parterreref29_content.f a3_0 a3_1).bind fun t192 => (if t192 = true then (if a2 = true then ((parterreref29_Size.f a1).bind fun t193 => (parterreref29_Limit.j0 k a1 true (!t193) a0_0 a0_1 a3_0 a3_1)) else (parterreref29_Limit.j0 k a1 false false a0_0 a0_1 a3_0 a3_1)) else (parterreref29_Limit.j0 k a1 a2 true a0_0 a0_1 a3_0 a3_1))
theorem parterreref29_Limit.mono_l : ∀ k, (∀ y0 y1 y2 y3 y4 y5 y6, LeO (parterreref29_Limit.j0 k y0 y1 y2 y3 y4 y5 y6) (parterreref29_Limit.j0 (k + 1) y0 y1 y2 y3 y4 y5 y6))
  | 0 => fun _ _ _ _ _ _ _ r h => by simp [parterreref29_Limit.j0] at h
  | k + 1 => by
    have ih0 := parterreref29_Limit.mono_l k
    · intro y0 y1 y2 y3 y4 y5 y6
      unfold parterreref29_Limit.j0
      repeat' first
      | (with_reducible exact ih0 _ _ _ _ _ _ _)
      | (with_reducible exact parterreref05_Resolve.mono _ _ _ _ _)
      | (with_reducible exact LeO.refl _)
      | (with_reducible exact LeO.none _)
      | (with_reducible refine LeO.ite ?_ ?_)
      | (with_reducible refine LeO.bind ?_ (fun _ => ?_))
      | exact ih0 _ _ _ _ _ _ _
      | exact parterreref05_Resolve.mono _ _ _ _ _
      | exact LeO.none _
      | refine LeO.ite ?_ ?_
      | refine LeO.bind ?_ (fun _ => ?_)
theorem parterreref29_Limit.mono : ∀ a0 a1 a2 a3 a4 a5 k, LeO (parterreref29_Limit.f k a0 a1 a2 a3 a4 a5) (parterreref29_Limit.f (k + 1) a0 a1 a2 a3 a4 a5) := by
  intro a0 a1 a2 a3 a4 a5 k
  have ih0 := parterreref29_Limit.mono_l k
  unfold parterreref29_Limit.f
  repeat' first
      | (with_reducible exact ih0 _ _ _ _ _ _ _)
      | (with_reducible exact parterreref05_Resolve.mono _ _ _ _ _)
      | (with_reducible exact LeO.refl _)
      | (with_reducible exact LeO.none _)
      | (with_reducible refine LeO.ite ?_ ?_)
      | (with_reducible refine LeO.bind ?_ (fun _ => ?_))
      | exact ih0 _ _ _ _ _ _ _
      | exact parterreref05_Resolve.mono _ _ _ _ _
      | exact LeO.none _
      | refine LeO.ite ?_ ?_
      | refine LeO.bind ?_ (fun _ => ?_)
set_option maxHeartbeats 8000000 in
set_option maxRecDepth 100000 in
theorem parterreref29_Limit.calls (k : Nat) (a0_0 : Int) (a0_1 : Int) (a1 : Int) (a2 : Bool) (a3_0 : Int) (a3_1 : Int) (r1 : Int) (r2 : Bool) (r3 : Int) (w : World) (h : parterreref29_Limit.f k a0_0 a0_1 a1 a2 a3_0 a3_1 = some (r1, r2, r3)) :
    Calls Try.prog 14 #[.agg #[.int .i64 a0_0, .int .i64 a0_1], .int .i64 a1, .bool a2, .agg #[.int .i64 a3_0, .int .i64 a3_1]] w fun e w' => e = .returned (.tuple #[.int .i64 r1, .bool r2, .int .i64 r3]) ∧ Below w.heap.size w w' := by
  have hu31 := Try.underlying31
  have hu46 := Try.underlying46
  have HB := Aside0.mk (Below.refl w.heap.size w)
  have H : ((parterreref29_content.f a3_0 a3_1).bind fun t192 => (if t192 = true then (if a2 = true then ((parterreref29_Size.f a1).bind fun t193 => (parterreref29_Limit.j0 k a1 true (!t193) a0_0 a0_1 a3_0 a3_1)) else (parterreref29_Limit.j0 k a1 false false a0_0 a0_1 a3_0 a3_1)) else (parterreref29_Limit.j0 k a1 a2 true a0_0 a0_1 a3_0 a3_1))) = some (r1, r2, r3) := h
  clear h
  have HC5 := Aside0.mk H
  clear H
  go_enter Try.func14, Try.ntmps14
  go_upto_region 1 with (first | ((with_reducible refine gate_dst (N := 4) rfl ?_); refine box_event ?hg (N := 4) ?hd (cs := #[.int .i64 a0_0, .int .i64 a0_1]) (t := 31) ?hr ?_; (case hd => rfl); (case hg => rfl); (case hr => first | (go_simp; done) | (go_simp; rfl)); intro gb190 hg w6 hbox hb; have n0_ := Aside0.mk (below_step pmBx10_9_ hb); have n1_ := Aside0.mk (hbox); have n2_ := Aside0.mk ((pmBx10_40_ : w.heap.size ≤ gb190)); have n3_ := Aside0.mk ((pmBx10_40_ : w.heap.size ≤ gb190)); clear HB; have HB := n0_; have BK190 := n1_; have GW190 := n2_; have GE190 := n3_; clear n0_ n1_ n2_ n3_; clear hb hbox hg) | ((with_reducible refine gate_dst (N := 7) rfl ?_); refine box_event ?hg (N := 7) ?hd (cs := #[.int .i64 a3_0, .int .i64 a3_1]) (t := 46) ?hr ?_; (case hd => rfl); (case hg => rfl); (case hr => first | (go_simp; done) | (go_simp; rfl)); intro gb191 hg w7 hbox hb; have n0_ := Aside0.mk (blk_below (g := gb190) (o := .cells #[.int .i64 a0_0, .int .i64 a0_1] 31 (0, 0)) pmBx10_26_ hb); have n1_ := Aside0.mk (below_step pmBx10_42_ hb); have n2_ := Aside0.mk (hbox); have n3_ := Aside0.mk ((by rw [hg]; exact (below_size pmBx10_42_) : w.heap.size ≤ gb191)); have n4_ := Aside0.mk ((by rw [hg]; exact (below_size pmBx10_42_) : w.heap.size ≤ gb191)); have n5_ := Aside0.mk ((by rw [hg]; exact Nat.ne_of_lt (blk_lt (g := gb190) (o := .cells #[.int .i64 a0_0, .int .i64 a0_1] 31 (0, 0)) pmBx10_26_) : gb190 ≠ gb191)); have n6_ := Aside0.mk ((by rw [hg]; exact Nat.ne_of_gt (blk_lt (g := gb190) (o := .cells #[.int .i64 a0_0, .int .i64 a0_1] 31 (0, 0)) pmBx10_26_) : gb191 ≠ gb190)); clear BK190; clear HB; have BK190 := n0_; have HB := n1_; have BK191 := n2_; have GW191 := n3_; have GE191 := n4_; have NB190_191 := n5_; have NB191_190 := n6_; clear n0_ n1_ n2_ n3_ n4_ n5_ n6_; clear hb hbox hg))
  (try simp only [Act.put, List.setIfInBounds_toArray, List.set_cons_zero, List.set_cons_succ])
  go_cut [24] (fun v24 wc => ∃ (kq : Nat) (x24_4 : Bool), v24 = .bool x24_4 ∧ Aside0 (parterreref29_Limit.j0 kq a1 a2 x24_4 a0_0 a0_1 a3_0 a3_1 = some (r1, r2, r3)) ∧ Aside0 (kq ≤ k) ∧ Aside0 (wc.heap[gb190]? = some (.cells #[.int .i64 a0_0, .int .i64 a0_1] 31 (0, 0))) ∧ Aside0 (wc.heap[gb191]? = some (.cells #[.int .i64 a3_0, .int .i64 a3_1] 46 (0, 0))) ∧ Aside0 (Below w.heap.size w wc))
  case first =>
    have H := HC5.out
    clear HC5
    replace H := Option.bind_eq_some_iff.mp H
    obtain ⟨t192, A80, H⟩ := H
    replace H : (if t192 = true then (if a2 = true then ((parterreref29_Size.f a1).bind fun t193 => (parterreref29_Limit.j0 k a1 true (!t193) a0_0 a0_1 a3_0 a3_1)) else (parterreref29_Limit.j0 k a1 false false a0_0 a0_1 a3_0 a3_1)) else (parterreref29_Limit.j0 k a1 a2 true a0_0 a0_1 a3_0 a3_1)) = some (r1, r2, r3) := H
    have A8 := Aside0.mk A80
    clear A80
    by_cases c9 : t192 = true
    · subst c9
      have H1 : (if a2 = true then ((parterreref29_Size.f a1).bind fun t193 => (parterreref29_Limit.j0 k a1 true (!t193) a0_0 a0_1 a3_0 a3_1)) else (parterreref29_Limit.j0 k a1 false false a0_0 a0_1 a3_0 a3_1)) = some (r1, r2, r3) := by rw [if_pos rfl] at H; exact H
      clear H
      have H := H1
      clear H1
      by_cases c10 : a2 = true
      · subst c10
        have H1 : ((parterreref29_Size.f a1).bind fun t193 => (parterreref29_Limit.j0 k a1 true (!t193) a0_0 a0_1 a3_0 a3_1)) = some (r1, r2, r3) := by rw [if_pos rfl] at H; exact H
        clear H
        have H := H1
        clear H1
        replace H := Option.bind_eq_some_iff.mp H
        obtain ⟨t193, A110, H⟩ := H
        replace H : (parterreref29_Limit.j0 k a1 true (!t193) a0_0 a0_1 a3_0 a3_1) = some (r1, r2, r3) := H
        have A11 := Aside0.mk A110
        clear A110
        have H' := Aside0.mk H
        clear H
        have hnb12 := NB191_190.out
        have hnc12 := NB190_191.out
        have hcz13_0 : w7.cell? ⟨gb191, 0, none⟩ = some (.int .i64 a3_0) := (blk_cell BK191.out 0).trans rfl
        have hcz13_1 : w7.cell? ⟨gb191, 1, none⟩ = some (.int .i64 a3_1) := (blk_cell BK191.out 1).trans rfl
        have hfz13_0 := blk_frozen BK191.out 0
        have hfz13_1 := blk_frozen BK191.out 1
        go_wp2_with (first | ((with_reducible refine gate_callee (f := 30) rfl ?_); refine goesL_ (some 15) rfl rfl Try.func30 (by kernel_rfl) rfl #[.agg #[.int .i64 a3_0, .int .i64 a3_1]] rfl pmBx10_8_ ?_; (with_reducible refine (parterreref29_content.calls a3_0 a3_1 true _ A8.out).mono ?_); rintro e w14 ⟨rfl, hb⟩; refine ⟨_, rfl, ?_⟩; have n0_ := Aside0.mk (blk_below (g := gb190) (o := .cells #[.int .i64 a0_0, .int .i64 a0_1] 31 (0, 0)) pmBx10_26_ hb); have n1_ := Aside0.mk (blk_below (g := gb191) (o := .cells #[.int .i64 a3_0, .int .i64 a3_1] 46 (0, 0)) pmBx10_31_ hb); have n2_ := Aside0.mk (below_step pmBx10_22_ hb); clear BK190; clear BK191; clear HB; have BK190 := n0_; have BK191 := n1_; have HB := n2_; clear n0_ n1_ n2_; (try clear hb); (try clear hb2); (try clear hk); (try clear hi)) | (go_at_call 21; (with_reducible refine (parterreref29_Size.calls a1 t193 _ A11.out).mono ?_); rintro e w' ⟨rfl, ⟨nd, rfl⟩⟩))
        go_meet
        case rel => exact ⟨_, (!t193), pmBx10_48_, H', ⟨pmBx10_49_⟩, ⟨pmBx10_26_⟩, ⟨pmBx10_31_⟩, ⟨pmBx10_22_⟩⟩
      · replace c10 := Bool.eq_false_iff.mpr c10
        subst c10
        have H1 : (parterreref29_Limit.j0 k a1 false false a0_0 a0_1 a3_0 a3_1) = some (r1, r2, r3) := by rw [if_neg (show ¬ (false = true) by decide)] at H; exact H
        clear H
        have H := H1
        clear H1
        have H' := Aside0.mk H
        clear H
        have hnb15 := NB191_190.out
        have hnc15 := NB190_191.out
        have hcz16_0 : w7.cell? ⟨gb191, 0, none⟩ = some (.int .i64 a3_0) := (blk_cell BK191.out 0).trans rfl
        have hcz16_1 : w7.cell? ⟨gb191, 1, none⟩ = some (.int .i64 a3_1) := (blk_cell BK191.out 1).trans rfl
        have hfz16_0 := blk_frozen BK191.out 0
        have hfz16_1 := blk_frozen BK191.out 1
        go_wp2_with (first | ((with_reducible refine gate_callee (f := 30) rfl ?_); refine goesL_ (some 15) rfl rfl Try.func30 (by kernel_rfl) rfl #[.agg #[.int .i64 a3_0, .int .i64 a3_1]] rfl pmBx10_8_ ?_; (with_reducible refine (parterreref29_content.calls a3_0 a3_1 true _ A8.out).mono ?_); rintro e w17 ⟨rfl, hb⟩; refine ⟨_, rfl, ?_⟩; have n0_ := Aside0.mk (blk_below (g := gb190) (o := .cells #[.int .i64 a0_0, .int .i64 a0_1] 31 (0, 0)) pmBx10_26_ hb); have n1_ := Aside0.mk (blk_below (g := gb191) (o := .cells #[.int .i64 a3_0, .int .i64 a3_1] 46 (0, 0)) pmBx10_31_ hb); have n2_ := Aside0.mk (below_step pmBx10_22_ hb); clear BK190; clear BK191; clear HB; have BK190 := n0_; have BK191 := n1_; have HB := n2_; clear n0_ n1_ n2_; (try clear hb); (try clear hb2); (try clear hk); (try clear hi)))
        go_meet
        case rel => exact ⟨_, (false), pmBx10_48_, H', ⟨pmBx10_49_⟩, ⟨pmBx10_26_⟩, ⟨pmBx10_31_⟩, ⟨pmBx10_22_⟩⟩
    · replace c9 := Bool.eq_false_iff.mpr c9
      subst c9
      have H1 : (parterreref29_Limit.j0 k a1 a2 true a0_0 a0_1 a3_0 a3_1) = some (r1, r2, r3) := by rw [if_neg (show ¬ (false = true) by decide)] at H; exact H
      clear H
      have H := H1
      clear H1
      have H' := Aside0.mk H
      clear H
      have hnb18 := NB191_190.out
      have hnc18 := NB190_191.out
      have hcz19_0 : w7.cell? ⟨gb191, 0, none⟩ = some (.int .i64 a3_0) := (blk_cell BK191.out 0).trans rfl
      have hcz19_1 : w7.cell? ⟨gb191, 1, none⟩ = some (.int .i64 a3_1) := (blk_cell BK191.out 1).trans rfl
      have hfz19_0 := blk_frozen BK191.out 0
      have hfz19_1 := blk_frozen BK191.out 1
      go_wp2_with (first | ((with_reducible refine gate_callee (f := 30) rfl ?_); refine goesL_ (some 15) rfl rfl Try.func30 (by kernel_rfl) rfl #[.agg #[.int .i64 a3_0, .int .i64 a3_1]] rfl pmBx10_8_ ?_; (with_reducible refine (parterreref29_content.calls a3_0 a3_1 false _ A8.out).mono ?_); rintro e w20 ⟨rfl, hb⟩; refine ⟨_, rfl, ?_⟩; have n0_ := Aside0.mk (blk_below (g := gb190) (o := .cells #[.int .i64 a0_0, .int .i64 a0_1] 31 (0, 0)) pmBx10_26_ hb); have n1_ := Aside0.mk (blk_below (g := gb191) (o := .cells #[.int .i64 a3_0, .int .i64 a3_1] 46 (0, 0)) pmBx10_31_ hb); have n2_ := Aside0.mk (below_step pmBx10_22_ hb); clear BK190; clear BK191; clear HB; have BK190 := n0_; have BK191 := n1_; have HB := n2_; clear n0_ n1_ n2_; (try clear hb); (try clear hb2); (try clear hk); (try clear hi)))
      go_meet
      case rel => exact ⟨_, (true), pmBx10_48_, H', ⟨pmBx10_49_⟩, ⟨pmBx10_26_⟩, ⟨pmBx10_31_⟩, ⟨pmBx10_22_⟩⟩
  case rest =>
    clear HC5
    try clear c1
    try clear p2
    try clear c3
    try clear c9
    try clear c10
    try clear c12
    try clear c14
    try clear c15
    try clear c18
    try clear hcz13_0
    try clear hcz13_1
    try clear hcz16_0
    try clear hcz16_1
    try clear hcz19_0
    try clear hcz19_1
    try clear hfz13_0
    try clear hfz13_1
    try clear hfz16_0
    try clear hfz16_1
    try clear hfz19_0
    try clear hfz19_1
    obtain ⟨kq, x24_4, rfl, HA, HJ4, BK190, BK191, HB⟩ := hcut
    cases kq with
    | zero => exact absurd HA.out (by simp [parterreref29_Limit.j0])
    | succ kj4 =>
      have H := HA.out
      clear HA
      simp only [parterreref29_Limit.j0] at H
      by_cases c21 : x24_4 = true
      · subst c21
        have H1 : (some (0, false, 2)) = some (r1, r2, r3) := by rw [if_pos rfl] at H; exact H
        clear H
        have H := H1
        clear H1
        simp only [Option.some.injEq, Prod.mk.injEq] at H
        obtain ⟨rfl, rfl, rfl⟩ := H
        go_wp2
        go_ret3
        exact ⟨by first | rfl | (simp [errW_none, errW_some] <;> rfl) | (simp [*, errW_none, errW_some] <;> rfl), by repeat (first | (with_reducible first | exact HB.out | apply below_alloc | apply pw_below_drewN | apply below_drew1 | refine below_set ?_ GE190.out | refine below_set ?_ GE191.out) | exact HB.out)⟩
      · replace c21 := Bool.eq_false_iff.mpr c21
        subst c21
        have H1 : (if a0_0 = 4 then (some (a3_0, true, 0)) else (if a0_0 = 5 then (some (a3_1, true, 0)) else ((parterreref05_Resolve.f kj4 a0_0 a0_1 a1 a2).bind fun bt194 => (some (mx 0 bt194.1, bt194.2.1, bt194.2.2))))) = some (r1, r2, r3) := by rw [if_neg (show ¬ (false = true) by decide)] at H; exact H
        clear H
        have H := H1
        clear H1
        by_cases c22 : a0_0 = 4
        · rw [if_pos c22] at H
          have c22b0 : (a0_0 == 4) = true := beq_iff_eq.mpr c22
          have c22b1 : (a0_0 != 4) = false := bne_eq_false_iff_eq.mpr c22
          clear c22
          simp only [Option.some.injEq, Prod.mk.injEq] at H
          obtain ⟨rfl, rfl, rfl⟩ := H
          have hnb23 := NB190_191.out
          have hnc23 := NB191_190.out
          have hcz24_0 : wc.cell? ⟨gb190, 0, none⟩ = some (.int .i64 a0_0) := (blk_cell BK190.out 0).trans rfl
          have hcz24_1 : wc.cell? ⟨gb190, 1, none⟩ = some (.int .i64 a0_1) := (blk_cell BK190.out 1).trans rfl
          have hfz24_0 := blk_frozen BK190.out 0
          have hfz24_1 := blk_frozen BK190.out 1
          have hcz25_0 : wc.cell? ⟨gb191, 0, none⟩ = some (.int .i64 a3_0) := (blk_cell BK191.out 0).trans rfl
          have hcz25_1 : wc.cell? ⟨gb191, 1, none⟩ = some (.int .i64 a3_1) := (blk_cell BK191.out 1).trans rfl
          have hfz25_0 := blk_frozen BK191.out 0
          have hfz25_1 := blk_frozen BK191.out 1
          go_wp2
          go_ret3
          exact ⟨by first | rfl | (simp [errW_none, errW_some] <;> rfl) | (simp [*, errW_none, errW_some] <;> rfl), by repeat (first | (with_reducible first | exact HB.out | apply below_alloc | apply pw_below_drewN | apply below_drew1 | refine below_set ?_ GE190.out | refine below_set ?_ GE191.out) | exact HB.out)⟩
        · rw [if_neg c22] at H
          have c22b0 : (a0_0 == 4) = false := beq_eq_false_iff_ne.mpr c22
          have c22b1 : (a0_0 != 4) = true := bne_iff_ne.mpr c22
          by_cases c26 : a0_0 = 5
          · rw [if_pos c26] at H
            have c26b0 : (a0_0 == 5) = true := beq_iff_eq.mpr c26
            have c26b1 : (a0_0 != 5) = false := bne_eq_false_iff_eq.mpr c26
            clear c26
            simp only [Option.some.injEq, Prod.mk.injEq] at H
            obtain ⟨rfl, rfl, rfl⟩ := H
            have hnb27 := NB190_191.out
            have hnc27 := NB191_190.out
            have hcz28_0 : wc.cell? ⟨gb190, 0, none⟩ = some (.int .i64 a0_0) := (blk_cell BK190.out 0).trans rfl
            have hcz28_1 : wc.cell? ⟨gb190, 1, none⟩ = some (.int .i64 a0_1) := (blk_cell BK190.out 1).trans rfl
            have hfz28_0 := blk_frozen BK190.out 0
            have hfz28_1 := blk_frozen BK190.out 1
            have hcz29_0 : wc.cell? ⟨gb191, 0, none⟩ = some (.int .i64 a3_0) := (blk_cell BK191.out 0).trans rfl
            have hcz29_1 : wc.cell? ⟨gb191, 1, none⟩ = some (.int .i64 a3_1) := (blk_cell BK191.out 1).trans rfl
            have hfz29_0 := blk_frozen BK191.out 0
            have hfz29_1 := blk_frozen BK191.out 1
            go_wp2
            go_ret3
            exact ⟨by first | rfl | (simp [errW_none, errW_some] <;> rfl) | (simp [*, errW_none, errW_some] <;> rfl), by repeat (first | (with_reducible first | exact HB.out | apply below_alloc | apply pw_below_drewN | apply below_drew1 | refine below_set ?_ GE190.out | refine below_set ?_ GE191.out) | exact HB.out)⟩
          · rw [if_neg c26] at H
            have c26b0 : (a0_0 == 5) = false := beq_eq_false_iff_ne.mpr c26
            have c26b1 : (a0_0 != 5) = true := bne_iff_ne.mpr c26
            replace H := Option.bind_eq_some_iff.mp H
            obtain ⟨⟨t194, t195, t196⟩, A300, H⟩ := H
            replace H : (some (mx 0 t194, t195, t196)) = some (r1, r2, r3) := H
            have A30 := Aside0.mk A300
            clear A300
            obtain ⟨ji31, hji31⟩ : ∃ j_ : Int, (mx 0 t194) = j_ := ⟨_, rfl⟩
            replace H : (some (ji31, t195, t196)) = some (r1, r2, r3) := by first | (rw [hji31] at H; exact H) | (simp only [hji31] at H ⊢; exact H)
            (try rw [hji31] at A30)
            (try (have hji31l : 0 ≤ ji31 := by (rw [← hji31]; unfold mx; (repeat' split) <;> omega)))
            (try (have hji31m : 0 ≤ ji31 := by omega))
            have hji31_ : (if 0 < t194 then t194 else 0) = ji31 := hji31
            simp only [Option.some.injEq, Prod.mk.injEq] at H
            obtain ⟨rfl, rfl, rfl⟩ := H
            have hnb32 := NB190_191.out
            have hnc32 := NB191_190.out
            have hcz33_0 : wc.cell? ⟨gb190, 0, none⟩ = some (.int .i64 a0_0) := (blk_cell BK190.out 0).trans rfl
            have hcz33_1 : wc.cell? ⟨gb190, 1, none⟩ = some (.int .i64 a0_1) := (blk_cell BK190.out 1).trans rfl
            have hfz33_0 := blk_frozen BK190.out 0
            have hfz33_1 := blk_frozen BK190.out 1
            go_wp2_with (first | ((with_reducible refine gate_callee (f := 28) rfl ?_); refine goesL_ (some 39) rfl rfl Try.func28 (by kernel_rfl) rfl #[.agg #[.int .i64 a0_0, .int .i64 a0_1], .int .i64 a1, .bool a2] rfl pmBx10_8_ ?_; (with_reducible refine (parterreref05_Resolve.calls kj4 a0_0 a0_1 a1 a2 t194 t195 t196 _ A30.out).mono ?_); rintro e w34 ⟨rfl, hb⟩; refine ⟨_, rfl, ?_⟩; have n0_ := Aside0.mk (blk_below (g := gb190) (o := .cells #[.int .i64 a0_0, .int .i64 a0_1] 31 (0, 0)) pmBx10_26_ hb); have n1_ := Aside0.mk (blk_below (g := gb191) (o := .cells #[.int .i64 a3_0, .int .i64 a3_1] 46 (0, 0)) pmBx10_31_ hb); have n2_ := Aside0.mk (below_step pmBx10_22_ hb); clear BK190; clear BK191; clear HB; have BK190 := n0_; have BK191 := n1_; have HB := n2_; clear n0_ n1_ n2_; (try clear hb); (try clear hb2); (try clear hk); (try clear hi)))
            go_ret3
            exact ⟨by first | rfl | (simp [errW_none, errW_some] <;> rfl) | (simp only [← hji31]; first | rfl | (simp [errW_none, errW_some] <;> rfl)) | (simp [*, errW_none, errW_some] <;> rfl), by repeat (first | (with_reducible first | exact HB.out | apply below_alloc | apply pw_below_drewN | apply below_drew1 | refine below_set ?_ GE190.out | refine below_set ?_ GE191.out) | exact HB.out)⟩

-- NOT PRINTED: function 31 (self_Clamp_1)

/-! ### self_Clamp_2: function 32 -/
def self_Clamp_2.f (a0 : Int) (a1 : Int) : Option (Int) := some (mn a0 a1)
set_option maxHeartbeats 8000000 in
set_option maxRecDepth 100000 in
theorem self_Clamp_2.calls (a0 : Int) (a1 : Int) (r : Int) (w : World) (h : self_Clamp_2.f a0 a1 = some r) :
    Calls Try.prog 32 #[.int .i64 a0, .int .i64 a1] w fun e w' => e = .returned (.int .i64 r) ∧ Below w.heap.size w w' := by
  have HB := Aside0.mk (Below.refl w.heap.size w)
  have H : (some (mn a0 a1)) = some r := h
  clear h
  obtain ⟨ji3, hji3⟩ : ∃ j_ : Int, (mn a0 a1) = j_ := ⟨_, rfl⟩
  replace H : (some ji3) = some r := by first | (rw [hji3] at H; exact H) | (simp only [hji3] at H ⊢; exact H)
  have hji3_ : (if a1 < a0 then a1 else a0) = ji3 := hji3
  obtain rfl := Option.some.inj H
  go_enter Try.func32, Try.ntmps32
  go_wp2
  go_ret
  exact ⟨by first | rfl | (simp [errW_none, errW_some] <;> rfl) | (simp only [← hji3]; first | rfl | (simp [errW_none, errW_some] <;> rfl)) | (simp [*, errW_none, errW_some] <;> rfl), by repeat (first | (with_reducible first | exact HB.out | apply below_alloc | apply pw_below_drewN | apply below_drew1) | exact HB.out)⟩

/-! ### self_Clamp_3: function 33 -/
def self_Clamp_3.f (a0 : Int) (a1 : Int) : Option (Int) := some (mx a0 a1)
set_option maxHeartbeats 8000000 in
set_option maxRecDepth 100000 in
theorem self_Clamp_3.calls (a0 : Int) (a1 : Int) (r : Int) (w : World) (h : self_Clamp_3.f a0 a1 = some r) :
    Calls Try.prog 33 #[.int .i64 a0, .int .i64 a1] w fun e w' => e = .returned (.int .i64 r) ∧ Below w.heap.size w w' := by
  have HB := Aside0.mk (Below.refl w.heap.size w)
  have H : (some (mx a0 a1)) = some r := h
  clear h
  obtain ⟨ji3, hji3⟩ : ∃ j_ : Int, (mx a0 a1) = j_ := ⟨_, rfl⟩
  replace H : (some ji3) = some r := by first | (rw [hji3] at H; exact H) | (simp only [hji3] at H ⊢; exact H)
  have hji3_ : (if a0 < a1 then a1 else a0) = ji3 := hji3
  obtain rfl := Option.some.inj H
  go_enter Try.func33, Try.ntmps33
  go_wp2
  go_ret
  exact ⟨by first | rfl | (simp [errW_none, errW_some] <;> rfl) | (simp only [← hji3]; first | rfl | (simp [errW_none, errW_some] <;> rfl)) | (simp [*, errW_none, errW_some] <;> rfl), by repeat (first | (with_reducible first | exact HB.out | apply below_alloc | apply pw_below_drewN | apply below_drew1) | exact HB.out)⟩

/-! ### self_Clamp: function 15 -/
def self_Clamp.j0 : Nat → Int → Int → Int → Int → Int → Bool → Int → Int → Option (Int × Int)
  | 0, _, _, _, _, _, _, _, _ => none
  | k + 1, x17, x198000, x199000, x199001, x201000, x202000, x203000, x203001 => if x17 = 0 then ((self_Limit.f k x199000 x199001 x201000 x202000 x203000 x203001).bind fun bt210 => (if bt210.2.1 = true then ((self_Clamp_3.f x198000 bt210.1).bind fun t213 => (if bt210.2.2 = 0 then (some (t213, 0)) else (some (0, bt210.2.2)))) else (if bt210.2.2 = 0 then (some (x198000, 0)) else (some (0, bt210.2.2))))) else (some (0, x17))
def self_Clamp.f (k : Nat) (a0 : Int) (a1_0 : Int) (a1_1 : Int) (a2_0 : Int) (a2_1 : Int) (a3 : Int) (a4 : Bool) (a5_0 : Int) (a5_1 : Int) : Option (Int × Int) := (self_isSize.f a0).bind fun t203 => (if t203 = true then ((self_Limit.f k a2_0 a2_1 a3 a4 a5_0 a5_1).bind fun bt205 => (if bt205.2.1 = true then ((self_Clamp_2.f a0 bt205.1).bind fun t208 => (self_Clamp.j0 k bt205.2.2 t208 a1_0 a1_1 a3 a4 a5_0 a5_1)) else (self_Clamp.j0 k bt205.2.2 a0 a1_0 a1_1 a3 a4 a5_0 a5_1))) else (some (0, 2)))
theorem self_Clamp.mono_l : ∀ k, (∀ y0 y1 y2 y3 y4 y5 y6 y7, LeO (self_Clamp.j0 k y0 y1 y2 y3 y4 y5 y6 y7) (self_Clamp.j0 (k + 1) y0 y1 y2 y3 y4 y5 y6 y7))
  | 0 => fun _ _ _ _ _ _ _ _ r h => by simp [self_Clamp.j0] at h
  | k + 1 => by
    have ih0 := self_Clamp.mono_l k
    · intro y0 y1 y2 y3 y4 y5 y6 y7
      unfold self_Clamp.j0
      repeat' first
      | (with_reducible exact ih0 _ _ _ _ _ _ _ _)
      | (with_reducible exact self_Limit.mono _ _ _ _ _ _ _)
      | (with_reducible exact LeO.refl _)
      | (with_reducible exact LeO.none _)
      | (with_reducible refine LeO.ite ?_ ?_)
      | (with_reducible refine LeO.bind ?_ (fun _ => ?_))
      | exact ih0 _ _ _ _ _ _ _ _
      | exact self_Limit.mono _ _ _ _ _ _ _
      | exact LeO.none _
      | refine LeO.ite ?_ ?_
      | refine LeO.bind ?_ (fun _ => ?_)
theorem self_Clamp.mono : ∀ a0 a1 a2 a3 a4 a5 a6 a7 a8 k, LeO (self_Clamp.f k a0 a1 a2 a3 a4 a5 a6 a7 a8) (self_Clamp.f (k + 1) a0 a1 a2 a3 a4 a5 a6 a7 a8) := by
  intro a0 a1 a2 a3 a4 a5 a6 a7 a8 k
  have ih0 := self_Clamp.mono_l k
  unfold self_Clamp.f
  repeat' first
      | (with_reducible exact ih0 _ _ _ _ _ _ _ _)
      | (with_reducible exact self_Limit.mono _ _ _ _ _ _ _)
      | (with_reducible exact LeO.refl _)
      | (with_reducible exact LeO.none _)
      | (with_reducible refine LeO.ite ?_ ?_)
      | (with_reducible refine LeO.bind ?_ (fun _ => ?_))
      | exact ih0 _ _ _ _ _ _ _ _
      | exact self_Limit.mono _ _ _ _ _ _ _
      | exact LeO.none _
      | refine LeO.ite ?_ ?_
      | refine LeO.bind ?_ (fun _ => ?_)
set_option maxHeartbeats 8000000 in
set_option maxRecDepth 100000 in
theorem self_Clamp.calls (k : Nat) (a0 : Int) (a1_0 : Int) (a1_1 : Int) (a2_0 : Int) (a2_1 : Int) (a3 : Int) (a4 : Bool) (a5_0 : Int) (a5_1 : Int) (r1 : Int) (r2 : Int) (w : World) (h : self_Clamp.f k a0 a1_0 a1_1 a2_0 a2_1 a3 a4 a5_0 a5_1 = some (r1, r2)) :
    Calls Try.prog 15 #[.int .i64 a0, .agg #[.int .i64 a1_0, .int .i64 a1_1], .agg #[.int .i64 a2_0, .int .i64 a2_1], .int .i64 a3, .bool a4, .agg #[.int .i64 a5_0, .int .i64 a5_1]] w fun e w' => e = .returned (.tuple #[.int .i64 r1, .int .i64 r2]) ∧ Below w.heap.size w w' := by
  have hu31 := Try.underlying31
  have hu46 := Try.underlying46
  have HB := Aside0.mk (Below.refl w.heap.size w)
  have H : ((self_isSize.f a0).bind fun t203 => (if t203 = true then ((self_Limit.f k a2_0 a2_1 a3 a4 a5_0 a5_1).bind fun bt205 => (if bt205.2.1 = true then ((self_Clamp_2.f a0 bt205.1).bind fun t208 => (self_Clamp.j0 k bt205.2.2 t208 a1_0 a1_1 a3 a4 a5_0 a5_1)) else (self_Clamp.j0 k bt205.2.2 a0 a1_0 a1_1 a3 a4 a5_0 a5_1))) else (some (0, 2)))) = some (r1, r2) := h
  clear h
  replace H := Option.bind_eq_some_iff.mp H
  obtain ⟨t203, A70, H⟩ := H
  replace H : (if t203 = true then ((self_Limit.f k a2_0 a2_1 a3 a4 a5_0 a5_1).bind fun bt205 => (if bt205.2.1 = true then ((self_Clamp_2.f a0 bt205.1).bind fun t208 => (self_Clamp.j0 k bt205.2.2 t208 a1_0 a1_1 a3 a4 a5_0 a5_1)) else (self_Clamp.j0 k bt205.2.2 a0 a1_0 a1_1 a3 a4 a5_0 a5_1))) else (some (0, 2))) = some (r1, r2) := H
  have A7 := Aside0.mk A70
  clear A70
  by_cases c8 : t203 = true
  · subst c8
    have H1 : ((self_Limit.f k a2_0 a2_1 a3 a4 a5_0 a5_1).bind fun bt205 => (if bt205.2.1 = true then ((self_Clamp_2.f a0 bt205.1).bind fun t208 => (self_Clamp.j0 k bt205.2.2 t208 a1_0 a1_1 a3 a4 a5_0 a5_1)) else (self_Clamp.j0 k bt205.2.2 a0 a1_0 a1_1 a3 a4 a5_0 a5_1))) = some (r1, r2) := by rw [if_pos rfl] at H; exact H
    clear H
    have H := H1
    clear H1
    have HC9 := Aside0.mk H
    clear H
    go_enter Try.func15, Try.ntmps15
    go_upto_region 6 with (first | ((with_reducible refine gate_dst (N := 6) rfl ?_); refine box_event ?hg (N := 6) ?hd (cs := #[.int .i64 a0]) (t := 3) ?hr ?_; (case hd => rfl); (case hg => rfl); (case hr => first | (go_simp; done) | (go_simp; rfl)); intro gb197 hg w10 hbox hb; have n0_ := Aside0.mk (below_step pmBx10_9_ hb); have n1_ := Aside0.mk (hbox); have n2_ := Aside0.mk ((pmBx10_40_ : w.heap.size ≤ gb197)); have n3_ := Aside0.mk ((pmBx10_40_ : w.heap.size ≤ gb197)); clear HB; have HB := n0_; have BK197 := n1_; have GW197 := n2_; have GE197 := n3_; clear n0_ n1_ n2_ n3_; clear hb hbox hg) | ((with_reducible refine gate_dst (N := 7) rfl ?_); refine box_event ?hg (N := 7) ?hd (cs := #[.int .i64 a1_0, .int .i64 a1_1]) (t := 31) ?hr ?_; (case hd => rfl); (case hg => rfl); (case hr => first | (go_simp; done) | (go_simp; rfl)); intro gb198 hg w11 hbox hb; have n0_ := Aside0.mk (blk_below (g := gb197) (o := .cells #[.int .i64 a0] 3 (0, 0)) pmBx10_0_ hb); have n1_ := Aside0.mk (below_step pmBx10_30_ hb); have n2_ := Aside0.mk (hbox); have n3_ := Aside0.mk ((by rw [hg]; exact (below_size pmBx10_30_) : w.heap.size ≤ gb198)); have n4_ := Aside0.mk ((by rw [hg]; exact (below_size pmBx10_30_) : w.heap.size ≤ gb198)); have n5_ := Aside0.mk ((pmBx10_24_ : gb197 ≠ gb198)); have n6_ := Aside0.mk ((pmBx10_25_ : gb198 ≠ gb197)); clear BK197; clear HB; have BK197 := n0_; have HB := n1_; have BK198 := n2_; have GW198 := n3_; have GE198 := n4_; have NB197_198 := n5_; have NB198_197 := n6_; clear n0_ n1_ n2_ n3_ n4_ n5_ n6_; clear hb hbox hg) | ((with_reducible refine gate_dst (N := 8) rfl ?_); refine box_event ?hg (N := 8) ?hd (cs := #[.int .i64 a2_0, .int .i64 a2_1]) (t := 31) ?hr ?_; (case hd => rfl); (case hg => rfl); (case hr => first | (go_simp; done) | (go_simp; rfl)); intro gb199 hg w12 hbox hb; have n0_ := Aside0.mk (blk_below (g := gb197) (o := .cells #[.int .i64 a0] 3 (0, 0)) pmBx10_0_ hb); have n1_ := Aside0.mk (blk_below (g := gb198) (o := .cells #[.int .i64 a1_0, .int .i64 a1_1] 31 (0, 0)) pmBx10_1_ hb); have n2_ := Aside0.mk (below_step pmBx10_27_ hb); have n3_ := Aside0.mk (hbox); have n4_ := Aside0.mk ((by rw [hg]; exact (below_size pmBx10_27_) : w.heap.size ≤ gb199)); have n5_ := Aside0.mk ((by rw [hg]; exact (below_size pmBx10_27_) : w.heap.size ≤ gb199)); have n6_ := Aside0.mk ((pmBx10_24_ : gb197 ≠ gb199)); have n7_ := Aside0.mk ((pmBx10_25_ : gb199 ≠ gb197)); have n8_ := Aside0.mk ((pmBx10_13_ : gb198 ≠ gb199)); have n9_ := Aside0.mk ((pmBx10_14_ : gb199 ≠ gb198)); clear BK197; clear BK198; clear HB; have BK197 := n0_; have BK198 := n1_; have HB := n2_; have BK199 := n3_; have GW199 := n4_; have GE199 := n5_; have NB197_199 := n6_; have NB199_197 := n7_; have NB198_199 := n8_; have NB199_198 := n9_; clear n0_ n1_ n2_ n3_ n4_ n5_ n6_ n7_ n8_ n9_; clear hb hbox hg) | ((with_reducible refine gate_dst (N := 9) rfl ?_); refine box_event ?hg (N := 9) ?hd (cs := #[.int .i64 a3]) (t := 3) ?hr ?_; (case hd => rfl); (case hg => rfl); (case hr => first | (go_simp; done) | (go_simp; rfl)); intro gb200 hg w13 hbox hb; have n0_ := Aside0.mk (blk_below (g := gb197) (o := .cells #[.int .i64 a0] 3 (0, 0)) pmBx10_0_ hb); have n1_ := Aside0.mk (blk_below (g := gb198) (o := .cells #[.int .i64 a1_0, .int .i64 a1_1] 31 (0, 0)) pmBx10_1_ hb); have n2_ := Aside0.mk (blk_below (g := gb199) (o := .cells #[.int .i64 a2_0, .int .i64 a2_1] 31 (0, 0)) pmBx10_3_ hb); have n3_ := Aside0.mk (below_step pmBx10_23_ hb); have n4_ := Aside0.mk (hbox); have n5_ := Aside0.mk ((by rw [hg]; exact (below_size pmBx10_23_) : w.heap.size ≤ gb200)); have n6_ := Aside0.mk ((by rw [hg]; exact (below_size pmBx10_23_) : w.heap.size ≤ gb200)); have n7_ := Aside0.mk ((pmBx10_24_ : gb197 ≠ gb200)); have n8_ := Aside0.mk ((pmBx10_25_ : gb200 ≠ gb197)); have n9_ := Aside0.mk ((pmBx10_13_ : gb198 ≠ gb200)); have n10_ := Aside0.mk ((pmBx10_14_ : gb200 ≠ gb198)); have n11_ := Aside0.mk ((pmBx10_20_ : gb199 ≠ gb200)); have n12_ := Aside0.mk ((pmBx10_21_ : gb200 ≠ gb199)); clear BK197; clear BK198; clear BK199; clear HB; have BK197 := n0_; have BK198 := n1_; have BK199 := n2_; have HB := n3_; have BK200 := n4_; have GW200 := n5_; have GE200 := n6_; have NB197_200 := n7_; have NB200_197 := n8_; have NB198_200 := n9_; have NB200_198 := n10_; have NB199_200 := n11_; have NB200_199 := n12_; clear n0_ n1_ n2_ n3_ n4_ n5_ n6_ n7_ n8_ n9_ n10_ n11_ n12_; clear hb hbox hg) | ((with_reducible refine gate_dst (N := 10) rfl ?_); refine box_event ?hg (N := 10) ?hd (cs := #[.bool a4]) (t := 4) ?hr ?_; (case hd => rfl); (case hg => rfl); (case hr => first | (go_simp; done) | (go_simp; rfl)); intro gb201 hg w14 hbox hb; have n0_ := Aside0.mk (blk_below (g := gb197) (o := .cells #[.int .i64 a0] 3 (0, 0)) pmBx10_0_ hb); have n1_ := Aside0.mk (blk_below (g := gb198) (o := .cells #[.int .i64 a1_0, .int .i64 a1_1] 31 (0, 0)) pmBx10_1_ hb); have n2_ := Aside0.mk (blk_below (g := gb199) (o := .cells #[.int .i64 a2_0, .int .i64 a2_1] 31 (0, 0)) pmBx10_3_ hb); have n3_ := Aside0.mk (blk_below (g := gb200) (o := .cells #[.int .i64 a3] 3 (0, 0)) pmBx10_4_ hb); have n4_ := Aside0.mk (below_step pmBx10_19_ hb); have n5_ := Aside0.mk (hbox); have n6_ := Aside0.mk ((by rw [hg]; exact (below_size pmBx10_19_) : w.heap.size ≤ gb201)); have n7_ := Aside0.mk ((by rw [hg]; exact (below_size pmBx10_19_) : w.heap.size ≤ gb201)); have n8_ := Aside0.mk ((pmBx10_24_ : gb197 ≠ gb201)); have n9_ := Aside0.mk ((pmBx10_25_ : gb201 ≠ gb197)); have n10_ := Aside0.mk ((pmBx10_13_ : gb198 ≠ gb201)); have n11_ := Aside0.mk ((pmBx10_14_ : gb201 ≠ gb198)); have n12_ := Aside0.mk ((pmBx10_20_ : gb199 ≠ gb201)); have n13_ := Aside0.mk ((pmBx10_21_ : gb201 ≠ gb199)); have n14_ := Aside0.mk ((pmBx10_28_ : gb200 ≠ gb201)); have n15_ := Aside0.mk ((pmBx10_29_ : gb201 ≠ gb200)); clear BK197; clear BK198; clear BK199; clear BK200; clear HB; have BK197 := n0_; have BK198 := n1_; have BK199 := n2_; have BK200 := n3_; have HB := n4_; have BK201 := n5_; have GW201 := n6_; have GE201 := n7_; have NB197_201 := n8_; have NB201_197 := n9_; have NB198_201 := n10_; have NB201_198 := n11_; have NB199_201 := n12_; have NB201_199 := n13_; have NB200_201 := n14_; have NB201_200 := n15_; clear n0_ n1_ n2_ n3_ n4_ n5_ n6_ n7_ n8_ n9_ n10_ n11_ n12_ n13_ n14_ n15_; clear hb hbox hg) | ((with_reducible refine gate_dst (N := 11) rfl ?_); refine box_event ?hg (N := 11) ?hd (cs := #[.int .i64 a5_0, .int .i64 a5_1]) (t := 46) ?hr ?_; (case hd => rfl); (case hg => rfl); (case hr => first | (go_simp; done) | (go_simp; rfl)); intro gb202 hg w15 hbox hb; have n0_ := Aside0.mk (blk_below (g := gb197) (o := .cells #[.int .i64 a0] 3 (0, 0)) pmBx10_0_ hb); have n1_ := Aside0.mk (blk_below (g := gb198) (o := .cells #[.int .i64 a1_0, .int .i64 a1_1] 31 (0, 0)) pmBx10_1_ hb); have n2_ := Aside0.mk (blk_below (g := gb199) (o := .cells #[.int .i64 a2_0, .int .i64 a2_1] 31 (0, 0)) pmBx10_3_ hb); have n3_ := Aside0.mk (blk_below (g := gb200) (o := .cells #[.int .i64 a3] 3 (0, 0)) pmBx10_4_ hb); have n4_ := Aside0.mk (blk_below (g := gb201) (o := .cells #[.bool a4] 4 (0, 0)) pmBx10_5_ hb); have n5_ := Aside0.mk (below_step pmBx10_15_ hb); have n6_ := Aside0.mk (hbox); have n7_ := Aside0.mk ((by rw [hg]; exact (below_size pmBx10_15_) : w.heap.size ≤ gb202)); have n8_ := Aside0.mk ((by rw [hg]; exact (below_size pmBx10_15_) : w.heap.size ≤ gb202)); have n9_ := Aside0.mk ((pmBx10_24_ : gb197 ≠ gb202)); have n10_ := Aside0.mk ((pmBx10_25_ : gb202 ≠ gb197)); have n11_ := Aside0.mk ((pmBx10_13_ : gb198 ≠ gb202)); have n12_ := Aside0.mk ((pmBx10_14_ : gb202 ≠ gb198)); have n13_ := Aside0.mk ((pmBx10_20_ : gb199 ≠ gb202)); have n14_ := Aside0.mk ((pmBx10_21_ : gb202 ≠ gb199)); have n15_ := Aside0.mk ((pmBx10_28_ : gb200 ≠ gb202)); have n16_ := Aside0.mk ((pmBx10_29_ : gb202 ≠ gb200)); have n17_ := Aside0.mk ((pmBx10_33_ : gb201 ≠ gb202)); have n18_ := Aside0.mk ((pmBx10_34_ : gb202 ≠ gb201)); clear BK197; clear BK198; clear BK199; clear BK200; clear BK201; clear HB; have BK197 := n0_; have BK198 := n1_; have BK199 := n2_; have BK200 := n3_; have BK201 := n4_; have HB := n5_; have BK202 := n6_; have GW202 := n7_; have GE202 := n8_; have NB197_202 := n9_; have NB202_197 := n10_; have NB198_202 := n11_; have NB202_198 := n12_; have NB199_202 := n13_; have NB202_199 := n14_; have NB200_202 := n15_; have NB202_200 := n16_; have NB201_202 := n17_; have NB202_201 := n18_; clear n0_ n1_ n2_ n3_ n4_ n5_ n6_ n7_ n8_ n9_ n10_ n11_ n12_ n13_ n14_ n15_ n16_ n17_ n18_; clear hb hbox hg; have hnb16 := NB197_198.out; have hnc16 := NB198_197.out; have hnb17 := NB197_199.out; have hnc17 := NB199_197.out; have hnb18 := NB197_200.out; have hnc18 := NB200_197.out; have hnb19 := NB197_201.out; have hnc19 := NB201_197.out; have hnb20 := NB197_202.out; have hnc20 := NB202_197.out; have hcz21_0 : w15.cell? ⟨gb197, 0, none⟩ = some (.int .i64 a0) := (blk_cell BK197.out 0).trans rfl; have hfz21_0 := blk_frozen BK197.out 0) | ((with_reducible refine gate_callee (f := 22) rfl ?_); refine goesL_ (some 20) rfl rfl Try.func22 (by kernel_rfl) rfl #[.int .i64 a0] rfl pmBx10_8_ ?_; (with_reducible refine (self_isSize.calls a0 true _ A7.out).mono ?_); rintro e w' ⟨rfl, ⟨nd, rfl⟩⟩; refine ⟨_, rfl, ?_⟩))
    (try simp only [Act.put, List.setIfInBounds_toArray, List.set_cons_zero, List.set_cons_succ])
    go_cut [17] (fun v17 wc => ∃ (kq : Nat) (x17_8 : Int) (x198000_8 : Int), v17 = .int .i64 x17_8 ∧ Aside0 (self_Clamp.j0 kq x17_8 x198000_8 a1_0 a1_1 a3 a4 a5_0 a5_1 = some (r1, r2)) ∧ Aside0 (kq ≤ k) ∧ Aside0 (wc.heap[gb197]? = some (.cells #[.int .i64 x198000_8] 3 (0, 0))) ∧ Aside0 (wc.heap[gb198]? = some (.cells #[.int .i64 a1_0, .int .i64 a1_1] 31 (0, 0))) ∧ Aside0 (wc.heap[gb199]? = some (.cells #[.int .i64 a2_0, .int .i64 a2_1] 31 (0, 0))) ∧ Aside0 (wc.heap[gb200]? = some (.cells #[.int .i64 a3] 3 (0, 0))) ∧ Aside0 (wc.heap[gb201]? = some (.cells #[.bool a4] 4 (0, 0))) ∧ Aside0 (wc.heap[gb202]? = some (.cells #[.int .i64 a5_0, .int .i64 a5_1] 46 (0, 0))) ∧ Aside0 (Below w.heap.size w wc))
    case first =>
      have H := HC9.out
      clear HC9
      replace H := Option.bind_eq_some_iff.mp H
      obtain ⟨⟨t205, t206, t207⟩, A220, H⟩ := H
      replace H : (if t206 = true then ((self_Clamp_2.f a0 t205).bind fun t208 => (self_Clamp.j0 k t207 t208 a1_0 a1_1 a3 a4 a5_0 a5_1)) else (self_Clamp.j0 k t207 a0 a1_0 a1_1 a3 a4 a5_0 a5_1)) = some (r1, r2) := H
      have A22 := Aside0.mk A220
      clear A220
      by_cases c23 : t206 = true
      · subst c23
        have H1 : ((self_Clamp_2.f a0 t205).bind fun t208 => (self_Clamp.j0 k t207 t208 a1_0 a1_1 a3 a4 a5_0 a5_1)) = some (r1, r2) := by rw [if_pos rfl] at H; exact H
        clear H
        have H := H1
        clear H1
        replace H := Option.bind_eq_some_iff.mp H
        obtain ⟨t208, A240, H⟩ := H
        replace H : (self_Clamp.j0 k t207 t208 a1_0 a1_1 a3 a4 a5_0 a5_1) = some (r1, r2) := H
        have A24 := Aside0.mk A240
        clear A240
        have H' := Aside0.mk H
        clear H
        have hnb25 := NB199_197.out
        have hnc25 := NB197_199.out
        have hnb26 := NB199_198.out
        have hnc26 := NB198_199.out
        have hnb27 := NB199_200.out
        have hnc27 := NB200_199.out
        have hnb28 := NB199_201.out
        have hnc28 := NB201_199.out
        have hnb29 := NB199_202.out
        have hnc29 := NB202_199.out
        have hcz30_0 : w15.cell? ⟨gb199, 0, none⟩ = some (.int .i64 a2_0) := (blk_cell BK199.out 0).trans rfl
        have hcz30_1 : w15.cell? ⟨gb199, 1, none⟩ = some (.int .i64 a2_1) := (blk_cell BK199.out 1).trans rfl
        have hfz30_0 := blk_frozen BK199.out 0
        have hfz30_1 := blk_frozen BK199.out 1
        go_wp2_with (first | ((with_reducible refine gate_dst (N := 6) rfl ?_); refine box_event ?hg (N := 6) ?hd (cs := #[.int .i64 a2_0, .int .i64 a2_1]) (t := 31) ?hr ?_; (case hd => rfl); (case hg => rfl); (case hr => first | (go_simp; done) | (go_simp; rfl)); intro gb204 hg w31 hbox hb; have n0_ := Aside0.mk (blk_below (g := gb197) (o := .cells #[.int .i64 a0] 3 (0, 0)) pmBx10_0_ hb); have n1_ := Aside0.mk (blk_below (g := gb198) (o := .cells #[.int .i64 a1_0, .int .i64 a1_1] 31 (0, 0)) pmBx10_1_ hb); have n2_ := Aside0.mk (blk_below (g := gb199) (o := .cells #[.int .i64 a2_0, .int .i64 a2_1] 31 (0, 0)) pmBx10_3_ hb); have n3_ := Aside0.mk (blk_below (g := gb200) (o := .cells #[.int .i64 a3] 3 (0, 0)) pmBx10_4_ hb); have n4_ := Aside0.mk (blk_below (g := gb201) (o := .cells #[.bool a4] 4 (0, 0)) pmBx10_5_ hb); have n5_ := Aside0.mk (blk_below (g := gb202) (o := .cells #[.int .i64 a5_0, .int .i64 a5_1] 46 (0, 0)) pmBx10_6_ hb); have n6_ := Aside0.mk (below_step pmBx10_2_ hb); have n7_ := Aside0.mk (hbox); have n8_ := Aside0.mk ((pmBx10_41_ : w.heap.size ≤ gb204)); have n9_ := Aside0.mk ((pmBx10_41_ : w.heap.size ≤ gb204)); have n10_ := Aside0.mk ((pmBx10_24_ : gb197 ≠ gb204)); have n11_ := Aside0.mk ((pmBx10_25_ : gb204 ≠ gb197)); have n12_ := Aside0.mk ((pmBx10_13_ : gb198 ≠ gb204)); have n13_ := Aside0.mk ((pmBx10_14_ : gb204 ≠ gb198)); have n14_ := Aside0.mk ((pmBx10_20_ : gb199 ≠ gb204)); have n15_ := Aside0.mk ((pmBx10_21_ : gb204 ≠ gb199)); have n16_ := Aside0.mk ((pmBx10_28_ : gb200 ≠ gb204)); have n17_ := Aside0.mk ((pmBx10_29_ : gb204 ≠ gb200)); have n18_ := Aside0.mk ((pmBx10_33_ : gb201 ≠ gb204)); have n19_ := Aside0.mk ((pmBx10_34_ : gb204 ≠ gb201)); have n20_ := Aside0.mk ((pmBx10_35_ : gb202 ≠ gb204)); have n21_ := Aside0.mk ((pmBx10_36_ : gb204 ≠ gb202)); clear BK197; clear BK198; clear BK199; clear BK200; clear BK201; clear BK202; clear HB; have BK197 := n0_; have BK198 := n1_; have BK199 := n2_; have BK200 := n3_; have BK201 := n4_; have BK202 := n5_; have HB := n6_; have BK204 := n7_; have GW204 := n8_; have GE204 := n9_; have NB197_204 := n10_; have NB204_197 := n11_; have NB198_204 := n12_; have NB204_198 := n13_; have NB199_204 := n14_; have NB204_199 := n15_; have NB200_204 := n16_; have NB204_200 := n17_; have NB201_204 := n18_; have NB204_201 := n19_; have NB202_204 := n20_; have NB204_202 := n21_; clear n0_ n1_ n2_ n3_ n4_ n5_ n6_ n7_ n8_ n9_ n10_ n11_ n12_ n13_ n14_ n15_ n16_ n17_ n18_ n19_ n20_ n21_; clear hb hbox hg; have hnb32 := NB204_197.out; have hnc32 := NB197_204.out; have hnb33 := NB204_198.out; have hnc33 := NB198_204.out; have hnb34 := NB204_199.out; have hnc34 := NB199_204.out; have hnb35 := NB204_200.out; have hnc35 := NB200_204.out; have hnb36 := NB204_201.out; have hnc36 := NB201_204.out; have hnb37 := NB204_202.out; have hnc37 := NB202_204.out; have hcz38_0 : w31.cell? ⟨gb204, 0, none⟩ = some (.int .i64 a2_0) := (blk_cell BK204.out 0).trans rfl; have hcz38_1 : w31.cell? ⟨gb204, 1, none⟩ = some (.int .i64 a2_1) := (blk_cell BK204.out 1).trans rfl; have hfz38_0 := blk_frozen BK204.out 0; have hfz38_1 := blk_frozen BK204.out 1; have hnb39 := NB200_197.out; have hnc39 := NB197_200.out; have hnb40 := NB200_198.out; have hnc40 := NB198_200.out; have hnb41 := NB200_201.out; have hnc41 := NB201_200.out; have hnb42 := NB200_202.out; have hnc42 := NB202_200.out; have hcz43_0 : w31.cell? ⟨gb200, 0, none⟩ = some (.int .i64 a3) := (blk_cell BK200.out 0).trans rfl; have hfz43_0 := blk_frozen BK200.out 0; have hnb44 := NB201_197.out; have hnc44 := NB197_201.out; have hnb45 := NB201_198.out; have hnc45 := NB198_201.out; have hnb46 := NB201_202.out; have hnc46 := NB202_201.out; have hcz47_0 : w31.cell? ⟨gb201, 0, none⟩ = some (.bool a4) := (blk_cell BK201.out 0).trans rfl; have hfz47_0 := blk_frozen BK201.out 0; have hnb48 := NB202_197.out; have hnc48 := NB197_202.out; have hnb49 := NB202_198.out; have hnc49 := NB198_202.out; have hcz50_0 : w31.cell? ⟨gb202, 0, none⟩ = some (.int .i64 a5_0) := (blk_cell BK202.out 0).trans rfl; have hcz50_1 : w31.cell? ⟨gb202, 1, none⟩ = some (.int .i64 a5_1) := (blk_cell BK202.out 1).trans rfl; have hfz50_0 := blk_frozen BK202.out 0; have hfz50_1 := blk_frozen BK202.out 1) | ((with_reducible refine gate_callee (f := 13) rfl ?_); refine goesL_ (some 17) rfl rfl Try.func13 (by kernel_rfl) rfl #[.agg #[.int .i64 a2_0, .int .i64 a2_1], .int .i64 a3, .bool a4, .agg #[.int .i64 a5_0, .int .i64 a5_1]] rfl pmBx10_8_ ?_; (with_reducible refine (self_Limit.calls k a2_0 a2_1 a3 a4 a5_0 a5_1 t205 true t207 _ A22.out).mono ?_); rintro e w51 ⟨rfl, hb⟩; refine ⟨_, rfl, ?_⟩; have n0_ := Aside0.mk (blk_below (g := gb197) (o := .cells #[.int .i64 a0] 3 (0, 0)) pmBx10_0_ hb); have n1_ := Aside0.mk (blk_below (g := gb198) (o := .cells #[.int .i64 a1_0, .int .i64 a1_1] 31 (0, 0)) pmBx10_1_ hb); have n2_ := Aside0.mk (blk_below (g := gb199) (o := .cells #[.int .i64 a2_0, .int .i64 a2_1] 31 (0, 0)) pmBx10_3_ hb); have n3_ := Aside0.mk (blk_below (g := gb200) (o := .cells #[.int .i64 a3] 3 (0, 0)) pmBx10_4_ hb); have n4_ := Aside0.mk (blk_below (g := gb201) (o := .cells #[.bool a4] 4 (0, 0)) pmBx10_5_ hb); have n5_ := Aside0.mk (blk_below (g := gb202) (o := .cells #[.int .i64 a5_0, .int .i64 a5_1] 46 (0, 0)) pmBx10_6_ hb); have n6_ := Aside0.mk (blk_below (g := gb204) (o := .cells #[.int .i64 a2_0, .int .i64 a2_1] 31 (0, 0)) pmBx10_47_ hb); have n7_ := Aside0.mk (below_step pmBx10_16_ hb); clear BK197; clear BK198; clear BK199; clear BK200; clear BK201; clear BK202; clear BK204; clear HB; have BK197 := n0_; have BK198 := n1_; have BK199 := n2_; have BK200 := n3_; have BK201 := n4_; have BK202 := n5_; have BK204 := n6_; have HB := n7_; clear n0_ n1_ n2_ n3_ n4_ n5_ n6_ n7_; (try clear hb); (try clear hb2); (try clear hk); (try clear hi); have hnb52 := NB197_198.out; have hnc52 := NB198_197.out; have hcz53_0 : w51.cell? ⟨gb197, 0, none⟩ = some (.int .i64 a0) := (blk_cell BK197.out 0).trans rfl; have hfz53_0 := blk_frozen BK197.out 0) | (go_at_call 32; (with_reducible refine (self_Clamp_2.calls a0 t205 t208 _ A24.out).mono ?_); rintro e w54 ⟨rfl, hb⟩; have n0_ := Aside0.mk (blk_below (g := gb197) (o := .cells #[.int .i64 a0] 3 (0, 0)) pmBx10_0_ hb); have n1_ := Aside0.mk (blk_below (g := gb198) (o := .cells #[.int .i64 a1_0, .int .i64 a1_1] 31 (0, 0)) pmBx10_1_ hb); have n2_ := Aside0.mk (blk_below (g := gb199) (o := .cells #[.int .i64 a2_0, .int .i64 a2_1] 31 (0, 0)) pmBx10_3_ hb); have n3_ := Aside0.mk (blk_below (g := gb200) (o := .cells #[.int .i64 a3] 3 (0, 0)) pmBx10_4_ hb); have n4_ := Aside0.mk (blk_below (g := gb201) (o := .cells #[.bool a4] 4 (0, 0)) pmBx10_5_ hb); have n5_ := Aside0.mk (blk_below (g := gb202) (o := .cells #[.int .i64 a5_0, .int .i64 a5_1] 46 (0, 0)) pmBx10_6_ hb); have n6_ := Aside0.mk (blk_below (g := gb204) (o := .cells #[.int .i64 a2_0, .int .i64 a2_1] 31 (0, 0)) pmBx10_47_ hb); have n7_ := Aside0.mk (below_step pmBx10_16_ hb); clear BK197; clear BK198; clear BK199; clear BK200; clear BK201; clear BK202; clear BK204; clear HB; have BK197 := n0_; have BK198 := n1_; have BK199 := n2_; have BK200 := n3_; have BK201 := n4_; have BK202 := n5_; have BK204 := n6_; have HB := n7_; clear n0_ n1_ n2_ n3_ n4_ n5_ n6_ n7_; (try clear hb); (try clear hb2); (try clear hk); (try clear hi); have hcz55_0 : w54.cell? ⟨gb197, 0, none⟩ = some (.int .i64 a0) := (blk_cell BK197.out 0).trans rfl; have hfz55_0 := blk_frozen BK197.out 0) | go_in)
        go_meet
        case rel => exact ⟨_, (t207), (t208), pmBx10_48_, H', ⟨pmBx10_49_⟩, ⟨by (with_reducible repeat (first | refine blk_drewN ?_ _ | refine blk_drew ?_ | refine blk_alloc ?_ _)); refine blk_put (cs := #[.int .i64 a0]) ?_ 0 _ rfl; (with_reducible repeat (first | refine blk_drewN ?_ _ | refine blk_drew ?_ | refine blk_alloc ?_ _)); exact BK197.out⟩, ⟨by (with_reducible repeat (first | refine blk_drewN ?_ _ | refine blk_drew ?_ | refine blk_alloc ?_ _)); refine blk_far ?_ NB198_197.out _; (with_reducible repeat (first | refine blk_drewN ?_ _ | refine blk_drew ?_ | refine blk_alloc ?_ _)); exact BK198.out⟩, ⟨by (with_reducible repeat (first | refine blk_drewN ?_ _ | refine blk_drew ?_ | refine blk_alloc ?_ _)); refine blk_far ?_ NB199_197.out _; (with_reducible repeat (first | refine blk_drewN ?_ _ | refine blk_drew ?_ | refine blk_alloc ?_ _)); exact BK199.out⟩, ⟨by (with_reducible repeat (first | refine blk_drewN ?_ _ | refine blk_drew ?_ | refine blk_alloc ?_ _)); refine blk_far ?_ NB200_197.out _; (with_reducible repeat (first | refine blk_drewN ?_ _ | refine blk_drew ?_ | refine blk_alloc ?_ _)); exact BK200.out⟩, ⟨by (with_reducible repeat (first | refine blk_drewN ?_ _ | refine blk_drew ?_ | refine blk_alloc ?_ _)); refine blk_far ?_ NB201_197.out _; (with_reducible repeat (first | refine blk_drewN ?_ _ | refine blk_drew ?_ | refine blk_alloc ?_ _)); exact BK201.out⟩, ⟨by (with_reducible repeat (first | refine blk_drewN ?_ _ | refine blk_drew ?_ | refine blk_alloc ?_ _)); refine blk_far ?_ NB202_197.out _; (with_reducible repeat (first | refine blk_drewN ?_ _ | refine blk_drew ?_ | refine blk_alloc ?_ _)); exact BK202.out⟩, ⟨pmBx10_16_⟩⟩
      · replace c23 := Bool.eq_false_iff.mpr c23
        subst c23
        have H1 : (self_Clamp.j0 k t207 a0 a1_0 a1_1 a3 a4 a5_0 a5_1) = some (r1, r2) := by rw [if_neg (show ¬ (false = true) by decide)] at H; exact H
        clear H
        have H := H1
        clear H1
        have H' := Aside0.mk H
        clear H
        have hnb56 := NB199_197.out
        have hnc56 := NB197_199.out
        have hnb57 := NB199_198.out
        have hnc57 := NB198_199.out
        have hnb58 := NB199_200.out
        have hnc58 := NB200_199.out
        have hnb59 := NB199_201.out
        have hnc59 := NB201_199.out
        have hnb60 := NB199_202.out
        have hnc60 := NB202_199.out
        have hcz61_0 : w15.cell? ⟨gb199, 0, none⟩ = some (.int .i64 a2_0) := (blk_cell BK199.out 0).trans rfl
        have hcz61_1 : w15.cell? ⟨gb199, 1, none⟩ = some (.int .i64 a2_1) := (blk_cell BK199.out 1).trans rfl
        have hfz61_0 := blk_frozen BK199.out 0
        have hfz61_1 := blk_frozen BK199.out 1
        go_wp2_with (first | ((with_reducible refine gate_dst (N := 6) rfl ?_); refine box_event ?hg (N := 6) ?hd (cs := #[.int .i64 a2_0, .int .i64 a2_1]) (t := 31) ?hr ?_; (case hd => rfl); (case hg => rfl); (case hr => first | (go_simp; done) | (go_simp; rfl)); intro gb204 hg w62 hbox hb; have n0_ := Aside0.mk (blk_below (g := gb197) (o := .cells #[.int .i64 a0] 3 (0, 0)) pmBx10_0_ hb); have n1_ := Aside0.mk (blk_below (g := gb198) (o := .cells #[.int .i64 a1_0, .int .i64 a1_1] 31 (0, 0)) pmBx10_1_ hb); have n2_ := Aside0.mk (blk_below (g := gb199) (o := .cells #[.int .i64 a2_0, .int .i64 a2_1] 31 (0, 0)) pmBx10_3_ hb); have n3_ := Aside0.mk (blk_below (g := gb200) (o := .cells #[.int .i64 a3] 3 (0, 0)) pmBx10_4_ hb); have n4_ := Aside0.mk (blk_below (g := gb201) (o := .cells #[.bool a4] 4 (0, 0)) pmBx10_5_ hb); have n5_ := Aside0.mk (blk_below (g := gb202) (o := .cells #[.int .i64 a5_0, .int .i64 a5_1] 46 (0, 0)) pmBx10_6_ hb); have n6_ := Aside0.mk (below_step pmBx10_2_ hb); have n7_ := Aside0.mk (hbox); have n8_ := Aside0.mk ((pmBx10_41_ : w.heap.size ≤ gb204)); have n9_ := Aside0.mk ((pmBx10_41_ : w.heap.size ≤ gb204)); have n10_ := Aside0.mk ((pmBx10_24_ : gb197 ≠ gb204)); have n11_ := Aside0.mk ((pmBx10_25_ : gb204 ≠ gb197)); have n12_ := Aside0.mk ((pmBx10_13_ : gb198 ≠ gb204)); have n13_ := Aside0.mk ((pmBx10_14_ : gb204 ≠ gb198)); have n14_ := Aside0.mk ((pmBx10_20_ : gb199 ≠ gb204)); have n15_ := Aside0.mk ((pmBx10_21_ : gb204 ≠ gb199)); have n16_ := Aside0.mk ((pmBx10_28_ : gb200 ≠ gb204)); have n17_ := Aside0.mk ((pmBx10_29_ : gb204 ≠ gb200)); have n18_ := Aside0.mk ((pmBx10_33_ : gb201 ≠ gb204)); have n19_ := Aside0.mk ((pmBx10_34_ : gb204 ≠ gb201)); have n20_ := Aside0.mk ((pmBx10_35_ : gb202 ≠ gb204)); have n21_ := Aside0.mk ((pmBx10_36_ : gb204 ≠ gb202)); clear BK197; clear BK198; clear BK199; clear BK200; clear BK201; clear BK202; clear HB; have BK197 := n0_; have BK198 := n1_; have BK199 := n2_; have BK200 := n3_; have BK201 := n4_; have BK202 := n5_; have HB := n6_; have BK204 := n7_; have GW204 := n8_; have GE204 := n9_; have NB197_204 := n10_; have NB204_197 := n11_; have NB198_204 := n12_; have NB204_198 := n13_; have NB199_204 := n14_; have NB204_199 := n15_; have NB200_204 := n16_; have NB204_200 := n17_; have NB201_204 := n18_; have NB204_201 := n19_; have NB202_204 := n20_; have NB204_202 := n21_; clear n0_ n1_ n2_ n3_ n4_ n5_ n6_ n7_ n8_ n9_ n10_ n11_ n12_ n13_ n14_ n15_ n16_ n17_ n18_ n19_ n20_ n21_; clear hb hbox hg; have hnb63 := NB204_197.out; have hnc63 := NB197_204.out; have hnb64 := NB204_198.out; have hnc64 := NB198_204.out; have hnb65 := NB204_199.out; have hnc65 := NB199_204.out; have hnb66 := NB204_200.out; have hnc66 := NB200_204.out; have hnb67 := NB204_201.out; have hnc67 := NB201_204.out; have hnb68 := NB204_202.out; have hnc68 := NB202_204.out; have hcz69_0 : w62.cell? ⟨gb204, 0, none⟩ = some (.int .i64 a2_0) := (blk_cell BK204.out 0).trans rfl; have hcz69_1 : w62.cell? ⟨gb204, 1, none⟩ = some (.int .i64 a2_1) := (blk_cell BK204.out 1).trans rfl; have hfz69_0 := blk_frozen BK204.out 0; have hfz69_1 := blk_frozen BK204.out 1; have hnb70 := NB200_197.out; have hnc70 := NB197_200.out; have hnb71 := NB200_198.out; have hnc71 := NB198_200.out; have hnb72 := NB200_201.out; have hnc72 := NB201_200.out; have hnb73 := NB200_202.out; have hnc73 := NB202_200.out; have hcz74_0 : w62.cell? ⟨gb200, 0, none⟩ = some (.int .i64 a3) := (blk_cell BK200.out 0).trans rfl; have hfz74_0 := blk_frozen BK200.out 0; have hnb75 := NB201_197.out; have hnc75 := NB197_201.out; have hnb76 := NB201_198.out; have hnc76 := NB198_201.out; have hnb77 := NB201_202.out; have hnc77 := NB202_201.out; have hcz78_0 : w62.cell? ⟨gb201, 0, none⟩ = some (.bool a4) := (blk_cell BK201.out 0).trans rfl; have hfz78_0 := blk_frozen BK201.out 0; have hnb79 := NB202_197.out; have hnc79 := NB197_202.out; have hnb80 := NB202_198.out; have hnc80 := NB198_202.out; have hcz81_0 : w62.cell? ⟨gb202, 0, none⟩ = some (.int .i64 a5_0) := (blk_cell BK202.out 0).trans rfl; have hcz81_1 : w62.cell? ⟨gb202, 1, none⟩ = some (.int .i64 a5_1) := (blk_cell BK202.out 1).trans rfl; have hfz81_0 := blk_frozen BK202.out 0; have hfz81_1 := blk_frozen BK202.out 1) | ((with_reducible refine gate_callee (f := 13) rfl ?_); refine goesL_ (some 17) rfl rfl Try.func13 (by kernel_rfl) rfl #[.agg #[.int .i64 a2_0, .int .i64 a2_1], .int .i64 a3, .bool a4, .agg #[.int .i64 a5_0, .int .i64 a5_1]] rfl pmBx10_8_ ?_; (with_reducible refine (self_Limit.calls k a2_0 a2_1 a3 a4 a5_0 a5_1 t205 false t207 _ A22.out).mono ?_); rintro e w82 ⟨rfl, hb⟩; refine ⟨_, rfl, ?_⟩; have n0_ := Aside0.mk (blk_below (g := gb197) (o := .cells #[.int .i64 a0] 3 (0, 0)) pmBx10_0_ hb); have n1_ := Aside0.mk (blk_below (g := gb198) (o := .cells #[.int .i64 a1_0, .int .i64 a1_1] 31 (0, 0)) pmBx10_1_ hb); have n2_ := Aside0.mk (blk_below (g := gb199) (o := .cells #[.int .i64 a2_0, .int .i64 a2_1] 31 (0, 0)) pmBx10_3_ hb); have n3_ := Aside0.mk (blk_below (g := gb200) (o := .cells #[.int .i64 a3] 3 (0, 0)) pmBx10_4_ hb); have n4_ := Aside0.mk (blk_below (g := gb201) (o := .cells #[.bool a4] 4 (0, 0)) pmBx10_5_ hb); have n5_ := Aside0.mk (blk_below (g := gb202) (o := .cells #[.int .i64 a5_0, .int .i64 a5_1] 46 (0, 0)) pmBx10_6_ hb); have n6_ := Aside0.mk (blk_below (g := gb204) (o := .cells #[.int .i64 a2_0, .int .i64 a2_1] 31 (0, 0)) pmBx10_47_ hb); have n7_ := Aside0.mk (below_step pmBx10_16_ hb); clear BK197; clear BK198; clear BK199; clear BK200; clear BK201; clear BK202; clear BK204; clear HB; have BK197 := n0_; have BK198 := n1_; have BK199 := n2_; have BK200 := n3_; have BK201 := n4_; have BK202 := n5_; have BK204 := n6_; have HB := n7_; clear n0_ n1_ n2_ n3_ n4_ n5_ n6_ n7_; (try clear hb); (try clear hb2); (try clear hk); (try clear hi)) | go_in)
        go_meet
        case rel => exact ⟨_, (t207), (a0), pmBx10_48_, H', ⟨pmBx10_49_⟩, ⟨pmBx10_0_⟩, ⟨pmBx10_1_⟩, ⟨pmBx10_3_⟩, ⟨pmBx10_4_⟩, ⟨pmBx10_5_⟩, ⟨pmBx10_6_⟩, ⟨pmBx10_16_⟩⟩
    case rest =>
      clear HC9
      try clear c1
      try clear c2
      try clear p2
      try clear c3
      try clear c4
      try clear c5
      try clear c6
      try clear c7
      try clear c8
      try clear c13
      try clear c15
      try clear c16
      try clear c17
      try clear c18
      try clear c19
      try clear c20
      try clear c22
      try clear c23
      try clear c25
      try clear c26
      try clear c27
      try clear c28
      try clear c29
      try clear c32
      try clear c33
      try clear c34
      try clear c35
      try clear c36
      try clear c37
      try clear c39
      try clear c40
      try clear c41
      try clear c42
      try clear c44
      try clear c45
      try clear c46
      try clear c48
      try clear c49
      try clear c52
      try clear c56
      try clear c57
      try clear c58
      try clear c59
      try clear c60
      try clear c63
      try clear c64
      try clear c65
      try clear c66
      try clear c67
      try clear c68
      try clear c70
      try clear c71
      try clear c72
      try clear c73
      try clear c75
      try clear c76
      try clear c77
      try clear c79
      try clear c80
      try clear hcz21_0
      try clear hcz30_0
      try clear hcz30_1
      try clear hcz38_0
      try clear hcz38_1
      try clear hcz43_0
      try clear hcz47_0
      try clear hcz50_0
      try clear hcz50_1
      try clear hcz53_0
      try clear hcz55_0
      try clear hcz61_0
      try clear hcz61_1
      try clear hcz69_0
      try clear hcz69_1
      try clear hcz74_0
      try clear hcz78_0
      try clear hcz81_0
      try clear hcz81_1
      try clear hfz21_0
      try clear hfz30_0
      try clear hfz30_1
      try clear hfz38_0
      try clear hfz38_1
      try clear hfz43_0
      try clear hfz47_0
      try clear hfz50_0
      try clear hfz50_1
      try clear hfz53_0
      try clear hfz55_0
      try clear hfz61_0
      try clear hfz61_1
      try clear hfz69_0
      try clear hfz69_1
      try clear hfz74_0
      try clear hfz78_0
      try clear hfz81_0
      try clear hfz81_1
      obtain ⟨kq, x17_8, x198000_8, rfl, HA, HJ8, BK197, BK198, BK199, BK200, BK201, BK202, HB⟩ := hcut
      cases kq with
      | zero => exact absurd HA.out (by simp [self_Clamp.j0])
      | succ kj8 =>
        have H := HA.out
        clear HA
        simp only [self_Clamp.j0] at H
        by_cases c83 : x17_8 = 0
        · rw [if_pos c83] at H
          have c83b0 : (x17_8 == 0) = true := beq_iff_eq.mpr c83
          have c83b1 : (x17_8 != 0) = false := bne_eq_false_iff_eq.mpr c83
          clear c83
          replace H := Option.bind_eq_some_iff.mp H
          obtain ⟨⟨t210, t211, t212⟩, A840, H⟩ := H
          replace H : (if t211 = true then ((self_Clamp_3.f x198000_8 t210).bind fun t213 => (if t212 = 0 then (some (t213, 0)) else (some (0, t212)))) else (if t212 = 0 then (some (x198000_8, 0)) else (some (0, t212)))) = some (r1, r2) := H
          have A84 := Aside0.mk A840
          clear A840
          by_cases c85 : t211 = true
          · subst c85
            have H1 : ((self_Clamp_3.f x198000_8 t210).bind fun t213 => (if t212 = 0 then (some (t213, 0)) else (some (0, t212)))) = some (r1, r2) := by rw [if_pos rfl] at H; exact H
            clear H
            have H := H1
            clear H1
            replace H := Option.bind_eq_some_iff.mp H
            obtain ⟨t213, A860, H⟩ := H
            replace H : (if t212 = 0 then (some (t213, 0)) else (some (0, t212))) = some (r1, r2) := H
            have A86 := Aside0.mk A860
            clear A860
            by_cases c87 : t212 = 0
            · rw [if_pos c87] at H
              have c87b0 : (t212 == 0) = true := beq_iff_eq.mpr c87
              have c87b1 : (t212 != 0) = false := bne_eq_false_iff_eq.mpr c87
              clear c87
              simp only [Option.some.injEq, Prod.mk.injEq] at H
              obtain ⟨rfl, rfl⟩ := H
              have hnb88 := NB198_197.out
              have hnc88 := NB197_198.out
              have hnb89 := NB198_199.out
              have hnc89 := NB199_198.out
              have hnb90 := NB198_200.out
              have hnc90 := NB200_198.out
              have hnb91 := NB198_201.out
              have hnc91 := NB201_198.out
              have hnb92 := NB198_202.out
              have hnc92 := NB202_198.out
              have hcz93_0 : wc.cell? ⟨gb198, 0, none⟩ = some (.int .i64 a1_0) := (blk_cell BK198.out 0).trans rfl
              have hcz93_1 : wc.cell? ⟨gb198, 1, none⟩ = some (.int .i64 a1_1) := (blk_cell BK198.out 1).trans rfl
              have hfz93_0 := blk_frozen BK198.out 0
              have hfz93_1 := blk_frozen BK198.out 1
              go_wp2_with (first | ((with_reducible refine gate_dst (N := 6) rfl ?_); refine box_event ?hg (N := 6) ?hd (cs := #[.int .i64 a1_0, .int .i64 a1_1]) (t := 31) ?hr ?_; (case hd => rfl); (case hg => rfl); (case hr => first | (go_simp; done) | (go_simp; rfl)); intro gb209 hg w94 hbox hb; have n0_ := Aside0.mk (blk_below (g := gb197) (o := .cells #[.int .i64 x198000_8] 3 (0, 0)) pmBx10_0_ hb); have n1_ := Aside0.mk (blk_below (g := gb198) (o := .cells #[.int .i64 a1_0, .int .i64 a1_1] 31 (0, 0)) pmBx10_1_ hb); have n2_ := Aside0.mk (blk_below (g := gb199) (o := .cells #[.int .i64 a2_0, .int .i64 a2_1] 31 (0, 0)) pmBx10_3_ hb); have n3_ := Aside0.mk (blk_below (g := gb200) (o := .cells #[.int .i64 a3] 3 (0, 0)) pmBx10_4_ hb); have n4_ := Aside0.mk (blk_below (g := gb201) (o := .cells #[.bool a4] 4 (0, 0)) pmBx10_5_ hb); have n5_ := Aside0.mk (blk_below (g := gb202) (o := .cells #[.int .i64 a5_0, .int .i64 a5_1] 46 (0, 0)) pmBx10_6_ hb); have n6_ := Aside0.mk (below_step pmBx10_2_ hb); have n7_ := Aside0.mk (hbox); have n8_ := Aside0.mk ((pmBx10_41_ : w.heap.size ≤ gb209)); have n9_ := Aside0.mk ((pmBx10_41_ : w.heap.size ≤ gb209)); have n10_ := Aside0.mk ((pmBx10_43_ : gb197 ≠ gb209)); have n11_ := Aside0.mk ((pmBx10_44_ : gb209 ≠ gb197)); have n12_ := Aside0.mk ((pmBx10_13_ : gb198 ≠ gb209)); have n13_ := Aside0.mk ((pmBx10_14_ : gb209 ≠ gb198)); have n14_ := Aside0.mk ((pmBx10_20_ : gb199 ≠ gb209)); have n15_ := Aside0.mk ((pmBx10_21_ : gb209 ≠ gb199)); have n16_ := Aside0.mk ((pmBx10_28_ : gb200 ≠ gb209)); have n17_ := Aside0.mk ((pmBx10_29_ : gb209 ≠ gb200)); have n18_ := Aside0.mk ((pmBx10_33_ : gb201 ≠ gb209)); have n19_ := Aside0.mk ((pmBx10_34_ : gb209 ≠ gb201)); have n20_ := Aside0.mk ((pmBx10_35_ : gb202 ≠ gb209)); have n21_ := Aside0.mk ((pmBx10_36_ : gb209 ≠ gb202)); clear BK197; clear BK198; clear BK199; clear BK200; clear BK201; clear BK202; clear HB; have BK197 := n0_; have BK198 := n1_; have BK199 := n2_; have BK200 := n3_; have BK201 := n4_; have BK202 := n5_; have HB := n6_; have BK209 := n7_; have GW209 := n8_; have GE209 := n9_; have NB197_209 := n10_; have NB209_197 := n11_; have NB198_209 := n12_; have NB209_198 := n13_; have NB199_209 := n14_; have NB209_199 := n15_; have NB200_209 := n16_; have NB209_200 := n17_; have NB201_209 := n18_; have NB209_201 := n19_; have NB202_209 := n20_; have NB209_202 := n21_; clear n0_ n1_ n2_ n3_ n4_ n5_ n6_ n7_ n8_ n9_ n10_ n11_ n12_ n13_ n14_ n15_ n16_ n17_ n18_ n19_ n20_ n21_; clear hb hbox hg; have hnb95 := NB209_197.out; have hnc95 := NB197_209.out; have hnb96 := NB209_198.out; have hnc96 := NB198_209.out; have hnb97 := NB209_199.out; have hnc97 := NB199_209.out; have hnb98 := NB209_200.out; have hnc98 := NB200_209.out; have hnb99 := NB209_201.out; have hnc99 := NB201_209.out; have hnb100 := NB209_202.out; have hnc100 := NB202_209.out; have hcz101_0 : w94.cell? ⟨gb209, 0, none⟩ = some (.int .i64 a1_0) := (blk_cell BK209.out 0).trans rfl; have hcz101_1 : w94.cell? ⟨gb209, 1, none⟩ = some (.int .i64 a1_1) := (blk_cell BK209.out 1).trans rfl; have hfz101_0 := blk_frozen BK209.out 0; have hfz101_1 := blk_frozen BK209.out 1; have hnb102 := NB200_197.out; have hnc102 := NB197_200.out; have hnb103 := NB200_199.out; have hnc103 := NB199_200.out; have hnb104 := NB200_201.out; have hnc104 := NB201_200.out; have hnb105 := NB200_202.out; have hnc105 := NB202_200.out; have hcz106_0 : w94.cell? ⟨gb200, 0, none⟩ = some (.int .i64 a3) := (blk_cell BK200.out 0).trans rfl; have hfz106_0 := blk_frozen BK200.out 0; have hnb107 := NB201_197.out; have hnc107 := NB197_201.out; have hnb108 := NB201_199.out; have hnc108 := NB199_201.out; have hnb109 := NB201_202.out; have hnc109 := NB202_201.out; have hcz110_0 : w94.cell? ⟨gb201, 0, none⟩ = some (.bool a4) := (blk_cell BK201.out 0).trans rfl; have hfz110_0 := blk_frozen BK201.out 0; have hnb111 := NB202_197.out; have hnc111 := NB197_202.out; have hnb112 := NB202_199.out; have hnc112 := NB199_202.out; have hcz113_0 : w94.cell? ⟨gb202, 0, none⟩ = some (.int .i64 a5_0) := (blk_cell BK202.out 0).trans rfl; have hcz113_1 : w94.cell? ⟨gb202, 1, none⟩ = some (.int .i64 a5_1) := (blk_cell BK202.out 1).trans rfl; have hfz113_0 := blk_frozen BK202.out 0; have hfz113_1 := blk_frozen BK202.out 1) | ((with_reducible refine gate_callee (f := 13) rfl ?_); refine goesL_ (some 17) rfl rfl Try.func13 (by kernel_rfl) rfl #[.agg #[.int .i64 a1_0, .int .i64 a1_1], .int .i64 a3, .bool a4, .agg #[.int .i64 a5_0, .int .i64 a5_1]] rfl pmBx10_8_ ?_; (with_reducible refine (self_Limit.calls kj8 a1_0 a1_1 a3 a4 a5_0 a5_1 t210 true t212 _ A84.out).mono ?_); rintro e w114 ⟨rfl, hb⟩; refine ⟨_, rfl, ?_⟩; have n0_ := Aside0.mk (blk_below (g := gb197) (o := .cells #[.int .i64 x198000_8] 3 (0, 0)) pmBx10_0_ hb); have n1_ := Aside0.mk (blk_below (g := gb198) (o := .cells #[.int .i64 a1_0, .int .i64 a1_1] 31 (0, 0)) pmBx10_1_ hb); have n2_ := Aside0.mk (blk_below (g := gb199) (o := .cells #[.int .i64 a2_0, .int .i64 a2_1] 31 (0, 0)) pmBx10_3_ hb); have n3_ := Aside0.mk (blk_below (g := gb200) (o := .cells #[.int .i64 a3] 3 (0, 0)) pmBx10_4_ hb); have n4_ := Aside0.mk (blk_below (g := gb201) (o := .cells #[.bool a4] 4 (0, 0)) pmBx10_5_ hb); have n5_ := Aside0.mk (blk_below (g := gb202) (o := .cells #[.int .i64 a5_0, .int .i64 a5_1] 46 (0, 0)) pmBx10_6_ hb); have n6_ := Aside0.mk (blk_below (g := gb209) (o := .cells #[.int .i64 a1_0, .int .i64 a1_1] 31 (0, 0)) pmBx10_37_ hb); have n7_ := Aside0.mk (below_step pmBx10_10_ hb); clear BK197; clear BK198; clear BK199; clear BK200; clear BK201; clear BK202; clear BK209; clear HB; have BK197 := n0_; have BK198 := n1_; have BK199 := n2_; have BK200 := n3_; have BK201 := n4_; have BK202 := n5_; have BK209 := n6_; have HB := n7_; clear n0_ n1_ n2_ n3_ n4_ n5_ n6_ n7_; (try clear hb); (try clear hb2); (try clear hk); (try clear hi); have hnb115 := NB197_199.out; have hnc115 := NB199_197.out; have hcz116_0 : w114.cell? ⟨gb197, 0, none⟩ = some (.int .i64 x198000_8) := (blk_cell BK197.out 0).trans rfl; have hfz116_0 := blk_frozen BK197.out 0) | (go_at_call 33; (with_reducible refine (self_Clamp_3.calls x198000_8 t210 t213 _ A86.out).mono ?_); rintro e w117 ⟨rfl, hb⟩; have n0_ := Aside0.mk (blk_below (g := gb197) (o := .cells #[.int .i64 x198000_8] 3 (0, 0)) pmBx10_0_ hb); have n1_ := Aside0.mk (blk_below (g := gb198) (o := .cells #[.int .i64 a1_0, .int .i64 a1_1] 31 (0, 0)) pmBx10_1_ hb); have n2_ := Aside0.mk (blk_below (g := gb199) (o := .cells #[.int .i64 a2_0, .int .i64 a2_1] 31 (0, 0)) pmBx10_3_ hb); have n3_ := Aside0.mk (blk_below (g := gb200) (o := .cells #[.int .i64 a3] 3 (0, 0)) pmBx10_4_ hb); have n4_ := Aside0.mk (blk_below (g := gb201) (o := .cells #[.bool a4] 4 (0, 0)) pmBx10_5_ hb); have n5_ := Aside0.mk (blk_below (g := gb202) (o := .cells #[.int .i64 a5_0, .int .i64 a5_1] 46 (0, 0)) pmBx10_6_ hb); have n6_ := Aside0.mk (blk_below (g := gb209) (o := .cells #[.int .i64 a1_0, .int .i64 a1_1] 31 (0, 0)) pmBx10_37_ hb); have n7_ := Aside0.mk (below_step pmBx10_10_ hb); clear BK197; clear BK198; clear BK199; clear BK200; clear BK201; clear BK202; clear BK209; clear HB; have BK197 := n0_; have BK198 := n1_; have BK199 := n2_; have BK200 := n3_; have BK201 := n4_; have BK202 := n5_; have BK209 := n6_; have HB := n7_; clear n0_ n1_ n2_ n3_ n4_ n5_ n6_ n7_; (try clear hb); (try clear hb2); (try clear hk); (try clear hi); have hcz118_0 : w117.cell? ⟨gb197, 0, none⟩ = some (.int .i64 x198000_8) := (blk_cell BK197.out 0).trans rfl; have hfz118_0 := blk_frozen BK197.out 0) | go_in)
              go_ret2
              exact ⟨by first | rfl | (simp [errW_none, errW_some] <;> rfl) | (simp [*, errW_none, errW_some] <;> rfl), by repeat (first | (with_reducible first | exact HB.out | apply below_alloc | apply pw_below_drewN | apply below_drew1 | refine below_set ?_ GE197.out | refine below_set ?_ GE198.out | refine below_set ?_ GE199.out | refine below_set ?_ GE200.out | refine below_set ?_ GE201.out | refine below_set ?_ GE202.out | refine below_set ?_ GE209.out) | exact HB.out)⟩
            · rw [if_neg c87] at H
              have c87b0 : (t212 == 0) = false := beq_eq_false_iff_ne.mpr c87
              have c87b1 : (t212 != 0) = true := bne_iff_ne.mpr c87
              simp only [Option.some.injEq, Prod.mk.injEq] at H
              obtain ⟨rfl, rfl⟩ := H
              have hnb119 := NB198_197.out
              have hnc119 := NB197_198.out
              have hnb120 := NB198_199.out
              have hnc120 := NB199_198.out
              have hnb121 := NB198_200.out
              have hnc121 := NB200_198.out
              have hnb122 := NB198_201.out
              have hnc122 := NB201_198.out
              have hnb123 := NB198_202.out
              have hnc123 := NB202_198.out
              have hcz124_0 : wc.cell? ⟨gb198, 0, none⟩ = some (.int .i64 a1_0) := (blk_cell BK198.out 0).trans rfl
              have hcz124_1 : wc.cell? ⟨gb198, 1, none⟩ = some (.int .i64 a1_1) := (blk_cell BK198.out 1).trans rfl
              have hfz124_0 := blk_frozen BK198.out 0
              have hfz124_1 := blk_frozen BK198.out 1
              go_wp2_with (first | ((with_reducible refine gate_dst (N := 6) rfl ?_); refine box_event ?hg (N := 6) ?hd (cs := #[.int .i64 a1_0, .int .i64 a1_1]) (t := 31) ?hr ?_; (case hd => rfl); (case hg => rfl); (case hr => first | (go_simp; done) | (go_simp; rfl)); intro gb209 hg w125 hbox hb; have n0_ := Aside0.mk (blk_below (g := gb197) (o := .cells #[.int .i64 x198000_8] 3 (0, 0)) pmBx10_0_ hb); have n1_ := Aside0.mk (blk_below (g := gb198) (o := .cells #[.int .i64 a1_0, .int .i64 a1_1] 31 (0, 0)) pmBx10_1_ hb); have n2_ := Aside0.mk (blk_below (g := gb199) (o := .cells #[.int .i64 a2_0, .int .i64 a2_1] 31 (0, 0)) pmBx10_3_ hb); have n3_ := Aside0.mk (blk_below (g := gb200) (o := .cells #[.int .i64 a3] 3 (0, 0)) pmBx10_4_ hb); have n4_ := Aside0.mk (blk_below (g := gb201) (o := .cells #[.bool a4] 4 (0, 0)) pmBx10_5_ hb); have n5_ := Aside0.mk (blk_below (g := gb202) (o := .cells #[.int .i64 a5_0, .int .i64 a5_1] 46 (0, 0)) pmBx10_6_ hb); have n6_ := Aside0.mk (below_step pmBx10_2_ hb); have n7_ := Aside0.mk (hbox); have n8_ := Aside0.mk ((pmBx10_41_ : w.heap.size ≤ gb209)); have n9_ := Aside0.mk ((pmBx10_41_ : w.heap.size ≤ gb209)); have n10_ := Aside0.mk ((pmBx10_43_ : gb197 ≠ gb209)); have n11_ := Aside0.mk ((pmBx10_44_ : gb209 ≠ gb197)); have n12_ := Aside0.mk ((pmBx10_13_ : gb198 ≠ gb209)); have n13_ := Aside0.mk ((pmBx10_14_ : gb209 ≠ gb198)); have n14_ := Aside0.mk ((pmBx10_20_ : gb199 ≠ gb209)); have n15_ := Aside0.mk ((pmBx10_21_ : gb209 ≠ gb199)); have n16_ := Aside0.mk ((pmBx10_28_ : gb200 ≠ gb209)); have n17_ := Aside0.mk ((pmBx10_29_ : gb209 ≠ gb200)); have n18_ := Aside0.mk ((pmBx10_33_ : gb201 ≠ gb209)); have n19_ := Aside0.mk ((pmBx10_34_ : gb209 ≠ gb201)); have n20_ := Aside0.mk ((pmBx10_35_ : gb202 ≠ gb209)); have n21_ := Aside0.mk ((pmBx10_36_ : gb209 ≠ gb202)); clear BK197; clear BK198; clear BK199; clear BK200; clear BK201; clear BK202; clear HB; have BK197 := n0_; have BK198 := n1_; have BK199 := n2_; have BK200 := n3_; have BK201 := n4_; have BK202 := n5_; have HB := n6_; have BK209 := n7_; have GW209 := n8_; have GE209 := n9_; have NB197_209 := n10_; have NB209_197 := n11_; have NB198_209 := n12_; have NB209_198 := n13_; have NB199_209 := n14_; have NB209_199 := n15_; have NB200_209 := n16_; have NB209_200 := n17_; have NB201_209 := n18_; have NB209_201 := n19_; have NB202_209 := n20_; have NB209_202 := n21_; clear n0_ n1_ n2_ n3_ n4_ n5_ n6_ n7_ n8_ n9_ n10_ n11_ n12_ n13_ n14_ n15_ n16_ n17_ n18_ n19_ n20_ n21_; clear hb hbox hg; have hnb126 := NB209_197.out; have hnc126 := NB197_209.out; have hnb127 := NB209_198.out; have hnc127 := NB198_209.out; have hnb128 := NB209_199.out; have hnc128 := NB199_209.out; have hnb129 := NB209_200.out; have hnc129 := NB200_209.out; have hnb130 := NB209_201.out; have hnc130 := NB201_209.out; have hnb131 := NB209_202.out; have hnc131 := NB202_209.out; have hcz132_0 : w125.cell? ⟨gb209, 0, none⟩ = some (.int .i64 a1_0) := (blk_cell BK209.out 0).trans rfl; have hcz132_1 : w125.cell? ⟨gb209, 1, none⟩ = some (.int .i64 a1_1) := (blk_cell BK209.out 1).trans rfl; have hfz132_0 := blk_frozen BK209.out 0; have hfz132_1 := blk_frozen BK209.out 1; have hnb133 := NB200_197.out; have hnc133 := NB197_200.out; have hnb134 := NB200_199.out; have hnc134 := NB199_200.out; have hnb135 := NB200_201.out; have hnc135 := NB201_200.out; have hnb136 := NB200_202.out; have hnc136 := NB202_200.out; have hcz137_0 : w125.cell? ⟨gb200, 0, none⟩ = some (.int .i64 a3) := (blk_cell BK200.out 0).trans rfl; have hfz137_0 := blk_frozen BK200.out 0; have hnb138 := NB201_197.out; have hnc138 := NB197_201.out; have hnb139 := NB201_199.out; have hnc139 := NB199_201.out; have hnb140 := NB201_202.out; have hnc140 := NB202_201.out; have hcz141_0 : w125.cell? ⟨gb201, 0, none⟩ = some (.bool a4) := (blk_cell BK201.out 0).trans rfl; have hfz141_0 := blk_frozen BK201.out 0; have hnb142 := NB202_197.out; have hnc142 := NB197_202.out; have hnb143 := NB202_199.out; have hnc143 := NB199_202.out; have hcz144_0 : w125.cell? ⟨gb202, 0, none⟩ = some (.int .i64 a5_0) := (blk_cell BK202.out 0).trans rfl; have hcz144_1 : w125.cell? ⟨gb202, 1, none⟩ = some (.int .i64 a5_1) := (blk_cell BK202.out 1).trans rfl; have hfz144_0 := blk_frozen BK202.out 0; have hfz144_1 := blk_frozen BK202.out 1) | ((with_reducible refine gate_callee (f := 13) rfl ?_); refine goesL_ (some 17) rfl rfl Try.func13 (by kernel_rfl) rfl #[.agg #[.int .i64 a1_0, .int .i64 a1_1], .int .i64 a3, .bool a4, .agg #[.int .i64 a5_0, .int .i64 a5_1]] rfl pmBx10_8_ ?_; (with_reducible refine (self_Limit.calls kj8 a1_0 a1_1 a3 a4 a5_0 a5_1 t210 true t212 _ A84.out).mono ?_); rintro e w145 ⟨rfl, hb⟩; refine ⟨_, rfl, ?_⟩; have n0_ := Aside0.mk (blk_below (g := gb197) (o := .cells #[.int .i64 x198000_8] 3 (0, 0)) pmBx10_0_ hb); have n1_ := Aside0.mk (blk_below (g := gb198) (o := .cells #[.int .i64 a1_0, .int .i64 a1_1] 31 (0, 0)) pmBx10_1_ hb); have n2_ := Aside0.mk (blk_below (g := gb199) (o := .cells #[.int .i64 a2_0, .int .i64 a2_1] 31 (0, 0)) pmBx10_3_ hb); have n3_ := Aside0.mk (blk_below (g := gb200) (o := .cells #[.int .i64 a3] 3 (0, 0)) pmBx10_4_ hb); have n4_ := Aside0.mk (blk_below (g := gb201) (o := .cells #[.bool a4] 4 (0, 0)) pmBx10_5_ hb); have n5_ := Aside0.mk (blk_below (g := gb202) (o := .cells #[.int .i64 a5_0, .int .i64 a5_1] 46 (0, 0)) pmBx10_6_ hb); have n6_ := Aside0.mk (blk_below (g := gb209) (o := .cells #[.int .i64 a1_0, .int .i64 a1_1] 31 (0, 0)) pmBx10_37_ hb); have n7_ := Aside0.mk (below_step pmBx10_10_ hb); clear BK197; clear BK198; clear BK199; clear BK200; clear BK201; clear BK202; clear BK209; clear HB; have BK197 := n0_; have BK198 := n1_; have BK199 := n2_; have BK200 := n3_; have BK201 := n4_; have BK202 := n5_; have BK209 := n6_; have HB := n7_; clear n0_ n1_ n2_ n3_ n4_ n5_ n6_ n7_; (try clear hb); (try clear hb2); (try clear hk); (try clear hi); have hnb146 := NB197_199.out; have hnc146 := NB199_197.out; have hcz147_0 : w145.cell? ⟨gb197, 0, none⟩ = some (.int .i64 x198000_8) := (blk_cell BK197.out 0).trans rfl; have hfz147_0 := blk_frozen BK197.out 0) | (go_at_call 33; (with_reducible refine (self_Clamp_3.calls x198000_8 t210 t213 _ A86.out).mono ?_); rintro e w148 ⟨rfl, hb⟩; have n0_ := Aside0.mk (blk_below (g := gb197) (o := .cells #[.int .i64 x198000_8] 3 (0, 0)) pmBx10_0_ hb); have n1_ := Aside0.mk (blk_below (g := gb198) (o := .cells #[.int .i64 a1_0, .int .i64 a1_1] 31 (0, 0)) pmBx10_1_ hb); have n2_ := Aside0.mk (blk_below (g := gb199) (o := .cells #[.int .i64 a2_0, .int .i64 a2_1] 31 (0, 0)) pmBx10_3_ hb); have n3_ := Aside0.mk (blk_below (g := gb200) (o := .cells #[.int .i64 a3] 3 (0, 0)) pmBx10_4_ hb); have n4_ := Aside0.mk (blk_below (g := gb201) (o := .cells #[.bool a4] 4 (0, 0)) pmBx10_5_ hb); have n5_ := Aside0.mk (blk_below (g := gb202) (o := .cells #[.int .i64 a5_0, .int .i64 a5_1] 46 (0, 0)) pmBx10_6_ hb); have n6_ := Aside0.mk (blk_below (g := gb209) (o := .cells #[.int .i64 a1_0, .int .i64 a1_1] 31 (0, 0)) pmBx10_37_ hb); have n7_ := Aside0.mk (below_step pmBx10_10_ hb); clear BK197; clear BK198; clear BK199; clear BK200; clear BK201; clear BK202; clear BK209; clear HB; have BK197 := n0_; have BK198 := n1_; have BK199 := n2_; have BK200 := n3_; have BK201 := n4_; have BK202 := n5_; have BK209 := n6_; have HB := n7_; clear n0_ n1_ n2_ n3_ n4_ n5_ n6_ n7_; (try clear hb); (try clear hb2); (try clear hk); (try clear hi); have hcz149_0 : w148.cell? ⟨gb197, 0, none⟩ = some (.int .i64 x198000_8) := (blk_cell BK197.out 0).trans rfl; have hfz149_0 := blk_frozen BK197.out 0) | go_in)
              go_ret2
              exact ⟨by first | rfl | (simp [errW_none, errW_some] <;> rfl) | (simp [*, errW_none, errW_some] <;> rfl), by repeat (first | (with_reducible first | exact HB.out | apply below_alloc | apply pw_below_drewN | apply below_drew1 | refine below_set ?_ GE197.out | refine below_set ?_ GE198.out | refine below_set ?_ GE199.out | refine below_set ?_ GE200.out | refine below_set ?_ GE201.out | refine below_set ?_ GE202.out | refine below_set ?_ GE209.out) | exact HB.out)⟩
          · replace c85 := Bool.eq_false_iff.mpr c85
            subst c85
            have H1 : (if t212 = 0 then (some (x198000_8, 0)) else (some (0, t212))) = some (r1, r2) := by rw [if_neg (show ¬ (false = true) by decide)] at H; exact H
            clear H
            have H := H1
            clear H1
            by_cases c150 : t212 = 0
            · rw [if_pos c150] at H
              have c150b0 : (t212 == 0) = true := beq_iff_eq.mpr c150
              have c150b1 : (t212 != 0) = false := bne_eq_false_iff_eq.mpr c150
              clear c150
              simp only [Option.some.injEq, Prod.mk.injEq] at H
              obtain ⟨rfl, rfl⟩ := H
              have hnb151 := NB198_197.out
              have hnc151 := NB197_198.out
              have hnb152 := NB198_199.out
              have hnc152 := NB199_198.out
              have hnb153 := NB198_200.out
              have hnc153 := NB200_198.out
              have hnb154 := NB198_201.out
              have hnc154 := NB201_198.out
              have hnb155 := NB198_202.out
              have hnc155 := NB202_198.out
              have hcz156_0 : wc.cell? ⟨gb198, 0, none⟩ = some (.int .i64 a1_0) := (blk_cell BK198.out 0).trans rfl
              have hcz156_1 : wc.cell? ⟨gb198, 1, none⟩ = some (.int .i64 a1_1) := (blk_cell BK198.out 1).trans rfl
              have hfz156_0 := blk_frozen BK198.out 0
              have hfz156_1 := blk_frozen BK198.out 1
              go_wp2_with (first | ((with_reducible refine gate_dst (N := 6) rfl ?_); refine box_event ?hg (N := 6) ?hd (cs := #[.int .i64 a1_0, .int .i64 a1_1]) (t := 31) ?hr ?_; (case hd => rfl); (case hg => rfl); (case hr => first | (go_simp; done) | (go_simp; rfl)); intro gb209 hg w157 hbox hb; have n0_ := Aside0.mk (blk_below (g := gb197) (o := .cells #[.int .i64 x198000_8] 3 (0, 0)) pmBx10_0_ hb); have n1_ := Aside0.mk (blk_below (g := gb198) (o := .cells #[.int .i64 a1_0, .int .i64 a1_1] 31 (0, 0)) pmBx10_1_ hb); have n2_ := Aside0.mk (blk_below (g := gb199) (o := .cells #[.int .i64 a2_0, .int .i64 a2_1] 31 (0, 0)) pmBx10_3_ hb); have n3_ := Aside0.mk (blk_below (g := gb200) (o := .cells #[.int .i64 a3] 3 (0, 0)) pmBx10_4_ hb); have n4_ := Aside0.mk (blk_below (g := gb201) (o := .cells #[.bool a4] 4 (0, 0)) pmBx10_5_ hb); have n5_ := Aside0.mk (blk_below (g := gb202) (o := .cells #[.int .i64 a5_0, .int .i64 a5_1] 46 (0, 0)) pmBx10_6_ hb); have n6_ := Aside0.mk (below_step pmBx10_2_ hb); have n7_ := Aside0.mk (hbox); have n8_ := Aside0.mk ((pmBx10_41_ : w.heap.size ≤ gb209)); have n9_ := Aside0.mk ((pmBx10_41_ : w.heap.size ≤ gb209)); have n10_ := Aside0.mk ((pmBx10_43_ : gb197 ≠ gb209)); have n11_ := Aside0.mk ((pmBx10_44_ : gb209 ≠ gb197)); have n12_ := Aside0.mk ((pmBx10_13_ : gb198 ≠ gb209)); have n13_ := Aside0.mk ((pmBx10_14_ : gb209 ≠ gb198)); have n14_ := Aside0.mk ((pmBx10_20_ : gb199 ≠ gb209)); have n15_ := Aside0.mk ((pmBx10_21_ : gb209 ≠ gb199)); have n16_ := Aside0.mk ((pmBx10_28_ : gb200 ≠ gb209)); have n17_ := Aside0.mk ((pmBx10_29_ : gb209 ≠ gb200)); have n18_ := Aside0.mk ((pmBx10_33_ : gb201 ≠ gb209)); have n19_ := Aside0.mk ((pmBx10_34_ : gb209 ≠ gb201)); have n20_ := Aside0.mk ((pmBx10_35_ : gb202 ≠ gb209)); have n21_ := Aside0.mk ((pmBx10_36_ : gb209 ≠ gb202)); clear BK197; clear BK198; clear BK199; clear BK200; clear BK201; clear BK202; clear HB; have BK197 := n0_; have BK198 := n1_; have BK199 := n2_; have BK200 := n3_; have BK201 := n4_; have BK202 := n5_; have HB := n6_; have BK209 := n7_; have GW209 := n8_; have GE209 := n9_; have NB197_209 := n10_; have NB209_197 := n11_; have NB198_209 := n12_; have NB209_198 := n13_; have NB199_209 := n14_; have NB209_199 := n15_; have NB200_209 := n16_; have NB209_200 := n17_; have NB201_209 := n18_; have NB209_201 := n19_; have NB202_209 := n20_; have NB209_202 := n21_; clear n0_ n1_ n2_ n3_ n4_ n5_ n6_ n7_ n8_ n9_ n10_ n11_ n12_ n13_ n14_ n15_ n16_ n17_ n18_ n19_ n20_ n21_; clear hb hbox hg; have hnb158 := NB209_197.out; have hnc158 := NB197_209.out; have hnb159 := NB209_198.out; have hnc159 := NB198_209.out; have hnb160 := NB209_199.out; have hnc160 := NB199_209.out; have hnb161 := NB209_200.out; have hnc161 := NB200_209.out; have hnb162 := NB209_201.out; have hnc162 := NB201_209.out; have hnb163 := NB209_202.out; have hnc163 := NB202_209.out; have hcz164_0 : w157.cell? ⟨gb209, 0, none⟩ = some (.int .i64 a1_0) := (blk_cell BK209.out 0).trans rfl; have hcz164_1 : w157.cell? ⟨gb209, 1, none⟩ = some (.int .i64 a1_1) := (blk_cell BK209.out 1).trans rfl; have hfz164_0 := blk_frozen BK209.out 0; have hfz164_1 := blk_frozen BK209.out 1; have hnb165 := NB200_197.out; have hnc165 := NB197_200.out; have hnb166 := NB200_199.out; have hnc166 := NB199_200.out; have hnb167 := NB200_201.out; have hnc167 := NB201_200.out; have hnb168 := NB200_202.out; have hnc168 := NB202_200.out; have hcz169_0 : w157.cell? ⟨gb200, 0, none⟩ = some (.int .i64 a3) := (blk_cell BK200.out 0).trans rfl; have hfz169_0 := blk_frozen BK200.out 0; have hnb170 := NB201_197.out; have hnc170 := NB197_201.out; have hnb171 := NB201_199.out; have hnc171 := NB199_201.out; have hnb172 := NB201_202.out; have hnc172 := NB202_201.out; have hcz173_0 : w157.cell? ⟨gb201, 0, none⟩ = some (.bool a4) := (blk_cell BK201.out 0).trans rfl; have hfz173_0 := blk_frozen BK201.out 0; have hnb174 := NB202_197.out; have hnc174 := NB197_202.out; have hnb175 := NB202_199.out; have hnc175 := NB199_202.out; have hcz176_0 : w157.cell? ⟨gb202, 0, none⟩ = some (.int .i64 a5_0) := (blk_cell BK202.out 0).trans rfl; have hcz176_1 : w157.cell? ⟨gb202, 1, none⟩ = some (.int .i64 a5_1) := (blk_cell BK202.out 1).trans rfl; have hfz176_0 := blk_frozen BK202.out 0; have hfz176_1 := blk_frozen BK202.out 1) | ((with_reducible refine gate_callee (f := 13) rfl ?_); refine goesL_ (some 17) rfl rfl Try.func13 (by kernel_rfl) rfl #[.agg #[.int .i64 a1_0, .int .i64 a1_1], .int .i64 a3, .bool a4, .agg #[.int .i64 a5_0, .int .i64 a5_1]] rfl pmBx10_8_ ?_; (with_reducible refine (self_Limit.calls kj8 a1_0 a1_1 a3 a4 a5_0 a5_1 t210 false t212 _ A84.out).mono ?_); rintro e w177 ⟨rfl, hb⟩; refine ⟨_, rfl, ?_⟩; have n0_ := Aside0.mk (blk_below (g := gb197) (o := .cells #[.int .i64 x198000_8] 3 (0, 0)) pmBx10_0_ hb); have n1_ := Aside0.mk (blk_below (g := gb198) (o := .cells #[.int .i64 a1_0, .int .i64 a1_1] 31 (0, 0)) pmBx10_1_ hb); have n2_ := Aside0.mk (blk_below (g := gb199) (o := .cells #[.int .i64 a2_0, .int .i64 a2_1] 31 (0, 0)) pmBx10_3_ hb); have n3_ := Aside0.mk (blk_below (g := gb200) (o := .cells #[.int .i64 a3] 3 (0, 0)) pmBx10_4_ hb); have n4_ := Aside0.mk (blk_below (g := gb201) (o := .cells #[.bool a4] 4 (0, 0)) pmBx10_5_ hb); have n5_ := Aside0.mk (blk_below (g := gb202) (o := .cells #[.int .i64 a5_0, .int .i64 a5_1] 46 (0, 0)) pmBx10_6_ hb); have n6_ := Aside0.mk (blk_below (g := gb209) (o := .cells #[.int .i64 a1_0, .int .i64 a1_1] 31 (0, 0)) pmBx10_37_ hb); have n7_ := Aside0.mk (below_step pmBx10_10_ hb); clear BK197; clear BK198; clear BK199; clear BK200; clear BK201; clear BK202; clear BK209; clear HB; have BK197 := n0_; have BK198 := n1_; have BK199 := n2_; have BK200 := n3_; have BK201 := n4_; have BK202 := n5_; have BK209 := n6_; have HB := n7_; clear n0_ n1_ n2_ n3_ n4_ n5_ n6_ n7_; (try clear hb); (try clear hb2); (try clear hk); (try clear hi); have hnb178 := NB197_199.out; have hnc178 := NB199_197.out; have hcz179_0 : w177.cell? ⟨gb197, 0, none⟩ = some (.int .i64 x198000_8) := (blk_cell BK197.out 0).trans rfl; have hfz179_0 := blk_frozen BK197.out 0) | go_in)
              go_ret2
              exact ⟨by first | rfl | (simp [errW_none, errW_some] <;> rfl) | (simp [*, errW_none, errW_some] <;> rfl), by repeat (first | (with_reducible first | exact HB.out | apply below_alloc | apply pw_below_drewN | apply below_drew1 | refine below_set ?_ GE197.out | refine below_set ?_ GE198.out | refine below_set ?_ GE199.out | refine below_set ?_ GE200.out | refine below_set ?_ GE201.out | refine below_set ?_ GE202.out | refine below_set ?_ GE209.out) | exact HB.out)⟩
            · rw [if_neg c150] at H
              have c150b0 : (t212 == 0) = false := beq_eq_false_iff_ne.mpr c150
              have c150b1 : (t212 != 0) = true := bne_iff_ne.mpr c150
              simp only [Option.some.injEq, Prod.mk.injEq] at H
              obtain ⟨rfl, rfl⟩ := H
              have hnb180 := NB198_197.out
              have hnc180 := NB197_198.out
              have hnb181 := NB198_199.out
              have hnc181 := NB199_198.out
              have hnb182 := NB198_200.out
              have hnc182 := NB200_198.out
              have hnb183 := NB198_201.out
              have hnc183 := NB201_198.out
              have hnb184 := NB198_202.out
              have hnc184 := NB202_198.out
              have hcz185_0 : wc.cell? ⟨gb198, 0, none⟩ = some (.int .i64 a1_0) := (blk_cell BK198.out 0).trans rfl
              have hcz185_1 : wc.cell? ⟨gb198, 1, none⟩ = some (.int .i64 a1_1) := (blk_cell BK198.out 1).trans rfl
              have hfz185_0 := blk_frozen BK198.out 0
              have hfz185_1 := blk_frozen BK198.out 1
              go_wp2_with (first | ((with_reducible refine gate_dst (N := 6) rfl ?_); refine box_event ?hg (N := 6) ?hd (cs := #[.int .i64 a1_0, .int .i64 a1_1]) (t := 31) ?hr ?_; (case hd => rfl); (case hg => rfl); (case hr => first | (go_simp; done) | (go_simp; rfl)); intro gb209 hg w186 hbox hb; have n0_ := Aside0.mk (blk_below (g := gb197) (o := .cells #[.int .i64 x198000_8] 3 (0, 0)) pmBx10_0_ hb); have n1_ := Aside0.mk (blk_below (g := gb198) (o := .cells #[.int .i64 a1_0, .int .i64 a1_1] 31 (0, 0)) pmBx10_1_ hb); have n2_ := Aside0.mk (blk_below (g := gb199) (o := .cells #[.int .i64 a2_0, .int .i64 a2_1] 31 (0, 0)) pmBx10_3_ hb); have n3_ := Aside0.mk (blk_below (g := gb200) (o := .cells #[.int .i64 a3] 3 (0, 0)) pmBx10_4_ hb); have n4_ := Aside0.mk (blk_below (g := gb201) (o := .cells #[.bool a4] 4 (0, 0)) pmBx10_5_ hb); have n5_ := Aside0.mk (blk_below (g := gb202) (o := .cells #[.int .i64 a5_0, .int .i64 a5_1] 46 (0, 0)) pmBx10_6_ hb); have n6_ := Aside0.mk (below_step pmBx10_2_ hb); have n7_ := Aside0.mk (hbox); have n8_ := Aside0.mk ((pmBx10_41_ : w.heap.size ≤ gb209)); have n9_ := Aside0.mk ((pmBx10_41_ : w.heap.size ≤ gb209)); have n10_ := Aside0.mk ((pmBx10_43_ : gb197 ≠ gb209)); have n11_ := Aside0.mk ((pmBx10_44_ : gb209 ≠ gb197)); have n12_ := Aside0.mk ((pmBx10_13_ : gb198 ≠ gb209)); have n13_ := Aside0.mk ((pmBx10_14_ : gb209 ≠ gb198)); have n14_ := Aside0.mk ((pmBx10_20_ : gb199 ≠ gb209)); have n15_ := Aside0.mk ((pmBx10_21_ : gb209 ≠ gb199)); have n16_ := Aside0.mk ((pmBx10_28_ : gb200 ≠ gb209)); have n17_ := Aside0.mk ((pmBx10_29_ : gb209 ≠ gb200)); have n18_ := Aside0.mk ((pmBx10_33_ : gb201 ≠ gb209)); have n19_ := Aside0.mk ((pmBx10_34_ : gb209 ≠ gb201)); have n20_ := Aside0.mk ((pmBx10_35_ : gb202 ≠ gb209)); have n21_ := Aside0.mk ((pmBx10_36_ : gb209 ≠ gb202)); clear BK197; clear BK198; clear BK199; clear BK200; clear BK201; clear BK202; clear HB; have BK197 := n0_; have BK198 := n1_; have BK199 := n2_; have BK200 := n3_; have BK201 := n4_; have BK202 := n5_; have HB := n6_; have BK209 := n7_; have GW209 := n8_; have GE209 := n9_; have NB197_209 := n10_; have NB209_197 := n11_; have NB198_209 := n12_; have NB209_198 := n13_; have NB199_209 := n14_; have NB209_199 := n15_; have NB200_209 := n16_; have NB209_200 := n17_; have NB201_209 := n18_; have NB209_201 := n19_; have NB202_209 := n20_; have NB209_202 := n21_; clear n0_ n1_ n2_ n3_ n4_ n5_ n6_ n7_ n8_ n9_ n10_ n11_ n12_ n13_ n14_ n15_ n16_ n17_ n18_ n19_ n20_ n21_; clear hb hbox hg; have hnb187 := NB209_197.out; have hnc187 := NB197_209.out; have hnb188 := NB209_198.out; have hnc188 := NB198_209.out; have hnb189 := NB209_199.out; have hnc189 := NB199_209.out; have hnb190 := NB209_200.out; have hnc190 := NB200_209.out; have hnb191 := NB209_201.out; have hnc191 := NB201_209.out; have hnb192 := NB209_202.out; have hnc192 := NB202_209.out; have hcz193_0 : w186.cell? ⟨gb209, 0, none⟩ = some (.int .i64 a1_0) := (blk_cell BK209.out 0).trans rfl; have hcz193_1 : w186.cell? ⟨gb209, 1, none⟩ = some (.int .i64 a1_1) := (blk_cell BK209.out 1).trans rfl; have hfz193_0 := blk_frozen BK209.out 0; have hfz193_1 := blk_frozen BK209.out 1; have hnb194 := NB200_197.out; have hnc194 := NB197_200.out; have hnb195 := NB200_199.out; have hnc195 := NB199_200.out; have hnb196 := NB200_201.out; have hnc196 := NB201_200.out; have hnb197 := NB200_202.out; have hnc197 := NB202_200.out; have hcz198_0 : w186.cell? ⟨gb200, 0, none⟩ = some (.int .i64 a3) := (blk_cell BK200.out 0).trans rfl; have hfz198_0 := blk_frozen BK200.out 0; have hnb199 := NB201_197.out; have hnc199 := NB197_201.out; have hnb200 := NB201_199.out; have hnc200 := NB199_201.out; have hnb201 := NB201_202.out; have hnc201 := NB202_201.out; have hcz202_0 : w186.cell? ⟨gb201, 0, none⟩ = some (.bool a4) := (blk_cell BK201.out 0).trans rfl; have hfz202_0 := blk_frozen BK201.out 0; have hnb203 := NB202_197.out; have hnc203 := NB197_202.out; have hnb204 := NB202_199.out; have hnc204 := NB199_202.out; have hcz205_0 : w186.cell? ⟨gb202, 0, none⟩ = some (.int .i64 a5_0) := (blk_cell BK202.out 0).trans rfl; have hcz205_1 : w186.cell? ⟨gb202, 1, none⟩ = some (.int .i64 a5_1) := (blk_cell BK202.out 1).trans rfl; have hfz205_0 := blk_frozen BK202.out 0; have hfz205_1 := blk_frozen BK202.out 1) | ((with_reducible refine gate_callee (f := 13) rfl ?_); refine goesL_ (some 17) rfl rfl Try.func13 (by kernel_rfl) rfl #[.agg #[.int .i64 a1_0, .int .i64 a1_1], .int .i64 a3, .bool a4, .agg #[.int .i64 a5_0, .int .i64 a5_1]] rfl pmBx10_8_ ?_; (with_reducible refine (self_Limit.calls kj8 a1_0 a1_1 a3 a4 a5_0 a5_1 t210 false t212 _ A84.out).mono ?_); rintro e w206 ⟨rfl, hb⟩; refine ⟨_, rfl, ?_⟩; have n0_ := Aside0.mk (blk_below (g := gb197) (o := .cells #[.int .i64 x198000_8] 3 (0, 0)) pmBx10_0_ hb); have n1_ := Aside0.mk (blk_below (g := gb198) (o := .cells #[.int .i64 a1_0, .int .i64 a1_1] 31 (0, 0)) pmBx10_1_ hb); have n2_ := Aside0.mk (blk_below (g := gb199) (o := .cells #[.int .i64 a2_0, .int .i64 a2_1] 31 (0, 0)) pmBx10_3_ hb); have n3_ := Aside0.mk (blk_below (g := gb200) (o := .cells #[.int .i64 a3] 3 (0, 0)) pmBx10_4_ hb); have n4_ := Aside0.mk (blk_below (g := gb201) (o := .cells #[.bool a4] 4 (0, 0)) pmBx10_5_ hb); have n5_ := Aside0.mk (blk_below (g := gb202) (o := .cells #[.int .i64 a5_0, .int .i64 a5_1] 46 (0, 0)) pmBx10_6_ hb); have n6_ := Aside0.mk (blk_below (g := gb209) (o := .cells #[.int .i64 a1_0, .int .i64 a1_1] 31 (0, 0)) pmBx10_37_ hb); have n7_ := Aside0.mk (below_step pmBx10_10_ hb); clear BK197; clear BK198; clear BK199; clear BK200; clear BK201; clear BK202; clear BK209; clear HB; have BK197 := n0_; have BK198 := n1_; have BK199 := n2_; have BK200 := n3_; have BK201 := n4_; have BK202 := n5_; have BK209 := n6_; have HB := n7_; clear n0_ n1_ n2_ n3_ n4_ n5_ n6_ n7_; (try clear hb); (try clear hb2); (try clear hk); (try clear hi)) | go_in)
              go_ret2
              exact ⟨by first | rfl | (simp [errW_none, errW_some] <;> rfl) | (simp [*, errW_none, errW_some] <;> rfl), by repeat (first | (with_reducible first | exact HB.out | apply below_alloc | apply pw_below_drewN | apply below_drew1 | refine below_set ?_ GE197.out | refine below_set ?_ GE198.out | refine below_set ?_ GE199.out | refine below_set ?_ GE200.out | refine below_set ?_ GE201.out | refine below_set ?_ GE202.out | refine below_set ?_ GE209.out) | exact HB.out)⟩
        · rw [if_neg c83] at H
          have c83b0 : (x17_8 == 0) = false := beq_eq_false_iff_ne.mpr c83
          have c83b1 : (x17_8 != 0) = true := bne_iff_ne.mpr c83
          simp only [Option.some.injEq, Prod.mk.injEq] at H
          obtain ⟨rfl, rfl⟩ := H
          go_wp2
          go_ret2
          exact ⟨by first | rfl | (simp [errW_none, errW_some] <;> rfl) | (simp [*, errW_none, errW_some] <;> rfl), by repeat (first | (with_reducible first | exact HB.out | apply below_alloc | apply pw_below_drewN | apply below_drew1 | refine below_set ?_ GE197.out | refine below_set ?_ GE198.out | refine below_set ?_ GE199.out | refine below_set ?_ GE200.out | refine below_set ?_ GE201.out | refine below_set ?_ GE202.out) | exact HB.out)⟩
  · replace c8 := Bool.eq_false_iff.mpr c8
    subst c8
    have H1 : (some (0, 2)) = some (r1, r2) := by rw [if_neg (show ¬ (false = true) by decide)] at H; exact H
    clear H
    have H := H1
    clear H1
    simp only [Option.some.injEq, Prod.mk.injEq] at H
    obtain ⟨rfl, rfl⟩ := H
    go_enter Try.func15, Try.ntmps15
    go_wp2_with (first | ((with_reducible refine gate_dst (N := 6) rfl ?_); refine box_event ?hg (N := 6) ?hd (cs := #[.int .i64 a0]) (t := 3) ?hr ?_; (case hd => rfl); (case hg => rfl); (case hr => first | (go_simp; done) | (go_simp; rfl)); intro gb197 hg w207 hbox hb; have n0_ := Aside0.mk (below_step pmBx10_9_ hb); have n1_ := Aside0.mk (hbox); have n2_ := Aside0.mk ((pmBx10_40_ : w.heap.size ≤ gb197)); have n3_ := Aside0.mk ((pmBx10_40_ : w.heap.size ≤ gb197)); clear HB; have HB := n0_; have BK197 := n1_; have GW197 := n2_; have GE197 := n3_; clear n0_ n1_ n2_ n3_; clear hb hbox hg) | ((with_reducible refine gate_dst (N := 7) rfl ?_); refine box_event ?hg (N := 7) ?hd (cs := #[.int .i64 a1_0, .int .i64 a1_1]) (t := 31) ?hr ?_; (case hd => rfl); (case hg => rfl); (case hr => first | (go_simp; done) | (go_simp; rfl)); intro gb198 hg w208 hbox hb; have n0_ := Aside0.mk (blk_below (g := gb197) (o := .cells #[.int .i64 a0] 3 (0, 0)) pmBx10_0_ hb); have n1_ := Aside0.mk (below_step pmBx10_30_ hb); have n2_ := Aside0.mk (hbox); have n3_ := Aside0.mk ((by rw [hg]; exact (below_size pmBx10_30_) : w.heap.size ≤ gb198)); have n4_ := Aside0.mk ((by rw [hg]; exact (below_size pmBx10_30_) : w.heap.size ≤ gb198)); have n5_ := Aside0.mk ((pmBx10_24_ : gb197 ≠ gb198)); have n6_ := Aside0.mk ((pmBx10_25_ : gb198 ≠ gb197)); clear BK197; clear HB; have BK197 := n0_; have HB := n1_; have BK198 := n2_; have GW198 := n3_; have GE198 := n4_; have NB197_198 := n5_; have NB198_197 := n6_; clear n0_ n1_ n2_ n3_ n4_ n5_ n6_; clear hb hbox hg) | ((with_reducible refine gate_dst (N := 8) rfl ?_); refine box_event ?hg (N := 8) ?hd (cs := #[.int .i64 a2_0, .int .i64 a2_1]) (t := 31) ?hr ?_; (case hd => rfl); (case hg => rfl); (case hr => first | (go_simp; done) | (go_simp; rfl)); intro gb199 hg w209 hbox hb; have n0_ := Aside0.mk (blk_below (g := gb197) (o := .cells #[.int .i64 a0] 3 (0, 0)) pmBx10_0_ hb); have n1_ := Aside0.mk (blk_below (g := gb198) (o := .cells #[.int .i64 a1_0, .int .i64 a1_1] 31 (0, 0)) pmBx10_1_ hb); have n2_ := Aside0.mk (below_step pmBx10_27_ hb); have n3_ := Aside0.mk (hbox); have n4_ := Aside0.mk ((by rw [hg]; exact (below_size pmBx10_27_) : w.heap.size ≤ gb199)); have n5_ := Aside0.mk ((by rw [hg]; exact (below_size pmBx10_27_) : w.heap.size ≤ gb199)); have n6_ := Aside0.mk ((pmBx10_24_ : gb197 ≠ gb199)); have n7_ := Aside0.mk ((pmBx10_25_ : gb199 ≠ gb197)); have n8_ := Aside0.mk ((pmBx10_13_ : gb198 ≠ gb199)); have n9_ := Aside0.mk ((pmBx10_14_ : gb199 ≠ gb198)); clear BK197; clear BK198; clear HB; have BK197 := n0_; have BK198 := n1_; have HB := n2_; have BK199 := n3_; have GW199 := n4_; have GE199 := n5_; have NB197_199 := n6_; have NB199_197 := n7_; have NB198_199 := n8_; have NB199_198 := n9_; clear n0_ n1_ n2_ n3_ n4_ n5_ n6_ n7_ n8_ n9_; clear hb hbox hg) | ((with_reducible refine gate_dst (N := 9) rfl ?_); refine box_event ?hg (N := 9) ?hd (cs := #[.int .i64 a3]) (t := 3) ?hr ?_; (case hd => rfl); (case hg => rfl); (case hr => first | (go_simp; done) | (go_simp; rfl)); intro gb200 hg w210 hbox hb; have n0_ := Aside0.mk (blk_below (g := gb197) (o := .cells #[.int .i64 a0] 3 (0, 0)) pmBx10_0_ hb); have n1_ := Aside0.mk (blk_below (g := gb198) (o := .cells #[.int .i64 a1_0, .int .i64 a1_1] 31 (0, 0)) pmBx10_1_ hb); have n2_ := Aside0.mk (blk_below (g := gb199) (o := .cells #[.int .i64 a2_0, .int .i64 a2_1] 31 (0, 0)) pmBx10_3_ hb); have n3_ := Aside0.mk (below_step pmBx10_23_ hb); have n4_ := Aside0.mk (hbox); have n5_ := Aside0.mk ((by rw [hg]; exact (below_size pmBx10_23_) : w.heap.size ≤ gb200)); have n6_ := Aside0.mk ((by rw [hg]; exact (below_size pmBx10_23_) : w.heap.size ≤ gb200)); have n7_ := Aside0.mk ((pmBx10_24_ : gb197 ≠ gb200)); have n8_ := Aside0.mk ((pmBx10_25_ : gb200 ≠ gb197)); have n9_ := Aside0.mk ((pmBx10_13_ : gb198 ≠ gb200)); have n10_ := Aside0.mk ((pmBx10_14_ : gb200 ≠ gb198)); have n11_ := Aside0.mk ((pmBx10_20_ : gb199 ≠ gb200)); have n12_ := Aside0.mk ((pmBx10_21_ : gb200 ≠ gb199)); clear BK197; clear BK198; clear BK199; clear HB; have BK197 := n0_; have BK198 := n1_; have BK199 := n2_; have HB := n3_; have BK200 := n4_; have GW200 := n5_; have GE200 := n6_; have NB197_200 := n7_; have NB200_197 := n8_; have NB198_200 := n9_; have NB200_198 := n10_; have NB199_200 := n11_; have NB200_199 := n12_; clear n0_ n1_ n2_ n3_ n4_ n5_ n6_ n7_ n8_ n9_ n10_ n11_ n12_; clear hb hbox hg) | ((with_reducible refine gate_dst (N := 10) rfl ?_); refine box_event ?hg (N := 10) ?hd (cs := #[.bool a4]) (t := 4) ?hr ?_; (case hd => rfl); (case hg => rfl); (case hr => first | (go_simp; done) | (go_simp; rfl)); intro gb201 hg w211 hbox hb; have n0_ := Aside0.mk (blk_below (g := gb197) (o := .cells #[.int .i64 a0] 3 (0, 0)) pmBx10_0_ hb); have n1_ := Aside0.mk (blk_below (g := gb198) (o := .cells #[.int .i64 a1_0, .int .i64 a1_1] 31 (0, 0)) pmBx10_1_ hb); have n2_ := Aside0.mk (blk_below (g := gb199) (o := .cells #[.int .i64 a2_0, .int .i64 a2_1] 31 (0, 0)) pmBx10_3_ hb); have n3_ := Aside0.mk (blk_below (g := gb200) (o := .cells #[.int .i64 a3] 3 (0, 0)) pmBx10_4_ hb); have n4_ := Aside0.mk (below_step pmBx10_19_ hb); have n5_ := Aside0.mk (hbox); have n6_ := Aside0.mk ((by rw [hg]; exact (below_size pmBx10_19_) : w.heap.size ≤ gb201)); have n7_ := Aside0.mk ((by rw [hg]; exact (below_size pmBx10_19_) : w.heap.size ≤ gb201)); have n8_ := Aside0.mk ((pmBx10_24_ : gb197 ≠ gb201)); have n9_ := Aside0.mk ((pmBx10_25_ : gb201 ≠ gb197)); have n10_ := Aside0.mk ((pmBx10_13_ : gb198 ≠ gb201)); have n11_ := Aside0.mk ((pmBx10_14_ : gb201 ≠ gb198)); have n12_ := Aside0.mk ((pmBx10_20_ : gb199 ≠ gb201)); have n13_ := Aside0.mk ((pmBx10_21_ : gb201 ≠ gb199)); have n14_ := Aside0.mk ((pmBx10_28_ : gb200 ≠ gb201)); have n15_ := Aside0.mk ((pmBx10_29_ : gb201 ≠ gb200)); clear BK197; clear BK198; clear BK199; clear BK200; clear HB; have BK197 := n0_; have BK198 := n1_; have BK199 := n2_; have BK200 := n3_; have HB := n4_; have BK201 := n5_; have GW201 := n6_; have GE201 := n7_; have NB197_201 := n8_; have NB201_197 := n9_; have NB198_201 := n10_; have NB201_198 := n11_; have NB199_201 := n12_; have NB201_199 := n13_; have NB200_201 := n14_; have NB201_200 := n15_; clear n0_ n1_ n2_ n3_ n4_ n5_ n6_ n7_ n8_ n9_ n10_ n11_ n12_ n13_ n14_ n15_; clear hb hbox hg) | ((with_reducible refine gate_dst (N := 11) rfl ?_); refine box_event ?hg (N := 11) ?hd (cs := #[.int .i64 a5_0, .int .i64 a5_1]) (t := 46) ?hr ?_; (case hd => rfl); (case hg => rfl); (case hr => first | (go_simp; done) | (go_simp; rfl)); intro gb202 hg w212 hbox hb; have n0_ := Aside0.mk (blk_below (g := gb197) (o := .cells #[.int .i64 a0] 3 (0, 0)) pmBx10_0_ hb); have n1_ := Aside0.mk (blk_below (g := gb198) (o := .cells #[.int .i64 a1_0, .int .i64 a1_1] 31 (0, 0)) pmBx10_1_ hb); have n2_ := Aside0.mk (blk_below (g := gb199) (o := .cells #[.int .i64 a2_0, .int .i64 a2_1] 31 (0, 0)) pmBx10_3_ hb); have n3_ := Aside0.mk (blk_below (g := gb200) (o := .cells #[.int .i64 a3] 3 (0, 0)) pmBx10_4_ hb); have n4_ := Aside0.mk (blk_below (g := gb201) (o := .cells #[.bool a4] 4 (0, 0)) pmBx10_5_ hb); have n5_ := Aside0.mk (below_step pmBx10_15_ hb); have n6_ := Aside0.mk (hbox); have n7_ := Aside0.mk ((by rw [hg]; exact (below_size pmBx10_15_) : w.heap.size ≤ gb202)); have n8_ := Aside0.mk ((by rw [hg]; exact (below_size pmBx10_15_) : w.heap.size ≤ gb202)); have n9_ := Aside0.mk ((pmBx10_24_ : gb197 ≠ gb202)); have n10_ := Aside0.mk ((pmBx10_25_ : gb202 ≠ gb197)); have n11_ := Aside0.mk ((pmBx10_13_ : gb198 ≠ gb202)); have n12_ := Aside0.mk ((pmBx10_14_ : gb202 ≠ gb198)); have n13_ := Aside0.mk ((pmBx10_20_ : gb199 ≠ gb202)); have n14_ := Aside0.mk ((pmBx10_21_ : gb202 ≠ gb199)); have n15_ := Aside0.mk ((pmBx10_28_ : gb200 ≠ gb202)); have n16_ := Aside0.mk ((pmBx10_29_ : gb202 ≠ gb200)); have n17_ := Aside0.mk ((pmBx10_33_ : gb201 ≠ gb202)); have n18_ := Aside0.mk ((pmBx10_34_ : gb202 ≠ gb201)); clear BK197; clear BK198; clear BK199; clear BK200; clear BK201; clear HB; have BK197 := n0_; have BK198 := n1_; have BK199 := n2_; have BK200 := n3_; have BK201 := n4_; have HB := n5_; have BK202 := n6_; have GW202 := n7_; have GE202 := n8_; have NB197_202 := n9_; have NB202_197 := n10_; have NB198_202 := n11_; have NB202_198 := n12_; have NB199_202 := n13_; have NB202_199 := n14_; have NB200_202 := n15_; have NB202_200 := n16_; have NB201_202 := n17_; have NB202_201 := n18_; clear n0_ n1_ n2_ n3_ n4_ n5_ n6_ n7_ n8_ n9_ n10_ n11_ n12_ n13_ n14_ n15_ n16_ n17_ n18_; clear hb hbox hg; have hnb213 := NB197_198.out; have hnc213 := NB198_197.out; have hnb214 := NB197_199.out; have hnc214 := NB199_197.out; have hnb215 := NB197_200.out; have hnc215 := NB200_197.out; have hnb216 := NB197_201.out; have hnc216 := NB201_197.out; have hnb217 := NB197_202.out; have hnc217 := NB202_197.out; have hcz218_0 : w212.cell? ⟨gb197, 0, none⟩ = some (.int .i64 a0) := (blk_cell BK197.out 0).trans rfl; have hfz218_0 := blk_frozen BK197.out 0) | ((with_reducible refine gate_callee (f := 22) rfl ?_); refine goesL_ (some 20) rfl rfl Try.func22 (by kernel_rfl) rfl #[.int .i64 a0] rfl pmBx10_8_ ?_; (with_reducible refine (self_isSize.calls a0 false _ A7.out).mono ?_); rintro e w' ⟨rfl, ⟨nd, rfl⟩⟩; refine ⟨_, rfl, ?_⟩) | go_in)
    go_ret2
    exact ⟨by first | rfl | (simp [errW_none, errW_some] <;> rfl) | (simp [*, errW_none, errW_some] <;> rfl), by repeat (first | (with_reducible first | exact HB.out | apply below_alloc | apply pw_below_drewN | apply below_drew1 | refine below_set ?_ GE197.out | refine below_set ?_ GE198.out | refine below_set ?_ GE199.out | refine below_set ?_ GE200.out | refine below_set ?_ GE201.out | refine below_set ?_ GE202.out) | exact HB.out)⟩

/-! ### parterreref29_Clamp: function 16 -/
def parterreref29_Clamp.j0 : Nat → Int → Int → Bool → Int → Int → Int → Int → Option (Int × Int)
  | 0, _, _, _, _, _, _, _ => none
  | k + 1, x0, x3, x4, x215000, x215001, x217000, x217001 => (parterreref29_Limit.f k x215000 x215001 x3 x4 x217000 x217001).bind fun bt221 => (if bt221.2.2 = 0 then (if bt221.2.1 = true then (some (mx x0 bt221.1, 0)) else (some (x0, 0))) else (some (0, bt221.2.2)))
def parterreref29_Clamp.f (k : Nat) (a0 : Int) (a1_0 : Int) (a1_1 : Int) (a2_0 : Int) (a2_1 : Int) (a3 : Int) (a4 : Bool) (a5_0 : Int) (a5_1 : Int) : Option (Int × Int) := (parterreref29_Size.f a0).bind fun t217 => (if t217 = true then ((parterreref29_Limit.f k a2_0 a2_1 a3 a4 a5_0 a5_1).bind fun bt218 => (if bt218.2.2 = 0 then (if bt218.2.1 = true then (parterreref29_Clamp.j0 k (mn a0 bt218.1) a3 a4 a1_0 a1_1 a5_0 a5_1) else (parterreref29_Clamp.j0 k a0 a3 a4 a1_0 a1_1 a5_0 a5_1)) else (some (0, bt218.2.2)))) else (some (0, 2)))
theorem parterreref29_Clamp.mono_l : ∀ k, (∀ y0 y1 y2 y3 y4 y5 y6, LeO (parterreref29_Clamp.j0 k y0 y1 y2 y3 y4 y5 y6) (parterreref29_Clamp.j0 (k + 1) y0 y1 y2 y3 y4 y5 y6))
  | 0 => fun _ _ _ _ _ _ _ r h => by simp [parterreref29_Clamp.j0] at h
  | k + 1 => by
    have ih0 := parterreref29_Clamp.mono_l k
    · intro y0 y1 y2 y3 y4 y5 y6
      unfold parterreref29_Clamp.j0
      repeat' first
      | (with_reducible exact ih0 _ _ _ _ _ _ _)
      | (with_reducible exact parterreref29_Limit.mono _ _ _ _ _ _ _)
      | (with_reducible exact LeO.refl _)
      | (with_reducible exact LeO.none _)
      | (with_reducible refine LeO.ite ?_ ?_)
      | (with_reducible refine LeO.bind ?_ (fun _ => ?_))
      | exact ih0 _ _ _ _ _ _ _
      | exact parterreref29_Limit.mono _ _ _ _ _ _ _
      | exact LeO.none _
      | refine LeO.ite ?_ ?_
      | refine LeO.bind ?_ (fun _ => ?_)
theorem parterreref29_Clamp.mono : ∀ a0 a1 a2 a3 a4 a5 a6 a7 a8 k, LeO (parterreref29_Clamp.f k a0 a1 a2 a3 a4 a5 a6 a7 a8) (parterreref29_Clamp.f (k + 1) a0 a1 a2 a3 a4 a5 a6 a7 a8) := by
  intro a0 a1 a2 a3 a4 a5 a6 a7 a8 k
  have ih0 := parterreref29_Clamp.mono_l k
  unfold parterreref29_Clamp.f
  repeat' first
      | (with_reducible exact ih0 _ _ _ _ _ _ _)
      | (with_reducible exact parterreref29_Limit.mono _ _ _ _ _ _ _)
      | (with_reducible exact LeO.refl _)
      | (with_reducible exact LeO.none _)
      | (with_reducible refine LeO.ite ?_ ?_)
      | (with_reducible refine LeO.bind ?_ (fun _ => ?_))
      | exact ih0 _ _ _ _ _ _ _
      | exact parterreref29_Limit.mono _ _ _ _ _ _ _
      | exact LeO.none _
      | refine LeO.ite ?_ ?_
      | refine LeO.bind ?_ (fun _ => ?_)
set_option maxHeartbeats 8000000 in
set_option maxRecDepth 100000 in
theorem parterreref29_Clamp.calls (k : Nat) (a0 : Int) (a1_0 : Int) (a1_1 : Int) (a2_0 : Int) (a2_1 : Int) (a3 : Int) (a4 : Bool) (a5_0 : Int) (a5_1 : Int) (r1 : Int) (r2 : Int) (w : World) (h : parterreref29_Clamp.f k a0 a1_0 a1_1 a2_0 a2_1 a3 a4 a5_0 a5_1 = some (r1, r2)) :
    Calls Try.prog 16 #[.int .i64 a0, .agg #[.int .i64 a1_0, .int .i64 a1_1], .agg #[.int .i64 a2_0, .int .i64 a2_1], .int .i64 a3, .bool a4, .agg #[.int .i64 a5_0, .int .i64 a5_1]] w fun e w' => e = .returned (.tuple #[.int .i64 r1, .int .i64 r2]) ∧ Below w.heap.size w w' := by
  have hu31 := Try.underlying31
  have hu46 := Try.underlying46
  have HB := Aside0.mk (Below.refl w.heap.size w)
  have H : ((parterreref29_Size.f a0).bind fun t217 => (if t217 = true then ((parterreref29_Limit.f k a2_0 a2_1 a3 a4 a5_0 a5_1).bind fun bt218 => (if bt218.2.2 = 0 then (if bt218.2.1 = true then (parterreref29_Clamp.j0 k (mn a0 bt218.1) a3 a4 a1_0 a1_1 a5_0 a5_1) else (parterreref29_Clamp.j0 k a0 a3 a4 a1_0 a1_1 a5_0 a5_1)) else (some (0, bt218.2.2)))) else (some (0, 2)))) = some (r1, r2) := h
  clear h
  replace H := Option.bind_eq_some_iff.mp H
  obtain ⟨t217, A70, H⟩ := H
  replace H : (if t217 = true then ((parterreref29_Limit.f k a2_0 a2_1 a3 a4 a5_0 a5_1).bind fun bt218 => (if bt218.2.2 = 0 then (if bt218.2.1 = true then (parterreref29_Clamp.j0 k (mn a0 bt218.1) a3 a4 a1_0 a1_1 a5_0 a5_1) else (parterreref29_Clamp.j0 k a0 a3 a4 a1_0 a1_1 a5_0 a5_1)) else (some (0, bt218.2.2)))) else (some (0, 2))) = some (r1, r2) := H
  have A7 := Aside0.mk A70
  clear A70
  by_cases c8 : t217 = true
  · subst c8
    have H1 : ((parterreref29_Limit.f k a2_0 a2_1 a3 a4 a5_0 a5_1).bind fun bt218 => (if bt218.2.2 = 0 then (if bt218.2.1 = true then (parterreref29_Clamp.j0 k (mn a0 bt218.1) a3 a4 a1_0 a1_1 a5_0 a5_1) else (parterreref29_Clamp.j0 k a0 a3 a4 a1_0 a1_1 a5_0 a5_1)) else (some (0, bt218.2.2)))) = some (r1, r2) := by rw [if_pos rfl] at H; exact H
    clear H
    have H := H1
    clear H1
    replace H := Option.bind_eq_some_iff.mp H
    obtain ⟨⟨t218, t219, t220⟩, A90, H⟩ := H
    replace H : (if t220 = 0 then (if t219 = true then (parterreref29_Clamp.j0 k (mn a0 t218) a3 a4 a1_0 a1_1 a5_0 a5_1) else (parterreref29_Clamp.j0 k a0 a3 a4 a1_0 a1_1 a5_0 a5_1)) else (some (0, t220))) = some (r1, r2) := H
    have A9 := Aside0.mk A90
    clear A90
    by_cases c10 : t220 = 0
    · rw [if_pos c10] at H
      have c10b0 : (t220 == 0) = true := beq_iff_eq.mpr c10
      have c10b1 : (t220 != 0) = false := bne_eq_false_iff_eq.mpr c10
      clear c10
      have HC11 := Aside0.mk H
      clear H
      go_enter Try.func16, Try.ntmps16
      go_upto_if 33 with (first | ((with_reducible refine gate_dst (N := 7) rfl ?_); refine box_event ?hg (N := 7) ?hd (cs := #[.int .i64 a1_0, .int .i64 a1_1]) (t := 31) ?hr ?_; (case hd => rfl); (case hg => rfl); (case hr => first | (go_simp; done) | (go_simp; rfl)); intro gb214 hg w12 hbox hb; have n0_ := Aside0.mk (below_step pmBx10_9_ hb); have n1_ := Aside0.mk (hbox); have n2_ := Aside0.mk ((pmBx10_40_ : w.heap.size ≤ gb214)); have n3_ := Aside0.mk ((pmBx10_40_ : w.heap.size ≤ gb214)); clear HB; have HB := n0_; have BK214 := n1_; have GW214 := n2_; have GE214 := n3_; clear n0_ n1_ n2_ n3_; clear hb hbox hg) | ((with_reducible refine gate_dst (N := 8) rfl ?_); refine box_event ?hg (N := 8) ?hd (cs := #[.int .i64 a2_0, .int .i64 a2_1]) (t := 31) ?hr ?_; (case hd => rfl); (case hg => rfl); (case hr => first | (go_simp; done) | (go_simp; rfl)); intro gb215 hg w13 hbox hb; have n0_ := Aside0.mk (blk_below (g := gb214) (o := .cells #[.int .i64 a1_0, .int .i64 a1_1] 31 (0, 0)) pmBx10_7_ hb); have n1_ := Aside0.mk (below_step pmBx10_18_ hb); have n2_ := Aside0.mk (hbox); have n3_ := Aside0.mk ((by rw [hg]; exact (below_size pmBx10_18_) : w.heap.size ≤ gb215)); have n4_ := Aside0.mk ((by rw [hg]; exact (below_size pmBx10_18_) : w.heap.size ≤ gb215)); have n5_ := Aside0.mk ((pmBx10_38_ : gb214 ≠ gb215)); have n6_ := Aside0.mk ((pmBx10_39_ : gb215 ≠ gb214)); clear BK214; clear HB; have BK214 := n0_; have HB := n1_; have BK215 := n2_; have GW215 := n3_; have GE215 := n4_; have NB214_215 := n5_; have NB215_214 := n6_; clear n0_ n1_ n2_ n3_ n4_ n5_ n6_; clear hb hbox hg) | ((with_reducible refine gate_dst (N := 11) rfl ?_); refine box_event ?hg (N := 11) ?hd (cs := #[.int .i64 a5_0, .int .i64 a5_1]) (t := 46) ?hr ?_; (case hd => rfl); (case hg => rfl); (case hr => first | (go_simp; done) | (go_simp; rfl)); intro gb216 hg w14 hbox hb; have n0_ := Aside0.mk (blk_below (g := gb214) (o := .cells #[.int .i64 a1_0, .int .i64 a1_1] 31 (0, 0)) pmBx10_7_ hb); have n1_ := Aside0.mk (blk_below (g := gb215) (o := .cells #[.int .i64 a2_0, .int .i64 a2_1] 31 (0, 0)) pmBx10_11_ hb); have n2_ := Aside0.mk (below_step pmBx10_12_ hb); have n3_ := Aside0.mk (hbox); have n4_ := Aside0.mk ((by rw [hg]; exact (below_size pmBx10_12_) : w.heap.size ≤ gb216)); have n5_ := Aside0.mk ((by rw [hg]; exact (below_size pmBx10_12_) : w.heap.size ≤ gb216)); have n6_ := Aside0.mk ((pmBx10_38_ : gb214 ≠ gb216)); have n7_ := Aside0.mk ((pmBx10_39_ : gb216 ≠ gb214)); have n8_ := Aside0.mk ((pmBx10_45_ : gb215 ≠ gb216)); have n9_ := Aside0.mk ((pmBx10_46_ : gb216 ≠ gb215)); clear BK214; clear BK215; clear HB; have BK214 := n0_; have BK215 := n1_; have HB := n2_; have BK216 := n3_; have GW216 := n4_; have GE216 := n5_; have NB214_216 := n6_; have NB216_214 := n7_; have NB215_216 := n8_; have NB216_215 := n9_; clear n0_ n1_ n2_ n3_ n4_ n5_ n6_ n7_ n8_ n9_; clear hb hbox hg) | ((with_reducible refine gate_callee (f := 21) rfl ?_); refine goesL_ (some 19) rfl rfl Try.func21 (by kernel_rfl) rfl #[.int .i64 a0] rfl pmBx10_8_ ?_; (with_reducible refine (parterreref29_Size.calls a0 true _ A7.out).mono ?_); rintro e w' ⟨rfl, ⟨nd, rfl⟩⟩; refine ⟨_, rfl, ?_⟩; have hnb15 := NB215_214.out; have hnc15 := NB214_215.out; have hnb16 := NB215_216.out; have hnc16 := NB216_215.out; have hcz17_0 : w14.cell? ⟨gb215, 0, none⟩ = some (.int .i64 a2_0) := (blk_cell BK215.out 0).trans rfl; have hcz17_1 : w14.cell? ⟨gb215, 1, none⟩ = some (.int .i64 a2_1) := (blk_cell BK215.out 1).trans rfl; have hfz17_0 := blk_frozen BK215.out 0; have hfz17_1 := blk_frozen BK215.out 1; have hnb18 := NB216_214.out; have hnc18 := NB214_216.out; have hcz19_0 : w14.cell? ⟨gb216, 0, none⟩ = some (.int .i64 a5_0) := (blk_cell BK216.out 0).trans rfl; have hcz19_1 : w14.cell? ⟨gb216, 1, none⟩ = some (.int .i64 a5_1) := (blk_cell BK216.out 1).trans rfl; have hfz19_0 := blk_frozen BK216.out 0; have hfz19_1 := blk_frozen BK216.out 1) | ((with_reducible refine gate_callee (f := 14) rfl ?_); refine goesL_ (some 26) rfl rfl Try.func14 (by kernel_rfl) rfl #[.agg #[.int .i64 a2_0, .int .i64 a2_1], .int .i64 a3, .bool a4, .agg #[.int .i64 a5_0, .int .i64 a5_1]] rfl pmBx10_8_ ?_; (with_reducible refine (parterreref29_Limit.calls k a2_0 a2_1 a3 a4 a5_0 a5_1 t218 t219 t220 _ A9.out).mono ?_); rintro e w20 ⟨rfl, hb⟩; refine ⟨_, rfl, ?_⟩; have n0_ := Aside0.mk (blk_below (g := gb214) (o := .cells #[.int .i64 a1_0, .int .i64 a1_1] 31 (0, 0)) pmBx10_7_ hb); have n1_ := Aside0.mk (blk_below (g := gb215) (o := .cells #[.int .i64 a2_0, .int .i64 a2_1] 31 (0, 0)) pmBx10_11_ hb); have n2_ := Aside0.mk (blk_below (g := gb216) (o := .cells #[.int .i64 a5_0, .int .i64 a5_1] 46 (0, 0)) pmBx10_32_ hb); have n3_ := Aside0.mk (below_step pmBx10_17_ hb); clear BK214; clear BK215; clear BK216; clear HB; have BK214 := n0_; have BK215 := n1_; have BK216 := n2_; have HB := n3_; clear n0_ n1_ n2_ n3_; (try clear hb); (try clear hb2); (try clear hk); (try clear hi)))
      (try simp only [Act.put, List.setIfInBounds_toArray, List.set_cons_zero, List.set_cons_succ])
      go_cut [0] (fun v0 wc => ∃ (kq : Nat) (x0_10 : Int), v0 = .int .i64 x0_10 ∧ Aside0 (parterreref29_Clamp.j0 kq x0_10 a3 a4 a1_0 a1_1 a5_0 a5_1 = some (r1, r2)) ∧ Aside0 (kq ≤ k) ∧ Aside0 (wc.heap[gb214]? = some (.cells #[.int .i64 a1_0, .int .i64 a1_1] 31 (0, 0))) ∧ Aside0 (wc.heap[gb215]? = some (.cells #[.int .i64 a2_0, .int .i64 a2_1] 31 (0, 0))) ∧ Aside0 (wc.heap[gb216]? = some (.cells #[.int .i64 a5_0, .int .i64 a5_1] 46 (0, 0))) ∧ Aside0 (Below w.heap.size w wc))
      case first =>
        have H := HC11.out
        clear HC11
        by_cases c21 : t219 = true
        · subst c21
          have H1 : (parterreref29_Clamp.j0 k (mn a0 t218) a3 a4 a1_0 a1_1 a5_0 a5_1) = some (r1, r2) := by rw [if_pos rfl] at H; exact H
          clear H
          have H := H1
          clear H1
          obtain ⟨ji22, hji22⟩ : ∃ j_ : Int, (mn a0 t218) = j_ := ⟨_, rfl⟩
          replace H : (parterreref29_Clamp.j0 k ji22 a3 a4 a1_0 a1_1 a5_0 a5_1) = some (r1, r2) := by first | (rw [hji22] at H; exact H) | (simp only [hji22] at H ⊢; exact H)
          have hji22_ : (if t218 < a0 then t218 else a0) = ji22 := hji22
          have H' := Aside0.mk H
          clear H
          go_wp2
          go_meet
          case rel => exact ⟨_, (ji22), (by first | rfl | (simp; done) | (simp only [← hji22] <;> (first | rfl | simp)) | (simp [*]; done)), H', ⟨pmBx10_49_⟩, ⟨pmBx10_7_⟩, ⟨pmBx10_11_⟩, ⟨pmBx10_32_⟩, ⟨pmBx10_17_⟩⟩
        · replace c21 := Bool.eq_false_iff.mpr c21
          subst c21
          have H1 : (parterreref29_Clamp.j0 k a0 a3 a4 a1_0 a1_1 a5_0 a5_1) = some (r1, r2) := by rw [if_neg (show ¬ (false = true) by decide)] at H; exact H
          clear H
          have H := H1
          clear H1
          have H' := Aside0.mk H
          clear H
          go_wp2
          go_meet
          case rel => exact ⟨_, (a0), pmBx10_48_, H', ⟨pmBx10_49_⟩, ⟨pmBx10_7_⟩, ⟨pmBx10_11_⟩, ⟨pmBx10_32_⟩, ⟨pmBx10_17_⟩⟩
      case rest =>
        clear HC11
        try clear c1
        try clear c2
        try clear p2
        try clear c8
        try clear c10
        try clear c10b0
        try clear c10b1
        try clear c14
        try clear c15
        try clear c16
        try clear c18
        try clear c21
        try clear hcz17_0
        try clear hcz17_1
        try clear hcz19_0
        try clear hcz19_1
        try clear hfz17_0
        try clear hfz17_1
        try clear hfz19_0
        try clear hfz19_1
        obtain ⟨kq, x0_10, rfl, HA, HJ10, BK214, BK215, BK216, HB⟩ := hcut
        cases kq with
        | zero => exact absurd HA.out (by simp [parterreref29_Clamp.j0])
        | succ kj10 =>
          have H := HA.out
          clear HA
          simp only [parterreref29_Clamp.j0] at H
          replace H := Option.bind_eq_some_iff.mp H
          obtain ⟨⟨t221, t222, t223⟩, A230, H⟩ := H
          replace H : (if t223 = 0 then (if t222 = true then (some (mx x0_10 t221, 0)) else (some (x0_10, 0))) else (some (0, t223))) = some (r1, r2) := H
          have A23 := Aside0.mk A230
          clear A230
          by_cases c24 : t223 = 0
          · rw [if_pos c24] at H
            have c24b0 : (t223 == 0) = true := beq_iff_eq.mpr c24
            have c24b1 : (t223 != 0) = false := bne_eq_false_iff_eq.mpr c24
            clear c24
            by_cases c25 : t222 = true
            · subst c25
              have H1 : (some (mx x0_10 t221, 0)) = some (r1, r2) := by rw [if_pos rfl] at H; exact H
              clear H
              have H := H1
              clear H1
              obtain ⟨ji26, hji26⟩ : ∃ j_ : Int, (mx x0_10 t221) = j_ := ⟨_, rfl⟩
              replace H : (some (ji26, 0)) = some (r1, r2) := by first | (rw [hji26] at H; exact H) | (simp only [hji26] at H ⊢; exact H)
              (try rw [hji26] at A23)
              have hji26_ : (if x0_10 < t221 then t221 else x0_10) = ji26 := hji26
              simp only [Option.some.injEq, Prod.mk.injEq] at H
              obtain ⟨rfl, rfl⟩ := H
              have hnb27 := NB214_215.out
              have hnc27 := NB215_214.out
              have hnb28 := NB214_216.out
              have hnc28 := NB216_214.out
              have hcz29_0 : wc.cell? ⟨gb214, 0, none⟩ = some (.int .i64 a1_0) := (blk_cell BK214.out 0).trans rfl
              have hcz29_1 : wc.cell? ⟨gb214, 1, none⟩ = some (.int .i64 a1_1) := (blk_cell BK214.out 1).trans rfl
              have hfz29_0 := blk_frozen BK214.out 0
              have hfz29_1 := blk_frozen BK214.out 1
              have hnb30 := NB216_215.out
              have hnc30 := NB215_216.out
              have hcz31_0 : wc.cell? ⟨gb216, 0, none⟩ = some (.int .i64 a5_0) := (blk_cell BK216.out 0).trans rfl
              have hcz31_1 : wc.cell? ⟨gb216, 1, none⟩ = some (.int .i64 a5_1) := (blk_cell BK216.out 1).trans rfl
              have hfz31_0 := blk_frozen BK216.out 0
              have hfz31_1 := blk_frozen BK216.out 1
              go_wp2_with (first | ((with_reducible refine gate_callee (f := 14) rfl ?_); refine goesL_ (some 42) rfl rfl Try.func14 (by kernel_rfl) rfl #[.agg #[.int .i64 a1_0, .int .i64 a1_1], .int .i64 a3, .bool a4, .agg #[.int .i64 a5_0, .int .i64 a5_1]] rfl pmBx10_8_ ?_; (with_reducible refine (parterreref29_Limit.calls kj10 a1_0 a1_1 a3 a4 a5_0 a5_1 t221 true t223 _ A23.out).mono ?_); rintro e w32 ⟨rfl, hb⟩; refine ⟨_, rfl, ?_⟩; have n0_ := Aside0.mk (blk_below (g := gb214) (o := .cells #[.int .i64 a1_0, .int .i64 a1_1] 31 (0, 0)) pmBx10_7_ hb); have n1_ := Aside0.mk (blk_below (g := gb215) (o := .cells #[.int .i64 a2_0, .int .i64 a2_1] 31 (0, 0)) pmBx10_11_ hb); have n2_ := Aside0.mk (blk_below (g := gb216) (o := .cells #[.int .i64 a5_0, .int .i64 a5_1] 46 (0, 0)) pmBx10_32_ hb); have n3_ := Aside0.mk (below_step pmBx10_17_ hb); clear BK214; clear BK215; clear BK216; clear HB; have BK214 := n0_; have BK215 := n1_; have BK216 := n2_; have HB := n3_; clear n0_ n1_ n2_ n3_; (try clear hb); (try clear hb2); (try clear hk); (try clear hi)))
              go_ret2
              exact ⟨by first | rfl | (simp [errW_none, errW_some] <;> rfl) | (simp only [← hji26]; first | rfl | (simp [errW_none, errW_some] <;> rfl)) | (simp [*, errW_none, errW_some] <;> rfl), by repeat (first | (with_reducible first | exact HB.out | apply below_alloc | apply pw_below_drewN | apply below_drew1 | refine below_set ?_ GE214.out | refine below_set ?_ GE215.out | refine below_set ?_ GE216.out) | exact HB.out)⟩
            · replace c25 := Bool.eq_false_iff.mpr c25
              subst c25
              have H1 : (some (x0_10, 0)) = some (r1, r2) := by rw [if_neg (show ¬ (false = true) by decide)] at H; exact H
              clear H
              have H := H1
              clear H1
              simp only [Option.some.injEq, Prod.mk.injEq] at H
              obtain ⟨rfl, rfl⟩ := H
              have hnb33 := NB214_215.out
              have hnc33 := NB215_214.out
              have hnb34 := NB214_216.out
              have hnc34 := NB216_214.out
              have hcz35_0 : wc.cell? ⟨gb214, 0, none⟩ = some (.int .i64 a1_0) := (blk_cell BK214.out 0).trans rfl
              have hcz35_1 : wc.cell? ⟨gb214, 1, none⟩ = some (.int .i64 a1_1) := (blk_cell BK214.out 1).trans rfl
              have hfz35_0 := blk_frozen BK214.out 0
              have hfz35_1 := blk_frozen BK214.out 1
              have hnb36 := NB216_215.out
              have hnc36 := NB215_216.out
              have hcz37_0 : wc.cell? ⟨gb216, 0, none⟩ = some (.int .i64 a5_0) := (blk_cell BK216.out 0).trans rfl
              have hcz37_1 : wc.cell? ⟨gb216, 1, none⟩ = some (.int .i64 a5_1) := (blk_cell BK216.out 1).trans rfl
              have hfz37_0 := blk_frozen BK216.out 0
              have hfz37_1 := blk_frozen BK216.out 1
              go_wp2_with (first | ((with_reducible refine gate_callee (f := 14) rfl ?_); refine goesL_ (some 42) rfl rfl Try.func14 (by kernel_rfl) rfl #[.agg #[.int .i64 a1_0, .int .i64 a1_1], .int .i64 a3, .bool a4, .agg #[.int .i64 a5_0, .int .i64 a5_1]] rfl pmBx10_8_ ?_; (with_reducible refine (parterreref29_Limit.calls kj10 a1_0 a1_1 a3 a4 a5_0 a5_1 t221 false t223 _ A23.out).mono ?_); rintro e w38 ⟨rfl, hb⟩; refine ⟨_, rfl, ?_⟩; have n0_ := Aside0.mk (blk_below (g := gb214) (o := .cells #[.int .i64 a1_0, .int .i64 a1_1] 31 (0, 0)) pmBx10_7_ hb); have n1_ := Aside0.mk (blk_below (g := gb215) (o := .cells #[.int .i64 a2_0, .int .i64 a2_1] 31 (0, 0)) pmBx10_11_ hb); have n2_ := Aside0.mk (blk_below (g := gb216) (o := .cells #[.int .i64 a5_0, .int .i64 a5_1] 46 (0, 0)) pmBx10_32_ hb); have n3_ := Aside0.mk (below_step pmBx10_17_ hb); clear BK214; clear BK215; clear BK216; clear HB; have BK214 := n0_; have BK215 := n1_; have BK216 := n2_; have HB := n3_; clear n0_ n1_ n2_ n3_; (try clear hb); (try clear hb2); (try clear hk); (try clear hi)))
              go_ret2
              exact ⟨by first | rfl | (simp [errW_none, errW_some] <;> rfl) | (simp [*, errW_none, errW_some] <;> rfl), by repeat (first | (with_reducible first | exact HB.out | apply below_alloc | apply pw_below_drewN | apply below_drew1 | refine below_set ?_ GE214.out | refine below_set ?_ GE215.out | refine below_set ?_ GE216.out) | exact HB.out)⟩
          · rw [if_neg c24] at H
            have c24b0 : (t223 == 0) = false := beq_eq_false_iff_ne.mpr c24
            have c24b1 : (t223 != 0) = true := bne_iff_ne.mpr c24
            simp only [Option.some.injEq, Prod.mk.injEq] at H
            obtain ⟨rfl, rfl⟩ := H
            have hnb39 := NB214_215.out
            have hnc39 := NB215_214.out
            have hnb40 := NB214_216.out
            have hnc40 := NB216_214.out
            have hcz41_0 : wc.cell? ⟨gb214, 0, none⟩ = some (.int .i64 a1_0) := (blk_cell BK214.out 0).trans rfl
            have hcz41_1 : wc.cell? ⟨gb214, 1, none⟩ = some (.int .i64 a1_1) := (blk_cell BK214.out 1).trans rfl
            have hfz41_0 := blk_frozen BK214.out 0
            have hfz41_1 := blk_frozen BK214.out 1
            have hnb42 := NB216_215.out
            have hnc42 := NB215_216.out
            have hcz43_0 : wc.cell? ⟨gb216, 0, none⟩ = some (.int .i64 a5_0) := (blk_cell BK216.out 0).trans rfl
            have hcz43_1 : wc.cell? ⟨gb216, 1, none⟩ = some (.int .i64 a5_1) := (blk_cell BK216.out 1).trans rfl
            have hfz43_0 := blk_frozen BK216.out 0
            have hfz43_1 := blk_frozen BK216.out 1
            go_wp2_with (first | ((with_reducible refine gate_callee (f := 14) rfl ?_); refine goesL_ (some 42) rfl rfl Try.func14 (by kernel_rfl) rfl #[.agg #[.int .i64 a1_0, .int .i64 a1_1], .int .i64 a3, .bool a4, .agg #[.int .i64 a5_0, .int .i64 a5_1]] rfl pmBx10_8_ ?_; (with_reducible refine (parterreref29_Limit.calls kj10 a1_0 a1_1 a3 a4 a5_0 a5_1 t221 t222 t223 _ A23.out).mono ?_); rintro e w44 ⟨rfl, hb⟩; refine ⟨_, rfl, ?_⟩; have n0_ := Aside0.mk (blk_below (g := gb214) (o := .cells #[.int .i64 a1_0, .int .i64 a1_1] 31 (0, 0)) pmBx10_7_ hb); have n1_ := Aside0.mk (blk_below (g := gb215) (o := .cells #[.int .i64 a2_0, .int .i64 a2_1] 31 (0, 0)) pmBx10_11_ hb); have n2_ := Aside0.mk (blk_below (g := gb216) (o := .cells #[.int .i64 a5_0, .int .i64 a5_1] 46 (0, 0)) pmBx10_32_ hb); have n3_ := Aside0.mk (below_step pmBx10_17_ hb); clear BK214; clear BK215; clear BK216; clear HB; have BK214 := n0_; have BK215 := n1_; have BK216 := n2_; have HB := n3_; clear n0_ n1_ n2_ n3_; (try clear hb); (try clear hb2); (try clear hk); (try clear hi)))
            go_ret2
            exact ⟨by first | rfl | (simp [errW_none, errW_some] <;> rfl) | (simp [*, errW_none, errW_some] <;> rfl), by repeat (first | (with_reducible first | exact HB.out | apply below_alloc | apply pw_below_drewN | apply below_drew1 | refine below_set ?_ GE214.out | refine below_set ?_ GE215.out | refine below_set ?_ GE216.out) | exact HB.out)⟩
    · rw [if_neg c10] at H
      have c10b0 : (t220 == 0) = false := beq_eq_false_iff_ne.mpr c10
      have c10b1 : (t220 != 0) = true := bne_iff_ne.mpr c10
      simp only [Option.some.injEq, Prod.mk.injEq] at H
      obtain ⟨rfl, rfl⟩ := H
      go_enter Try.func16, Try.ntmps16
      go_wp2_with (first | ((with_reducible refine gate_dst (N := 7) rfl ?_); refine box_event ?hg (N := 7) ?hd (cs := #[.int .i64 a1_0, .int .i64 a1_1]) (t := 31) ?hr ?_; (case hd => rfl); (case hg => rfl); (case hr => first | (go_simp; done) | (go_simp; rfl)); intro gb214 hg w45 hbox hb; have n0_ := Aside0.mk (below_step pmBx10_9_ hb); have n1_ := Aside0.mk (hbox); have n2_ := Aside0.mk ((pmBx10_40_ : w.heap.size ≤ gb214)); have n3_ := Aside0.mk ((pmBx10_40_ : w.heap.size ≤ gb214)); clear HB; have HB := n0_; have BK214 := n1_; have GW214 := n2_; have GE214 := n3_; clear n0_ n1_ n2_ n3_; clear hb hbox hg) | ((with_reducible refine gate_dst (N := 8) rfl ?_); refine box_event ?hg (N := 8) ?hd (cs := #[.int .i64 a2_0, .int .i64 a2_1]) (t := 31) ?hr ?_; (case hd => rfl); (case hg => rfl); (case hr => first | (go_simp; done) | (go_simp; rfl)); intro gb215 hg w46 hbox hb; have n0_ := Aside0.mk (blk_below (g := gb214) (o := .cells #[.int .i64 a1_0, .int .i64 a1_1] 31 (0, 0)) pmBx10_7_ hb); have n1_ := Aside0.mk (below_step pmBx10_18_ hb); have n2_ := Aside0.mk (hbox); have n3_ := Aside0.mk ((by rw [hg]; exact (below_size pmBx10_18_) : w.heap.size ≤ gb215)); have n4_ := Aside0.mk ((by rw [hg]; exact (below_size pmBx10_18_) : w.heap.size ≤ gb215)); have n5_ := Aside0.mk ((pmBx10_38_ : gb214 ≠ gb215)); have n6_ := Aside0.mk ((pmBx10_39_ : gb215 ≠ gb214)); clear BK214; clear HB; have BK214 := n0_; have HB := n1_; have BK215 := n2_; have GW215 := n3_; have GE215 := n4_; have NB214_215 := n5_; have NB215_214 := n6_; clear n0_ n1_ n2_ n3_ n4_ n5_ n6_; clear hb hbox hg) | ((with_reducible refine gate_dst (N := 11) rfl ?_); refine box_event ?hg (N := 11) ?hd (cs := #[.int .i64 a5_0, .int .i64 a5_1]) (t := 46) ?hr ?_; (case hd => rfl); (case hg => rfl); (case hr => first | (go_simp; done) | (go_simp; rfl)); intro gb216 hg w47 hbox hb; have n0_ := Aside0.mk (blk_below (g := gb214) (o := .cells #[.int .i64 a1_0, .int .i64 a1_1] 31 (0, 0)) pmBx10_7_ hb); have n1_ := Aside0.mk (blk_below (g := gb215) (o := .cells #[.int .i64 a2_0, .int .i64 a2_1] 31 (0, 0)) pmBx10_11_ hb); have n2_ := Aside0.mk (below_step pmBx10_12_ hb); have n3_ := Aside0.mk (hbox); have n4_ := Aside0.mk ((by rw [hg]; exact (below_size pmBx10_12_) : w.heap.size ≤ gb216)); have n5_ := Aside0.mk ((by rw [hg]; exact (below_size pmBx10_12_) : w.heap.size ≤ gb216)); have n6_ := Aside0.mk ((pmBx10_38_ : gb214 ≠ gb216)); have n7_ := Aside0.mk ((pmBx10_39_ : gb216 ≠ gb214)); have n8_ := Aside0.mk ((pmBx10_45_ : gb215 ≠ gb216)); have n9_ := Aside0.mk ((pmBx10_46_ : gb216 ≠ gb215)); clear BK214; clear BK215; clear HB; have BK214 := n0_; have BK215 := n1_; have HB := n2_; have BK216 := n3_; have GW216 := n4_; have GE216 := n5_; have NB214_216 := n6_; have NB216_214 := n7_; have NB215_216 := n8_; have NB216_215 := n9_; clear n0_ n1_ n2_ n3_ n4_ n5_ n6_ n7_ n8_ n9_; clear hb hbox hg) | ((with_reducible refine gate_callee (f := 21) rfl ?_); refine goesL_ (some 19) rfl rfl Try.func21 (by kernel_rfl) rfl #[.int .i64 a0] rfl pmBx10_8_ ?_; (with_reducible refine (parterreref29_Size.calls a0 true _ A7.out).mono ?_); rintro e w' ⟨rfl, ⟨nd, rfl⟩⟩; refine ⟨_, rfl, ?_⟩; have hnb48 := NB215_214.out; have hnc48 := NB214_215.out; have hnb49 := NB215_216.out; have hnc49 := NB216_215.out; have hcz50_0 : w47.cell? ⟨gb215, 0, none⟩ = some (.int .i64 a2_0) := (blk_cell BK215.out 0).trans rfl; have hcz50_1 : w47.cell? ⟨gb215, 1, none⟩ = some (.int .i64 a2_1) := (blk_cell BK215.out 1).trans rfl; have hfz50_0 := blk_frozen BK215.out 0; have hfz50_1 := blk_frozen BK215.out 1; have hnb51 := NB216_214.out; have hnc51 := NB214_216.out; have hcz52_0 : w47.cell? ⟨gb216, 0, none⟩ = some (.int .i64 a5_0) := (blk_cell BK216.out 0).trans rfl; have hcz52_1 : w47.cell? ⟨gb216, 1, none⟩ = some (.int .i64 a5_1) := (blk_cell BK216.out 1).trans rfl; have hfz52_0 := blk_frozen BK216.out 0; have hfz52_1 := blk_frozen BK216.out 1) | ((with_reducible refine gate_callee (f := 14) rfl ?_); refine goesL_ (some 26) rfl rfl Try.func14 (by kernel_rfl) rfl #[.agg #[.int .i64 a2_0, .int .i64 a2_1], .int .i64 a3, .bool a4, .agg #[.int .i64 a5_0, .int .i64 a5_1]] rfl pmBx10_8_ ?_; (with_reducible refine (parterreref29_Limit.calls k a2_0 a2_1 a3 a4 a5_0 a5_1 t218 t219 t220 _ A9.out).mono ?_); rintro e w53 ⟨rfl, hb⟩; refine ⟨_, rfl, ?_⟩; have n0_ := Aside0.mk (blk_below (g := gb214) (o := .cells #[.int .i64 a1_0, .int .i64 a1_1] 31 (0, 0)) pmBx10_7_ hb); have n1_ := Aside0.mk (blk_below (g := gb215) (o := .cells #[.int .i64 a2_0, .int .i64 a2_1] 31 (0, 0)) pmBx10_11_ hb); have n2_ := Aside0.mk (blk_below (g := gb216) (o := .cells #[.int .i64 a5_0, .int .i64 a5_1] 46 (0, 0)) pmBx10_32_ hb); have n3_ := Aside0.mk (below_step pmBx10_17_ hb); clear BK214; clear BK215; clear BK216; clear HB; have BK214 := n0_; have BK215 := n1_; have BK216 := n2_; have HB := n3_; clear n0_ n1_ n2_ n3_; (try clear hb); (try clear hb2); (try clear hk); (try clear hi)))
      go_ret2
      exact ⟨by first | rfl | (simp [errW_none, errW_some] <;> rfl) | (simp [*, errW_none, errW_some] <;> rfl), by repeat (first | (with_reducible first | exact HB.out | apply below_alloc | apply pw_below_drewN | apply below_drew1 | refine below_set ?_ GE214.out | refine below_set ?_ GE215.out | refine below_set ?_ GE216.out) | exact HB.out)⟩
  · replace c8 := Bool.eq_false_iff.mpr c8
    subst c8
    have H1 : (some (0, 2)) = some (r1, r2) := by rw [if_neg (show ¬ (false = true) by decide)] at H; exact H
    clear H
    have H := H1
    clear H1
    simp only [Option.some.injEq, Prod.mk.injEq] at H
    obtain ⟨rfl, rfl⟩ := H
    go_enter Try.func16, Try.ntmps16
    go_wp2_with (first | ((with_reducible refine gate_dst (N := 7) rfl ?_); refine box_event ?hg (N := 7) ?hd (cs := #[.int .i64 a1_0, .int .i64 a1_1]) (t := 31) ?hr ?_; (case hd => rfl); (case hg => rfl); (case hr => first | (go_simp; done) | (go_simp; rfl)); intro gb214 hg w54 hbox hb; have n0_ := Aside0.mk (below_step pmBx10_9_ hb); have n1_ := Aside0.mk (hbox); have n2_ := Aside0.mk ((pmBx10_40_ : w.heap.size ≤ gb214)); have n3_ := Aside0.mk ((pmBx10_40_ : w.heap.size ≤ gb214)); clear HB; have HB := n0_; have BK214 := n1_; have GW214 := n2_; have GE214 := n3_; clear n0_ n1_ n2_ n3_; clear hb hbox hg) | ((with_reducible refine gate_dst (N := 8) rfl ?_); refine box_event ?hg (N := 8) ?hd (cs := #[.int .i64 a2_0, .int .i64 a2_1]) (t := 31) ?hr ?_; (case hd => rfl); (case hg => rfl); (case hr => first | (go_simp; done) | (go_simp; rfl)); intro gb215 hg w55 hbox hb; have n0_ := Aside0.mk (blk_below (g := gb214) (o := .cells #[.int .i64 a1_0, .int .i64 a1_1] 31 (0, 0)) pmBx10_7_ hb); have n1_ := Aside0.mk (below_step pmBx10_18_ hb); have n2_ := Aside0.mk (hbox); have n3_ := Aside0.mk ((by rw [hg]; exact (below_size pmBx10_18_) : w.heap.size ≤ gb215)); have n4_ := Aside0.mk ((by rw [hg]; exact (below_size pmBx10_18_) : w.heap.size ≤ gb215)); have n5_ := Aside0.mk ((pmBx10_38_ : gb214 ≠ gb215)); have n6_ := Aside0.mk ((pmBx10_39_ : gb215 ≠ gb214)); clear BK214; clear HB; have BK214 := n0_; have HB := n1_; have BK215 := n2_; have GW215 := n3_; have GE215 := n4_; have NB214_215 := n5_; have NB215_214 := n6_; clear n0_ n1_ n2_ n3_ n4_ n5_ n6_; clear hb hbox hg) | ((with_reducible refine gate_dst (N := 11) rfl ?_); refine box_event ?hg (N := 11) ?hd (cs := #[.int .i64 a5_0, .int .i64 a5_1]) (t := 46) ?hr ?_; (case hd => rfl); (case hg => rfl); (case hr => first | (go_simp; done) | (go_simp; rfl)); intro gb216 hg w56 hbox hb; have n0_ := Aside0.mk (blk_below (g := gb214) (o := .cells #[.int .i64 a1_0, .int .i64 a1_1] 31 (0, 0)) pmBx10_7_ hb); have n1_ := Aside0.mk (blk_below (g := gb215) (o := .cells #[.int .i64 a2_0, .int .i64 a2_1] 31 (0, 0)) pmBx10_11_ hb); have n2_ := Aside0.mk (below_step pmBx10_12_ hb); have n3_ := Aside0.mk (hbox); have n4_ := Aside0.mk ((by rw [hg]; exact (below_size pmBx10_12_) : w.heap.size ≤ gb216)); have n5_ := Aside0.mk ((by rw [hg]; exact (below_size pmBx10_12_) : w.heap.size ≤ gb216)); have n6_ := Aside0.mk ((pmBx10_38_ : gb214 ≠ gb216)); have n7_ := Aside0.mk ((pmBx10_39_ : gb216 ≠ gb214)); have n8_ := Aside0.mk ((pmBx10_45_ : gb215 ≠ gb216)); have n9_ := Aside0.mk ((pmBx10_46_ : gb216 ≠ gb215)); clear BK214; clear BK215; clear HB; have BK214 := n0_; have BK215 := n1_; have HB := n2_; have BK216 := n3_; have GW216 := n4_; have GE216 := n5_; have NB214_216 := n6_; have NB216_214 := n7_; have NB215_216 := n8_; have NB216_215 := n9_; clear n0_ n1_ n2_ n3_ n4_ n5_ n6_ n7_ n8_ n9_; clear hb hbox hg) | ((with_reducible refine gate_callee (f := 21) rfl ?_); refine goesL_ (some 19) rfl rfl Try.func21 (by kernel_rfl) rfl #[.int .i64 a0] rfl pmBx10_8_ ?_; (with_reducible refine (parterreref29_Size.calls a0 false _ A7.out).mono ?_); rintro e w' ⟨rfl, ⟨nd, rfl⟩⟩; refine ⟨_, rfl, ?_⟩))
    go_ret2
    exact ⟨by first | rfl | (simp [errW_none, errW_some] <;> rfl) | (simp [*, errW_none, errW_some] <;> rfl), by repeat (first | (with_reducible first | exact HB.out | apply below_alloc | apply pw_below_drewN | apply below_drew1 | refine below_set ?_ GE214.out | refine below_set ?_ GE215.out | refine below_set ?_ GE216.out) | exact HB.out)⟩

end Go.Proofs.Ytbenanokgfphmaa.PB
