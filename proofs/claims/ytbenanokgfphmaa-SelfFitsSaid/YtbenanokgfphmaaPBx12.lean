-- written by a program of this session (a print of the translation with changes of its own)
import Derived.Test.YtbenanokgfphmaaPBx0
import Derived.Test.YtbenanokgfphmaaPBx1
import Derived.Test.YtbenanokgfphmaaPBx5
import Derived.Test.YtbenanokgfphmaaPBx7
import Derived.Test.YtbenanokgfphmaaPBx10
import Derived.Test.YtbenanokgfphmaaPBx11
namespace Go.Proofs.Ytbenanokgfphmaa.PB
open Go.RowKit Go.Proofs.YtbenanokgfphmaaW.PrintWords Go.Proofs.YtbenanokgfphmaaW.PrintLast Go.Proofs.YtbenanokgfphmaaW.PrintMore
theorem pmBx12_0_ {P : Prop} (h : P := by repeat (first | (with_reducible first | exact HB.out | apply below_alloc | apply pw_below_drewN | apply below_drew1 | refine below_set ?_ GE244.out | refine below_set ?_ GE245.out | refine below_set ?_ GE246.out | refine below_set ?_ GE247.out | refine below_set ?_ GE248.out | refine below_set ?_ GE249.out) | exact HB.out)) : P := h
theorem pmBx12_1_ {P : Prop} (h : P := by (with_reducible repeat (first | refine blk_drewN ?_ _ | refine blk_drew ?_ | refine blk_alloc ?_ _)); exact BK244.out) : P := h
theorem pmBx12_2_ {P : Prop} (h : P := by (with_reducible repeat (first | refine blk_drewN ?_ _ | refine blk_drew ?_ | refine blk_alloc ?_ _)); exact BK245.out) : P := h
theorem pmBx12_3_ {P : Prop} (h : P := by (with_reducible repeat (first | refine blk_drewN ?_ _ | refine blk_drew ?_ | refine blk_alloc ?_ _)); exact BK246.out) : P := h
theorem pmBx12_4_ {P : Prop} (h : P := by (with_reducible repeat (first | refine blk_drewN ?_ _ | refine blk_drew ?_ | refine blk_alloc ?_ _)); exact BK247.out) : P := h
theorem pmBx12_5_ {P : Prop} (h : P := by (with_reducible repeat (first | refine blk_drewN ?_ _ | refine blk_drew ?_ | refine blk_alloc ?_ _)); exact BK248.out) : P := h
theorem pmBx12_6_ {P : Prop} (h : P := by (with_reducible repeat (first | refine blk_drewN ?_ _ | refine blk_drew ?_ | refine blk_alloc ?_ _)); exact BK249.out) : P := h
theorem pmBx12_7_ {P : Prop} (h : P := by (try simp only [List.map_toArray, List.map_cons, List.map_nil]); first | done | rfl | (simp only [List.length_drop, List.length_take]; rfl)) : P := h
theorem pmBx12_8_ {P : Prop} (h : P := by repeat (first | (with_reducible first | exact HB.out | apply below_alloc | apply pw_below_drewN | apply below_drew1 | refine below_set ?_ GE244.out | refine below_set ?_ GE245.out | refine below_set ?_ GE246.out | refine below_set ?_ GE247.out | refine below_set ?_ GE248.out) | exact HB.out)) : P := h
theorem pmBx12_9_ {P : Prop} (h : P := by repeat (first | (with_reducible first | exact HB.out | apply below_alloc | apply pw_below_drewN | apply below_drew1 | refine below_set ?_ GE244.out | refine below_set ?_ GE245.out | refine below_set ?_ GE246.out | refine below_set ?_ GE247.out) | exact HB.out)) : P := h
theorem pmBx12_10_ {P : Prop} (h : P := by rw [hg]; exact Nat.ne_of_lt (blk_lt (g := gb244) (o := .cells #[.int .i64 a0_0, .int .i64 a0_1] 31 (0, 0)) pmBx12_1_)) : P := h
theorem pmBx12_11_ {P : Prop} (h : P := by rw [hg]; exact Nat.ne_of_gt (blk_lt (g := gb244) (o := .cells #[.int .i64 a0_0, .int .i64 a0_1] 31 (0, 0)) pmBx12_1_)) : P := h
theorem pmBx12_12_ {P : Prop} (h : P := by repeat (first | (with_reducible first | exact HB.out | apply below_alloc | apply pw_below_drewN | apply below_drew1 | refine below_set ?_ GE244.out | refine below_set ?_ GE245.out | refine below_set ?_ GE246.out) | exact HB.out)) : P := h
theorem pmBx12_13_ {P : Prop} (h : P := by repeat (first | (with_reducible first | exact HB.out | apply below_alloc | apply pw_below_drewN | apply below_drew1 | refine below_set ?_ GE244.out | refine below_set ?_ GE245.out) | exact HB.out)) : P := h
theorem pmBx12_14_ {P : Prop} (h : P := by rw [hg]; exact Nat.ne_of_lt (blk_lt (g := gb245) (o := .cells #[.int .i64 a1_0, .int .i64 a1_1] 31 (0, 0)) pmBx12_2_)) : P := h
theorem pmBx12_15_ {P : Prop} (h : P := by rw [hg]; exact Nat.ne_of_gt (blk_lt (g := gb245) (o := .cells #[.int .i64 a1_0, .int .i64 a1_1] 31 (0, 0)) pmBx12_2_)) : P := h
theorem pmBx12_16_ {P : Prop} (h : P := by repeat (first | (with_reducible first | exact HB.out | apply below_alloc | apply pw_below_drewN | apply below_drew1 | refine below_set ?_ GE244.out) | exact HB.out)) : P := h
theorem pmBx12_17_ {P : Prop} (h : P := by first | rfl | (simp; done) | (simp [*]; done)) : P := h
theorem pmBx12_18_ {P : Prop} (h : P := by repeat (first | (with_reducible first | exact HB.out | apply below_alloc | apply pw_below_drewN | apply below_drew1) | exact HB.out)) : P := h
theorem pmBx12_19_ {P : Prop} (h : P := by kernel_rfl) : P := h
theorem pmBx12_20_ {P : Prop} (h : P := by rw [hg]; exact Nat.ne_of_lt (blk_lt (g := gb246) (o := .cells #[.int .i64 a2_0, .int .i64 a2_1] 31 (0, 0)) pmBx12_3_)) : P := h
theorem pmBx12_21_ {P : Prop} (h : P := by rw [hg]; exact Nat.ne_of_gt (blk_lt (g := gb246) (o := .cells #[.int .i64 a2_0, .int .i64 a2_1] 31 (0, 0)) pmBx12_3_)) : P := h
attribute [local go_sem] max2_int min2_int max_two min_two max_three min_three max_four min_four   -- for this text's walks alone
set_option linter.unusedVariables false
set_option linter.unusedSimpArgs false

attribute [local go_sem high] eqA23
/-! ### self_Used: function 17 -/
mutual
def self_Used.j0 : Nat → Int → Bool → Bool → Int → Int → Int → Int → Int → Int → Bool → Int → Bool → Int → Int → Int → Option (Int × Int)
  | 0, _, _, _, _, _, _, _, _, _, _, _, _, _, _, _ => none
  | k + 1, x3, x7, x38, x245000, x245001, x246000, x246001, x247000, x247001, x248000, x248001, x249000, x249001, x250000, x250001 => if x38 = true then (some (0, 2)) else ((self_Limit.f k x245000 x245001 x3 true x250000 x250001).bind fun bt254 => (if bt254.2.2 = 0 then (if bt254.2.1 = true then ((self_Clamp.f k bt254.1 x246000 x246001 x247000 x247001 x3 true x250000 x250001).bind fun bt257 => (some (bt257.1, bt257.2))) else (if x7 = true then (if (!x248000) = true then (self_Used.j1 k x3 (!x249000) x246000 x246001 x247000 x247001 x248000 x248001 x249000 x249001 x250000 x250001) else (self_Used.j1 k x3 false x246000 x246001 x247000 x247001 x248000 x248001 x249000 x249001 x250000 x250001)) else (self_Used.j1 k x3 false x246000 x246001 x247000 x247001 x248000 x248001 x249000 x249001 x250000 x250001))) else (some (0, bt254.2.2))))
def self_Used.j1 : Nat → Int → Bool → Int → Int → Int → Int → Bool → Int → Bool → Int → Int → Int → Option (Int × Int)
  | 0, _, _, _, _, _, _, _, _, _, _, _, _ => none
  | k + 1, x3, x62, x246000, x246001, x247000, x247001, x248000, x248001, x249000, x249001, x250000, x250001 => if x62 = true then ((self_Inner.f x3 x248000 x248001 x249000 x249001).bind fun t259 => ((self_Clamp.f k t259 x246000 x246001 x247000 x247001 x3 true x250000 x250001).bind fun bt260 => (some (bt260.1, bt260.2)))) else ((self_Inner.f x3 x248000 x248001 x249000 x249001).bind fun t262 => ((fixed_Clamp.f t262 x250000 x250001).bind fun t263 => ((self_Clamp.f k t263 x246000 x246001 x247000 x247001 x3 true x250000 x250001).bind fun bt264 => (some (bt264.1, bt264.2)))))
end
def self_Used.f (k : Nat) (a0_0 : Int) (a0_1 : Int) (a1_0 : Int) (a1_1 : Int) (a2_0 : Int) (a2_1 : Int) (a3 : Int) (a4_0 : Bool) (a4_1 : Int) (a5_0 : Bool) (a5_1 : Int) (a6_0 : Int) (a6_1 : Int) (a7 : Bool) : Option (Int × Int) := (self_isSize.f a3).bind fun t250 => (if t250 = true then ((self_isMargin.f a4_0 a4_1).bind fun t251 => (if t251 = true then ((self_isMargin.f a5_0 a5_1).bind fun t252 => (if t252 = true then ((self_isContent.f a6_0 a6_1).bind fun t253 => (self_Used.j0 k a3 a7 (!t253) a0_0 a0_1 a1_0 a1_1 a2_0 a2_1 a4_0 a4_1 a5_0 a5_1 a6_0 a6_1)) else (self_Used.j0 k a3 a7 true a0_0 a0_1 a1_0 a1_1 a2_0 a2_1 a4_0 a4_1 a5_0 a5_1 a6_0 a6_1))) else (self_Used.j0 k a3 a7 true a0_0 a0_1 a1_0 a1_1 a2_0 a2_1 a4_0 a4_1 a5_0 a5_1 a6_0 a6_1))) else (self_Used.j0 k a3 a7 true a0_0 a0_1 a1_0 a1_1 a2_0 a2_1 a4_0 a4_1 a5_0 a5_1 a6_0 a6_1))
theorem self_Used.mono_l : ∀ k, (∀ y0 y1 y2 y3 y4 y5 y6 y7 y8 y9 y10 y11 y12 y13 y14, LeO (self_Used.j0 k y0 y1 y2 y3 y4 y5 y6 y7 y8 y9 y10 y11 y12 y13 y14) (self_Used.j0 (k + 1) y0 y1 y2 y3 y4 y5 y6 y7 y8 y9 y10 y11 y12 y13 y14)) ∧ (∀ y0 y1 y2 y3 y4 y5 y6 y7 y8 y9 y10 y11, LeO (self_Used.j1 k y0 y1 y2 y3 y4 y5 y6 y7 y8 y9 y10 y11) (self_Used.j1 (k + 1) y0 y1 y2 y3 y4 y5 y6 y7 y8 y9 y10 y11))
  | 0 => ⟨fun _ _ _ _ _ _ _ _ _ _ _ _ _ _ _ r h => by simp [self_Used.j0] at h, fun _ _ _ _ _ _ _ _ _ _ _ _ r h => by simp [self_Used.j1] at h⟩
  | k + 1 => by
    obtain ⟨ih0, ih1⟩ := self_Used.mono_l k
    refine ⟨?_, ?_⟩
    · intro y0 y1 y2 y3 y4 y5 y6 y7 y8 y9 y10 y11 y12 y13 y14
      unfold self_Used.j0
      repeat' first
      | (with_reducible exact ih0 _ _ _ _ _ _ _ _ _ _ _ _ _ _ _)
      | (with_reducible exact ih1 _ _ _ _ _ _ _ _ _ _ _ _)
      | (with_reducible exact self_Clamp.mono _ _ _ _ _ _ _ _ _ _)
      | (with_reducible exact self_Limit.mono _ _ _ _ _ _ _)
      | (with_reducible exact LeO.refl _)
      | (with_reducible exact LeO.none _)
      | (with_reducible refine LeO.ite ?_ ?_)
      | (with_reducible refine LeO.bind ?_ (fun _ => ?_))
      | exact ih0 _ _ _ _ _ _ _ _ _ _ _ _ _ _ _
      | exact ih1 _ _ _ _ _ _ _ _ _ _ _ _
      | exact self_Clamp.mono _ _ _ _ _ _ _ _ _ _
      | exact self_Limit.mono _ _ _ _ _ _ _
      | exact LeO.none _
      | refine LeO.ite ?_ ?_
      | refine LeO.bind ?_ (fun _ => ?_)
    · intro y0 y1 y2 y3 y4 y5 y6 y7 y8 y9 y10 y11
      unfold self_Used.j1
      repeat' first
      | (with_reducible exact ih0 _ _ _ _ _ _ _ _ _ _ _ _ _ _ _)
      | (with_reducible exact ih1 _ _ _ _ _ _ _ _ _ _ _ _)
      | (with_reducible exact self_Clamp.mono _ _ _ _ _ _ _ _ _ _)
      | (with_reducible exact self_Limit.mono _ _ _ _ _ _ _)
      | (with_reducible exact LeO.refl _)
      | (with_reducible exact LeO.none _)
      | (with_reducible refine LeO.ite ?_ ?_)
      | (with_reducible refine LeO.bind ?_ (fun _ => ?_))
      | exact ih0 _ _ _ _ _ _ _ _ _ _ _ _ _ _ _
      | exact ih1 _ _ _ _ _ _ _ _ _ _ _ _
      | exact self_Clamp.mono _ _ _ _ _ _ _ _ _ _
      | exact self_Limit.mono _ _ _ _ _ _ _
      | exact LeO.none _
      | refine LeO.ite ?_ ?_
      | refine LeO.bind ?_ (fun _ => ?_)
theorem self_Used.mono : ∀ a0 a1 a2 a3 a4 a5 a6 a7 a8 a9 a10 a11 a12 a13 k, LeO (self_Used.f k a0 a1 a2 a3 a4 a5 a6 a7 a8 a9 a10 a11 a12 a13) (self_Used.f (k + 1) a0 a1 a2 a3 a4 a5 a6 a7 a8 a9 a10 a11 a12 a13) := by
  intro a0 a1 a2 a3 a4 a5 a6 a7 a8 a9 a10 a11 a12 a13 k
  obtain ⟨ih0, ih1⟩ := self_Used.mono_l k
  unfold self_Used.f
  repeat' first
      | (with_reducible exact ih0 _ _ _ _ _ _ _ _ _ _ _ _ _ _ _)
      | (with_reducible exact ih1 _ _ _ _ _ _ _ _ _ _ _ _)
      | (with_reducible exact self_Clamp.mono _ _ _ _ _ _ _ _ _ _)
      | (with_reducible exact self_Limit.mono _ _ _ _ _ _ _)
      | (with_reducible exact LeO.refl _)
      | (with_reducible exact LeO.none _)
      | (with_reducible refine LeO.ite ?_ ?_)
      | (with_reducible refine LeO.bind ?_ (fun _ => ?_))
      | exact ih0 _ _ _ _ _ _ _ _ _ _ _ _ _ _ _
      | exact ih1 _ _ _ _ _ _ _ _ _ _ _ _
      | exact self_Clamp.mono _ _ _ _ _ _ _ _ _ _
      | exact self_Limit.mono _ _ _ _ _ _ _
      | exact LeO.none _
      | refine LeO.ite ?_ ?_
      | refine LeO.bind ?_ (fun _ => ?_)
def self_Used.T4 : Bool × List (List Nat × List Nat) := (true, [([], []), ([], []), ([], []), ([0, 1, 2], [0, 1, 2]), ([], []), ([4], [4]), ([], []), ([6], [6]), ([3, 5, 7, 3], [3, 5, 7]), ([8, 8, 0, 1, 2, 3, 4, 5, 6, 7, 8], [8])])
def self_Used.B4 : List Nat := [0, 0, 0, 7, 0, 16, 0, 64, 255, 511]
theorem self_Used.tab4 : rtab .any (opsOf Try.f17 4) = self_Used.T4 := by kernel_rfl
theorem self_Used.bits4 : waitsOk self_Used.T4.2 self_Used.B4 = true := by kernel_rfl
set_option maxHeartbeats 8000000 in
set_option maxRecDepth 100000 in
theorem self_Used.calls (k : Nat) (a0_0 : Int) (a0_1 : Int) (a1_0 : Int) (a1_1 : Int) (a2_0 : Int) (a2_1 : Int) (a3 : Int) (a4_0 : Bool) (a4_1 : Int) (a5_0 : Bool) (a5_1 : Int) (a6_0 : Int) (a6_1 : Int) (a7 : Bool) (r1 : Int) (r2 : Int) (w : World) (h : self_Used.f k a0_0 a0_1 a1_0 a1_1 a2_0 a2_1 a3 a4_0 a4_1 a5_0 a5_1 a6_0 a6_1 a7 = some (r1, r2)) :
    Calls Try.prog 17 #[.agg #[.int .i64 a0_0, .int .i64 a0_1], .agg #[.int .i64 a1_0, .int .i64 a1_1], .agg #[.int .i64 a2_0, .int .i64 a2_1], .int .i64 a3, .agg #[.bool a4_0, .int .i64 a4_1], .agg #[.bool a5_0, .int .i64 a5_1], .agg #[.int .i64 a6_0, .int .i64 a6_1], .bool a7] w fun e w' => e = .returned (.tuple #[.int .i64 r1, .int .i64 r2]) ∧ Below w.heap.size w w' := by
  have hu31 := Try.underlying31
  have hu23 := Try.underlying23
  have hu46 := Try.underlying46
  have HB := Aside0.mk (Below.refl w.heap.size w)
  have H : ((self_isSize.f a3).bind fun t250 => (if t250 = true then ((self_isMargin.f a4_0 a4_1).bind fun t251 => (if t251 = true then ((self_isMargin.f a5_0 a5_1).bind fun t252 => (if t252 = true then ((self_isContent.f a6_0 a6_1).bind fun t253 => (self_Used.j0 k a3 a7 (!t253) a0_0 a0_1 a1_0 a1_1 a2_0 a2_1 a4_0 a4_1 a5_0 a5_1 a6_0 a6_1)) else (self_Used.j0 k a3 a7 true a0_0 a0_1 a1_0 a1_1 a2_0 a2_1 a4_0 a4_1 a5_0 a5_1 a6_0 a6_1))) else (self_Used.j0 k a3 a7 true a0_0 a0_1 a1_0 a1_1 a2_0 a2_1 a4_0 a4_1 a5_0 a5_1 a6_0 a6_1))) else (self_Used.j0 k a3 a7 true a0_0 a0_1 a1_0 a1_1 a2_0 a2_1 a4_0 a4_1 a5_0 a5_1 a6_0 a6_1))) = some (r1, r2) := h
  clear h
  have HC9 := Aside0.mk H
  clear H
  go_enter Try.func17, Try.ntmps17
  go_upto_region 1 with (first | ((with_reducible refine gate_dst (N := 8) rfl ?_); refine box_event ?hg (N := 8) ?hd (cs := #[.int .i64 a0_0, .int .i64 a0_1]) (t := 31) ?hr ?_; (case hd => rfl); (case hg => rfl); (case hr => first | (go_simp; done) | (go_simp; rfl)); intro gb244 hg w10 hbox hb; have n0_ := Aside0.mk (below_step pmBx12_18_ hb); have n1_ := Aside0.mk (hbox); have n2_ := Aside0.mk ((by rw [hg]; exact (below_size pmBx12_18_) : w.heap.size ≤ gb244)); have n3_ := Aside0.mk ((by rw [hg]; exact (below_size pmBx12_18_) : w.heap.size ≤ gb244)); clear HB; have HB := n0_; have BK244 := n1_; have GW244 := n2_; have GE244 := n3_; clear n0_ n1_ n2_ n3_; clear hb hbox hg) | ((with_reducible refine gate_dst (N := 9) rfl ?_); refine box_event ?hg (N := 9) ?hd (cs := #[.int .i64 a1_0, .int .i64 a1_1]) (t := 31) ?hr ?_; (case hd => rfl); (case hg => rfl); (case hr => first | (go_simp; done) | (go_simp; rfl)); intro gb245 hg w11 hbox hb; have n0_ := Aside0.mk (blk_below (g := gb244) (o := .cells #[.int .i64 a0_0, .int .i64 a0_1] 31 (0, 0)) pmBx12_1_ hb); have n1_ := Aside0.mk (below_step pmBx12_16_ hb); have n2_ := Aside0.mk (hbox); have n3_ := Aside0.mk ((by rw [hg]; exact (below_size pmBx12_16_) : w.heap.size ≤ gb245)); have n4_ := Aside0.mk ((by rw [hg]; exact (below_size pmBx12_16_) : w.heap.size ≤ gb245)); have n5_ := Aside0.mk ((pmBx12_10_ : gb244 ≠ gb245)); have n6_ := Aside0.mk ((pmBx12_11_ : gb245 ≠ gb244)); clear BK244; clear HB; have BK244 := n0_; have HB := n1_; have BK245 := n2_; have GW245 := n3_; have GE245 := n4_; have NB244_245 := n5_; have NB245_244 := n6_; clear n0_ n1_ n2_ n3_ n4_ n5_ n6_; clear hb hbox hg) | ((with_reducible refine gate_dst (N := 10) rfl ?_); refine box_event ?hg (N := 10) ?hd (cs := #[.int .i64 a2_0, .int .i64 a2_1]) (t := 31) ?hr ?_; (case hd => rfl); (case hg => rfl); (case hr => first | (go_simp; done) | (go_simp; rfl)); intro gb246 hg w12 hbox hb; have n0_ := Aside0.mk (blk_below (g := gb244) (o := .cells #[.int .i64 a0_0, .int .i64 a0_1] 31 (0, 0)) pmBx12_1_ hb); have n1_ := Aside0.mk (blk_below (g := gb245) (o := .cells #[.int .i64 a1_0, .int .i64 a1_1] 31 (0, 0)) pmBx12_2_ hb); have n2_ := Aside0.mk (below_step pmBx12_13_ hb); have n3_ := Aside0.mk (hbox); have n4_ := Aside0.mk ((by rw [hg]; exact (below_size pmBx12_13_) : w.heap.size ≤ gb246)); have n5_ := Aside0.mk ((by rw [hg]; exact (below_size pmBx12_13_) : w.heap.size ≤ gb246)); have n6_ := Aside0.mk ((pmBx12_10_ : gb244 ≠ gb246)); have n7_ := Aside0.mk ((pmBx12_11_ : gb246 ≠ gb244)); have n8_ := Aside0.mk ((pmBx12_14_ : gb245 ≠ gb246)); have n9_ := Aside0.mk ((pmBx12_15_ : gb246 ≠ gb245)); clear BK244; clear BK245; clear HB; have BK244 := n0_; have BK245 := n1_; have HB := n2_; have BK246 := n3_; have GW246 := n4_; have GE246 := n5_; have NB244_246 := n6_; have NB246_244 := n7_; have NB245_246 := n8_; have NB246_245 := n9_; clear n0_ n1_ n2_ n3_ n4_ n5_ n6_ n7_ n8_ n9_; clear hb hbox hg) | ((with_reducible refine gate_dst (N := 12) rfl ?_); refine box_event ?hg (N := 12) ?hd (cs := #[.bool a4_0, .int .i64 a4_1]) (t := 23) ?hr ?_; (case hd => rfl); (case hg => rfl); (case hr => first | (go_simp; done) | (go_simp; rfl)); intro gb247 hg w13 hbox hb; have n0_ := Aside0.mk (blk_below (g := gb244) (o := .cells #[.int .i64 a0_0, .int .i64 a0_1] 31 (0, 0)) pmBx12_1_ hb); have n1_ := Aside0.mk (blk_below (g := gb245) (o := .cells #[.int .i64 a1_0, .int .i64 a1_1] 31 (0, 0)) pmBx12_2_ hb); have n2_ := Aside0.mk (blk_below (g := gb246) (o := .cells #[.int .i64 a2_0, .int .i64 a2_1] 31 (0, 0)) pmBx12_3_ hb); have n3_ := Aside0.mk (below_step pmBx12_12_ hb); have n4_ := Aside0.mk (hbox); have n5_ := Aside0.mk ((by rw [hg]; exact (below_size pmBx12_12_) : w.heap.size ≤ gb247)); have n6_ := Aside0.mk ((by rw [hg]; exact (below_size pmBx12_12_) : w.heap.size ≤ gb247)); have n7_ := Aside0.mk ((pmBx12_10_ : gb244 ≠ gb247)); have n8_ := Aside0.mk ((pmBx12_11_ : gb247 ≠ gb244)); have n9_ := Aside0.mk ((pmBx12_14_ : gb245 ≠ gb247)); have n10_ := Aside0.mk ((pmBx12_15_ : gb247 ≠ gb245)); have n11_ := Aside0.mk ((pmBx12_20_ : gb246 ≠ gb247)); have n12_ := Aside0.mk ((pmBx12_21_ : gb247 ≠ gb246)); clear BK244; clear BK245; clear BK246; clear HB; have BK244 := n0_; have BK245 := n1_; have BK246 := n2_; have HB := n3_; have BK247 := n4_; have GW247 := n5_; have GE247 := n6_; have NB244_247 := n7_; have NB247_244 := n8_; have NB245_247 := n9_; have NB247_245 := n10_; have NB246_247 := n11_; have NB247_246 := n12_; clear n0_ n1_ n2_ n3_ n4_ n5_ n6_ n7_ n8_ n9_ n10_ n11_ n12_; clear hb hbox hg) | ((with_reducible refine gate_dst (N := 13) rfl ?_); refine box_event ?hg (N := 13) ?hd (cs := #[.bool a5_0, .int .i64 a5_1]) (t := 23) ?hr ?_; (case hd => rfl); (case hg => rfl); (case hr => first | (go_simp; done) | (go_simp; rfl)); intro gb248 hg w14 hbox hb; have n0_ := Aside0.mk (blk_below (g := gb244) (o := .cells #[.int .i64 a0_0, .int .i64 a0_1] 31 (0, 0)) pmBx12_1_ hb); have n1_ := Aside0.mk (blk_below (g := gb245) (o := .cells #[.int .i64 a1_0, .int .i64 a1_1] 31 (0, 0)) pmBx12_2_ hb); have n2_ := Aside0.mk (blk_below (g := gb246) (o := .cells #[.int .i64 a2_0, .int .i64 a2_1] 31 (0, 0)) pmBx12_3_ hb); have n3_ := Aside0.mk (blk_below (g := gb247) (o := .cells #[.bool a4_0, .int .i64 a4_1] 23 (0, 0)) pmBx12_4_ hb); have n4_ := Aside0.mk (below_step pmBx12_9_ hb); have n5_ := Aside0.mk (hbox); have n6_ := Aside0.mk ((by rw [hg]; exact (below_size pmBx12_9_) : w.heap.size ≤ gb248)); have n7_ := Aside0.mk ((by rw [hg]; exact (below_size pmBx12_9_) : w.heap.size ≤ gb248)); have n8_ := Aside0.mk ((pmBx12_10_ : gb244 ≠ gb248)); have n9_ := Aside0.mk ((pmBx12_11_ : gb248 ≠ gb244)); have n10_ := Aside0.mk ((pmBx12_14_ : gb245 ≠ gb248)); have n11_ := Aside0.mk ((pmBx12_15_ : gb248 ≠ gb245)); have n12_ := Aside0.mk ((pmBx12_20_ : gb246 ≠ gb248)); have n13_ := Aside0.mk ((pmBx12_21_ : gb248 ≠ gb246)); have n14_ := Aside0.mk ((by rw [hg]; exact Nat.ne_of_lt (blk_lt (g := gb247) (o := .cells #[.bool a4_0, .int .i64 a4_1] 23 (0, 0)) pmBx12_4_) : gb247 ≠ gb248)); have n15_ := Aside0.mk ((by rw [hg]; exact Nat.ne_of_gt (blk_lt (g := gb247) (o := .cells #[.bool a4_0, .int .i64 a4_1] 23 (0, 0)) pmBx12_4_) : gb248 ≠ gb247)); clear BK244; clear BK245; clear BK246; clear BK247; clear HB; have BK244 := n0_; have BK245 := n1_; have BK246 := n2_; have BK247 := n3_; have HB := n4_; have BK248 := n5_; have GW248 := n6_; have GE248 := n7_; have NB244_248 := n8_; have NB248_244 := n9_; have NB245_248 := n10_; have NB248_245 := n11_; have NB246_248 := n12_; have NB248_246 := n13_; have NB247_248 := n14_; have NB248_247 := n15_; clear n0_ n1_ n2_ n3_ n4_ n5_ n6_ n7_ n8_ n9_ n10_ n11_ n12_ n13_ n14_ n15_; clear hb hbox hg) | ((with_reducible refine gate_dst (N := 14) rfl ?_); refine box_event ?hg (N := 14) ?hd (cs := #[.int .i64 a6_0, .int .i64 a6_1]) (t := 46) ?hr ?_; (case hd => rfl); (case hg => rfl); (case hr => first | (go_simp; done) | (go_simp; rfl)); intro gb249 hg w15 hbox hb; have n0_ := Aside0.mk (blk_below (g := gb244) (o := .cells #[.int .i64 a0_0, .int .i64 a0_1] 31 (0, 0)) pmBx12_1_ hb); have n1_ := Aside0.mk (blk_below (g := gb245) (o := .cells #[.int .i64 a1_0, .int .i64 a1_1] 31 (0, 0)) pmBx12_2_ hb); have n2_ := Aside0.mk (blk_below (g := gb246) (o := .cells #[.int .i64 a2_0, .int .i64 a2_1] 31 (0, 0)) pmBx12_3_ hb); have n3_ := Aside0.mk (blk_below (g := gb247) (o := .cells #[.bool a4_0, .int .i64 a4_1] 23 (0, 0)) pmBx12_4_ hb); have n4_ := Aside0.mk (blk_below (g := gb248) (o := .cells #[.bool a5_0, .int .i64 a5_1] 23 (0, 0)) pmBx12_5_ hb); have n5_ := Aside0.mk (below_step pmBx12_8_ hb); have n6_ := Aside0.mk (hbox); have n7_ := Aside0.mk ((by rw [hg]; exact (below_size pmBx12_8_) : w.heap.size ≤ gb249)); have n8_ := Aside0.mk ((by rw [hg]; exact (below_size pmBx12_8_) : w.heap.size ≤ gb249)); have n9_ := Aside0.mk ((pmBx12_10_ : gb244 ≠ gb249)); have n10_ := Aside0.mk ((pmBx12_11_ : gb249 ≠ gb244)); have n11_ := Aside0.mk ((pmBx12_14_ : gb245 ≠ gb249)); have n12_ := Aside0.mk ((pmBx12_15_ : gb249 ≠ gb245)); have n13_ := Aside0.mk ((pmBx12_20_ : gb246 ≠ gb249)); have n14_ := Aside0.mk ((pmBx12_21_ : gb249 ≠ gb246)); have n15_ := Aside0.mk ((by rw [hg]; exact Nat.ne_of_lt (blk_lt (g := gb247) (o := .cells #[.bool a4_0, .int .i64 a4_1] 23 (0, 0)) pmBx12_4_) : gb247 ≠ gb249)); have n16_ := Aside0.mk ((by rw [hg]; exact Nat.ne_of_gt (blk_lt (g := gb247) (o := .cells #[.bool a4_0, .int .i64 a4_1] 23 (0, 0)) pmBx12_4_) : gb249 ≠ gb247)); have n17_ := Aside0.mk ((by rw [hg]; exact Nat.ne_of_lt (blk_lt (g := gb248) (o := .cells #[.bool a5_0, .int .i64 a5_1] 23 (0, 0)) pmBx12_5_) : gb248 ≠ gb249)); have n18_ := Aside0.mk ((by rw [hg]; exact Nat.ne_of_gt (blk_lt (g := gb248) (o := .cells #[.bool a5_0, .int .i64 a5_1] 23 (0, 0)) pmBx12_5_) : gb249 ≠ gb248)); clear BK244; clear BK245; clear BK246; clear BK247; clear BK248; clear HB; have BK244 := n0_; have BK245 := n1_; have BK246 := n2_; have BK247 := n3_; have BK248 := n4_; have HB := n5_; have BK249 := n6_; have GW249 := n7_; have GE249 := n8_; have NB244_249 := n9_; have NB249_244 := n10_; have NB245_249 := n11_; have NB249_245 := n12_; have NB246_249 := n13_; have NB249_246 := n14_; have NB247_249 := n15_; have NB249_247 := n16_; have NB248_249 := n17_; have NB249_248 := n18_; clear n0_ n1_ n2_ n3_ n4_ n5_ n6_ n7_ n8_ n9_ n10_ n11_ n12_ n13_ n14_ n15_ n16_ n17_ n18_; clear hb hbox hg))
  (try simp only [Act.put, List.setIfInBounds_toArray, List.set_cons_zero, List.set_cons_succ])
  go_cut [38] (fun v38 wc => ∃ (kq : Nat) (x38_8 : Bool), v38 = .bool x38_8 ∧ Aside0 (self_Used.j0 kq a3 a7 x38_8 a0_0 a0_1 a1_0 a1_1 a2_0 a2_1 a4_0 a4_1 a5_0 a5_1 a6_0 a6_1 = some (r1, r2)) ∧ Aside0 (kq ≤ k) ∧ Aside0 (wc.heap[gb244]? = some (.cells #[.int .i64 a0_0, .int .i64 a0_1] 31 (0, 0))) ∧ Aside0 (wc.heap[gb245]? = some (.cells #[.int .i64 a1_0, .int .i64 a1_1] 31 (0, 0))) ∧ Aside0 (wc.heap[gb246]? = some (.cells #[.int .i64 a2_0, .int .i64 a2_1] 31 (0, 0))) ∧ Aside0 (wc.heap[gb247]? = some (.cells #[.bool a4_0, .int .i64 a4_1] 23 (0, 0))) ∧ Aside0 (wc.heap[gb248]? = some (.cells #[.bool a5_0, .int .i64 a5_1] 23 (0, 0))) ∧ Aside0 (wc.heap[gb249]? = some (.cells #[.int .i64 a6_0, .int .i64 a6_1] 46 (0, 0))) ∧ Aside0 (Below w.heap.size w wc))
  case first =>
    have H := HC9.out
    clear HC9
    replace H := Option.bind_eq_some_iff.mp H
    obtain ⟨t250, A160, H⟩ := H
    replace H : (if t250 = true then ((self_isMargin.f a4_0 a4_1).bind fun t251 => (if t251 = true then ((self_isMargin.f a5_0 a5_1).bind fun t252 => (if t252 = true then ((self_isContent.f a6_0 a6_1).bind fun t253 => (self_Used.j0 k a3 a7 (!t253) a0_0 a0_1 a1_0 a1_1 a2_0 a2_1 a4_0 a4_1 a5_0 a5_1 a6_0 a6_1)) else (self_Used.j0 k a3 a7 true a0_0 a0_1 a1_0 a1_1 a2_0 a2_1 a4_0 a4_1 a5_0 a5_1 a6_0 a6_1))) else (self_Used.j0 k a3 a7 true a0_0 a0_1 a1_0 a1_1 a2_0 a2_1 a4_0 a4_1 a5_0 a5_1 a6_0 a6_1))) else (self_Used.j0 k a3 a7 true a0_0 a0_1 a1_0 a1_1 a2_0 a2_1 a4_0 a4_1 a5_0 a5_1 a6_0 a6_1)) = some (r1, r2) := H
    have A16 := Aside0.mk A160
    clear A160
    by_cases c17 : t250 = true
    · subst c17
      have H1 : ((self_isMargin.f a4_0 a4_1).bind fun t251 => (if t251 = true then ((self_isMargin.f a5_0 a5_1).bind fun t252 => (if t252 = true then ((self_isContent.f a6_0 a6_1).bind fun t253 => (self_Used.j0 k a3 a7 (!t253) a0_0 a0_1 a1_0 a1_1 a2_0 a2_1 a4_0 a4_1 a5_0 a5_1 a6_0 a6_1)) else (self_Used.j0 k a3 a7 true a0_0 a0_1 a1_0 a1_1 a2_0 a2_1 a4_0 a4_1 a5_0 a5_1 a6_0 a6_1))) else (self_Used.j0 k a3 a7 true a0_0 a0_1 a1_0 a1_1 a2_0 a2_1 a4_0 a4_1 a5_0 a5_1 a6_0 a6_1))) = some (r1, r2) := by rw [if_pos rfl] at H; exact H
      clear H
      have H := H1
      clear H1
      replace H := Option.bind_eq_some_iff.mp H
      obtain ⟨t251, A180, H⟩ := H
      replace H : (if t251 = true then ((self_isMargin.f a5_0 a5_1).bind fun t252 => (if t252 = true then ((self_isContent.f a6_0 a6_1).bind fun t253 => (self_Used.j0 k a3 a7 (!t253) a0_0 a0_1 a1_0 a1_1 a2_0 a2_1 a4_0 a4_1 a5_0 a5_1 a6_0 a6_1)) else (self_Used.j0 k a3 a7 true a0_0 a0_1 a1_0 a1_1 a2_0 a2_1 a4_0 a4_1 a5_0 a5_1 a6_0 a6_1))) else (self_Used.j0 k a3 a7 true a0_0 a0_1 a1_0 a1_1 a2_0 a2_1 a4_0 a4_1 a5_0 a5_1 a6_0 a6_1)) = some (r1, r2) := H
      have A18 := Aside0.mk A180
      clear A180
      by_cases c19 : t251 = true
      · subst c19
        have H1 : ((self_isMargin.f a5_0 a5_1).bind fun t252 => (if t252 = true then ((self_isContent.f a6_0 a6_1).bind fun t253 => (self_Used.j0 k a3 a7 (!t253) a0_0 a0_1 a1_0 a1_1 a2_0 a2_1 a4_0 a4_1 a5_0 a5_1 a6_0 a6_1)) else (self_Used.j0 k a3 a7 true a0_0 a0_1 a1_0 a1_1 a2_0 a2_1 a4_0 a4_1 a5_0 a5_1 a6_0 a6_1))) = some (r1, r2) := by rw [if_pos rfl] at H; exact H
        clear H
        have H := H1
        clear H1
        replace H := Option.bind_eq_some_iff.mp H
        obtain ⟨t252, A200, H⟩ := H
        replace H : (if t252 = true then ((self_isContent.f a6_0 a6_1).bind fun t253 => (self_Used.j0 k a3 a7 (!t253) a0_0 a0_1 a1_0 a1_1 a2_0 a2_1 a4_0 a4_1 a5_0 a5_1 a6_0 a6_1)) else (self_Used.j0 k a3 a7 true a0_0 a0_1 a1_0 a1_1 a2_0 a2_1 a4_0 a4_1 a5_0 a5_1 a6_0 a6_1)) = some (r1, r2) := H
        have A20 := Aside0.mk A200
        clear A200
        by_cases c21 : t252 = true
        · subst c21
          have H1 : ((self_isContent.f a6_0 a6_1).bind fun t253 => (self_Used.j0 k a3 a7 (!t253) a0_0 a0_1 a1_0 a1_1 a2_0 a2_1 a4_0 a4_1 a5_0 a5_1 a6_0 a6_1)) = some (r1, r2) := by rw [if_pos rfl] at H; exact H
          clear H
          have H := H1
          clear H1
          replace H := Option.bind_eq_some_iff.mp H
          obtain ⟨t253, A220, H⟩ := H
          replace H : (self_Used.j0 k a3 a7 (!t253) a0_0 a0_1 a1_0 a1_1 a2_0 a2_1 a4_0 a4_1 a5_0 a5_1 a6_0 a6_1) = some (r1, r2) := H
          have A22 := Aside0.mk A220
          clear A220
          have H' := Aside0.mk H
          clear H
          go_wp2_with (first | ((with_reducible refine gate_callee (f := 22) rfl ?_); refine goesL_ (some 22) rfl rfl Try.func22 pmBx12_19_ rfl #[.int .i64 a3] rfl pmBx12_7_ ?_; (with_reducible refine (self_isSize.calls a3 true _ A16.out).mono ?_); rintro e w' ⟨rfl, ⟨nd, rfl⟩⟩; refine ⟨_, rfl, ?_⟩; have hnb23 := NB247_244.out; have hnc23 := NB244_247.out; have hnb24 := NB247_245.out; have hnc24 := NB245_247.out; have hnb25 := NB247_246.out; have hnc25 := NB246_247.out; have hnb26 := NB247_248.out; have hnc26 := NB248_247.out; have hnb27 := NB247_249.out; have hnc27 := NB249_247.out; have hcz28_0 : w15.cell? ⟨gb247, 0, none⟩ = some (.bool a4_0) := (blk_cell BK247.out 0).trans rfl; have hcz28_1 : w15.cell? ⟨gb247, 1, none⟩ = some (.int .i64 a4_1) := (blk_cell BK247.out 1).trans rfl; have hfz28_0 := blk_frozen BK247.out 0; have hfz28_1 := blk_frozen BK247.out 1) | (go_at_call 23; (with_reducible refine (self_isMargin.calls a4_0 a4_1 true _ A18.out).mono ?_); rintro e w29 ⟨rfl, hb⟩; have n0_ := Aside0.mk (blk_below (g := gb244) (o := .cells #[.int .i64 a0_0, .int .i64 a0_1] 31 (0, 0)) pmBx12_1_ hb); have n1_ := Aside0.mk (blk_below (g := gb245) (o := .cells #[.int .i64 a1_0, .int .i64 a1_1] 31 (0, 0)) pmBx12_2_ hb); have n2_ := Aside0.mk (blk_below (g := gb246) (o := .cells #[.int .i64 a2_0, .int .i64 a2_1] 31 (0, 0)) pmBx12_3_ hb); have n3_ := Aside0.mk (blk_below (g := gb247) (o := .cells #[.bool a4_0, .int .i64 a4_1] 23 (0, 0)) pmBx12_4_ hb); have n4_ := Aside0.mk (blk_below (g := gb248) (o := .cells #[.bool a5_0, .int .i64 a5_1] 23 (0, 0)) pmBx12_5_ hb); have n5_ := Aside0.mk (blk_below (g := gb249) (o := .cells #[.int .i64 a6_0, .int .i64 a6_1] 46 (0, 0)) pmBx12_6_ hb); have n6_ := Aside0.mk (below_step pmBx12_0_ hb); clear BK244; clear BK245; clear BK246; clear BK247; clear BK248; clear BK249; clear HB; have BK244 := n0_; have BK245 := n1_; have BK246 := n2_; have BK247 := n3_; have BK248 := n4_; have BK249 := n5_; have HB := n6_; clear n0_ n1_ n2_ n3_ n4_ n5_ n6_; (try clear hb); (try clear hb2); (try clear hk); (try clear hi); have hnb30 := NB248_244.out; have hnc30 := NB244_248.out; have hnb31 := NB248_245.out; have hnc31 := NB245_248.out; have hnb32 := NB248_246.out; have hnc32 := NB246_248.out; have hnb33 := NB248_249.out; have hnc33 := NB249_248.out; have hcz34_0 : w29.cell? ⟨gb248, 0, none⟩ = some (.bool a5_0) := (blk_cell BK248.out 0).trans rfl; have hcz34_1 : w29.cell? ⟨gb248, 1, none⟩ = some (.int .i64 a5_1) := (blk_cell BK248.out 1).trans rfl; have hfz34_0 := blk_frozen BK248.out 0; have hfz34_1 := blk_frozen BK248.out 1) | (go_at_call 23; (with_reducible refine (self_isMargin.calls a5_0 a5_1 true _ A20.out).mono ?_); rintro e w35 ⟨rfl, hb⟩; have n0_ := Aside0.mk (blk_below (g := gb244) (o := .cells #[.int .i64 a0_0, .int .i64 a0_1] 31 (0, 0)) pmBx12_1_ hb); have n1_ := Aside0.mk (blk_below (g := gb245) (o := .cells #[.int .i64 a1_0, .int .i64 a1_1] 31 (0, 0)) pmBx12_2_ hb); have n2_ := Aside0.mk (blk_below (g := gb246) (o := .cells #[.int .i64 a2_0, .int .i64 a2_1] 31 (0, 0)) pmBx12_3_ hb); have n3_ := Aside0.mk (blk_below (g := gb247) (o := .cells #[.bool a4_0, .int .i64 a4_1] 23 (0, 0)) pmBx12_4_ hb); have n4_ := Aside0.mk (blk_below (g := gb248) (o := .cells #[.bool a5_0, .int .i64 a5_1] 23 (0, 0)) pmBx12_5_ hb); have n5_ := Aside0.mk (blk_below (g := gb249) (o := .cells #[.int .i64 a6_0, .int .i64 a6_1] 46 (0, 0)) pmBx12_6_ hb); have n6_ := Aside0.mk (below_step pmBx12_0_ hb); clear BK244; clear BK245; clear BK246; clear BK247; clear BK248; clear BK249; clear HB; have BK244 := n0_; have BK245 := n1_; have BK246 := n2_; have BK247 := n3_; have BK248 := n4_; have BK249 := n5_; have HB := n6_; clear n0_ n1_ n2_ n3_ n4_ n5_ n6_; (try clear hb); (try clear hb2); (try clear hk); (try clear hi); have hnb36 := NB249_244.out; have hnc36 := NB244_249.out; have hnb37 := NB249_245.out; have hnc37 := NB245_249.out; have hnb38 := NB249_246.out; have hnc38 := NB246_249.out; have hcz39_0 : w35.cell? ⟨gb249, 0, none⟩ = some (.int .i64 a6_0) := (blk_cell BK249.out 0).trans rfl; have hcz39_1 : w35.cell? ⟨gb249, 1, none⟩ = some (.int .i64 a6_1) := (blk_cell BK249.out 1).trans rfl; have hfz39_0 := blk_frozen BK249.out 0; have hfz39_1 := blk_frozen BK249.out 1) | (go_at_call 29; (with_reducible refine (self_isContent.calls a6_0 a6_1 t253 _ A22.out).mono ?_); rintro e w40 ⟨rfl, hb⟩; have n0_ := Aside0.mk (blk_below (g := gb244) (o := .cells #[.int .i64 a0_0, .int .i64 a0_1] 31 (0, 0)) pmBx12_1_ hb); have n1_ := Aside0.mk (blk_below (g := gb245) (o := .cells #[.int .i64 a1_0, .int .i64 a1_1] 31 (0, 0)) pmBx12_2_ hb); have n2_ := Aside0.mk (blk_below (g := gb246) (o := .cells #[.int .i64 a2_0, .int .i64 a2_1] 31 (0, 0)) pmBx12_3_ hb); have n3_ := Aside0.mk (blk_below (g := gb247) (o := .cells #[.bool a4_0, .int .i64 a4_1] 23 (0, 0)) pmBx12_4_ hb); have n4_ := Aside0.mk (blk_below (g := gb248) (o := .cells #[.bool a5_0, .int .i64 a5_1] 23 (0, 0)) pmBx12_5_ hb); have n5_ := Aside0.mk (blk_below (g := gb249) (o := .cells #[.int .i64 a6_0, .int .i64 a6_1] 46 (0, 0)) pmBx12_6_ hb); have n6_ := Aside0.mk (below_step pmBx12_0_ hb); clear BK244; clear BK245; clear BK246; clear BK247; clear BK248; clear BK249; clear HB; have BK244 := n0_; have BK245 := n1_; have BK246 := n2_; have BK247 := n3_; have BK248 := n4_; have BK249 := n5_; have HB := n6_; clear n0_ n1_ n2_ n3_ n4_ n5_ n6_; (try clear hb); (try clear hb2); (try clear hk); (try clear hi)))
          go_meet
          case rel => exact ⟨_, (!t253), pmBx12_17_, H', ⟨by first | omega | exact Nat.le_refl _⟩, ⟨pmBx12_1_⟩, ⟨pmBx12_2_⟩, ⟨pmBx12_3_⟩, ⟨pmBx12_4_⟩, ⟨pmBx12_5_⟩, ⟨pmBx12_6_⟩, ⟨pmBx12_0_⟩⟩
        · replace c21 := Bool.eq_false_iff.mpr c21
          subst c21
          have H1 : (self_Used.j0 k a3 a7 true a0_0 a0_1 a1_0 a1_1 a2_0 a2_1 a4_0 a4_1 a5_0 a5_1 a6_0 a6_1) = some (r1, r2) := by rw [if_neg (show ¬ (false = true) by decide)] at H; exact H
          clear H
          have H := H1
          clear H1
          have H' := Aside0.mk H
          clear H
          go_wp2_with (first | ((with_reducible refine gate_callee (f := 22) rfl ?_); refine goesL_ (some 22) rfl rfl Try.func22 pmBx12_19_ rfl #[.int .i64 a3] rfl pmBx12_7_ ?_; (with_reducible refine (self_isSize.calls a3 true _ A16.out).mono ?_); rintro e w' ⟨rfl, ⟨nd, rfl⟩⟩; refine ⟨_, rfl, ?_⟩; have hnb41 := NB247_244.out; have hnc41 := NB244_247.out; have hnb42 := NB247_245.out; have hnc42 := NB245_247.out; have hnb43 := NB247_246.out; have hnc43 := NB246_247.out; have hnb44 := NB247_248.out; have hnc44 := NB248_247.out; have hnb45 := NB247_249.out; have hnc45 := NB249_247.out; have hcz46_0 : w15.cell? ⟨gb247, 0, none⟩ = some (.bool a4_0) := (blk_cell BK247.out 0).trans rfl; have hcz46_1 : w15.cell? ⟨gb247, 1, none⟩ = some (.int .i64 a4_1) := (blk_cell BK247.out 1).trans rfl; have hfz46_0 := blk_frozen BK247.out 0; have hfz46_1 := blk_frozen BK247.out 1) | (go_at_call 23; (with_reducible refine (self_isMargin.calls a4_0 a4_1 true _ A18.out).mono ?_); rintro e w47 ⟨rfl, hb⟩; have n0_ := Aside0.mk (blk_below (g := gb244) (o := .cells #[.int .i64 a0_0, .int .i64 a0_1] 31 (0, 0)) pmBx12_1_ hb); have n1_ := Aside0.mk (blk_below (g := gb245) (o := .cells #[.int .i64 a1_0, .int .i64 a1_1] 31 (0, 0)) pmBx12_2_ hb); have n2_ := Aside0.mk (blk_below (g := gb246) (o := .cells #[.int .i64 a2_0, .int .i64 a2_1] 31 (0, 0)) pmBx12_3_ hb); have n3_ := Aside0.mk (blk_below (g := gb247) (o := .cells #[.bool a4_0, .int .i64 a4_1] 23 (0, 0)) pmBx12_4_ hb); have n4_ := Aside0.mk (blk_below (g := gb248) (o := .cells #[.bool a5_0, .int .i64 a5_1] 23 (0, 0)) pmBx12_5_ hb); have n5_ := Aside0.mk (blk_below (g := gb249) (o := .cells #[.int .i64 a6_0, .int .i64 a6_1] 46 (0, 0)) pmBx12_6_ hb); have n6_ := Aside0.mk (below_step pmBx12_0_ hb); clear BK244; clear BK245; clear BK246; clear BK247; clear BK248; clear BK249; clear HB; have BK244 := n0_; have BK245 := n1_; have BK246 := n2_; have BK247 := n3_; have BK248 := n4_; have BK249 := n5_; have HB := n6_; clear n0_ n1_ n2_ n3_ n4_ n5_ n6_; (try clear hb); (try clear hb2); (try clear hk); (try clear hi); have hnb48 := NB248_244.out; have hnc48 := NB244_248.out; have hnb49 := NB248_245.out; have hnc49 := NB245_248.out; have hnb50 := NB248_246.out; have hnc50 := NB246_248.out; have hnb51 := NB248_249.out; have hnc51 := NB249_248.out; have hcz52_0 : w47.cell? ⟨gb248, 0, none⟩ = some (.bool a5_0) := (blk_cell BK248.out 0).trans rfl; have hcz52_1 : w47.cell? ⟨gb248, 1, none⟩ = some (.int .i64 a5_1) := (blk_cell BK248.out 1).trans rfl; have hfz52_0 := blk_frozen BK248.out 0; have hfz52_1 := blk_frozen BK248.out 1) | (go_at_call 23; (with_reducible refine (self_isMargin.calls a5_0 a5_1 false _ A20.out).mono ?_); rintro e w53 ⟨rfl, hb⟩; have n0_ := Aside0.mk (blk_below (g := gb244) (o := .cells #[.int .i64 a0_0, .int .i64 a0_1] 31 (0, 0)) pmBx12_1_ hb); have n1_ := Aside0.mk (blk_below (g := gb245) (o := .cells #[.int .i64 a1_0, .int .i64 a1_1] 31 (0, 0)) pmBx12_2_ hb); have n2_ := Aside0.mk (blk_below (g := gb246) (o := .cells #[.int .i64 a2_0, .int .i64 a2_1] 31 (0, 0)) pmBx12_3_ hb); have n3_ := Aside0.mk (blk_below (g := gb247) (o := .cells #[.bool a4_0, .int .i64 a4_1] 23 (0, 0)) pmBx12_4_ hb); have n4_ := Aside0.mk (blk_below (g := gb248) (o := .cells #[.bool a5_0, .int .i64 a5_1] 23 (0, 0)) pmBx12_5_ hb); have n5_ := Aside0.mk (blk_below (g := gb249) (o := .cells #[.int .i64 a6_0, .int .i64 a6_1] 46 (0, 0)) pmBx12_6_ hb); have n6_ := Aside0.mk (below_step pmBx12_0_ hb); clear BK244; clear BK245; clear BK246; clear BK247; clear BK248; clear BK249; clear HB; have BK244 := n0_; have BK245 := n1_; have BK246 := n2_; have BK247 := n3_; have BK248 := n4_; have BK249 := n5_; have HB := n6_; clear n0_ n1_ n2_ n3_ n4_ n5_ n6_; (try clear hb); (try clear hb2); (try clear hk); (try clear hi)))
          go_meet
          case rel => exact ⟨_, (true), pmBx12_17_, H', ⟨by first | omega | exact Nat.le_refl _⟩, ⟨pmBx12_1_⟩, ⟨pmBx12_2_⟩, ⟨pmBx12_3_⟩, ⟨pmBx12_4_⟩, ⟨pmBx12_5_⟩, ⟨pmBx12_6_⟩, ⟨pmBx12_0_⟩⟩
      · replace c19 := Bool.eq_false_iff.mpr c19
        subst c19
        have H1 : (self_Used.j0 k a3 a7 true a0_0 a0_1 a1_0 a1_1 a2_0 a2_1 a4_0 a4_1 a5_0 a5_1 a6_0 a6_1) = some (r1, r2) := by rw [if_neg (show ¬ (false = true) by decide)] at H; exact H
        clear H
        have H := H1
        clear H1
        have H' := Aside0.mk H
        clear H
        go_wp2_with (first | ((with_reducible refine gate_callee (f := 22) rfl ?_); refine goesL_ (some 22) rfl rfl Try.func22 pmBx12_19_ rfl #[.int .i64 a3] rfl pmBx12_7_ ?_; (with_reducible refine (self_isSize.calls a3 true _ A16.out).mono ?_); rintro e w' ⟨rfl, ⟨nd, rfl⟩⟩; refine ⟨_, rfl, ?_⟩; have hnb54 := NB247_244.out; have hnc54 := NB244_247.out; have hnb55 := NB247_245.out; have hnc55 := NB245_247.out; have hnb56 := NB247_246.out; have hnc56 := NB246_247.out; have hnb57 := NB247_248.out; have hnc57 := NB248_247.out; have hnb58 := NB247_249.out; have hnc58 := NB249_247.out; have hcz59_0 : w15.cell? ⟨gb247, 0, none⟩ = some (.bool a4_0) := (blk_cell BK247.out 0).trans rfl; have hcz59_1 : w15.cell? ⟨gb247, 1, none⟩ = some (.int .i64 a4_1) := (blk_cell BK247.out 1).trans rfl; have hfz59_0 := blk_frozen BK247.out 0; have hfz59_1 := blk_frozen BK247.out 1) | (go_at_call 23; (with_reducible refine (self_isMargin.calls a4_0 a4_1 false _ A18.out).mono ?_); rintro e w60 ⟨rfl, hb⟩; have n0_ := Aside0.mk (blk_below (g := gb244) (o := .cells #[.int .i64 a0_0, .int .i64 a0_1] 31 (0, 0)) pmBx12_1_ hb); have n1_ := Aside0.mk (blk_below (g := gb245) (o := .cells #[.int .i64 a1_0, .int .i64 a1_1] 31 (0, 0)) pmBx12_2_ hb); have n2_ := Aside0.mk (blk_below (g := gb246) (o := .cells #[.int .i64 a2_0, .int .i64 a2_1] 31 (0, 0)) pmBx12_3_ hb); have n3_ := Aside0.mk (blk_below (g := gb247) (o := .cells #[.bool a4_0, .int .i64 a4_1] 23 (0, 0)) pmBx12_4_ hb); have n4_ := Aside0.mk (blk_below (g := gb248) (o := .cells #[.bool a5_0, .int .i64 a5_1] 23 (0, 0)) pmBx12_5_ hb); have n5_ := Aside0.mk (blk_below (g := gb249) (o := .cells #[.int .i64 a6_0, .int .i64 a6_1] 46 (0, 0)) pmBx12_6_ hb); have n6_ := Aside0.mk (below_step pmBx12_0_ hb); clear BK244; clear BK245; clear BK246; clear BK247; clear BK248; clear BK249; clear HB; have BK244 := n0_; have BK245 := n1_; have BK246 := n2_; have BK247 := n3_; have BK248 := n4_; have BK249 := n5_; have HB := n6_; clear n0_ n1_ n2_ n3_ n4_ n5_ n6_; (try clear hb); (try clear hb2); (try clear hk); (try clear hi)))
        go_meet
        case rel => exact ⟨_, (true), pmBx12_17_, H', ⟨by first | omega | exact Nat.le_refl _⟩, ⟨pmBx12_1_⟩, ⟨pmBx12_2_⟩, ⟨pmBx12_3_⟩, ⟨pmBx12_4_⟩, ⟨pmBx12_5_⟩, ⟨pmBx12_6_⟩, ⟨pmBx12_0_⟩⟩
    · replace c17 := Bool.eq_false_iff.mpr c17
      subst c17
      have H1 : (self_Used.j0 k a3 a7 true a0_0 a0_1 a1_0 a1_1 a2_0 a2_1 a4_0 a4_1 a5_0 a5_1 a6_0 a6_1) = some (r1, r2) := by rw [if_neg (show ¬ (false = true) by decide)] at H; exact H
      clear H
      have H := H1
      clear H1
      have H' := Aside0.mk H
      clear H
      go_wp2_with (first | ((with_reducible refine gate_callee (f := 22) rfl ?_); refine goesL_ (some 22) rfl rfl Try.func22 pmBx12_19_ rfl #[.int .i64 a3] rfl pmBx12_7_ ?_; (with_reducible refine (self_isSize.calls a3 false _ A16.out).mono ?_); rintro e w' ⟨rfl, ⟨nd, rfl⟩⟩; refine ⟨_, rfl, ?_⟩))
      go_meet
      case rel => exact ⟨_, (true), pmBx12_17_, H', ⟨by first | omega | exact Nat.le_refl _⟩, ⟨pmBx12_1_⟩, ⟨pmBx12_2_⟩, ⟨pmBx12_3_⟩, ⟨pmBx12_4_⟩, ⟨pmBx12_5_⟩, ⟨pmBx12_6_⟩, ⟨pmBx12_0_⟩⟩
  case rest =>
    clear HC9
    try clear c1
    try clear c2
    try clear p2
    try clear c3
    try clear c4
    try clear c5
    try clear c17
    try clear c19
    try clear c21
    try clear c22
    try clear c23
    try clear c24
    try clear c25
    try clear c26
    try clear c27
    try clear c30
    try clear c31
    try clear c32
    try clear c33
    try clear c36
    try clear c37
    try clear c38
    try clear c41
    try clear c42
    try clear c43
    try clear c44
    try clear c45
    try clear c48
    try clear c49
    try clear c50
    try clear c51
    try clear c54
    try clear c55
    try clear c56
    try clear c57
    try clear c58
    try clear hcz28_0
    try clear hcz28_1
    try clear hcz34_0
    try clear hcz34_1
    try clear hcz39_0
    try clear hcz39_1
    try clear hcz46_0
    try clear hcz46_1
    try clear hcz52_0
    try clear hcz52_1
    try clear hcz59_0
    try clear hcz59_1
    try clear hfz28_0
    try clear hfz28_1
    try clear hfz34_0
    try clear hfz34_1
    try clear hfz39_0
    try clear hfz39_1
    try clear hfz46_0
    try clear hfz46_1
    try clear hfz52_0
    try clear hfz52_1
    try clear hfz59_0
    try clear hfz59_1
    obtain ⟨kq, x38_8, rfl, HA, HJ8, BK244, BK245, BK246, BK247, BK248, BK249, HB⟩ := hcut
    cases kq with
    | zero => exact absurd HA.out (by simp [self_Used.j0])
    | succ kj8 =>
      have H := HA.out
      clear HA
      simp only [self_Used.j0] at H
      by_cases c61 : x38_8 = true
      · subst c61
        have H1 : (some (0, 2)) = some (r1, r2) := by rw [if_pos rfl] at H; exact H
        clear H
        have H := H1
        clear H1
        simp only [Option.some.injEq, Prod.mk.injEq] at H
        obtain ⟨rfl, rfl⟩ := H
        go_wp2
        go_ret2
        exact ⟨by first | rfl | (simp [errW_none, errW_some] <;> rfl) | (simp [*, errW_none, errW_some] <;> rfl), by repeat (first | (with_reducible first | exact HB.out | apply below_alloc | apply pw_below_drewN | apply below_drew1 | refine below_set ?_ GE244.out | refine below_set ?_ GE245.out | refine below_set ?_ GE246.out | refine below_set ?_ GE247.out | refine below_set ?_ GE248.out | refine below_set ?_ GE249.out) | exact HB.out)⟩
      · replace c61 := Bool.eq_false_iff.mpr c61
        subst c61
        have H1 : ((self_Limit.f kj8 a0_0 a0_1 a3 true a6_0 a6_1).bind fun bt254 => (if bt254.2.2 = 0 then (if bt254.2.1 = true then ((self_Clamp.f kj8 bt254.1 a1_0 a1_1 a2_0 a2_1 a3 true a6_0 a6_1).bind fun bt257 => (some (bt257.1, bt257.2))) else (if a7 = true then (if (!a4_0) = true then (self_Used.j1 kj8 a3 (!a5_0) a1_0 a1_1 a2_0 a2_1 a4_0 a4_1 a5_0 a5_1 a6_0 a6_1) else (self_Used.j1 kj8 a3 false a1_0 a1_1 a2_0 a2_1 a4_0 a4_1 a5_0 a5_1 a6_0 a6_1)) else (self_Used.j1 kj8 a3 false a1_0 a1_1 a2_0 a2_1 a4_0 a4_1 a5_0 a5_1 a6_0 a6_1))) else (some (0, bt254.2.2)))) = some (r1, r2) := by rw [if_neg (show ¬ (false = true) by decide)] at H; exact H
        clear H
        have H := H1
        clear H1
        replace H := Option.bind_eq_some_iff.mp H
        obtain ⟨⟨t254, t255, t256⟩, A620, H⟩ := H
        replace H : (if t256 = 0 then (if t255 = true then ((self_Clamp.f kj8 t254 a1_0 a1_1 a2_0 a2_1 a3 true a6_0 a6_1).bind fun bt257 => (some (bt257.1, bt257.2))) else (if a7 = true then (if (!a4_0) = true then (self_Used.j1 kj8 a3 (!a5_0) a1_0 a1_1 a2_0 a2_1 a4_0 a4_1 a5_0 a5_1 a6_0 a6_1) else (self_Used.j1 kj8 a3 false a1_0 a1_1 a2_0 a2_1 a4_0 a4_1 a5_0 a5_1 a6_0 a6_1)) else (self_Used.j1 kj8 a3 false a1_0 a1_1 a2_0 a2_1 a4_0 a4_1 a5_0 a5_1 a6_0 a6_1))) else (some (0, t256))) = some (r1, r2) := H
        have A62 := Aside0.mk A620
        clear A620
        by_cases c63 : t256 = 0
        · rw [if_pos c63] at H
          have c63b0 : (t256 == 0) = true := beq_iff_eq.mpr c63
          have c63b1 : (t256 != 0) = false := bne_eq_false_iff_eq.mpr c63
          clear c63
          by_cases c64 : t255 = true
          · subst c64
            have H1 : ((self_Clamp.f kj8 t254 a1_0 a1_1 a2_0 a2_1 a3 true a6_0 a6_1).bind fun bt257 => (some (bt257.1, bt257.2))) = some (r1, r2) := by rw [if_pos rfl] at H; exact H
            clear H
            have H := H1
            clear H1
            replace H := Option.bind_eq_some_iff.mp H
            obtain ⟨⟨t257, t258⟩, A650, H⟩ := H
            replace H : (some (t257, t258)) = some (r1, r2) := H
            have A65 := Aside0.mk A650
            clear A650
            simp only [Option.some.injEq, Prod.mk.injEq] at H
            obtain ⟨rfl, rfl⟩ := H
            have hnb66 := NB244_245.out
            have hnc66 := NB245_244.out
            have hnb67 := NB244_246.out
            have hnc67 := NB246_244.out
            have hnb68 := NB244_247.out
            have hnc68 := NB247_244.out
            have hnb69 := NB244_248.out
            have hnc69 := NB248_244.out
            have hnb70 := NB244_249.out
            have hnc70 := NB249_244.out
            have hcz71_0 : wc.cell? ⟨gb244, 0, none⟩ = some (.int .i64 a0_0) := (blk_cell BK244.out 0).trans rfl
            have hcz71_1 : wc.cell? ⟨gb244, 1, none⟩ = some (.int .i64 a0_1) := (blk_cell BK244.out 1).trans rfl
            have hfz71_0 := blk_frozen BK244.out 0
            have hfz71_1 := blk_frozen BK244.out 1
            have hnb72 := NB249_245.out
            have hnc72 := NB245_249.out
            have hnb73 := NB249_246.out
            have hnc73 := NB246_249.out
            have hnb74 := NB249_247.out
            have hnc74 := NB247_249.out
            have hnb75 := NB249_248.out
            have hnc75 := NB248_249.out
            have hcz76_0 : wc.cell? ⟨gb249, 0, none⟩ = some (.int .i64 a6_0) := (blk_cell BK249.out 0).trans rfl
            have hcz76_1 : wc.cell? ⟨gb249, 1, none⟩ = some (.int .i64 a6_1) := (blk_cell BK249.out 1).trans rfl
            have hfz76_0 := blk_frozen BK249.out 0
            have hfz76_1 := blk_frozen BK249.out 1
            go_wp2_with (first | ((with_reducible refine gate_callee (f := 13) rfl ?_); refine goesL_ (some 43) rfl rfl Try.func13 pmBx12_19_ rfl #[.agg #[.int .i64 a0_0, .int .i64 a0_1], .int .i64 a3, .bool true, .agg #[.int .i64 a6_0, .int .i64 a6_1]] rfl pmBx12_7_ ?_; (with_reducible refine (self_Limit.calls kj8 a0_0 a0_1 a3 true a6_0 a6_1 t254 true t256 _ A62.out).mono ?_); rintro e w77 ⟨rfl, hb⟩; refine ⟨_, rfl, ?_⟩; have n0_ := Aside0.mk (blk_below (g := gb244) (o := .cells #[.int .i64 a0_0, .int .i64 a0_1] 31 (0, 0)) pmBx12_1_ hb); have n1_ := Aside0.mk (blk_below (g := gb245) (o := .cells #[.int .i64 a1_0, .int .i64 a1_1] 31 (0, 0)) pmBx12_2_ hb); have n2_ := Aside0.mk (blk_below (g := gb246) (o := .cells #[.int .i64 a2_0, .int .i64 a2_1] 31 (0, 0)) pmBx12_3_ hb); have n3_ := Aside0.mk (blk_below (g := gb247) (o := .cells #[.bool a4_0, .int .i64 a4_1] 23 (0, 0)) pmBx12_4_ hb); have n4_ := Aside0.mk (blk_below (g := gb248) (o := .cells #[.bool a5_0, .int .i64 a5_1] 23 (0, 0)) pmBx12_5_ hb); have n5_ := Aside0.mk (blk_below (g := gb249) (o := .cells #[.int .i64 a6_0, .int .i64 a6_1] 46 (0, 0)) pmBx12_6_ hb); have n6_ := Aside0.mk (below_step pmBx12_0_ hb); clear BK244; clear BK245; clear BK246; clear BK247; clear BK248; clear BK249; clear HB; have BK244 := n0_; have BK245 := n1_; have BK246 := n2_; have BK247 := n3_; have BK248 := n4_; have BK249 := n5_; have HB := n6_; clear n0_ n1_ n2_ n3_ n4_ n5_ n6_; (try clear hb); (try clear hb2); (try clear hk); (try clear hi); have hnb78 := NB245_246.out; have hnc78 := NB246_245.out; have hnb79 := NB245_247.out; have hnc79 := NB247_245.out; have hnb80 := NB245_248.out; have hnc80 := NB248_245.out; have hcz81_0 : w77.cell? ⟨gb245, 0, none⟩ = some (.int .i64 a1_0) := (blk_cell BK245.out 0).trans rfl; have hcz81_1 : w77.cell? ⟨gb245, 1, none⟩ = some (.int .i64 a1_1) := (blk_cell BK245.out 1).trans rfl; have hfz81_0 := blk_frozen BK245.out 0; have hfz81_1 := blk_frozen BK245.out 1; have hnb82 := NB246_247.out; have hnc82 := NB247_246.out; have hnb83 := NB246_248.out; have hnc83 := NB248_246.out; have hcz84_0 : w77.cell? ⟨gb246, 0, none⟩ = some (.int .i64 a2_0) := (blk_cell BK246.out 0).trans rfl; have hcz84_1 : w77.cell? ⟨gb246, 1, none⟩ = some (.int .i64 a2_1) := (blk_cell BK246.out 1).trans rfl; have hfz84_0 := blk_frozen BK246.out 0; have hfz84_1 := blk_frozen BK246.out 1; have hcz85_0 : w77.cell? ⟨gb249, 0, none⟩ = some (.int .i64 a6_0) := (blk_cell BK249.out 0).trans rfl; have hcz85_1 : w77.cell? ⟨gb249, 1, none⟩ = some (.int .i64 a6_1) := (blk_cell BK249.out 1).trans rfl; have hfz85_0 := blk_frozen BK249.out 0; have hfz85_1 := blk_frozen BK249.out 1) | ((with_reducible refine gate_callee (f := 15) rfl ?_); refine goesL_ (some 87) rfl rfl Try.func15 pmBx12_19_ rfl #[.int .i64 t254, .agg #[.int .i64 a1_0, .int .i64 a1_1], .agg #[.int .i64 a2_0, .int .i64 a2_1], .int .i64 a3, .bool true, .agg #[.int .i64 a6_0, .int .i64 a6_1]] rfl pmBx12_7_ ?_; (with_reducible refine (self_Clamp.calls kj8 t254 a1_0 a1_1 a2_0 a2_1 a3 true a6_0 a6_1 t257 t258 _ A65.out).mono ?_); rintro e w86 ⟨rfl, hb⟩; refine ⟨_, rfl, ?_⟩; have n0_ := Aside0.mk (blk_below (g := gb244) (o := .cells #[.int .i64 a0_0, .int .i64 a0_1] 31 (0, 0)) pmBx12_1_ hb); have n1_ := Aside0.mk (blk_below (g := gb245) (o := .cells #[.int .i64 a1_0, .int .i64 a1_1] 31 (0, 0)) pmBx12_2_ hb); have n2_ := Aside0.mk (blk_below (g := gb246) (o := .cells #[.int .i64 a2_0, .int .i64 a2_1] 31 (0, 0)) pmBx12_3_ hb); have n3_ := Aside0.mk (blk_below (g := gb247) (o := .cells #[.bool a4_0, .int .i64 a4_1] 23 (0, 0)) pmBx12_4_ hb); have n4_ := Aside0.mk (blk_below (g := gb248) (o := .cells #[.bool a5_0, .int .i64 a5_1] 23 (0, 0)) pmBx12_5_ hb); have n5_ := Aside0.mk (blk_below (g := gb249) (o := .cells #[.int .i64 a6_0, .int .i64 a6_1] 46 (0, 0)) pmBx12_6_ hb); have n6_ := Aside0.mk (below_step pmBx12_0_ hb); clear BK244; clear BK245; clear BK246; clear BK247; clear BK248; clear BK249; clear HB; have BK244 := n0_; have BK245 := n1_; have BK246 := n2_; have BK247 := n3_; have BK248 := n4_; have BK249 := n5_; have HB := n6_; clear n0_ n1_ n2_ n3_ n4_ n5_ n6_; (try clear hb); (try clear hb2); (try clear hk); (try clear hi)))
            go_ret2
            exact ⟨by first | rfl | (simp [errW_none, errW_some] <;> rfl) | (simp [*, errW_none, errW_some] <;> rfl), by repeat (first | (with_reducible first | exact HB.out | apply below_alloc | apply pw_below_drewN | apply below_drew1 | refine below_set ?_ GE244.out | refine below_set ?_ GE245.out | refine below_set ?_ GE246.out | refine below_set ?_ GE247.out | refine below_set ?_ GE248.out | refine below_set ?_ GE249.out) | exact HB.out)⟩
          · replace c64 := Bool.eq_false_iff.mpr c64
            subst c64
            have H1 : (if a7 = true then (if (!a4_0) = true then (self_Used.j1 kj8 a3 (!a5_0) a1_0 a1_1 a2_0 a2_1 a4_0 a4_1 a5_0 a5_1 a6_0 a6_1) else (self_Used.j1 kj8 a3 false a1_0 a1_1 a2_0 a2_1 a4_0 a4_1 a5_0 a5_1 a6_0 a6_1)) else (self_Used.j1 kj8 a3 false a1_0 a1_1 a2_0 a2_1 a4_0 a4_1 a5_0 a5_1 a6_0 a6_1)) = some (r1, r2) := by rw [if_neg (show ¬ (false = true) by decide)] at H; exact H
            clear H
            have H := H1
            clear H1
            have HC87 := Aside0.mk H
            clear H
            have hnb88 := NB244_245.out
            have hnc88 := NB245_244.out
            have hnb89 := NB244_246.out
            have hnc89 := NB246_244.out
            have hnb90 := NB244_247.out
            have hnc90 := NB247_244.out
            have hnb91 := NB244_248.out
            have hnc91 := NB248_244.out
            have hnb92 := NB244_249.out
            have hnc92 := NB249_244.out
            have hcz93_0 : wc.cell? ⟨gb244, 0, none⟩ = some (.int .i64 a0_0) := (blk_cell BK244.out 0).trans rfl
            have hcz93_1 : wc.cell? ⟨gb244, 1, none⟩ = some (.int .i64 a0_1) := (blk_cell BK244.out 1).trans rfl
            have hfz93_0 := blk_frozen BK244.out 0
            have hfz93_1 := blk_frozen BK244.out 1
            have hnb94 := NB249_245.out
            have hnc94 := NB245_249.out
            have hnb95 := NB249_246.out
            have hnc95 := NB246_249.out
            have hnb96 := NB249_247.out
            have hnc96 := NB247_249.out
            have hnb97 := NB249_248.out
            have hnc97 := NB248_249.out
            have hcz98_0 : wc.cell? ⟨gb249, 0, none⟩ = some (.int .i64 a6_0) := (blk_cell BK249.out 0).trans rfl
            have hcz98_1 : wc.cell? ⟨gb249, 1, none⟩ = some (.int .i64 a6_1) := (blk_cell BK249.out 1).trans rfl
            have hfz98_0 := blk_frozen BK249.out 0
            have hfz98_1 := blk_frozen BK249.out 1
            go_upto_region 8 with (first | ((with_reducible refine gate_callee (f := 13) rfl ?_); refine goesL_ (some 43) rfl rfl Try.func13 pmBx12_19_ rfl #[.agg #[.int .i64 a0_0, .int .i64 a0_1], .int .i64 a3, .bool true, .agg #[.int .i64 a6_0, .int .i64 a6_1]] rfl pmBx12_7_ ?_; (with_reducible refine (self_Limit.calls kj8 a0_0 a0_1 a3 true a6_0 a6_1 t254 false t256 _ A62.out).mono ?_); rintro e w99 ⟨rfl, hb⟩; refine ⟨_, rfl, ?_⟩; have n0_ := Aside0.mk (blk_below (g := gb244) (o := .cells #[.int .i64 a0_0, .int .i64 a0_1] 31 (0, 0)) pmBx12_1_ hb); have n1_ := Aside0.mk (blk_below (g := gb245) (o := .cells #[.int .i64 a1_0, .int .i64 a1_1] 31 (0, 0)) pmBx12_2_ hb); have n2_ := Aside0.mk (blk_below (g := gb246) (o := .cells #[.int .i64 a2_0, .int .i64 a2_1] 31 (0, 0)) pmBx12_3_ hb); have n3_ := Aside0.mk (blk_below (g := gb247) (o := .cells #[.bool a4_0, .int .i64 a4_1] 23 (0, 0)) pmBx12_4_ hb); have n4_ := Aside0.mk (blk_below (g := gb248) (o := .cells #[.bool a5_0, .int .i64 a5_1] 23 (0, 0)) pmBx12_5_ hb); have n5_ := Aside0.mk (blk_below (g := gb249) (o := .cells #[.int .i64 a6_0, .int .i64 a6_1] 46 (0, 0)) pmBx12_6_ hb); have n6_ := Aside0.mk (below_step pmBx12_0_ hb); clear BK244; clear BK245; clear BK246; clear BK247; clear BK248; clear BK249; clear HB; have BK244 := n0_; have BK245 := n1_; have BK246 := n2_; have BK247 := n3_; have BK248 := n4_; have BK249 := n5_; have HB := n6_; clear n0_ n1_ n2_ n3_ n4_ n5_ n6_; (try clear hb); (try clear hb2); (try clear hk); (try clear hi)))
            (try simp only [Act.put, List.setIfInBounds_toArray, List.set_cons_zero, List.set_cons_succ])
            go_cut [62] (fun v62 wc => ∃ (kq : Nat) (x62_86 : Bool), v62 = .bool x62_86 ∧ Aside0 (self_Used.j1 kq a3 x62_86 a1_0 a1_1 a2_0 a2_1 a4_0 a4_1 a5_0 a5_1 a6_0 a6_1 = some (r1, r2)) ∧ Aside0 (kq ≤ kj8) ∧ Aside0 (wc.heap[gb244]? = some (.cells #[.int .i64 a0_0, .int .i64 a0_1] 31 (0, 0))) ∧ Aside0 (wc.heap[gb245]? = some (.cells #[.int .i64 a1_0, .int .i64 a1_1] 31 (0, 0))) ∧ Aside0 (wc.heap[gb246]? = some (.cells #[.int .i64 a2_0, .int .i64 a2_1] 31 (0, 0))) ∧ Aside0 (wc.heap[gb247]? = some (.cells #[.bool a4_0, .int .i64 a4_1] 23 (0, 0))) ∧ Aside0 (wc.heap[gb248]? = some (.cells #[.bool a5_0, .int .i64 a5_1] 23 (0, 0))) ∧ Aside0 (wc.heap[gb249]? = some (.cells #[.int .i64 a6_0, .int .i64 a6_1] 46 (0, 0))) ∧ Aside0 (Below w.heap.size w wc))
            case first =>
              have H := HC87.out
              clear HC87
              by_cases c100 : a7 = true
              · subst c100
                have H1 : (if (!a4_0) = true then (self_Used.j1 kj8 a3 (!a5_0) a1_0 a1_1 a2_0 a2_1 a4_0 a4_1 a5_0 a5_1 a6_0 a6_1) else (self_Used.j1 kj8 a3 false a1_0 a1_1 a2_0 a2_1 a4_0 a4_1 a5_0 a5_1 a6_0 a6_1)) = some (r1, r2) := by rw [if_pos rfl] at H; exact H
                clear H
                have H := H1
                clear H1
                by_cases c101 : (!a4_0) = true
                · rw [if_pos c101] at H
                  have c101b0 : (!a4_0) = true := c101
                  clear c101
                  (first | rw [c101b0] | (simp only [i64_w, i32_w]; rw [c101b0]) | skip)
                  have H' := Aside0.mk H
                  clear H
                  have hnb102 := NB247_244.out
                  have hnc102 := NB244_247.out
                  have hnb103 := NB247_245.out
                  have hnc103 := NB245_247.out
                  have hnb104 := NB247_246.out
                  have hnc104 := NB246_247.out
                  have hnb105 := NB247_248.out
                  have hnc105 := NB248_247.out
                  have hnb106 := NB247_249.out
                  have hnc106 := NB249_247.out
                  have hcz107_0 : w99.cell? ⟨gb247, 0, none⟩ = some (.bool a4_0) := (blk_cell BK247.out 0).trans rfl
                  have hcz107_1 : w99.cell? ⟨gb247, 1, none⟩ = some (.int .i64 a4_1) := (blk_cell BK247.out 1).trans rfl
                  have hfz107_0 := blk_frozen BK247.out 0
                  have hfz107_1 := blk_frozen BK247.out 1
                  have hnb108 := NB248_244.out
                  have hnc108 := NB244_248.out
                  have hnb109 := NB248_245.out
                  have hnc109 := NB245_248.out
                  have hnb110 := NB248_246.out
                  have hnc110 := NB246_248.out
                  have hnb111 := NB248_249.out
                  have hnc111 := NB249_248.out
                  have hcz112_0 : w99.cell? ⟨gb248, 0, none⟩ = some (.bool a5_0) := (blk_cell BK248.out 0).trans rfl
                  have hcz112_1 : w99.cell? ⟨gb248, 1, none⟩ = some (.int .i64 a5_1) := (blk_cell BK248.out 1).trans rfl
                  have hfz112_0 := blk_frozen BK248.out 0
                  have hfz112_1 := blk_frozen BK248.out 1
                  go_wp2
                  go_meet
                  case rel => exact ⟨_, ((!a5_0)), pmBx12_17_, H', ⟨by have := HJ8.out; first | omega | exact Nat.le_refl _⟩, ⟨pmBx12_1_⟩, ⟨pmBx12_2_⟩, ⟨pmBx12_3_⟩, ⟨pmBx12_4_⟩, ⟨pmBx12_5_⟩, ⟨pmBx12_6_⟩, ⟨pmBx12_0_⟩⟩
                · rw [if_neg c101] at H
                  have c101b0 : (!a4_0) = false := by simpa using c101
                  clear c101
                  (first | rw [c101b0] | (simp only [i64_w, i32_w]; rw [c101b0]) | skip)
                  have H' := Aside0.mk H
                  clear H
                  have hnb113 := NB247_244.out
                  have hnc113 := NB244_247.out
                  have hnb114 := NB247_245.out
                  have hnc114 := NB245_247.out
                  have hnb115 := NB247_246.out
                  have hnc115 := NB246_247.out
                  have hnb116 := NB247_248.out
                  have hnc116 := NB248_247.out
                  have hnb117 := NB247_249.out
                  have hnc117 := NB249_247.out
                  have hcz118_0 : w99.cell? ⟨gb247, 0, none⟩ = some (.bool a4_0) := (blk_cell BK247.out 0).trans rfl
                  have hcz118_1 : w99.cell? ⟨gb247, 1, none⟩ = some (.int .i64 a4_1) := (blk_cell BK247.out 1).trans rfl
                  have hfz118_0 := blk_frozen BK247.out 0
                  have hfz118_1 := blk_frozen BK247.out 1
                  go_wp2
                  go_meet
                  case rel => exact ⟨_, (false), pmBx12_17_, H', ⟨by have := HJ8.out; first | omega | exact Nat.le_refl _⟩, ⟨pmBx12_1_⟩, ⟨pmBx12_2_⟩, ⟨pmBx12_3_⟩, ⟨pmBx12_4_⟩, ⟨pmBx12_5_⟩, ⟨pmBx12_6_⟩, ⟨pmBx12_0_⟩⟩
              · replace c100 := Bool.eq_false_iff.mpr c100
                subst c100
                have H1 : (self_Used.j1 kj8 a3 false a1_0 a1_1 a2_0 a2_1 a4_0 a4_1 a5_0 a5_1 a6_0 a6_1) = some (r1, r2) := by rw [if_neg (show ¬ (false = true) by decide)] at H; exact H
                clear H
                have H := H1
                clear H1
                have H' := Aside0.mk H
                clear H
                go_wp2
                go_meet
                case rel => exact ⟨_, (false), pmBx12_17_, H', ⟨by have := HJ8.out; first | omega | exact Nat.le_refl _⟩, ⟨pmBx12_1_⟩, ⟨pmBx12_2_⟩, ⟨pmBx12_3_⟩, ⟨pmBx12_4_⟩, ⟨pmBx12_5_⟩, ⟨pmBx12_6_⟩, ⟨pmBx12_0_⟩⟩
            case rest =>
              clear HC87
              try clear c1
              try clear c2
              try clear p2
              try clear c3
              try clear c4
              try clear c5
              try clear c6
              try clear c7
              try clear c8
              try clear c9
              try clear c10
              try clear c11
              try clear c13
              try clear c15
              try clear c17
              try clear c19
              try clear c21
              try clear c22
              try clear c23
              try clear c24
              try clear c25
              try clear c26
              try clear c27
              try clear c30
              try clear c31
              try clear c32
              try clear c33
              try clear c36
              try clear c37
              try clear c38
              try clear c41
              try clear c42
              try clear c43
              try clear c44
              try clear c45
              try clear c48
              try clear c49
              try clear c50
              try clear c51
              try clear c54
              try clear c55
              try clear c56
              try clear c57
              try clear c58
              try clear c61
              try clear c63
              try clear c63b0
              try clear c63b1
              try clear c64
              try clear c66
              try clear c67
              try clear c68
              try clear c69
              try clear c70
              try clear c72
              try clear c73
              try clear c74
              try clear c75
              try clear c78
              try clear c79
              try clear c80
              try clear c82
              try clear c83
              try clear c88
              try clear c89
              try clear c90
              try clear c91
              try clear c92
              try clear c94
              try clear c95
              try clear c96
              try clear c97
              try clear c100
              try clear c101
              try clear c101b0
              try clear c102
              try clear c103
              try clear c104
              try clear c105
              try clear c106
              try clear c108
              try clear c109
              try clear c110
              try clear c111
              try clear c113
              try clear c114
              try clear c115
              try clear c116
              try clear c117
              try clear hcz107_0
              try clear hcz107_1
              try clear hcz112_0
              try clear hcz112_1
              try clear hcz118_0
              try clear hcz118_1
              try clear hcz28_0
              try clear hcz28_1
              try clear hcz34_0
              try clear hcz34_1
              try clear hcz39_0
              try clear hcz39_1
              try clear hcz46_0
              try clear hcz46_1
              try clear hcz52_0
              try clear hcz52_1
              try clear hcz59_0
              try clear hcz59_1
              try clear hcz71_0
              try clear hcz71_1
              try clear hcz76_0
              try clear hcz76_1
              try clear hcz81_0
              try clear hcz81_1
              try clear hcz84_0
              try clear hcz84_1
              try clear hcz85_0
              try clear hcz85_1
              try clear hcz93_0
              try clear hcz93_1
              try clear hcz98_0
              try clear hcz98_1
              try clear hfz107_0
              try clear hfz107_1
              try clear hfz112_0
              try clear hfz112_1
              try clear hfz118_0
              try clear hfz118_1
              try clear hfz28_0
              try clear hfz28_1
              try clear hfz34_0
              try clear hfz34_1
              try clear hfz39_0
              try clear hfz39_1
              try clear hfz46_0
              try clear hfz46_1
              try clear hfz52_0
              try clear hfz52_1
              try clear hfz59_0
              try clear hfz59_1
              try clear hfz71_0
              try clear hfz71_1
              try clear hfz76_0
              try clear hfz76_1
              try clear hfz81_0
              try clear hfz81_1
              try clear hfz84_0
              try clear hfz84_1
              try clear hfz85_0
              try clear hfz85_1
              try clear hfz93_0
              try clear hfz93_1
              try clear hfz98_0
              try clear hfz98_1
              try clear p2
              obtain ⟨kq, x62_86, rfl, HA, HJ86, BK244, BK245, BK246, BK247, BK248, BK249, HB⟩ := hcut
              cases kq with
              | zero => exact absurd HA.out (by simp [self_Used.j1])
              | succ kj86 =>
                have H := HA.out
                clear HA
                simp only [self_Used.j1] at H
                by_cases c119 : x62_86 = true
                · subst c119
                  have H1 : ((self_Inner.f a3 a4_0 a4_1 a5_0 a5_1).bind fun t259 => ((self_Clamp.f kj86 t259 a1_0 a1_1 a2_0 a2_1 a3 true a6_0 a6_1).bind fun bt260 => (some (bt260.1, bt260.2)))) = some (r1, r2) := by rw [if_pos rfl] at H; exact H
                  clear H
                  have H := H1
                  clear H1
                  replace H := Option.bind_eq_some_iff.mp H
                  obtain ⟨t259, A1200, H⟩ := H
                  replace H : ((self_Clamp.f kj86 t259 a1_0 a1_1 a2_0 a2_1 a3 true a6_0 a6_1).bind fun bt260 => (some (bt260.1, bt260.2))) = some (r1, r2) := H
                  have A120 := Aside0.mk A1200
                  clear A1200
                  replace H := Option.bind_eq_some_iff.mp H
                  obtain ⟨⟨t260, t261⟩, A1210, H⟩ := H
                  replace H : (some (t260, t261)) = some (r1, r2) := H
                  have A121 := Aside0.mk A1210
                  clear A1210
                  simp only [Option.some.injEq, Prod.mk.injEq] at H
                  obtain ⟨rfl, rfl⟩ := H
                  have hnb122 := NB247_244.out
                  have hnc122 := NB244_247.out
                  have hnb123 := NB247_245.out
                  have hnc123 := NB245_247.out
                  have hnb124 := NB247_246.out
                  have hnc124 := NB246_247.out
                  have hnb125 := NB247_248.out
                  have hnc125 := NB248_247.out
                  have hnb126 := NB247_249.out
                  have hnc126 := NB249_247.out
                  have hcz127_0 : wc.cell? ⟨gb247, 0, none⟩ = some (.bool a4_0) := (blk_cell BK247.out 0).trans rfl
                  have hcz127_1 : wc.cell? ⟨gb247, 1, none⟩ = some (.int .i64 a4_1) := (blk_cell BK247.out 1).trans rfl
                  have hfz127_0 := blk_frozen BK247.out 0
                  have hfz127_1 := blk_frozen BK247.out 1
                  have hnb128 := NB248_244.out
                  have hnc128 := NB244_248.out
                  have hnb129 := NB248_245.out
                  have hnc129 := NB245_248.out
                  have hnb130 := NB248_246.out
                  have hnc130 := NB246_248.out
                  have hnb131 := NB248_249.out
                  have hnc131 := NB249_248.out
                  have hcz132_0 : wc.cell? ⟨gb248, 0, none⟩ = some (.bool a5_0) := (blk_cell BK248.out 0).trans rfl
                  have hcz132_1 : wc.cell? ⟨gb248, 1, none⟩ = some (.int .i64 a5_1) := (blk_cell BK248.out 1).trans rfl
                  have hfz132_0 := blk_frozen BK248.out 0
                  have hfz132_1 := blk_frozen BK248.out 1
                  go_wp2_with (first | ((with_reducible refine gate_callee (f := 19) rfl ?_); refine goesL_ (some 81) rfl rfl Try.func19 pmBx12_19_ rfl #[.int .i64 a3, .agg #[.bool a4_0, .int .i64 a4_1], .agg #[.bool a5_0, .int .i64 a5_1]] rfl pmBx12_7_ ?_; (with_reducible refine (self_Inner.calls a3 a4_0 a4_1 a5_0 a5_1 t259 _ A120.out).mono ?_); rintro e w133 ⟨rfl, hb⟩; refine ⟨_, rfl, ?_⟩; have n0_ := Aside0.mk (blk_below (g := gb244) (o := .cells #[.int .i64 a0_0, .int .i64 a0_1] 31 (0, 0)) pmBx12_1_ hb); have n1_ := Aside0.mk (blk_below (g := gb245) (o := .cells #[.int .i64 a1_0, .int .i64 a1_1] 31 (0, 0)) pmBx12_2_ hb); have n2_ := Aside0.mk (blk_below (g := gb246) (o := .cells #[.int .i64 a2_0, .int .i64 a2_1] 31 (0, 0)) pmBx12_3_ hb); have n3_ := Aside0.mk (blk_below (g := gb247) (o := .cells #[.bool a4_0, .int .i64 a4_1] 23 (0, 0)) pmBx12_4_ hb); have n4_ := Aside0.mk (blk_below (g := gb248) (o := .cells #[.bool a5_0, .int .i64 a5_1] 23 (0, 0)) pmBx12_5_ hb); have n5_ := Aside0.mk (blk_below (g := gb249) (o := .cells #[.int .i64 a6_0, .int .i64 a6_1] 46 (0, 0)) pmBx12_6_ hb); have n6_ := Aside0.mk (below_step pmBx12_0_ hb); clear BK244; clear BK245; clear BK246; clear BK247; clear BK248; clear BK249; clear HB; have BK244 := n0_; have BK245 := n1_; have BK246 := n2_; have BK247 := n3_; have BK248 := n4_; have BK249 := n5_; have HB := n6_; clear n0_ n1_ n2_ n3_ n4_ n5_ n6_; (try clear hb); (try clear hb2); (try clear hk); (try clear hi); have hnb134 := NB245_244.out; have hnc134 := NB244_245.out; have hnb135 := NB245_246.out; have hnc135 := NB246_245.out; have hnb136 := NB245_249.out; have hnc136 := NB249_245.out; have hcz137_0 : w133.cell? ⟨gb245, 0, none⟩ = some (.int .i64 a1_0) := (blk_cell BK245.out 0).trans rfl; have hcz137_1 : w133.cell? ⟨gb245, 1, none⟩ = some (.int .i64 a1_1) := (blk_cell BK245.out 1).trans rfl; have hfz137_0 := blk_frozen BK245.out 0; have hfz137_1 := blk_frozen BK245.out 1; have hnb138 := NB246_244.out; have hnc138 := NB244_246.out; have hnb139 := NB246_249.out; have hnc139 := NB249_246.out; have hcz140_0 : w133.cell? ⟨gb246, 0, none⟩ = some (.int .i64 a2_0) := (blk_cell BK246.out 0).trans rfl; have hcz140_1 : w133.cell? ⟨gb246, 1, none⟩ = some (.int .i64 a2_1) := (blk_cell BK246.out 1).trans rfl; have hfz140_0 := blk_frozen BK246.out 0; have hfz140_1 := blk_frozen BK246.out 1; have hnb141 := NB249_244.out; have hnc141 := NB244_249.out; have hcz142_0 : w133.cell? ⟨gb249, 0, none⟩ = some (.int .i64 a6_0) := (blk_cell BK249.out 0).trans rfl; have hcz142_1 : w133.cell? ⟨gb249, 1, none⟩ = some (.int .i64 a6_1) := (blk_cell BK249.out 1).trans rfl; have hfz142_0 := blk_frozen BK249.out 0; have hfz142_1 := blk_frozen BK249.out 1) | ((with_reducible refine gate_callee (f := 15) rfl ?_); refine goesL_ (some 87) rfl rfl Try.func15 pmBx12_19_ rfl #[.int .i64 t259, .agg #[.int .i64 a1_0, .int .i64 a1_1], .agg #[.int .i64 a2_0, .int .i64 a2_1], .int .i64 a3, .bool true, .agg #[.int .i64 a6_0, .int .i64 a6_1]] rfl pmBx12_7_ ?_; (with_reducible refine (self_Clamp.calls kj86 t259 a1_0 a1_1 a2_0 a2_1 a3 true a6_0 a6_1 t260 t261 _ A121.out).mono ?_); rintro e w143 ⟨rfl, hb⟩; refine ⟨_, rfl, ?_⟩; have n0_ := Aside0.mk (blk_below (g := gb244) (o := .cells #[.int .i64 a0_0, .int .i64 a0_1] 31 (0, 0)) pmBx12_1_ hb); have n1_ := Aside0.mk (blk_below (g := gb245) (o := .cells #[.int .i64 a1_0, .int .i64 a1_1] 31 (0, 0)) pmBx12_2_ hb); have n2_ := Aside0.mk (blk_below (g := gb246) (o := .cells #[.int .i64 a2_0, .int .i64 a2_1] 31 (0, 0)) pmBx12_3_ hb); have n3_ := Aside0.mk (blk_below (g := gb247) (o := .cells #[.bool a4_0, .int .i64 a4_1] 23 (0, 0)) pmBx12_4_ hb); have n4_ := Aside0.mk (blk_below (g := gb248) (o := .cells #[.bool a5_0, .int .i64 a5_1] 23 (0, 0)) pmBx12_5_ hb); have n5_ := Aside0.mk (blk_below (g := gb249) (o := .cells #[.int .i64 a6_0, .int .i64 a6_1] 46 (0, 0)) pmBx12_6_ hb); have n6_ := Aside0.mk (below_step pmBx12_0_ hb); clear BK244; clear BK245; clear BK246; clear BK247; clear BK248; clear BK249; clear HB; have BK244 := n0_; have BK245 := n1_; have BK246 := n2_; have BK247 := n3_; have BK248 := n4_; have BK249 := n5_; have HB := n6_; clear n0_ n1_ n2_ n3_ n4_ n5_ n6_; (try clear hb); (try clear hb2); (try clear hk); (try clear hi)))
                  go_ret2
                  exact ⟨by first | rfl | (simp [errW_none, errW_some] <;> rfl) | (simp [*, errW_none, errW_some] <;> rfl), by repeat (first | (with_reducible first | exact HB.out | apply below_alloc | apply pw_below_drewN | apply below_drew1 | refine below_set ?_ GE244.out | refine below_set ?_ GE245.out | refine below_set ?_ GE246.out | refine below_set ?_ GE247.out | refine below_set ?_ GE248.out | refine below_set ?_ GE249.out) | exact HB.out)⟩
                · replace c119 := Bool.eq_false_iff.mpr c119
                  subst c119
                  have H1 : ((self_Inner.f a3 a4_0 a4_1 a5_0 a5_1).bind fun t262 => ((fixed_Clamp.f t262 a6_0 a6_1).bind fun t263 => ((self_Clamp.f kj86 t263 a1_0 a1_1 a2_0 a2_1 a3 true a6_0 a6_1).bind fun bt264 => (some (bt264.1, bt264.2))))) = some (r1, r2) := by rw [if_neg (show ¬ (false = true) by decide)] at H; exact H
                  clear H
                  have H := H1
                  clear H1
                  replace H := Option.bind_eq_some_iff.mp H
                  obtain ⟨t262, A1440, H⟩ := H
                  replace H : ((fixed_Clamp.f t262 a6_0 a6_1).bind fun t263 => ((self_Clamp.f kj86 t263 a1_0 a1_1 a2_0 a2_1 a3 true a6_0 a6_1).bind fun bt264 => (some (bt264.1, bt264.2)))) = some (r1, r2) := H
                  have A144 := Aside0.mk A1440
                  clear A1440
                  replace H := Option.bind_eq_some_iff.mp H
                  obtain ⟨t263, A1450, H⟩ := H
                  replace H : ((self_Clamp.f kj86 t263 a1_0 a1_1 a2_0 a2_1 a3 true a6_0 a6_1).bind fun bt264 => (some (bt264.1, bt264.2))) = some (r1, r2) := H
                  have A145 := Aside0.mk A1450
                  clear A1450
                  replace H := Option.bind_eq_some_iff.mp H
                  obtain ⟨⟨t264, t265⟩, A1460, H⟩ := H
                  replace H : (some (t264, t265)) = some (r1, r2) := H
                  have A146 := Aside0.mk A1460
                  clear A1460
                  simp only [Option.some.injEq, Prod.mk.injEq] at H
                  obtain ⟨rfl, rfl⟩ := H
                  try go_wp2
                  have n0_ := Aside0.mk (blk_drew BK244.out)
                  have n1_ := Aside0.mk (blk_drew BK245.out)
                  have n2_ := Aside0.mk (blk_drew BK246.out)
                  have n3_ := Aside0.mk (blk_drew BK247.out)
                  have n4_ := Aside0.mk (blk_drew BK248.out)
                  have n5_ := Aside0.mk (blk_drew BK249.out)
                  have n6_ := Aside0.mk (below_drew1 HB.out)
                  clear BK244
                  clear BK245
                  clear BK246
                  clear BK247
                  clear BK248
                  clear BK249
                  clear HB
                  have BK244 := n0_
                  have BK245 := n1_
                  have BK246 := n2_
                  have BK247 := n3_
                  have BK248 := n4_
                  have BK249 := n5_
                  have HB := n6_
                  clear n0_ n1_ n2_ n3_ n4_ n5_ n6_
                  refine start_ (n := 10) (S := fun w' => w'.cell? ⟨gb247, 0, none⟩ = some (.bool a4_0) ∧ w'.cell? ⟨gb247, 1, none⟩ = some (.int .i64 a4_1) ∧ w'.cell? ⟨gb248, 0, none⟩ = some (.bool a5_0) ∧ w'.cell? ⟨gb248, 1, none⟩ = some (.int .i64 a5_1) ∧ w'.cell? ⟨gb249, 0, none⟩ = some (.int .i64 a6_0) ∧ w'.cell? ⟨gb249, 1, none⟩ = some (.int .i64 a6_1)) (ds := []) #[false, false, false, false, false, false, false, false, false, false] pmBx12_19_ rfl rfl ⟨(blk_cell BK247.out 0).trans rfl, (blk_cell BK247.out 1).trans rfl, (blk_cell BK248.out 0).trans rfl, (blk_cell BK248.out 1).trans rfl, (blk_cell BK249.out 0).trans rfl, (blk_cell BK249.out 1).trans rfl⟩ (fun hHeld => ?_); refine with_tabW self_Used.tab4 self_Used.bits4 (fun HT_ HW_ => ?_)
                  generalize wc.drew = w147 at BK244 BK245 BK246 BK247 BK248 BK249 HB hHeld ⊢
                  refine pure_ (i := 0) (N := some 47) (v := ?_) (a' := ?_) #[true, false, false, false, false, false, false, false, false, false] rfl rfl (any_of HT_.out pmBx12_19_) (fun _ _ _ h => h) (Or.inl ⟨by rfl, ?_⟩) ?_ ?_
                  rotate_left
                  · intro w'
                    go_simp
                    with_reducible rfl
                  rotate_left
                  · simp only [Act.put, List.setIfInBounds_toArray, List.set_cons_zero, List.set_cons_succ, i64_w, i32_w]
                    rfl
                  refine pure_ (i := 4) (N := some 51) (v := ?_) (a' := ?_) #[true, false, false, false, true, false, false, false, false, false] rfl rfl (any_of HT_.out pmBx12_19_) (fun _ _ _ h => h) (Or.inl ⟨by rfl, ?_⟩) ?_ ?_
                  rotate_left
                  · intro w'
                    go_simp
                    with_reducible rfl
                  rotate_left
                  · simp only [Act.put, List.setIfInBounds_toArray, List.set_cons_zero, List.set_cons_succ, i64_w, i32_w]
                    rfl
                  refine pure_ (i := 6) (N := some 53) (v := ?_) (a' := ?_) #[true, false, false, false, true, false, true, false, false, false] rfl rfl (any_of HT_.out pmBx12_19_) (fun _ _ _ h => h) (Or.inl ⟨by rfl, ?_⟩) ?_ ?_
                  rotate_left
                  · intro w'
                    go_simp
                    with_reducible rfl
                  rotate_left
                  · simp only [Act.put, List.setIfInBounds_toArray, List.set_cons_zero, List.set_cons_succ, i64_w, i32_w]
                    rfl
                  refine take_ (i := 1) (N := some 48) (v := ?_) (a' := ?_) #[true, true, false, false, true, false, true, false, false, false] rfl rfl (take_ofW HT_.out HW_.out pmBx12_19_) (fun _ _ _ h => h) (Or.inl ⟨by rfl, ?_⟩) hHeld ?_ ?_
                  rotate_left
                  · rintro w' ⟨s0, s1, s2, s3, s4, s5⟩
                    go_simp
                    with_reducible rfl
                  rotate_left
                  · simp only [Act.put, List.setIfInBounds_toArray, List.set_cons_zero, List.set_cons_succ, i64_w, i32_w]
                    rfl
                  refine take_ (i := 2) (N := some 49) (v := ?_) (a' := ?_) #[true, true, true, false, true, false, true, false, false, false] rfl rfl (take_ofW HT_.out HW_.out pmBx12_19_) (fun _ _ _ h => h) (Or.inl ⟨by rfl, ?_⟩) hHeld ?_ ?_
                  rotate_left
                  · rintro w' ⟨s0, s1, s2, s3, s4, s5⟩
                    go_simp
                    with_reducible rfl
                  rotate_left
                  · simp only [Act.put, List.setIfInBounds_toArray, List.set_cons_zero, List.set_cons_succ, i64_w, i32_w]
                    rfl
                  refine take_ (i := 5) (N := some 52) (v := ?_) (a' := ?_) #[true, true, true, false, true, true, true, false, false, false] rfl rfl (take_ofW HT_.out HW_.out pmBx12_19_) (fun _ _ _ h => h) (Or.inl ⟨by rfl, ?_⟩) hHeld ?_ ?_
                  rotate_left
                  · rintro w' ⟨s0, s1, s2, s3, s4, s5⟩
                    go_simp
                    with_reducible rfl
                  rotate_left
                  · simp only [Act.put, List.setIfInBounds_toArray, List.set_cons_zero, List.set_cons_succ, i64_w, i32_w]
                    rfl
                  refine take_ (i := 7) (N := some 54) (v := ?_) (a' := ?_) #[true, true, true, false, true, true, true, true, false, false] rfl rfl (take_ofW HT_.out HW_.out pmBx12_19_) (fun _ _ _ h => h) (Or.inl ⟨by rfl, ?_⟩) hHeld ?_ ?_
                  rotate_left
                  · rintro w' ⟨s0, s1, s2, s3, s4, s5⟩
                    go_simp
                    with_reducible rfl
                  rotate_left
                  · simp only [Act.put, List.setIfInBounds_toArray, List.set_cons_zero, List.set_cons_succ, i64_w, i32_w]
                    rfl
                  refine one_ (i := 3) (N := some 50) #[true, true, true, true, true, true, true, true, false, false] rfl rfl (one_of HT_.out pmBx12_19_) (by decide) (fun K hK => ?_)
                  refine goes_ Try.func19 pmBx12_19_ rfl #[.int .i64 a3, .agg #[.bool a4_0, .int .i64 a4_1], .agg #[.bool a5_0, .int .i64 a5_1]] (by rfl) rfl rfl pmBx12_7_ ?_
                  with_reducible refine (self_Inner.calls a3 a4_0 a4_1 a5_0 a5_1 t262 _ A144.out).mono ?_
                  rintro e w148 ⟨rfl, hb⟩
                  refine ⟨_, rfl, ?_⟩
                  have n0_ := Aside0.mk (blk_below (g := gb244) (o := .cells #[.int .i64 a0_0, .int .i64 a0_1] 31 (0, 0)) pmBx12_1_ hb)
                  have n1_ := Aside0.mk (blk_below (g := gb245) (o := .cells #[.int .i64 a1_0, .int .i64 a1_1] 31 (0, 0)) pmBx12_2_ hb)
                  have n2_ := Aside0.mk (blk_below (g := gb246) (o := .cells #[.int .i64 a2_0, .int .i64 a2_1] 31 (0, 0)) pmBx12_3_ hb)
                  have n3_ := Aside0.mk (blk_below (g := gb247) (o := .cells #[.bool a4_0, .int .i64 a4_1] 23 (0, 0)) pmBx12_4_ hb)
                  have n4_ := Aside0.mk (blk_below (g := gb248) (o := .cells #[.bool a5_0, .int .i64 a5_1] 23 (0, 0)) pmBx12_5_ hb)
                  have n5_ := Aside0.mk (blk_below (g := gb249) (o := .cells #[.int .i64 a6_0, .int .i64 a6_1] 46 (0, 0)) pmBx12_6_ hb)
                  have n6_ := Aside0.mk (below_step pmBx12_0_ hb)
                  clear BK244
                  clear BK245
                  clear BK246
                  clear BK247
                  clear BK248
                  clear BK249
                  clear HB
                  have BK244 := n0_
                  have BK245 := n1_
                  have BK246 := n2_
                  have BK247 := n3_
                  have BK248 := n4_
                  have BK249 := n5_
                  have HB := n6_
                  clear n0_ n1_ n2_ n3_ n4_ n5_ n6_
                  (try clear hb)
                  (try clear hb2)
                  (try clear hk)
                  (try clear hi)
                  refine hK.out _ _ ⟨(blk_cell BK247.out 0).trans rfl, (blk_cell BK247.out 1).trans rfl, (blk_cell BK248.out 0).trans rfl, (blk_cell BK248.out 1).trans rfl, (blk_cell BK249.out 0).trans rfl, (blk_cell BK249.out 1).trans rfl⟩ (fun hHeld => ?_)
                  clear hK K
                  refine norm_ (a' := ?_) ?_ ?_
                  rotate_left
                  · show Act.put _ (some 50) _ = _
                    simp only [Act.put, List.setIfInBounds_toArray, List.set_cons_zero, List.set_cons_succ, i64_w, i32_w]
                    rfl
                  refine one_ (i := 8) (N := some 55) #[true, true, true, true, true, true, true, true, true, false] rfl rfl (one_of HT_.out pmBx12_19_) (by decide) (fun K hK => ?_)
                  refine goes_ Try.func34 pmBx12_19_ rfl #[.int .i64 t262, .int .i64 a6_0, .int .i64 a6_1] (by rfl) rfl rfl pmBx12_7_ ?_
                  with_reducible refine (fixed_Clamp.calls t262 a6_0 a6_1 t263 _ A145.out).mono ?_
                  rintro e w149 ⟨rfl, hb⟩
                  refine ⟨_, rfl, ?_⟩
                  have n0_ := Aside0.mk (blk_below (g := gb244) (o := .cells #[.int .i64 a0_0, .int .i64 a0_1] 31 (0, 0)) pmBx12_1_ hb)
                  have n1_ := Aside0.mk (blk_below (g := gb245) (o := .cells #[.int .i64 a1_0, .int .i64 a1_1] 31 (0, 0)) pmBx12_2_ hb)
                  have n2_ := Aside0.mk (blk_below (g := gb246) (o := .cells #[.int .i64 a2_0, .int .i64 a2_1] 31 (0, 0)) pmBx12_3_ hb)
                  have n3_ := Aside0.mk (blk_below (g := gb247) (o := .cells #[.bool a4_0, .int .i64 a4_1] 23 (0, 0)) pmBx12_4_ hb)
                  have n4_ := Aside0.mk (blk_below (g := gb248) (o := .cells #[.bool a5_0, .int .i64 a5_1] 23 (0, 0)) pmBx12_5_ hb)
                  have n5_ := Aside0.mk (blk_below (g := gb249) (o := .cells #[.int .i64 a6_0, .int .i64 a6_1] 46 (0, 0)) pmBx12_6_ hb)
                  have n6_ := Aside0.mk (below_step pmBx12_0_ hb)
                  clear BK244
                  clear BK245
                  clear BK246
                  clear BK247
                  clear BK248
                  clear BK249
                  clear HB
                  have BK244 := n0_
                  have BK245 := n1_
                  have BK246 := n2_
                  have BK247 := n3_
                  have BK248 := n4_
                  have BK249 := n5_
                  have HB := n6_
                  clear n0_ n1_ n2_ n3_ n4_ n5_ n6_
                  (try clear hb)
                  (try clear hb2)
                  (try clear hk)
                  (try clear hi)
                  refine hK.out _ _ ⟨(blk_cell BK247.out 0).trans rfl, (blk_cell BK247.out 1).trans rfl, (blk_cell BK248.out 0).trans rfl, (blk_cell BK248.out 1).trans rfl, (blk_cell BK249.out 0).trans rfl, (blk_cell BK249.out 1).trans rfl⟩ (fun hHeld => ?_)
                  clear hK K
                  refine norm_ (a' := ?_) ?_ ?_
                  rotate_left
                  · show Act.put _ (some 55) _ = _
                    simp only [Act.put, List.setIfInBounds_toArray, List.set_cons_zero, List.set_cons_succ, i64_w, i32_w]
                    rfl
                  refine pure_ (i := 9) (N := some 18) (v := ?_) (a' := ?_) #[true, true, true, true, true, true, true, true, true, true] rfl rfl (any_of HT_.out pmBx12_19_) (fun _ _ _ h => h) (Or.inl ⟨by rfl, ?_⟩) ?_ ?_
                  rotate_left
                  · intro w'
                    go_simp
                    with_reducible rfl
                  rotate_left
                  · simp only [Act.put, List.setIfInBounds_toArray, List.set_cons_zero, List.set_cons_succ, i64_w, i32_w]
                    rfl
                  refine done_ (done_of HT_.out pmBx12_19_) ?_
                  have hnb150 := NB245_244.out
                  have hnc150 := NB244_245.out
                  have hnb151 := NB245_246.out
                  have hnc151 := NB246_245.out
                  have hnb152 := NB245_247.out
                  have hnc152 := NB247_245.out
                  have hnb153 := NB245_248.out
                  have hnc153 := NB248_245.out
                  have hnb154 := NB245_249.out
                  have hnc154 := NB249_245.out
                  have hcz155_0 : w149.cell? ⟨gb245, 0, none⟩ = some (.int .i64 a1_0) := (blk_cell BK245.out 0).trans rfl
                  have hcz155_1 : w149.cell? ⟨gb245, 1, none⟩ = some (.int .i64 a1_1) := (blk_cell BK245.out 1).trans rfl
                  have hfz155_0 := blk_frozen BK245.out 0
                  have hfz155_1 := blk_frozen BK245.out 1
                  have hnb156 := NB246_244.out
                  have hnc156 := NB244_246.out
                  have hnb157 := NB246_247.out
                  have hnc157 := NB247_246.out
                  have hnb158 := NB246_248.out
                  have hnc158 := NB248_246.out
                  have hnb159 := NB246_249.out
                  have hnc159 := NB249_246.out
                  have hcz160_0 : w149.cell? ⟨gb246, 0, none⟩ = some (.int .i64 a2_0) := (blk_cell BK246.out 0).trans rfl
                  have hcz160_1 : w149.cell? ⟨gb246, 1, none⟩ = some (.int .i64 a2_1) := (blk_cell BK246.out 1).trans rfl
                  have hfz160_0 := blk_frozen BK246.out 0
                  have hfz160_1 := blk_frozen BK246.out 1
                  have hnb161 := NB249_244.out
                  have hnc161 := NB244_249.out
                  have hnb162 := NB249_247.out
                  have hnc162 := NB247_249.out
                  have hnb163 := NB249_248.out
                  have hnc163 := NB248_249.out
                  have hcz164_0 : w149.cell? ⟨gb249, 0, none⟩ = some (.int .i64 a6_0) := (blk_cell BK249.out 0).trans rfl
                  have hcz164_1 : w149.cell? ⟨gb249, 1, none⟩ = some (.int .i64 a6_1) := (blk_cell BK249.out 1).trans rfl
                  have hfz164_0 := blk_frozen BK249.out 0
                  have hfz164_1 := blk_frozen BK249.out 1
                  try go_wp2_with (first | ((with_reducible refine gate_callee (f := 15) rfl ?_); refine goesL_ (some 87) rfl rfl Try.func15 pmBx12_19_ rfl #[.int .i64 t263, .agg #[.int .i64 a1_0, .int .i64 a1_1], .agg #[.int .i64 a2_0, .int .i64 a2_1], .int .i64 a3, .bool true, .agg #[.int .i64 a6_0, .int .i64 a6_1]] rfl pmBx12_7_ ?_; (with_reducible refine (self_Clamp.calls kj86 t263 a1_0 a1_1 a2_0 a2_1 a3 true a6_0 a6_1 t264 t265 _ A146.out).mono ?_); rintro e w165 ⟨rfl, hb⟩; refine ⟨_, rfl, ?_⟩; have n0_ := Aside0.mk (blk_below (g := gb244) (o := .cells #[.int .i64 a0_0, .int .i64 a0_1] 31 (0, 0)) pmBx12_1_ hb); have n1_ := Aside0.mk (blk_below (g := gb245) (o := .cells #[.int .i64 a1_0, .int .i64 a1_1] 31 (0, 0)) pmBx12_2_ hb); have n2_ := Aside0.mk (blk_below (g := gb246) (o := .cells #[.int .i64 a2_0, .int .i64 a2_1] 31 (0, 0)) pmBx12_3_ hb); have n3_ := Aside0.mk (blk_below (g := gb247) (o := .cells #[.bool a4_0, .int .i64 a4_1] 23 (0, 0)) pmBx12_4_ hb); have n4_ := Aside0.mk (blk_below (g := gb248) (o := .cells #[.bool a5_0, .int .i64 a5_1] 23 (0, 0)) pmBx12_5_ hb); have n5_ := Aside0.mk (blk_below (g := gb249) (o := .cells #[.int .i64 a6_0, .int .i64 a6_1] 46 (0, 0)) pmBx12_6_ hb); have n6_ := Aside0.mk (below_step pmBx12_0_ hb); clear BK244; clear BK245; clear BK246; clear BK247; clear BK248; clear BK249; clear HB; have BK244 := n0_; have BK245 := n1_; have BK246 := n2_; have BK247 := n3_; have BK248 := n4_; have BK249 := n5_; have HB := n6_; clear n0_ n1_ n2_ n3_ n4_ n5_ n6_; (try clear hb); (try clear hb2); (try clear hk); (try clear hi)))
                  go_ret2
                  exact ⟨by first | rfl | (simp [errW_none, errW_some] <;> rfl) | (simp [*, errW_none, errW_some] <;> rfl), by repeat (first | (with_reducible first | exact HB.out | apply below_alloc | apply pw_below_drewN | apply below_drew1 | refine below_set ?_ GE244.out | refine below_set ?_ GE245.out | refine below_set ?_ GE246.out | refine below_set ?_ GE247.out | refine below_set ?_ GE248.out | refine below_set ?_ GE249.out) | exact HB.out)⟩
        · rw [if_neg c63] at H
          have c63b0 : (t256 == 0) = false := beq_eq_false_iff_ne.mpr c63
          have c63b1 : (t256 != 0) = true := bne_iff_ne.mpr c63
          simp only [Option.some.injEq, Prod.mk.injEq] at H
          obtain ⟨rfl, rfl⟩ := H
          have hnb166 := NB244_245.out
          have hnc166 := NB245_244.out
          have hnb167 := NB244_246.out
          have hnc167 := NB246_244.out
          have hnb168 := NB244_247.out
          have hnc168 := NB247_244.out
          have hnb169 := NB244_248.out
          have hnc169 := NB248_244.out
          have hnb170 := NB244_249.out
          have hnc170 := NB249_244.out
          have hcz171_0 : wc.cell? ⟨gb244, 0, none⟩ = some (.int .i64 a0_0) := (blk_cell BK244.out 0).trans rfl
          have hcz171_1 : wc.cell? ⟨gb244, 1, none⟩ = some (.int .i64 a0_1) := (blk_cell BK244.out 1).trans rfl
          have hfz171_0 := blk_frozen BK244.out 0
          have hfz171_1 := blk_frozen BK244.out 1
          have hnb172 := NB249_245.out
          have hnc172 := NB245_249.out
          have hnb173 := NB249_246.out
          have hnc173 := NB246_249.out
          have hnb174 := NB249_247.out
          have hnc174 := NB247_249.out
          have hnb175 := NB249_248.out
          have hnc175 := NB248_249.out
          have hcz176_0 : wc.cell? ⟨gb249, 0, none⟩ = some (.int .i64 a6_0) := (blk_cell BK249.out 0).trans rfl
          have hcz176_1 : wc.cell? ⟨gb249, 1, none⟩ = some (.int .i64 a6_1) := (blk_cell BK249.out 1).trans rfl
          have hfz176_0 := blk_frozen BK249.out 0
          have hfz176_1 := blk_frozen BK249.out 1
          go_wp2_with (first | ((with_reducible refine gate_callee (f := 13) rfl ?_); refine goesL_ (some 43) rfl rfl Try.func13 pmBx12_19_ rfl #[.agg #[.int .i64 a0_0, .int .i64 a0_1], .int .i64 a3, .bool true, .agg #[.int .i64 a6_0, .int .i64 a6_1]] rfl pmBx12_7_ ?_; (with_reducible refine (self_Limit.calls kj8 a0_0 a0_1 a3 true a6_0 a6_1 t254 t255 t256 _ A62.out).mono ?_); rintro e w177 ⟨rfl, hb⟩; refine ⟨_, rfl, ?_⟩; have n0_ := Aside0.mk (blk_below (g := gb244) (o := .cells #[.int .i64 a0_0, .int .i64 a0_1] 31 (0, 0)) pmBx12_1_ hb); have n1_ := Aside0.mk (blk_below (g := gb245) (o := .cells #[.int .i64 a1_0, .int .i64 a1_1] 31 (0, 0)) pmBx12_2_ hb); have n2_ := Aside0.mk (blk_below (g := gb246) (o := .cells #[.int .i64 a2_0, .int .i64 a2_1] 31 (0, 0)) pmBx12_3_ hb); have n3_ := Aside0.mk (blk_below (g := gb247) (o := .cells #[.bool a4_0, .int .i64 a4_1] 23 (0, 0)) pmBx12_4_ hb); have n4_ := Aside0.mk (blk_below (g := gb248) (o := .cells #[.bool a5_0, .int .i64 a5_1] 23 (0, 0)) pmBx12_5_ hb); have n5_ := Aside0.mk (blk_below (g := gb249) (o := .cells #[.int .i64 a6_0, .int .i64 a6_1] 46 (0, 0)) pmBx12_6_ hb); have n6_ := Aside0.mk (below_step pmBx12_0_ hb); clear BK244; clear BK245; clear BK246; clear BK247; clear BK248; clear BK249; clear HB; have BK244 := n0_; have BK245 := n1_; have BK246 := n2_; have BK247 := n3_; have BK248 := n4_; have BK249 := n5_; have HB := n6_; clear n0_ n1_ n2_ n3_ n4_ n5_ n6_; (try clear hb); (try clear hb2); (try clear hk); (try clear hi)))
          go_ret2
          exact ⟨by first | rfl | (simp [errW_none, errW_some] <;> rfl) | (simp [*, errW_none, errW_some] <;> rfl), by repeat (first | (with_reducible first | exact HB.out | apply below_alloc | apply pw_below_drewN | apply below_drew1 | refine below_set ?_ GE244.out | refine below_set ?_ GE245.out | refine below_set ?_ GE246.out | refine below_set ?_ GE247.out | refine below_set ?_ GE248.out | refine below_set ?_ GE249.out) | exact HB.out)⟩

end Go.Proofs.Ytbenanokgfphmaa.PB
