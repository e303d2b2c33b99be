-- written by a program of this session (a print of the translation with changes of its own)
import Derived.Test.YtbenanokgfphmaaPBx0
import Derived.Test.YtbenanokgfphmaaPBx7
import Derived.Test.YtbenanokgfphmaaPBx9
import Derived.Test.YtbenanokgfphmaaPBx10
import Derived.Test.YtbenanokgfphmaaPBx13
namespace Go.Proofs.Ytbenanokgfphmaa.PB
open Go.RowKit Go.Proofs.YtbenanokgfphmaaW.PrintWords Go.Proofs.YtbenanokgfphmaaW.PrintLast Go.Proofs.YtbenanokgfphmaaW.PrintMore
theorem pmBx14_0_ {P : Prop} (h : P := by repeat (first | (with_reducible first | exact HB.out | apply below_alloc | apply pw_below_drewN | apply below_drew1 | refine below_set ?_ GE273.out | refine below_set ?_ GE274.out | refine below_set ?_ GE275.out | refine below_set ?_ GE276.out | refine below_set ?_ GE277.out | refine below_set ?_ GE278.out) | exact HB.out)) : P := h
theorem pmBx14_1_ {P : Prop} (h : P := by (with_reducible repeat (first | refine blk_drewN ?_ _ | refine blk_drew ?_ | refine blk_alloc ?_ _)); exact BK273.out) : P := h
theorem pmBx14_2_ {P : Prop} (h : P := by (with_reducible repeat (first | refine blk_drewN ?_ _ | refine blk_drew ?_ | refine blk_alloc ?_ _)); exact BK274.out) : P := h
theorem pmBx14_3_ {P : Prop} (h : P := by (with_reducible repeat (first | refine blk_drewN ?_ _ | refine blk_drew ?_ | refine blk_alloc ?_ _)); exact BK275.out) : P := h
theorem pmBx14_4_ {P : Prop} (h : P := by (with_reducible repeat (first | refine blk_drewN ?_ _ | refine blk_drew ?_ | refine blk_alloc ?_ _)); exact BK276.out) : P := h
theorem pmBx14_5_ {P : Prop} (h : P := by (with_reducible repeat (first | refine blk_drewN ?_ _ | refine blk_drew ?_ | refine blk_alloc ?_ _)); exact BK277.out) : P := h
theorem pmBx14_6_ {P : Prop} (h : P := by (with_reducible repeat (first | refine blk_drewN ?_ _ | refine blk_drew ?_ | refine blk_alloc ?_ _)); exact BK278.out) : P := h
theorem pmBx14_7_ {P : Prop} (h : P := by (try simp only [List.map_toArray, List.map_cons, List.map_nil]); first | done | rfl | (simp only [List.length_drop, List.length_take]; rfl)) : P := h
theorem pmBx14_8_ {P : Prop} (h : P := by repeat (first | (with_reducible first | exact HB.out | apply below_alloc | apply pw_below_drewN | apply below_drew1 | refine below_set ?_ GE273.out | refine below_set ?_ GE274.out | refine below_set ?_ GE275.out | refine below_set ?_ GE276.out | refine below_set ?_ GE277.out) | exact HB.out)) : P := h
theorem pmBx14_9_ {P : Prop} (h : P := by repeat (first | (with_reducible first | exact HB.out | apply below_alloc | apply pw_below_drewN | apply below_drew1 | refine below_set ?_ GE273.out | refine below_set ?_ GE274.out | refine below_set ?_ GE275.out | refine below_set ?_ GE276.out) | exact HB.out)) : P := h
theorem pmBx14_10_ {P : Prop} (h : P := by rw [hg]; exact Nat.ne_of_lt (blk_lt (g := gb273) (o := .cells #[.int .i64 a0_0, .int .i64 a0_1] 31 (0, 0)) pmBx14_1_)) : P := h
theorem pmBx14_11_ {P : Prop} (h : P := by rw [hg]; exact Nat.ne_of_gt (blk_lt (g := gb273) (o := .cells #[.int .i64 a0_0, .int .i64 a0_1] 31 (0, 0)) pmBx14_1_)) : P := h
theorem pmBx14_12_ {P : Prop} (h : P := by repeat (first | (with_reducible first | exact HB.out | apply below_alloc | apply pw_below_drewN | apply below_drew1 | refine below_set ?_ GE273.out | refine below_set ?_ GE274.out | refine below_set ?_ GE275.out) | exact HB.out)) : P := h
theorem pmBx14_13_ {P : Prop} (h : P := by first | rfl | (simp; done) | (simp [*]; done)) : P := h
theorem pmBx14_14_ {P : Prop} (h : P := by repeat (first | (with_reducible first | exact HB.out | apply below_alloc | apply pw_below_drewN | apply below_drew1 | refine below_set ?_ GE273.out | refine below_set ?_ GE274.out) | exact HB.out)) : P := h
theorem pmBx14_15_ {P : Prop} (h : P := by rw [hg]; exact Nat.ne_of_lt (blk_lt (g := gb274) (o := .cells #[.int .i64 a1_0, .int .i64 a1_1] 31 (0, 0)) pmBx14_2_)) : P := h
theorem pmBx14_16_ {P : Prop} (h : P := by rw [hg]; exact Nat.ne_of_gt (blk_lt (g := gb274) (o := .cells #[.int .i64 a1_0, .int .i64 a1_1] 31 (0, 0)) pmBx14_2_)) : P := h
theorem pmBx14_17_ {P : Prop} (h : P := by repeat (first | (with_reducible first | exact HB.out | apply below_alloc | apply pw_below_drewN | apply below_drew1 | refine below_set ?_ GE273.out) | exact HB.out)) : P := h
theorem pmBx14_18_ {P : Prop} (h : P := by repeat (first | (with_reducible first | exact HB.out | apply below_alloc | apply pw_below_drewN | apply below_drew1) | exact HB.out)) : P := h
theorem pmBx14_19_ {P : Prop} (h : P := by rw [hg]; exact Nat.ne_of_lt (blk_lt (g := gb275) (o := .cells #[.int .i64 a2_0, .int .i64 a2_1] 31 (0, 0)) pmBx14_3_)) : P := h
theorem pmBx14_20_ {P : Prop} (h : P := by rw [hg]; exact Nat.ne_of_gt (blk_lt (g := gb275) (o := .cells #[.int .i64 a2_0, .int .i64 a2_1] 31 (0, 0)) pmBx14_3_)) : P := h
theorem pmBx14_21_ {P : Prop} (h : P := by kernel_rfl) : P := h
attribute [local go_sem] max2_int min2_int max_two min_two max_three min_three max_four min_four   -- for this text's walks alone
set_option linter.unusedVariables false
set_option linter.unusedSimpArgs false

/-! ### parterreref29_Used: function 18 -/
mutual
def parterreref29_Used.j0 : Nat → Int → Bool → Bool → Int → Int → Int → Int → Int → Int → Bool → Int → Bool → Int → Int → Int → Option (Int × Int)
  | 0, _, _, _, _, _, _, _, _, _, _, _, _, _, _, _ => none
  | k + 1, x3, x7, x38, x274000, x274001, x275000, x275001, x276000, x276001, x277000, x277001, x278000, x278001, x279000, x279001 => if x38 = true then (some (0, 2)) else ((parterreref29_Limit.f k x274000 x274001 x3 true x279000 x279001).bind fun bt283 => (if bt283.2.2 = 0 then (if bt283.2.1 = true then (parterreref29_Used.j1 k x3 bt283.1 true false x275000 x275001 x276000 x276001 x277000 x277001 x278000 x278001 x279000 x279001) else (if x7 = true then (if x277000 = true then (parterreref29_Used.j1 k x3 bt283.1 false false x275000 x275001 x276000 x276001 x277000 x277001 x278000 x278001 x279000 x279001) else (parterreref29_Used.j1 k x3 bt283.1 false (!x278000) x275000 x275001 x276000 x276001 x277000 x277001 x278000 x278001 x279000 x279001)) else (parterreref29_Used.j1 k x3 bt283.1 false false x275000 x275001 x276000 x276001 x277000 x277001 x278000 x278001 x279000 x279001))) else (some (0, bt283.2.2))))
def parterreref29_Used.j1 : Nat → Int → Int → Bool → Bool → Int → Int → Int → Int → Bool → Int → Bool → Int → Int → Int → Option (Int × Int)
  | 0, _, _, _, _, _, _, _, _, _, _, _, _, _, _ => none
  | k + 1, x3, x18, x19, x64, x275000, x275001, x276000, x276001, x277000, x277001, x278000, x278001, x279000, x279001 => if x64 = true then ((parterreref29_Inner.f x3 x277000 x277001 x278000 x278001).bind fun t286 => (parterreref29_Used.j2 k x3 t286 x275000 x275001 x276000 x276001 x279000 x279001)) else (if x19 = true then (parterreref29_Used.j2 k x3 x18 x275000 x275001 x276000 x276001 x279000 x279001) else ((parterreref29_Inner.f x3 x277000 x277001 x278000 x278001).bind fun t287 => (parterreref29_Used.j2 k x3 (mx x279000 (mn x279001 t287)) x275000 x275001 x276000 x276001 x279000 x279001)))
def parterreref29_Used.j2 : Nat → Int → Int → Int → Int → Int → Int → Int → Int → Option (Int × Int)
  | 0, _, _, _, _, _, _, _, _ => none
  | k + 1, x3, x18, x275000, x275001, x276000, x276001, x279000, x279001 => (parterreref29_Size.f x18).bind fun t288 => (if t288 = true then ((parterreref29_Clamp.f k x18 x275000 x275001 x276000 x276001 x3 true x279000 x279001).bind fun bt289 => (some (bt289.1, bt289.2))) else (some (0, 2)))
end
def parterreref29_Used.f (k : Nat) (a0_0 : Int) (a0_1 : Int) (a1_0 : Int) (a1_1 : Int) (a2_0 : Int) (a2_1 : Int) (a3 : Int) (a4_0 : Bool) (a4_1 : Int) (a5_0 : Bool) (a5_1 : Int) (a6_0 : Int) (a6_1 : Int) (a7 : Bool) : Option (Int × Int) := (parterreref29_Size.f a3).bind fun t279 => (if t279 = true then ((parterreref29_margin.f a4_0 a4_1).bind fun t280 => (if t280 = true then ((parterreref29_margin.f a5_0 a5_1).bind fun t281 => (if t281 = true then ((parterreref29_content.f a6_0 a6_1).bind fun t282 => (parterreref29_Used.j0 k a3 a7 (!t282) a0_0 a0_1 a1_0 a1_1 a2_0 a2_1 a4_0 a4_1 a5_0 a5_1 a6_0 a6_1)) else (parterreref29_Used.j0 k a3 a7 true a0_0 a0_1 a1_0 a1_1 a2_0 a2_1 a4_0 a4_1 a5_0 a5_1 a6_0 a6_1))) else (parterreref29_Used.j0 k a3 a7 true a0_0 a0_1 a1_0 a1_1 a2_0 a2_1 a4_0 a4_1 a5_0 a5_1 a6_0 a6_1))) else (parterreref29_Used.j0 k a3 a7 true a0_0 a0_1 a1_0 a1_1 a2_0 a2_1 a4_0 a4_1 a5_0 a5_1 a6_0 a6_1))
theorem parterreref29_Used.mono_l : ∀ k, (∀ y0 y1 y2 y3 y4 y5 y6 y7 y8 y9 y10 y11 y12 y13 y14, LeO (parterreref29_Used.j0 k y0 y1 y2 y3 y4 y5 y6 y7 y8 y9 y10 y11 y12 y13 y14) (parterreref29_Used.j0 (k + 1) y0 y1 y2 y3 y4 y5 y6 y7 y8 y9 y10 y11 y12 y13 y14)) ∧ (∀ y0 y1 y2 y3 y4 y5 y6 y7 y8 y9 y10 y11 y12 y13, LeO (parterreref29_Used.j1 k y0 y1 y2 y3 y4 y5 y6 y7 y8 y9 y10 y11 y12 y13) (parterreref29_Used.j1 (k + 1) y0 y1 y2 y3 y4 y5 y6 y7 y8 y9 y10 y11 y12 y13)) ∧ (∀ y0 y1 y2 y3 y4 y5 y6 y7, LeO (parterreref29_Used.j2 k y0 y1 y2 y3 y4 y5 y6 y7) (parterreref29_Used.j2 (k + 1) y0 y1 y2 y3 y4 y5 y6 y7))
  | 0 => ⟨fun _ _ _ _ _ _ _ _ _ _ _ _ _ _ _ r h => by simp [parterreref29_Used.j0] at h, fun _ _ _ _ _ _ _ _ _ _ _ _ _ _ r h => by simp [parterreref29_Used.j1] at h, fun _ _ _ _ _ _ _ _ r h => by simp [parterreref29_Used.j2] at h⟩
  | k + 1 => by
    obtain ⟨ih0, ih1, ih2⟩ := parterreref29_Used.mono_l k
    refine ⟨?_, ?_, ?_⟩
    · intro y0 y1 y2 y3 y4 y5 y6 y7 y8 y9 y10 y11 y12 y13 y14
      unfold parterreref29_Used.j0
      repeat' first
      | (with_reducible exact ih0 _ _ _ _ _ _ _ _ _ _ _ _ _ _ _)
      | (with_reducible exact ih1 _ _ _ _ _ _ _ _ _ _ _ _ _ _)
      | (with_reducible exact ih2 _ _ _ _ _ _ _ _)
      | (with_reducible exact parterreref29_Clamp.mono _ _ _ _ _ _ _ _ _ _)
      | (with_reducible exact parterreref29_Limit.mono _ _ _ _ _ _ _)
      | (with_reducible exact LeO.refl _)
      | (with_reducible exact LeO.none _)
      | (with_reducible refine LeO.ite ?_ ?_)
      | (with_reducible refine LeO.bind ?_ (fun _ => ?_))
      | exact ih0 _ _ _ _ _ _ _ _ _ _ _ _ _ _ _
      | exact ih1 _ _ _ _ _ _ _ _ _ _ _ _ _ _
      | exact ih2 _ _ _ _ _ _ _ _
      | exact parterreref29_Clamp.mono _ _ _ _ _ _ _ _ _ _
      | exact parterreref29_Limit.mono _ _ _ _ _ _ _
      | exact LeO.none _
      | refine LeO.ite ?_ ?_
      | refine LeO.bind ?_ (fun _ => ?_)
    · intro y0 y1 y2 y3 y4 y5 y6 y7 y8 y9 y10 y11 y12 y13
      unfold parterreref29_Used.j1
      repeat' first
      | (with_reducible exact ih0 _ _ _ _ _ _ _ _ _ _ _ _ _ _ _)
      | (with_reducible exact ih1 _ _ _ _ _ _ _ _ _ _ _ _ _ _)
      | (with_reducible exact ih2 _ _ _ _ _ _ _ _)
      | (with_reducible exact parterreref29_Clamp.mono _ _ _ _ _ _ _ _ _ _)
      | (with_reducible exact parterreref29_Limit.mono _ _ _ _ _ _ _)
      | (with_reducible exact LeO.refl _)
      | (with_reducible exact LeO.none _)
      | (with_reducible refine LeO.ite ?_ ?_)
      | (with_reducible refine LeO.bind ?_ (fun _ => ?_))
      | exact ih0 _ _ _ _ _ _ _ _ _ _ _ _ _ _ _
      | exact ih1 _ _ _ _ _ _ _ _ _ _ _ _ _ _
      | exact ih2 _ _ _ _ _ _ _ _
      | exact parterreref29_Clamp.mono _ _ _ _ _ _ _ _ _ _
      | exact parterreref29_Limit.mono _ _ _ _ _ _ _
      | exact LeO.none _
      | refine LeO.ite ?_ ?_
      | refine LeO.bind ?_ (fun _ => ?_)
    · intro y0 y1 y2 y3 y4 y5 y6 y7
      unfold parterreref29_Used.j2
      repeat' first
      | (with_reducible exact ih0 _ _ _ _ _ _ _ _ _ _ _ _ _ _ _)
      | (with_reducible exact ih1 _ _ _ _ _ _ _ _ _ _ _ _ _ _)
      | (with_reducible exact ih2 _ _ _ _ _ _ _ _)
      | (with_reducible exact parterreref29_Clamp.mono _ _ _ _ _ _ _ _ _ _)
      | (with_reducible exact parterreref29_Limit.mono _ _ _ _ _ _ _)
      | (with_reducible exact LeO.refl _)
      | (with_reducible exact LeO.none _)
      | (with_reducible refine LeO.ite ?_ ?_)
      | (with_reducible refine LeO.bind ?_ (fun _ => ?_))
      | exact ih0 _ _ _ _ _ _ _ _ _ _ _ _ _ _ _
      | exact ih1 _ _ _ _ _ _ _ _ _ _ _ _ _ _
      | exact ih2 _ _ _ _ _ _ _ _
      | exact parterreref29_Clamp.mono _ _ _ _ _ _ _ _ _ _
      | exact parterreref29_Limit.mono _ _ _ _ _ _ _
      | exact LeO.none _
      | refine LeO.ite ?_ ?_
      | refine LeO.bind ?_ (fun _ => ?_)
theorem parterreref29_Used.mono : ∀ a0 a1 a2 a3 a4 a5 a6 a7 a8 a9 a10 a11 a12 a13 k, LeO (parterreref29_Used.f k a0 a1 a2 a3 a4 a5 a6 a7 a8 a9 a10 a11 a12 a13) (parterreref29_Used.f (k + 1) a0 a1 a2 a3 a4 a5 a6 a7 a8 a9 a10 a11 a12 a13) := by
  intro a0 a1 a2 a3 a4 a5 a6 a7 a8 a9 a10 a11 a12 a13 k
  obtain ⟨ih0, ih1, ih2⟩ := parterreref29_Used.mono_l k
  unfold parterreref29_Used.f
  repeat' first
      | (with_reducible exact ih0 _ _ _ _ _ _ _ _ _ _ _ _ _ _ _)
      | (with_reducible exact ih1 _ _ _ _ _ _ _ _ _ _ _ _ _ _)
      | (with_reducible exact ih2 _ _ _ _ _ _ _ _)
      | (with_reducible exact parterreref29_Clamp.mono _ _ _ _ _ _ _ _ _ _)
      | (with_reducible exact parterreref29_Limit.mono _ _ _ _ _ _ _)
      | (with_reducible exact LeO.refl _)
      | (with_reducible exact LeO.none _)
      | (with_reducible refine LeO.ite ?_ ?_)
      | (with_reducible refine LeO.bind ?_ (fun _ => ?_))
      | exact ih0 _ _ _ _ _ _ _ _ _ _ _ _ _ _ _
      | exact ih1 _ _ _ _ _ _ _ _ _ _ _ _ _ _
      | exact ih2 _ _ _ _ _ _ _ _
      | exact parterreref29_Clamp.mono _ _ _ _ _ _ _ _ _ _
      | exact parterreref29_Limit.mono _ _ _ _ _ _ _
      | exact LeO.none _
      | refine LeO.ite ?_ ?_
      | refine LeO.bind ?_ (fun _ => ?_)
def parterreref29_Used.T9 : Bool × List (List Nat × List Nat) := (true, [([], []), ([0], [0]), ([], []), ([2], [2]), ([], []), ([], []), ([], []), ([4, 5, 6], [4, 5, 6]), ([3, 7], [3, 7]), ([1, 8], [1, 8]), ([9, 7, 0, 1, 2, 3, 4, 5, 6, 7, 8, 9], [9])])
def parterreref29_Used.B9 : List Nat := [0, 1, 0, 4, 0, 0, 0, 112, 252, 511, 1023]
theorem parterreref29_Used.tab9 : rtab .any (opsOf Try.f18 9) = parterreref29_Used.T9 := by kernel_rfl
theorem parterreref29_Used.bits9 : waitsOk parterreref29_Used.T9.2 parterreref29_Used.B9 = true := by kernel_rfl
set_option maxHeartbeats 8000000 in
set_option maxRecDepth 100000 in
theorem parterreref29_Used.calls (k : Nat) (a0_0 : Int) (a0_1 : Int) (a1_0 : Int) (a1_1 : Int) (a2_0 : Int) (a2_1 : Int) (a3 : Int) (a4_0 : Bool) (a4_1 : Int) (a5_0 : Bool) (a5_1 : Int) (a6_0 : Int) (a6_1 : Int) (a7 : Bool) (r1 : Int) (r2 : Int) (w : World) (h : parterreref29_Used.f k a0_0 a0_1 a1_0 a1_1 a2_0 a2_1 a3 a4_0 a4_1 a5_0 a5_1 a6_0 a6_1 a7 = some (r1, r2)) :
    Calls Try.prog 18 #[.agg #[.int .i64 a0_0, .int .i64 a0_1], .agg #[.int .i64 a1_0, .int .i64 a1_1], .agg #[.int .i64 a2_0, .int .i64 a2_1], .int .i64 a3, .agg #[.bool a4_0, .int .i64 a4_1], .agg #[.bool a5_0, .int .i64 a5_1], .agg #[.int .i64 a6_0, .int .i64 a6_1], .bool a7] w fun e w' => e = .returned (.tuple #[.int .i64 r1, .int .i64 r2]) ∧ Below w.heap.size w w' := by
  have hu31 := Try.underlying31
  have hu23 := Try.underlying23
  have hu46 := Try.underlying46
  have HB := Aside0.mk (Below.refl w.heap.size w)
  have H : ((parterreref29_Size.f a3).bind fun t279 => (if t279 = true then ((parterreref29_margin.f a4_0 a4_1).bind fun t280 => (if t280 = true then ((parterreref29_margin.f a5_0 a5_1).bind fun t281 => (if t281 = true then ((parterreref29_content.f a6_0 a6_1).bind fun t282 => (parterreref29_Used.j0 k a3 a7 (!t282) a0_0 a0_1 a1_0 a1_1 a2_0 a2_1 a4_0 a4_1 a5_0 a5_1 a6_0 a6_1)) else (parterreref29_Used.j0 k a3 a7 true a0_0 a0_1 a1_0 a1_1 a2_0 a2_1 a4_0 a4_1 a5_0 a5_1 a6_0 a6_1))) else (parterreref29_Used.j0 k a3 a7 true a0_0 a0_1 a1_0 a1_1 a2_0 a2_1 a4_0 a4_1 a5_0 a5_1 a6_0 a6_1))) else (parterreref29_Used.j0 k a3 a7 true a0_0 a0_1 a1_0 a1_1 a2_0 a2_1 a4_0 a4_1 a5_0 a5_1 a6_0 a6_1))) = some (r1, r2) := h
  clear h
  have HC9 := Aside0.mk H
  clear H
  go_enter Try.func18, Try.ntmps18
  go_upto_region 1 with (first | ((with_reducible refine gate_dst (N := 8) rfl ?_); refine box_event ?hg (N := 8) ?hd (cs := #[.int .i64 a0_0, .int .i64 a0_1]) (t := 31) ?hr ?_; (case hd => rfl); (case hg => rfl); (case hr => first | (go_simp; done) | (go_simp; rfl)); intro gb273 hg w10 hbox hb; have n0_ := Aside0.mk (below_step pmBx14_18_ hb); have n1_ := Aside0.mk (hbox); have n2_ := Aside0.mk ((by rw [hg]; exact (below_size pmBx14_18_) : w.heap.size ≤ gb273)); have n3_ := Aside0.mk ((by rw [hg]; exact (below_size pmBx14_18_) : w.heap.size ≤ gb273)); clear HB; have HB := n0_; have BK273 := n1_; have GW273 := n2_; have GE273 := n3_; clear n0_ n1_ n2_ n3_; clear hb hbox hg) | ((with_reducible refine gate_dst (N := 9) rfl ?_); refine box_event ?hg (N := 9) ?hd (cs := #[.int .i64 a1_0, .int .i64 a1_1]) (t := 31) ?hr ?_; (case hd => rfl); (case hg => rfl); (case hr => first | (go_simp; done) | (go_simp; rfl)); intro gb274 hg w11 hbox hb; have n0_ := Aside0.mk (blk_below (g := gb273) (o := .cells #[.int .i64 a0_0, .int .i64 a0_1] 31 (0, 0)) pmBx14_1_ hb); have n1_ := Aside0.mk (below_step pmBx14_17_ hb); have n2_ := Aside0.mk (hbox); have n3_ := Aside0.mk ((by rw [hg]; exact (below_size pmBx14_17_) : w.heap.size ≤ gb274)); have n4_ := Aside0.mk ((by rw [hg]; exact (below_size pmBx14_17_) : w.heap.size ≤ gb274)); have n5_ := Aside0.mk ((pmBx14_10_ : gb273 ≠ gb274)); have n6_ := Aside0.mk ((pmBx14_11_ : gb274 ≠ gb273)); clear BK273; clear HB; have BK273 := n0_; have HB := n1_; have BK274 := n2_; have GW274 := n3_; have GE274 := n4_; have NB273_274 := n5_; have NB274_273 := n6_; clear n0_ n1_ n2_ n3_ n4_ n5_ n6_; clear hb hbox hg) | ((with_reducible refine gate_dst (N := 10) rfl ?_); refine box_event ?hg (N := 10) ?hd (cs := #[.int .i64 a2_0, .int .i64 a2_1]) (t := 31) ?hr ?_; (case hd => rfl); (case hg => rfl); (case hr => first | (go_simp; done) | (go_simp; rfl)); intro gb275 hg w12 hbox hb; have n0_ := Aside0.mk (blk_below (g := gb273) (o := .cells #[.int .i64 a0_0, .int .i64 a0_1] 31 (0, 0)) pmBx14_1_ hb); have n1_ := Aside0.mk (blk_below (g := gb274) (o := .cells #[.int .i64 a1_0, .int .i64 a1_1] 31 (0, 0)) pmBx14_2_ hb); have n2_ := Aside0.mk (below_step pmBx14_14_ hb); have n3_ := Aside0.mk (hbox); have n4_ := Aside0.mk ((by rw [hg]; exact (below_size pmBx14_14_) : w.heap.size ≤ gb275)); have n5_ := Aside0.mk ((by rw [hg]; exact (below_size pmBx14_14_) : w.heap.size ≤ gb275)); have n6_ := Aside0.mk ((pmBx14_10_ : gb273 ≠ gb275)); have n7_ := Aside0.mk ((pmBx14_11_ : gb275 ≠ gb273)); have n8_ := Aside0.mk ((pmBx14_15_ : gb274 ≠ gb275)); have n9_ := Aside0.mk ((pmBx14_16_ : gb275 ≠ gb274)); clear BK273; clear BK274; clear HB; have BK273 := n0_; have BK274 := n1_; have HB := n2_; have BK275 := n3_; have GW275 := n4_; have GE275 := n5_; have NB273_275 := n6_; have NB275_273 := n7_; have NB274_275 := n8_; have NB275_274 := n9_; clear n0_ n1_ n2_ n3_ n4_ n5_ n6_ n7_ n8_ n9_; clear hb hbox hg) | ((with_reducible refine gate_dst (N := 12) rfl ?_); refine box_event ?hg (N := 12) ?hd (cs := #[.bool a4_0, .int .i64 a4_1]) (t := 23) ?hr ?_; (case hd => rfl); (case hg => rfl); (case hr => first | (go_simp; done) | (go_simp; rfl)); intro gb276 hg w13 hbox hb; have n0_ := Aside0.mk (blk_below (g := gb273) (o := .cells #[.int .i64 a0_0, .int .i64 a0_1] 31 (0, 0)) pmBx14_1_ hb); have n1_ := Aside0.mk (blk_below (g := gb274) (o := .cells #[.int .i64 a1_0, .int .i64 a1_1] 31 (0, 0)) pmBx14_2_ hb); have n2_ := Aside0.mk (blk_below (g := gb275) (o := .cells #[.int .i64 a2_0, .int .i64 a2_1] 31 (0, 0)) pmBx14_3_ hb); have n3_ := Aside0.mk (below_step pmBx14_12_ hb); have n4_ := Aside0.mk (hbox); have n5_ := Aside0.mk ((by rw [hg]; exact (below_size pmBx14_12_) : w.heap.size ≤ gb276)); have n6_ := Aside0.mk ((by rw [hg]; exact (below_size pmBx14_12_) : w.heap.size ≤ gb276)); have n7_ := Aside0.mk ((pmBx14_10_ : gb273 ≠ gb276)); have n8_ := Aside0.mk ((pmBx14_11_ : gb276 ≠ gb273)); have n9_ := Aside0.mk ((pmBx14_15_ : gb274 ≠ gb276)); have n10_ := Aside0.mk ((pmBx14_16_ : gb276 ≠ gb274)); have n11_ := Aside0.mk ((pmBx14_19_ : gb275 ≠ gb276)); have n12_ := Aside0.mk ((pmBx14_20_ : gb276 ≠ gb275)); clear BK273; clear BK274; clear BK275; clear HB; have BK273 := n0_; have BK274 := n1_; have BK275 := n2_; have HB := n3_; have BK276 := n4_; have GW276 := n5_; have GE276 := n6_; have NB273_276 := n7_; have NB276_273 := n8_; have NB274_276 := n9_; have NB276_274 := n10_; have NB275_276 := n11_; have NB276_275 := n12_; clear n0_ n1_ n2_ n3_ n4_ n5_ n6_ n7_ n8_ n9_ n10_ n11_ n12_; clear hb hbox hg) | ((with_reducible refine gate_dst (N := 13) rfl ?_); refine box_event ?hg (N := 13) ?hd (cs := #[.bool a5_0, .int .i64 a5_1]) (t := 23) ?hr ?_; (case hd => rfl); (case hg => rfl); (case hr => first | (go_simp; done) | (go_simp; rfl)); intro gb277 hg w14 hbox hb; have n0_ := Aside0.mk (blk_below (g := gb273) (o := .cells #[.int .i64 a0_0, .int .i64 a0_1] 31 (0, 0)) pmBx14_1_ hb); have n1_ := Aside0.mk (blk_below (g := gb274) (o := .cells #[.int .i64 a1_0, .int .i64 a1_1] 31 (0, 0)) pmBx14_2_ hb); have n2_ := Aside0.mk (blk_below (g := gb275) (o := .cells #[.int .i64 a2_0, .int .i64 a2_1] 31 (0, 0)) pmBx14_3_ hb); have n3_ := Aside0.mk (blk_below (g := gb276) (o := .cells #[.bool a4_0, .int .i64 a4_1] 23 (0, 0)) pmBx14_4_ hb); have n4_ := Aside0.mk (below_step pmBx14_9_ hb); have n5_ := Aside0.mk (hbox); have n6_ := Aside0.mk ((by rw [hg]; exact (below_size pmBx14_9_) : w.heap.size ≤ gb277)); have n7_ := Aside0.mk ((by rw [hg]; exact (below_size pmBx14_9_) : w.heap.size ≤ gb277)); have n8_ := Aside0.mk ((pmBx14_10_ : gb273 ≠ gb277)); have n9_ := Aside0.mk ((pmBx14_11_ : gb277 ≠ gb273)); have n10_ := Aside0.mk ((pmBx14_15_ : gb274 ≠ gb277)); have n11_ := Aside0.mk ((pmBx14_16_ : gb277 ≠ gb274)); have n12_ := Aside0.mk ((pmBx14_19_ : gb275 ≠ gb277)); have n13_ := Aside0.mk ((pmBx14_20_ : gb277 ≠ gb275)); have n14_ := Aside0.mk ((by rw [hg]; exact Nat.ne_of_lt (blk_lt (g := gb276) (o := .cells #[.bool a4_0, .int .i64 a4_1] 23 (0, 0)) pmBx14_4_) : gb276 ≠ gb277)); have n15_ := Aside0.mk ((by rw [hg]; exact Nat.ne_of_gt (blk_lt (g := gb276) (o := .cells #[.bool a4_0, .int .i64 a4_1] 23 (0, 0)) pmBx14_4_) : gb277 ≠ gb276)); clear BK273; clear BK274; clear BK275; clear BK276; clear HB; have BK273 := n0_; have BK274 := n1_; have BK275 := n2_; have BK276 := n3_; have HB := n4_; have BK277 := n5_; have GW277 := n6_; have GE277 := n7_; have NB273_277 := n8_; have NB277_273 := n9_; have NB274_277 := n10_; have NB277_274 := n11_; have NB275_277 := n12_; have NB277_275 := n13_; have NB276_277 := n14_; have NB277_276 := n15_; clear n0_ n1_ n2_ n3_ n4_ n5_ n6_ n7_ n8_ n9_ n10_ n11_ n12_ n13_ n14_ n15_; clear hb hbox hg) | ((with_reducible refine gate_dst (N := 14) rfl ?_); refine box_event ?hg (N := 14) ?hd (cs := #[.int .i64 a6_0, .int .i64 a6_1]) (t := 46) ?hr ?_; (case hd => rfl); (case hg => rfl); (case hr => first | (go_simp; done) | (go_simp; rfl)); intro gb278 hg w15 hbox hb; have n0_ := Aside0.mk (blk_below (g := gb273) (o := .cells #[.int .i64 a0_0, .int .i64 a0_1] 31 (0, 0)) pmBx14_1_ hb); have n1_ := Aside0.mk (blk_below (g := gb274) (o := .cells #[.int .i64 a1_0, .int .i64 a1_1] 31 (0, 0)) pmBx14_2_ hb); have n2_ := Aside0.mk (blk_below (g := gb275) (o := .cells #[.int .i64 a2_0, .int .i64 a2_1] 31 (0, 0)) pmBx14_3_ hb); have n3_ := Aside0.mk (blk_below (g := gb276) (o := .cells #[.bool a4_0, .int .i64 a4_1] 23 (0, 0)) pmBx14_4_ hb); have n4_ := Aside0.mk (blk_below (g := gb277) (o := .cells #[.bool a5_0, .int .i64 a5_1] 23 (0, 0)) pmBx14_5_ hb); have n5_ := Aside0.mk (below_step pmBx14_8_ hb); have n6_ := Aside0.mk (hbox); have n7_ := Aside0.mk ((by rw [hg]; exact (below_size pmBx14_8_) : w.heap.size ≤ gb278)); have n8_ := Aside0.mk ((by rw [hg]; exact (below_size pmBx14_8_) : w.heap.size ≤ gb278)); have n9_ := Aside0.mk ((pmBx14_10_ : gb273 ≠ gb278)); have n10_ := Aside0.mk ((pmBx14_11_ : gb278 ≠ gb273)); have n11_ := Aside0.mk ((pmBx14_15_ : gb274 ≠ gb278)); have n12_ := Aside0.mk ((pmBx14_16_ : gb278 ≠ gb274)); have n13_ := Aside0.mk ((pmBx14_19_ : gb275 ≠ gb278)); have n14_ := Aside0.mk ((pmBx14_20_ : gb278 ≠ gb275)); have n15_ := Aside0.mk ((by rw [hg]; exact Nat.ne_of_lt (blk_lt (g := gb276) (o := .cells #[.bool a4_0, .int .i64 a4_1] 23 (0, 0)) pmBx14_4_) : gb276 ≠ gb278)); have n16_ := Aside0.mk ((by rw [hg]; exact Nat.ne_of_gt (blk_lt (g := gb276) (o := .cells #[.bool a4_0, .int .i64 a4_1] 23 (0, 0)) pmBx14_4_) : gb278 ≠ gb276)); have n17_ := Aside0.mk ((by rw [hg]; exact Nat.ne_of_lt (blk_lt (g := gb277) (o := .cells #[.bool a5_0, .int .i64 a5_1] 23 (0, 0)) pmBx14_5_) : gb277 ≠ gb278)); have n18_ := Aside0.mk ((by rw [hg]; exact Nat.ne_of_gt (blk_lt (g := gb277) (o := .cells #[.bool a5_0, .int .i64 a5_1] 23 (0, 0)) pmBx14_5_) : gb278 ≠ gb277)); clear BK273; clear BK274; clear BK275; clear BK276; clear BK277; clear HB; have BK273 := n0_; have BK274 := n1_; have BK275 := n2_; have BK276 := n3_; have BK277 := n4_; have HB := n5_; have BK278 := n6_; have GW278 := n7_; have GE278 := n8_; have NB273_278 := n9_; have NB278_273 := n10_; have NB274_278 := n11_; have NB278_274 := n12_; have NB275_278 := n13_; have NB278_275 := n14_; have NB276_278 := n15_; have NB278_276 := n16_; have NB277_278 := n17_; have NB278_277 := n18_; clear n0_ n1_ n2_ n3_ n4_ n5_ n6_ n7_ n8_ n9_ n10_ n11_ n12_ n13_ n14_ n15_ n16_ n17_ n18_; clear hb hbox hg))
  (try simp only [Act.put, List.setIfInBounds_toArray, List.set_cons_zero, List.set_cons_succ])
  go_cut [38] (fun v38 wc => ∃ (kq : Nat) (x38_8 : Bool), v38 = .bool x38_8 ∧ Aside0 (parterreref29_Used.j0 kq a3 a7 x38_8 a0_0 a0_1 a1_0 a1_1 a2_0 a2_1 a4_0 a4_1 a5_0 a5_1 a6_0 a6_1 = some (r1, r2)) ∧ Aside0 (kq ≤ k) ∧ Aside0 (wc.heap[gb273]? = some (.cells #[.int .i64 a0_0, .int .i64 a0_1] 31 (0, 0))) ∧ Aside0 (wc.heap[gb274]? = some (.cells #[.int .i64 a1_0, .int .i64 a1_1] 31 (0, 0))) ∧ Aside0 (wc.heap[gb275]? = some (.cells #[.int .i64 a2_0, .int .i64 a2_1] 31 (0, 0))) ∧ Aside0 (wc.heap[gb276]? = some (.cells #[.bool a4_0, .int .i64 a4_1] 23 (0, 0))) ∧ Aside0 (wc.heap[gb277]? = some (.cells #[.bool a5_0, .int .i64 a5_1] 23 (0, 0))) ∧ Aside0 (wc.heap[gb278]? = some (.cells #[.int .i64 a6_0, .int .i64 a6_1] 46 (0, 0))) ∧ Aside0 (Below w.heap.size w wc))
  case first =>
    have H := HC9.out
    clear HC9
    replace H := Option.bind_eq_some_iff.mp H
    obtain ⟨t279, A160, H⟩ := H
    replace H : (if t279 = true then ((parterreref29_margin.f a4_0 a4_1).bind fun t280 => (if t280 = true then ((parterreref29_margin.f a5_0 a5_1).bind fun t281 => (if t281 = true then ((parterreref29_content.f a6_0 a6_1).bind fun t282 => (parterreref29_Used.j0 k a3 a7 (!t282) a0_0 a0_1 a1_0 a1_1 a2_0 a2_1 a4_0 a4_1 a5_0 a5_1 a6_0 a6_1)) else (parterreref29_Used.j0 k a3 a7 true a0_0 a0_1 a1_0 a1_1 a2_0 a2_1 a4_0 a4_1 a5_0 a5_1 a6_0 a6_1))) else (parterreref29_Used.j0 k a3 a7 true a0_0 a0_1 a1_0 a1_1 a2_0 a2_1 a4_0 a4_1 a5_0 a5_1 a6_0 a6_1))) else (parterreref29_Used.j0 k a3 a7 true a0_0 a0_1 a1_0 a1_1 a2_0 a2_1 a4_0 a4_1 a5_0 a5_1 a6_0 a6_1)) = some (r1, r2) := H
    have A16 := Aside0.mk A160
    clear A160
    by_cases c17 : t279 = true
    · subst c17
      have H1 : ((parterreref29_margin.f a4_0 a4_1).bind fun t280 => (if t280 = true then ((parterreref29_margin.f a5_0 a5_1).bind fun t281 => (if t281 = true then ((parterreref29_content.f a6_0 a6_1).bind fun t282 => (parterreref29_Used.j0 k a3 a7 (!t282) a0_0 a0_1 a1_0 a1_1 a2_0 a2_1 a4_0 a4_1 a5_0 a5_1 a6_0 a6_1)) else (parterreref29_Used.j0 k a3 a7 true a0_0 a0_1 a1_0 a1_1 a2_0 a2_1 a4_0 a4_1 a5_0 a5_1 a6_0 a6_1))) else (parterreref29_Used.j0 k a3 a7 true a0_0 a0_1 a1_0 a1_1 a2_0 a2_1 a4_0 a4_1 a5_0 a5_1 a6_0 a6_1))) = some (r1, r2) := by rw [if_pos rfl] at H; exact H
      clear H
      have H := H1
      clear H1
      replace H := Option.bind_eq_some_iff.mp H
      obtain ⟨t280, A180, H⟩ := H
      replace H : (if t280 = true then ((parterreref29_margin.f a5_0 a5_1).bind fun t281 => (if t281 = true then ((parterreref29_content.f a6_0 a6_1).bind fun t282 => (parterreref29_Used.j0 k a3 a7 (!t282) a0_0 a0_1 a1_0 a1_1 a2_0 a2_1 a4_0 a4_1 a5_0 a5_1 a6_0 a6_1)) else (parterreref29_Used.j0 k a3 a7 true a0_0 a0_1 a1_0 a1_1 a2_0 a2_1 a4_0 a4_1 a5_0 a5_1 a6_0 a6_1))) else (parterreref29_Used.j0 k a3 a7 true a0_0 a0_1 a1_0 a1_1 a2_0 a2_1 a4_0 a4_1 a5_0 a5_1 a6_0 a6_1)) = some (r1, r2) := H
      have A18 := Aside0.mk A180
      clear A180
      by_cases c19 : t280 = true
      · subst c19
        have H1 : ((parterreref29_margin.f a5_0 a5_1).bind fun t281 => (if t281 = true then ((parterreref29_content.f a6_0 a6_1).bind fun t282 => (parterreref29_Used.j0 k a3 a7 (!t282) a0_0 a0_1 a1_0 a1_1 a2_0 a2_1 a4_0 a4_1 a5_0 a5_1 a6_0 a6_1)) else (parterreref29_Used.j0 k a3 a7 true a0_0 a0_1 a1_0 a1_1 a2_0 a2_1 a4_0 a4_1 a5_0 a5_1 a6_0 a6_1))) = some (r1, r2) := by rw [if_pos rfl] at H; exact H
        clear H
        have H := H1
        clear H1
        replace H := Option.bind_eq_some_iff.mp H
        obtain ⟨t281, A200, H⟩ := H
        replace H : (if t281 = true then ((parterreref29_content.f a6_0 a6_1).bind fun t282 => (parterreref29_Used.j0 k a3 a7 (!t282) a0_0 a0_1 a1_0 a1_1 a2_0 a2_1 a4_0 a4_1 a5_0 a5_1 a6_0 a6_1)) else (parterreref29_Used.j0 k a3 a7 true a0_0 a0_1 a1_0 a1_1 a2_0 a2_1 a4_0 a4_1 a5_0 a5_1 a6_0 a6_1)) = some (r1, r2) := H
        have A20 := Aside0.mk A200
        clear A200
        by_cases c21 : t281 = true
        · subst c21
          have H1 : ((parterreref29_content.f a6_0 a6_1).bind fun t282 => (parterreref29_Used.j0 k a3 a7 (!t282) a0_0 a0_1 a1_0 a1_1 a2_0 a2_1 a4_0 a4_1 a5_0 a5_1 a6_0 a6_1)) = some (r1, r2) := by rw [if_pos rfl] at H; exact H
          clear H
          have H := H1
          clear H1
          replace H := Option.bind_eq_some_iff.mp H
          obtain ⟨t282, A220, H⟩ := H
          replace H : (parterreref29_Used.j0 k a3 a7 (!t282) a0_0 a0_1 a1_0 a1_1 a2_0 a2_1 a4_0 a4_1 a5_0 a5_1 a6_0 a6_1) = some (r1, r2) := H
          have A22 := Aside0.mk A220
          clear A220
          have H' := Aside0.mk H
          clear H
          go_wp2_with (first | ((with_reducible refine gate_callee (f := 21) rfl ?_); refine goesL_ (some 22) rfl rfl Try.func21 pmBx14_21_ rfl #[.int .i64 a3] rfl pmBx14_7_ ?_; (with_reducible refine (parterreref29_Size.calls a3 true _ A16.out).mono ?_); rintro e w' ⟨rfl, ⟨nd, rfl⟩⟩; refine ⟨_, rfl, ?_⟩; have hnb23 := NB276_273.out; have hnc23 := NB273_276.out; have hnb24 := NB276_274.out; have hnc24 := NB274_276.out; have hnb25 := NB276_275.out; have hnc25 := NB275_276.out; have hnb26 := NB276_277.out; have hnc26 := NB277_276.out; have hnb27 := NB276_278.out; have hnc27 := NB278_276.out; have hcz28_0 : w15.cell? ⟨gb276, 0, none⟩ = some (.bool a4_0) := (blk_cell BK276.out 0).trans rfl; have hcz28_1 : w15.cell? ⟨gb276, 1, none⟩ = some (.int .i64 a4_1) := (blk_cell BK276.out 1).trans rfl; have hfz28_0 := blk_frozen BK276.out 0; have hfz28_1 := blk_frozen BK276.out 1) | (go_at_call 25; (with_reducible refine (parterreref29_margin.calls a4_0 a4_1 true _ A18.out).mono ?_); rintro e w29 ⟨rfl, hb⟩; have n0_ := Aside0.mk (blk_below (g := gb273) (o := .cells #[.int .i64 a0_0, .int .i64 a0_1] 31 (0, 0)) pmBx14_1_ hb); have n1_ := Aside0.mk (blk_below (g := gb274) (o := .cells #[.int .i64 a1_0, .int .i64 a1_1] 31 (0, 0)) pmBx14_2_ hb); have n2_ := Aside0.mk (blk_below (g := gb275) (o := .cells #[.int .i64 a2_0, .int .i64 a2_1] 31 (0, 0)) pmBx14_3_ hb); have n3_ := Aside0.mk (blk_below (g := gb276) (o := .cells #[.bool a4_0, .int .i64 a4_1] 23 (0, 0)) pmBx14_4_ hb); have n4_ := Aside0.mk (blk_below (g := gb277) (o := .cells #[.bool a5_0, .int .i64 a5_1] 23 (0, 0)) pmBx14_5_ hb); have n5_ := Aside0.mk (blk_below (g := gb278) (o := .cells #[.int .i64 a6_0, .int .i64 a6_1] 46 (0, 0)) pmBx14_6_ hb); have n6_ := Aside0.mk (below_step pmBx14_0_ hb); clear BK273; clear BK274; clear BK275; clear BK276; clear BK277; clear BK278; clear HB; have BK273 := n0_; have BK274 := n1_; have BK275 := n2_; have BK276 := n3_; have BK277 := n4_; have BK278 := n5_; have HB := n6_; clear n0_ n1_ n2_ n3_ n4_ n5_ n6_; (try clear hb); (try clear hb2); (try clear hk); (try clear hi); have hnb30 := NB277_273.out; have hnc30 := NB273_277.out; have hnb31 := NB277_274.out; have hnc31 := NB274_277.out; have hnb32 := NB277_275.out; have hnc32 := NB275_277.out; have hnb33 := NB277_278.out; have hnc33 := NB278_277.out; have hcz34_0 : w29.cell? ⟨gb277, 0, none⟩ = some (.bool a5_0) := (blk_cell BK277.out 0).trans rfl; have hcz34_1 : w29.cell? ⟨gb277, 1, none⟩ = some (.int .i64 a5_1) := (blk_cell BK277.out 1).trans rfl; have hfz34_0 := blk_frozen BK277.out 0; have hfz34_1 := blk_frozen BK277.out 1) | (go_at_call 25; (with_reducible refine (parterreref29_margin.calls a5_0 a5_1 true _ A20.out).mono ?_); rintro e w35 ⟨rfl, hb⟩; have n0_ := Aside0.mk (blk_below (g := gb273) (o := .cells #[.int .i64 a0_0, .int .i64 a0_1] 31 (0, 0)) pmBx14_1_ hb); have n1_ := Aside0.mk (blk_below (g := gb274) (o := .cells #[.int .i64 a1_0, .int .i64 a1_1] 31 (0, 0)) pmBx14_2_ hb); have n2_ := Aside0.mk (blk_below (g := gb275) (o := .cells #[.int .i64 a2_0, .int .i64 a2_1] 31 (0, 0)) pmBx14_3_ hb); have n3_ := Aside0.mk (blk_below (g := gb276) (o := .cells #[.bool a4_0, .int .i64 a4_1] 23 (0, 0)) pmBx14_4_ hb); have n4_ := Aside0.mk (blk_below (g := gb277) (o := .cells #[.bool a5_0, .int .i64 a5_1] 23 (0, 0)) pmBx14_5_ hb); have n5_ := Aside0.mk (blk_below (g := gb278) (o := .cells #[.int .i64 a6_0, .int .i64 a6_1] 46 (0, 0)) pmBx14_6_ hb); have n6_ := Aside0.mk (below_step pmBx14_0_ hb); clear BK273; clear BK274; clear BK275; clear BK276; clear BK277; clear BK278; clear HB; have BK273 := n0_; have BK274 := n1_; have BK275 := n2_; have BK276 := n3_; have BK277 := n4_; have BK278 := n5_; have HB := n6_; clear n0_ n1_ n2_ n3_ n4_ n5_ n6_; (try clear hb); (try clear hb2); (try clear hk); (try clear hi); have hnb36 := NB278_273.out; have hnc36 := NB273_278.out; have hnb37 := NB278_274.out; have hnc37 := NB274_278.out; have hnb38 := NB278_275.out; have hnc38 := NB275_278.out; have hcz39_0 : w35.cell? ⟨gb278, 0, none⟩ = some (.int .i64 a6_0) := (blk_cell BK278.out 0).trans rfl; have hcz39_1 : w35.cell? ⟨gb278, 1, none⟩ = some (.int .i64 a6_1) := (blk_cell BK278.out 1).trans rfl; have hfz39_0 := blk_frozen BK278.out 0; have hfz39_1 := blk_frozen BK278.out 1) | (go_at_call 30; (with_reducible refine (parterreref29_content.calls a6_0 a6_1 t282 _ A22.out).mono ?_); rintro e w40 ⟨rfl, hb⟩; have n0_ := Aside0.mk (blk_below (g := gb273) (o := .cells #[.int .i64 a0_0, .int .i64 a0_1] 31 (0, 0)) pmBx14_1_ hb); have n1_ := Aside0.mk (blk_below (g := gb274) (o := .cells #[.int .i64 a1_0, .int .i64 a1_1] 31 (0, 0)) pmBx14_2_ hb); have n2_ := Aside0.mk (blk_below (g := gb275) (o := .cells #[.int .i64 a2_0, .int .i64 a2_1] 31 (0, 0)) pmBx14_3_ hb); have n3_ := Aside0.mk (blk_below (g := gb276) (o := .cells #[.bool a4_0, .int .i64 a4_1] 23 (0, 0)) pmBx14_4_ hb); have n4_ := Aside0.mk (blk_below (g := gb277) (o := .cells #[.bool a5_0, .int .i64 a5_1] 23 (0, 0)) pmBx14_5_ hb); have n5_ := Aside0.mk (blk_below (g := gb278) (o := .cells #[.int .i64 a6_0, .int .i64 a6_1] 46 (0, 0)) pmBx14_6_ hb); have n6_ := Aside0.mk (below_step pmBx14_0_ hb); clear BK273; clear BK274; clear BK275; clear BK276; clear BK277; clear BK278; clear HB; have BK273 := n0_; have BK274 := n1_; have BK275 := n2_; have BK276 := n3_; have BK277 := n4_; have BK278 := n5_; have HB := n6_; clear n0_ n1_ n2_ n3_ n4_ n5_ n6_; (try clear hb); (try clear hb2); (try clear hk); (try clear hi)))
          go_meet
          case rel => exact ⟨_, (!t282), pmBx14_13_, H', ⟨by first | omega | exact Nat.le_refl _⟩, ⟨pmBx14_1_⟩, ⟨pmBx14_2_⟩, ⟨pmBx14_3_⟩, ⟨pmBx14_4_⟩, ⟨pmBx14_5_⟩, ⟨pmBx14_6_⟩, ⟨pmBx14_0_⟩⟩
        · replace c21 := Bool.eq_false_iff.mpr c21
          subst c21
          have H1 : (parterreref29_Used.j0 k a3 a7 true a0_0 a0_1 a1_0 a1_1 a2_0 a2_1 a4_0 a4_1 a5_0 a5_1 a6_0 a6_1) = some (r1, r2) := by rw [if_neg (show ¬ (false = true) by decide)] at H; exact H
          clear H
          have H := H1
          clear H1
          have H' := Aside0.mk H
          clear H
          go_wp2_with (first | ((with_reducible refine gate_callee (f := 21) rfl ?_); refine goesL_ (some 22) rfl rfl Try.func21 pmBx14_21_ rfl #[.int .i64 a3] rfl pmBx14_7_ ?_; (with_reducible refine (parterreref29_Size.calls a3 true _ A16.out).mono ?_); rintro e w' ⟨rfl, ⟨nd, rfl⟩⟩; refine ⟨_, rfl, ?_⟩; have hnb41 := NB276_273.out; have hnc41 := NB273_276.out; have hnb42 := NB276_274.out; have hnc42 := NB274_276.out; have hnb43 := NB276_275.out; have hnc43 := NB275_276.out; have hnb44 := NB276_277.out; have hnc44 := NB277_276.out; have hnb45 := NB276_278.out; have hnc45 := NB278_276.out; have hcz46_0 : w15.cell? ⟨gb276, 0, none⟩ = some (.bool a4_0) := (blk_cell BK276.out 0).trans rfl; have hcz46_1 : w15.cell? ⟨gb276, 1, none⟩ = some (.int .i64 a4_1) := (blk_cell BK276.out 1).trans rfl; have hfz46_0 := blk_frozen BK276.out 0; have hfz46_1 := blk_frozen BK276.out 1) | (go_at_call 25; (with_reducible refine (parterreref29_margin.calls a4_0 a4_1 true _ A18.out).mono ?_); rintro e w47 ⟨rfl, hb⟩; have n0_ := Aside0.mk (blk_below (g := gb273) (o := .cells #[.int .i64 a0_0, .int .i64 a0_1] 31 (0, 0)) pmBx14_1_ hb); have n1_ := Aside0.mk (blk_below (g := gb274) (o := .cells #[.int .i64 a1_0, .int .i64 a1_1] 31 (0, 0)) pmBx14_2_ hb); have n2_ := Aside0.mk (blk_below (g := gb275) (o := .cells #[.int .i64 a2_0, .int .i64 a2_1] 31 (0, 0)) pmBx14_3_ hb); have n3_ := Aside0.mk (blk_below (g := gb276) (o := .cells #[.bool a4_0, .int .i64 a4_1] 23 (0, 0)) pmBx14_4_ hb); have n4_ := Aside0.mk (blk_below (g := gb277) (o := .cells #[.bool a5_0, .int .i64 a5_1] 23 (0, 0)) pmBx14_5_ hb); have n5_ := Aside0.mk (blk_below (g := gb278) (o := .cells #[.int .i64 a6_0, .int .i64 a6_1] 46 (0, 0)) pmBx14_6_ hb); have n6_ := Aside0.mk (below_step pmBx14_0_ hb); clear BK273; clear BK274; clear BK275; clear BK276; clear BK277; clear BK278; clear HB; have BK273 := n0_; have BK274 := n1_; have BK275 := n2_; have BK276 := n3_; have BK277 := n4_; have BK278 := n5_; have HB := n6_; clear n0_ n1_ n2_ n3_ n4_ n5_ n6_; (try clear hb); (try clear hb2); (try clear hk); (try clear hi); have hnb48 := NB277_273.out; have hnc48 := NB273_277.out; have hnb49 := NB277_274.out; have hnc49 := NB274_277.out; have hnb50 := NB277_275.out; have hnc50 := NB275_277.out; have hnb51 := NB277_278.out; have hnc51 := NB278_277.out; have hcz52_0 : w47.cell? ⟨gb277, 0, none⟩ = some (.bool a5_0) := (blk_cell BK277.out 0).trans rfl; have hcz52_1 : w47.cell? ⟨gb277, 1, none⟩ = some (.int .i64 a5_1) := (blk_cell BK277.out 1).trans rfl; have hfz52_0 := blk_frozen BK277.out 0; have hfz52_1 := blk_frozen BK277.out 1) | (go_at_call 25; (with_reducible refine (parterreref29_margin.calls a5_0 a5_1 false _ A20.out).mono ?_); rintro e w53 ⟨rfl, hb⟩; have n0_ := Aside0.mk (blk_below (g := gb273) (o := .cells #[.int .i64 a0_0, .int .i64 a0_1] 31 (0, 0)) pmBx14_1_ hb); have n1_ := Aside0.mk (blk_below (g := gb274) (o := .cells #[.int .i64 a1_0, .int .i64 a1_1] 31 (0, 0)) pmBx14_2_ hb); have n2_ := Aside0.mk (blk_below (g := gb275) (o := .cells #[.int .i64 a2_0, .int .i64 a2_1] 31 (0, 0)) pmBx14_3_ hb); have n3_ := Aside0.mk (blk_below (g := gb276) (o := .cells #[.bool a4_0, .int .i64 a4_1] 23 (0, 0)) pmBx14_4_ hb); have n4_ := Aside0.mk (blk_below (g := gb277) (o := .cells #[.bool a5_0, .int .i64 a5_1] 23 (0, 0)) pmBx14_5_ hb); have n5_ := Aside0.mk (blk_below (g := gb278) (o := .cells #[.int .i64 a6_0, .int .i64 a6_1] 46 (0, 0)) pmBx14_6_ hb); have n6_ := Aside0.mk (below_step pmBx14_0_ hb); clear BK273; clear BK274; clear BK275; clear BK276; clear BK277; clear BK278; clear HB; have BK273 := n0_; have BK274 := n1_; have BK275 := n2_; have BK276 := n3_; have BK277 := n4_; have BK278 := n5_; have HB := n6_; clear n0_ n1_ n2_ n3_ n4_ n5_ n6_; (try clear hb); (try clear hb2); (try clear hk); (try clear hi)))
          go_meet
          case rel => exact ⟨_, (true), pmBx14_13_, H', ⟨by first | omega | exact Nat.le_refl _⟩, ⟨pmBx14_1_⟩, ⟨pmBx14_2_⟩, ⟨pmBx14_3_⟩, ⟨pmBx14_4_⟩, ⟨pmBx14_5_⟩, ⟨pmBx14_6_⟩, ⟨pmBx14_0_⟩⟩
      · replace c19 := Bool.eq_false_iff.mpr c19
        subst c19
        have H1 : (parterreref29_Used.j0 k a3 a7 true a0_0 a0_1 a1_0 a1_1 a2_0 a2_1 a4_0 a4_1 a5_0 a5_1 a6_0 a6_1) = some (r1, r2) := by rw [if_neg (show ¬ (false = true) by decide)] at H; exact H
        clear H
        have H := H1
        clear H1
        have H' := Aside0.mk H
        clear H
        go_wp2_with (first | ((with_reducible refine gate_callee (f := 21) rfl ?_); refine goesL_ (some 22) rfl rfl Try.func21 pmBx14_21_ rfl #[.int .i64 a3] rfl pmBx14_7_ ?_; (with_reducible refine (parterreref29_Size.calls a3 true _ A16.out).mono ?_); rintro e w' ⟨rfl, ⟨nd, rfl⟩⟩; refine ⟨_, rfl, ?_⟩; have hnb54 := NB276_273.out; have hnc54 := NB273_276.out; have hnb55 := NB276_274.out; have hnc55 := NB274_276.out; have hnb56 := NB276_275.out; have hnc56 := NB275_276.out; have hnb57 := NB276_277.out; have hnc57 := NB277_276.out; have hnb58 := NB276_278.out; have hnc58 := NB278_276.out; have hcz59_0 : w15.cell? ⟨gb276, 0, none⟩ = some (.bool a4_0) := (blk_cell BK276.out 0).trans rfl; have hcz59_1 : w15.cell? ⟨gb276, 1, none⟩ = some (.int .i64 a4_1) := (blk_cell BK276.out 1).trans rfl; have hfz59_0 := blk_frozen BK276.out 0; have hfz59_1 := blk_frozen BK276.out 1) | (go_at_call 25; (with_reducible refine (parterreref29_margin.calls a4_0 a4_1 false _ A18.out).mono ?_); rintro e w60 ⟨rfl, hb⟩; have n0_ := Aside0.mk (blk_below (g := gb273) (o := .cells #[.int .i64 a0_0, .int .i64 a0_1] 31 (0, 0)) pmBx14_1_ hb); have n1_ := Aside0.mk (blk_below (g := gb274) (o := .cells #[.int .i64 a1_0, .int .i64 a1_1] 31 (0, 0)) pmBx14_2_ hb); have n2_ := Aside0.mk (blk_below (g := gb275) (o := .cells #[.int .i64 a2_0, .int .i64 a2_1] 31 (0, 0)) pmBx14_3_ hb); have n3_ := Aside0.mk (blk_below (g := gb276) (o := .cells #[.bool a4_0, .int .i64 a4_1] 23 (0, 0)) pmBx14_4_ hb); have n4_ := Aside0.mk (blk_below (g := gb277) (o := .cells #[.bool a5_0, .int .i64 a5_1] 23 (0, 0)) pmBx14_5_ hb); have n5_ := Aside0.mk (blk_below (g := gb278) (o := .cells #[.int .i64 a6_0, .int .i64 a6_1] 46 (0, 0)) pmBx14_6_ hb); have n6_ := Aside0.mk (below_step pmBx14_0_ hb); clear BK273; clear BK274; clear BK275; clear BK276; clear BK277; clear BK278; clear HB; have BK273 := n0_; have BK274 := n1_; have BK275 := n2_; have BK276 := n3_; have BK277 := n4_; have BK278 := n5_; have HB := n6_; clear n0_ n1_ n2_ n3_ n4_ n5_ n6_; (try clear hb); (try clear hb2); (try clear hk); (try clear hi)))
        go_meet
        case rel => exact ⟨_, (true), pmBx14_13_, H', ⟨by first | omega | exact Nat.le_refl _⟩, ⟨pmBx14_1_⟩, ⟨pmBx14_2_⟩, ⟨pmBx14_3_⟩, ⟨pmBx14_4_⟩, ⟨pmBx14_5_⟩, ⟨pmBx14_6_⟩, ⟨pmBx14_0_⟩⟩
    · replace c17 := Bool.eq_false_iff.mpr c17
      subst c17
      have H1 : (parterreref29_Used.j0 k a3 a7 true a0_0 a0_1 a1_0 a1_1 a2_0 a2_1 a4_0 a4_1 a5_0 a5_1 a6_0 a6_1) = some (r1, r2) := by rw [if_neg (show ¬ (false = true) by decide)] at H; exact H
      clear H
      have H := H1
      clear H1
      have H' := Aside0.mk H
      clear H
      go_wp2_with (first | ((with_reducible refine gate_callee (f := 21) rfl ?_); refine goesL_ (some 22) rfl rfl Try.func21 pmBx14_21_ rfl #[.int .i64 a3] rfl pmBx14_7_ ?_; (with_reducible refine (parterreref29_Size.calls a3 false _ A16.out).mono ?_); rintro e w' ⟨rfl, ⟨nd, rfl⟩⟩; refine ⟨_, rfl, ?_⟩))
      go_meet
      case rel => exact ⟨_, (true), pmBx14_13_, H', ⟨by first | omega | exact Nat.le_refl _⟩, ⟨pmBx14_1_⟩, ⟨pmBx14_2_⟩, ⟨pmBx14_3_⟩, ⟨pmBx14_4_⟩, ⟨pmBx14_5_⟩, ⟨pmBx14_6_⟩, ⟨pmBx14_0_⟩⟩
  case rest =>
    clear HC9
    try clear c1
    try clear c2
    try clear p2
    try clear c3
    try clear c4
    try clear c5
    try clear c17
    try clear c18
    try clear c19
    try clear c21
    try clear c23
    try clear c24
    try clear c25
    try clear c26
    try clear c27
    try clear c30
    try clear c31
    try clear c32
    try clear c33
    try clear c36
    try clear c37
    try clear c38
    try clear c41
    try clear c42
    try clear c43
    try clear c44
    try clear c45
    try clear c48
    try clear c49
    try clear c50
    try clear c51
    try clear c54
    try clear c55
    try clear c56
    try clear c57
    try clear c58
    try clear hcz28_0
    try clear hcz28_1
    try clear hcz34_0
    try clear hcz34_1
    try clear hcz39_0
    try clear hcz39_1
    try clear hcz46_0
    try clear hcz46_1
    try clear hcz52_0
    try clear hcz52_1
    try clear hcz59_0
    try clear hcz59_1
    try clear hfz28_0
    try clear hfz28_1
    try clear hfz34_0
    try clear hfz34_1
    try clear hfz39_0
    try clear hfz39_1
    try clear hfz46_0
    try clear hfz46_1
    try clear hfz52_0
    try clear hfz52_1
    try clear hfz59_0
    try clear hfz59_1
    obtain ⟨kq, x38_8, rfl, HA, HJ8, BK273, BK274, BK275, BK276, BK277, BK278, HB⟩ := hcut
    cases kq with
    | zero => exact absurd HA.out (by simp [parterreref29_Used.j0])
    | succ kj8 =>
      have H := HA.out
      clear HA
      simp only [parterreref29_Used.j0] at H
      by_cases c61 : x38_8 = true
      · subst c61
        have H1 : (some (0, 2)) = some (r1, r2) := by rw [if_pos rfl] at H; exact H
        clear H
        have H := H1
        clear H1
        simp only [Option.some.injEq, Prod.mk.injEq] at H
        obtain ⟨rfl, rfl⟩ := H
        go_wp2
        go_ret2
        exact ⟨by first | rfl | (simp [errW_none, errW_some] <;> rfl) | (simp [*, errW_none, errW_some] <;> rfl), by repeat (first | (with_reducible first | exact HB.out | apply below_alloc | apply pw_below_drewN | apply below_drew1 | refine below_set ?_ GE273.out | refine below_set ?_ GE274.out | refine below_set ?_ GE275.out | refine below_set ?_ GE276.out | refine below_set ?_ GE277.out | refine below_set ?_ GE278.out) | exact HB.out)⟩
      · replace c61 := Bool.eq_false_iff.mpr c61
        subst c61
        have H1 : ((parterreref29_Limit.f kj8 a0_0 a0_1 a3 true a6_0 a6_1).bind fun bt283 => (if bt283.2.2 = 0 then (if bt283.2.1 = true then (parterreref29_Used.j1 kj8 a3 bt283.1 true false a1_0 a1_1 a2_0 a2_1 a4_0 a4_1 a5_0 a5_1 a6_0 a6_1) else (if a7 = true then (if a4_0 = true then (parterreref29_Used.j1 kj8 a3 bt283.1 false false a1_0 a1_1 a2_0 a2_1 a4_0 a4_1 a5_0 a5_1 a6_0 a6_1) else (parterreref29_Used.j1 kj8 a3 bt283.1 false (!a5_0) a1_0 a1_1 a2_0 a2_1 a4_0 a4_1 a5_0 a5_1 a6_0 a6_1)) else (parterreref29_Used.j1 kj8 a3 bt283.1 false false a1_0 a1_1 a2_0 a2_1 a4_0 a4_1 a5_0 a5_1 a6_0 a6_1))) else (some (0, bt283.2.2)))) = some (r1, r2) := by rw [if_neg (show ¬ (false = true) by decide)] at H; exact H
        clear H
        have H := H1
        clear H1
        replace H := Option.bind_eq_some_iff.mp H
        obtain ⟨⟨t283, t284, t285⟩, A620, H⟩ := H
        replace H : (if t285 = 0 then (if t284 = true then (parterreref29_Used.j1 kj8 a3 t283 true false a1_0 a1_1 a2_0 a2_1 a4_0 a4_1 a5_0 a5_1 a6_0 a6_1) else (if a7 = true then (if a4_0 = true then (parterreref29_Used.j1 kj8 a3 t283 false false a1_0 a1_1 a2_0 a2_1 a4_0 a4_1 a5_0 a5_1 a6_0 a6_1) else (parterreref29_Used.j1 kj8 a3 t283 false (!a5_0) a1_0 a1_1 a2_0 a2_1 a4_0 a4_1 a5_0 a5_1 a6_0 a6_1)) else (parterreref29_Used.j1 kj8 a3 t283 false false a1_0 a1_1 a2_0 a2_1 a4_0 a4_1 a5_0 a5_1 a6_0 a6_1))) else (some (0, t285))) = some (r1, r2) := H
        have A62 := Aside0.mk A620
        clear A620
        by_cases c63 : t285 = 0
        · rw [if_pos c63] at H
          have c63b0 : (t285 == 0) = true := beq_iff_eq.mpr c63
          have c63b1 : (t285 != 0) = false := bne_eq_false_iff_eq.mpr c63
          clear c63
          have HC64 := Aside0.mk H
          clear H
          have hnb65 := NB273_274.out
          have hnc65 := NB274_273.out
          have hnb66 := NB273_275.out
          have hnc66 := NB275_273.out
          have hnb67 := NB273_276.out
          have hnc67 := NB276_273.out
          have hnb68 := NB273_277.out
          have hnc68 := NB277_273.out
          have hnb69 := NB273_278.out
          have hnc69 := NB278_273.out
          have hcz70_0 : wc.cell? ⟨gb273, 0, none⟩ = some (.int .i64 a0_0) := (blk_cell BK273.out 0).trans rfl
          have hcz70_1 : wc.cell? ⟨gb273, 1, none⟩ = some (.int .i64 a0_1) := (blk_cell BK273.out 1).trans rfl
          have hfz70_0 := blk_frozen BK273.out 0
          have hfz70_1 := blk_frozen BK273.out 1
          have hnb71 := NB278_274.out
          have hnc71 := NB274_278.out
          have hnb72 := NB278_275.out
          have hnc72 := NB275_278.out
          have hnb73 := NB278_276.out
          have hnc73 := NB276_278.out
          have hnb74 := NB278_277.out
          have hnc74 := NB277_278.out
          have hcz75_0 : wc.cell? ⟨gb278, 0, none⟩ = some (.int .i64 a6_0) := (blk_cell BK278.out 0).trans rfl
          have hcz75_1 : wc.cell? ⟨gb278, 1, none⟩ = some (.int .i64 a6_1) := (blk_cell BK278.out 1).trans rfl
          have hfz75_0 := blk_frozen BK278.out 0
          have hfz75_1 := blk_frozen BK278.out 1
          go_upto_region 6 with (first | ((with_reducible refine gate_callee (f := 14) rfl ?_); refine goesL_ (some 43) rfl rfl Try.func14 pmBx14_21_ rfl #[.agg #[.int .i64 a0_0, .int .i64 a0_1], .int .i64 a3, .bool true, .agg #[.int .i64 a6_0, .int .i64 a6_1]] rfl pmBx14_7_ ?_; (with_reducible refine (parterreref29_Limit.calls kj8 a0_0 a0_1 a3 true a6_0 a6_1 t283 t284 t285 _ A62.out).mono ?_); rintro e w76 ⟨rfl, hb⟩; refine ⟨_, rfl, ?_⟩; have n0_ := Aside0.mk (blk_below (g := gb273) (o := .cells #[.int .i64 a0_0, .int .i64 a0_1] 31 (0, 0)) pmBx14_1_ hb); have n1_ := Aside0.mk (blk_below (g := gb274) (o := .cells #[.int .i64 a1_0, .int .i64 a1_1] 31 (0, 0)) pmBx14_2_ hb); have n2_ := Aside0.mk (blk_below (g := gb275) (o := .cells #[.int .i64 a2_0, .int .i64 a2_1] 31 (0, 0)) pmBx14_3_ hb); have n3_ := Aside0.mk (blk_below (g := gb276) (o := .cells #[.bool a4_0, .int .i64 a4_1] 23 (0, 0)) pmBx14_4_ hb); have n4_ := Aside0.mk (blk_below (g := gb277) (o := .cells #[.bool a5_0, .int .i64 a5_1] 23 (0, 0)) pmBx14_5_ hb); have n5_ := Aside0.mk (blk_below (g := gb278) (o := .cells #[.int .i64 a6_0, .int .i64 a6_1] 46 (0, 0)) pmBx14_6_ hb); have n6_ := Aside0.mk (below_step pmBx14_0_ hb); clear BK273; clear BK274; clear BK275; clear BK276; clear BK277; clear BK278; clear HB; have BK273 := n0_; have BK274 := n1_; have BK275 := n2_; have BK276 := n3_; have BK277 := n4_; have BK278 := n5_; have HB := n6_; clear n0_ n1_ n2_ n3_ n4_ n5_ n6_; (try clear hb); (try clear hb2); (try clear hk); (try clear hi)))
          (try simp only [Act.put, List.setIfInBounds_toArray, List.set_cons_zero, List.set_cons_succ])
          go_cut [64] (fun v64 wc => ∃ (kq : Nat) (x64_63 : Bool), v64 = .bool x64_63 ∧ Aside0 (parterreref29_Used.j1 kq a3 t283 t284 x64_63 a1_0 a1_1 a2_0 a2_1 a4_0 a4_1 a5_0 a5_1 a6_0 a6_1 = some (r1, r2)) ∧ Aside0 (kq ≤ kj8) ∧ Aside0 (wc.heap[gb273]? = some (.cells #[.int .i64 a0_0, .int .i64 a0_1] 31 (0, 0))) ∧ Aside0 (wc.heap[gb274]? = some (.cells #[.int .i64 a1_0, .int .i64 a1_1] 31 (0, 0))) ∧ Aside0 (wc.heap[gb275]? = some (.cells #[.int .i64 a2_0, .int .i64 a2_1] 31 (0, 0))) ∧ Aside0 (wc.heap[gb276]? = some (.cells #[.bool a4_0, .int .i64 a4_1] 23 (0, 0))) ∧ Aside0 (wc.heap[gb277]? = some (.cells #[.bool a5_0, .int .i64 a5_1] 23 (0, 0))) ∧ Aside0 (wc.heap[gb278]? = some (.cells #[.int .i64 a6_0, .int .i64 a6_1] 46 (0, 0))) ∧ Aside0 (Below w.heap.size w wc))
          case first =>
            have H := HC64.out
            clear HC64
            by_cases c77 : t284 = true
            · subst c77
              have H1 : (parterreref29_Used.j1 kj8 a3 t283 true false a1_0 a1_1 a2_0 a2_1 a4_0 a4_1 a5_0 a5_1 a6_0 a6_1) = some (r1, r2) := by rw [if_pos rfl] at H; exact H
              clear H
              have H := H1
              clear H1
              have H' := Aside0.mk H
              clear H
              go_wp2
              go_meet
              case rel => exact ⟨_, (false), pmBx14_13_, H', ⟨by have := HJ8.out; first | omega | exact Nat.le_refl _⟩, ⟨pmBx14_1_⟩, ⟨pmBx14_2_⟩, ⟨pmBx14_3_⟩, ⟨pmBx14_4_⟩, ⟨pmBx14_5_⟩, ⟨pmBx14_6_⟩, ⟨pmBx14_0_⟩⟩
            · replace c77 := Bool.eq_false_iff.mpr c77
              subst c77
              have H1 : (if a7 = true then (if a4_0 = true then (parterreref29_Used.j1 kj8 a3 t283 false false a1_0 a1_1 a2_0 a2_1 a4_0 a4_1 a5_0 a5_1 a6_0 a6_1) else (parterreref29_Used.j1 kj8 a3 t283 false (!a5_0) a1_0 a1_1 a2_0 a2_1 a4_0 a4_1 a5_0 a5_1 a6_0 a6_1)) else (parterreref29_Used.j1 kj8 a3 t283 false false a1_0 a1_1 a2_0 a2_1 a4_0 a4_1 a5_0 a5_1 a6_0 a6_1)) = some (r1, r2) := by rw [if_neg (show ¬ (false = true) by decide)] at H; exact H
              clear H
              have H := H1
              clear H1
              by_cases c78 : a7 = true
              · subst c78
                have H1 : (if a4_0 = true then (parterreref29_Used.j1 kj8 a3 t283 false false a1_0 a1_1 a2_0 a2_1 a4_0 a4_1 a5_0 a5_1 a6_0 a6_1) else (parterreref29_Used.j1 kj8 a3 t283 false (!a5_0) a1_0 a1_1 a2_0 a2_1 a4_0 a4_1 a5_0 a5_1 a6_0 a6_1)) = some (r1, r2) := by rw [if_pos rfl] at H; exact H
                clear H
                have H := H1
                clear H1
                by_cases c79 : a4_0 = true
                · subst c79
                  have H1 : (parterreref29_Used.j1 kj8 a3 t283 false false a1_0 a1_1 a2_0 a2_1 true a4_1 a5_0 a5_1 a6_0 a6_1) = some (r1, r2) := by rw [if_pos rfl] at H; exact H
                  clear H
                  have H := H1
                  clear H1
                  have H' := Aside0.mk H
                  clear H
                  have hnb80 := NB276_273.out
                  have hnc80 := NB273_276.out
                  have hnb81 := NB276_274.out
                  have hnc81 := NB274_276.out
                  have hnb82 := NB276_275.out
                  have hnc82 := NB275_276.out
                  have hnb83 := NB276_277.out
                  have hnc83 := NB277_276.out
                  have hnb84 := NB276_278.out
                  have hnc84 := NB278_276.out
                  have hcz85_0 : w76.cell? ⟨gb276, 0, none⟩ = some (.bool true) := (blk_cell BK276.out 0).trans rfl
                  have hcz85_1 : w76.cell? ⟨gb276, 1, none⟩ = some (.int .i64 a4_1) := (blk_cell BK276.out 1).trans rfl
                  have hfz85_0 := blk_frozen BK276.out 0
                  have hfz85_1 := blk_frozen BK276.out 1
                  go_wp2
                  go_meet
                  case rel => exact ⟨_, (false), pmBx14_13_, H', ⟨by have := HJ8.out; first | omega | exact Nat.le_refl _⟩, ⟨pmBx14_1_⟩, ⟨pmBx14_2_⟩, ⟨pmBx14_3_⟩, ⟨pmBx14_4_⟩, ⟨pmBx14_5_⟩, ⟨pmBx14_6_⟩, ⟨pmBx14_0_⟩⟩
                · replace c79 := Bool.eq_false_iff.mpr c79
                  subst c79
                  have H1 : (parterreref29_Used.j1 kj8 a3 t283 false (!a5_0) a1_0 a1_1 a2_0 a2_1 false a4_1 a5_0 a5_1 a6_0 a6_1) = some (r1, r2) := by rw [if_neg (show ¬ (false = true) by decide)] at H; exact H
                  clear H
                  have H := H1
                  clear H1
                  have H' := Aside0.mk H
                  clear H
                  have hnb86 := NB276_273.out
                  have hnc86 := NB273_276.out
                  have hnb87 := NB276_274.out
                  have hnc87 := NB274_276.out
                  have hnb88 := NB276_275.out
                  have hnc88 := NB275_276.out
                  have hnb89 := NB276_277.out
                  have hnc89 := NB277_276.out
                  have hnb90 := NB276_278.out
                  have hnc90 := NB278_276.out
                  have hcz91_0 : w76.cell? ⟨gb276, 0, none⟩ = some (.bool false) := (blk_cell BK276.out 0).trans rfl
                  have hcz91_1 : w76.cell? ⟨gb276, 1, none⟩ = some (.int .i64 a4_1) := (blk_cell BK276.out 1).trans rfl
                  have hfz91_0 := blk_frozen BK276.out 0
                  have hfz91_1 := blk_frozen BK276.out 1
                  have hnb92 := NB277_273.out
                  have hnc92 := NB273_277.out
                  have hnb93 := NB277_274.out
                  have hnc93 := NB274_277.out
                  have hnb94 := NB277_275.out
                  have hnc94 := NB275_277.out
                  have hnb95 := NB277_278.out
                  have hnc95 := NB278_277.out
                  have hcz96_0 : w76.cell? ⟨gb277, 0, none⟩ = some (.bool a5_0) := (blk_cell BK277.out 0).trans rfl
                  have hcz96_1 : w76.cell? ⟨gb277, 1, none⟩ = some (.int .i64 a5_1) := (blk_cell BK277.out 1).trans rfl
                  have hfz96_0 := blk_frozen BK277.out 0
                  have hfz96_1 := blk_frozen BK277.out 1
                  go_wp2
                  go_meet
                  case rel => exact ⟨_, (!a5_0), pmBx14_13_, H', ⟨by have := HJ8.out; first | omega | exact Nat.le_refl _⟩, ⟨pmBx14_1_⟩, ⟨pmBx14_2_⟩, ⟨pmBx14_3_⟩, ⟨pmBx14_4_⟩, ⟨pmBx14_5_⟩, ⟨pmBx14_6_⟩, ⟨pmBx14_0_⟩⟩
              · replace c78 := Bool.eq_false_iff.mpr c78
                subst c78
                have H1 : (parterreref29_Used.j1 kj8 a3 t283 false false a1_0 a1_1 a2_0 a2_1 a4_0 a4_1 a5_0 a5_1 a6_0 a6_1) = some (r1, r2) := by rw [if_neg (show ¬ (false = true) by decide)] at H; exact H
                clear H
                have H := H1
                clear H1
                have H' := Aside0.mk H
                clear H
                go_wp2
                go_meet
                case rel => exact ⟨_, (false), pmBx14_13_, H', ⟨by have := HJ8.out; first | omega | exact Nat.le_refl _⟩, ⟨pmBx14_1_⟩, ⟨pmBx14_2_⟩, ⟨pmBx14_3_⟩, ⟨pmBx14_4_⟩, ⟨pmBx14_5_⟩, ⟨pmBx14_6_⟩, ⟨pmBx14_0_⟩⟩
          case rest =>
            clear HC64
            try clear c1
            try clear c2
            try clear p2
            try clear c3
            try clear c4
            try clear c5
            try clear c6
            try clear c7
            try clear c8
            try clear c9
            try clear c14
            try clear c17
            try clear c18
            try clear c19
            try clear c21
            try clear c23
            try clear c24
            try clear c25
            try clear c26
            try clear c27
            try clear c30
            try clear c31
            try clear c32
            try clear c33
            try clear c36
            try clear c37
            try clear c38
            try clear c41
            try clear c42
            try clear c43
            try clear c44
            try clear c45
            try clear c48
            try clear c49
            try clear c50
            try clear c51
            try clear c54
            try clear c55
            try clear c56
            try clear c57
            try clear c58
            try clear c61
            try clear c63
            try clear c63b0
            try clear c63b1
            try clear c65
            try clear c66
            try clear c67
            try clear c68
            try clear c69
            try clear c71
            try clear c72
            try clear c73
            try clear c74
            try clear c77
            try clear c78
            try clear c79
            try clear c80
            try clear c81
            try clear c82
            try clear c83
            try clear c84
            try clear c86
            try clear c87
            try clear c88
            try clear c89
            try clear c90
            try clear c92
            try clear c93
            try clear c94
            try clear c95
            try clear hcz28_0
            try clear hcz28_1
            try clear hcz34_0
            try clear hcz34_1
            try clear hcz39_0
            try clear hcz39_1
            try clear hcz46_0
            try clear hcz46_1
            try clear hcz52_0
            try clear hcz52_1
            try clear hcz59_0
            try clear hcz59_1
            try clear hcz70_0
            try clear hcz70_1
            try clear hcz75_0
            try clear hcz75_1
            try clear hcz85_0
            try clear hcz85_1
            try clear hcz91_0
            try clear hcz91_1
            try clear hcz96_0
            try clear hcz96_1
            try clear hfz28_0
            try clear hfz28_1
            try clear hfz34_0
            try clear hfz34_1
            try clear hfz39_0
            try clear hfz39_1
            try clear hfz46_0
            try clear hfz46_1
            try clear hfz52_0
            try clear hfz52_1
            try clear hfz59_0
            try clear hfz59_1
            try clear hfz70_0
            try clear hfz70_1
            try clear hfz75_0
            try clear hfz75_1
            try clear hfz85_0
            try clear hfz85_1
            try clear hfz91_0
            try clear hfz91_1
            try clear hfz96_0
            try clear hfz96_1
            try clear p2
            obtain ⟨kq, x64_63, rfl, HA, HJ63, BK273, BK274, BK275, BK276, BK277, BK278, HB⟩ := hcut
            cases kq with
            | zero => exact absurd HA.out (by simp [parterreref29_Used.j1])
            | succ kj63 =>
              have H := HA.out
              clear HA
              simp only [parterreref29_Used.j1] at H
              have HC97 := Aside0.mk H
              clear H
              go_upto_if 64 with (fail)
              go_cut [18] (fun v18 wc => ∃ (kq : Nat) (x18_96 : Int), v18 = .int .i64 x18_96 ∧ Aside0 (parterreref29_Used.j2 kq a3 x18_96 a1_0 a1_1 a2_0 a2_1 a6_0 a6_1 = some (r1, r2)) ∧ Aside0 (kq ≤ kj63) ∧ Aside0 (wc.heap[gb273]? = some (.cells #[.int .i64 a0_0, .int .i64 a0_1] 31 (0, 0))) ∧ Aside0 (wc.heap[gb274]? = some (.cells #[.int .i64 a1_0, .int .i64 a1_1] 31 (0, 0))) ∧ Aside0 (wc.heap[gb275]? = some (.cells #[.int .i64 a2_0, .int .i64 a2_1] 31 (0, 0))) ∧ Aside0 (wc.heap[gb276]? = some (.cells #[.bool a4_0, .int .i64 a4_1] 23 (0, 0))) ∧ Aside0 (wc.heap[gb277]? = some (.cells #[.bool a5_0, .int .i64 a5_1] 23 (0, 0))) ∧ Aside0 (wc.heap[gb278]? = some (.cells #[.int .i64 a6_0, .int .i64 a6_1] 46 (0, 0))) ∧ Aside0 (Below w.heap.size w wc))
              case first =>
                have H := HC97.out
                clear HC97
                by_cases c98 : x64_63 = true
                · subst c98
                  have H1 : ((parterreref29_Inner.f a3 a4_0 a4_1 a5_0 a5_1).bind fun t286 => (parterreref29_Used.j2 kj63 a3 t286 a1_0 a1_1 a2_0 a2_1 a6_0 a6_1)) = some (r1, r2) := by rw [if_pos rfl] at H; exact H
                  clear H
                  have H := H1
                  clear H1
                  replace H := Option.bind_eq_some_iff.mp H
                  obtain ⟨t286, A990, H⟩ := H
                  replace H : (parterreref29_Used.j2 kj63 a3 t286 a1_0 a1_1 a2_0 a2_1 a6_0 a6_1) = some (r1, r2) := H
                  have A99 := Aside0.mk A990
                  clear A990
                  have H' := Aside0.mk H
                  clear H
                  have hnb100 := NB276_273.out
                  have hnc100 := NB273_276.out
                  have hnb101 := NB276_274.out
                  have hnc101 := NB274_276.out
                  have hnb102 := NB276_275.out
                  have hnc102 := NB275_276.out
                  have hnb103 := NB276_277.out
                  have hnc103 := NB277_276.out
                  have hnb104 := NB276_278.out
                  have hnc104 := NB278_276.out
                  have hcz105_0 : wc.cell? ⟨gb276, 0, none⟩ = some (.bool a4_0) := (blk_cell BK276.out 0).trans rfl
                  have hcz105_1 : wc.cell? ⟨gb276, 1, none⟩ = some (.int .i64 a4_1) := (blk_cell BK276.out 1).trans rfl
                  have hfz105_0 := blk_frozen BK276.out 0
                  have hfz105_1 := blk_frozen BK276.out 1
                  have hnb106 := NB277_273.out
                  have hnc106 := NB273_277.out
                  have hnb107 := NB277_274.out
                  have hnc107 := NB274_277.out
                  have hnb108 := NB277_275.out
                  have hnc108 := NB275_277.out
                  have hnb109 := NB277_278.out
                  have hnc109 := NB278_277.out
                  have hcz110_0 : wc.cell? ⟨gb277, 0, none⟩ = some (.bool a5_0) := (blk_cell BK277.out 0).trans rfl
                  have hcz110_1 : wc.cell? ⟨gb277, 1, none⟩ = some (.int .i64 a5_1) := (blk_cell BK277.out 1).trans rfl
                  have hfz110_0 := blk_frozen BK277.out 0
                  have hfz110_1 := blk_frozen BK277.out 1
                  go_wp2_with (first | ((with_reducible refine gate_callee (f := 20) rfl ?_); refine goesL_ (some 68) rfl rfl Try.func20 pmBx14_21_ rfl #[.int .i64 a3, .agg #[.bool a4_0, .int .i64 a4_1], .agg #[.bool a5_0, .int .i64 a5_1]] rfl pmBx14_7_ ?_; (with_reducible refine (parterreref29_Inner.calls a3 a4_0 a4_1 a5_0 a5_1 t286 _ A99.out).mono ?_); rintro e w111 ⟨rfl, hb⟩; refine ⟨_, rfl, ?_⟩; have n0_ := Aside0.mk (blk_below (g := gb273) (o := .cells #[.int .i64 a0_0, .int .i64 a0_1] 31 (0, 0)) pmBx14_1_ hb); have n1_ := Aside0.mk (blk_below (g := gb274) (o := .cells #[.int .i64 a1_0, .int .i64 a1_1] 31 (0, 0)) pmBx14_2_ hb); have n2_ := Aside0.mk (blk_below (g := gb275) (o := .cells #[.int .i64 a2_0, .int .i64 a2_1] 31 (0, 0)) pmBx14_3_ hb); have n3_ := Aside0.mk (blk_below (g := gb276) (o := .cells #[.bool a4_0, .int .i64 a4_1] 23 (0, 0)) pmBx14_4_ hb); have n4_ := Aside0.mk (blk_below (g := gb277) (o := .cells #[.bool a5_0, .int .i64 a5_1] 23 (0, 0)) pmBx14_5_ hb); have n5_ := Aside0.mk (blk_below (g := gb278) (o := .cells #[.int .i64 a6_0, .int .i64 a6_1] 46 (0, 0)) pmBx14_6_ hb); have n6_ := Aside0.mk (below_step pmBx14_0_ hb); clear BK273; clear BK274; clear BK275; clear BK276; clear BK277; clear BK278; clear HB; have BK273 := n0_; have BK274 := n1_; have BK275 := n2_; have BK276 := n3_; have BK277 := n4_; have BK278 := n5_; have HB := n6_; clear n0_ n1_ n2_ n3_ n4_ n5_ n6_; (try clear hb); (try clear hb2); (try clear hk); (try clear hi)))
                  go_meet
                  case rel => exact ⟨_, (t286), pmBx14_13_, H', ⟨by have := HJ8.out; have := HJ63.out; first | omega | exact Nat.le_refl _⟩, ⟨pmBx14_1_⟩, ⟨pmBx14_2_⟩, ⟨pmBx14_3_⟩, ⟨pmBx14_4_⟩, ⟨pmBx14_5_⟩, ⟨pmBx14_6_⟩, ⟨pmBx14_0_⟩⟩
                · replace c98 := Bool.eq_false_iff.mpr c98
                  subst c98
                  have H1 : (if t284 = true then (parterreref29_Used.j2 kj63 a3 t283 a1_0 a1_1 a2_0 a2_1 a6_0 a6_1) else ((parterreref29_Inner.f a3 a4_0 a4_1 a5_0 a5_1).bind fun t287 => (parterreref29_Used.j2 kj63 a3 (mx a6_0 (mn a6_1 t287)) a1_0 a1_1 a2_0 a2_1 a6_0 a6_1))) = some (r1, r2) := by rw [if_neg (show ¬ (false = true) by decide)] at H; exact H
                  clear H
                  have H := H1
                  clear H1
                  by_cases c112 : t284 = true
                  · subst c112
                    have H1 : (parterreref29_Used.j2 kj63 a3 t283 a1_0 a1_1 a2_0 a2_1 a6_0 a6_1) = some (r1, r2) := by rw [if_pos rfl] at H; exact H
                    clear H
                    have H := H1
                    clear H1
                    have H' := Aside0.mk H
                    clear H
                    go_wp2
                    go_meet
                    case rel => exact ⟨_, (t283), pmBx14_13_, H', ⟨by have := HJ8.out; have := HJ63.out; first | omega | exact Nat.le_refl _⟩, ⟨pmBx14_1_⟩, ⟨pmBx14_2_⟩, ⟨pmBx14_3_⟩, ⟨pmBx14_4_⟩, ⟨pmBx14_5_⟩, ⟨pmBx14_6_⟩, ⟨pmBx14_0_⟩⟩
                  · replace c112 := Bool.eq_false_iff.mpr c112
                    subst c112
                    have H1 : ((parterreref29_Inner.f a3 a4_0 a4_1 a5_0 a5_1).bind fun t287 => (parterreref29_Used.j2 kj63 a3 (mx a6_0 (mn a6_1 t287)) a1_0 a1_1 a2_0 a2_1 a6_0 a6_1)) = some (r1, r2) := by rw [if_neg (show ¬ (false = true) by decide)] at H; exact H
                    clear H
                    have H := H1
                    clear H1
                    replace H := Option.bind_eq_some_iff.mp H
                    obtain ⟨t287, A1130, H⟩ := H
                    replace H : (parterreref29_Used.j2 kj63 a3 (mx a6_0 (mn a6_1 t287)) a1_0 a1_1 a2_0 a2_1 a6_0 a6_1) = some (r1, r2) := H
                    have A113 := Aside0.mk A1130
                    clear A1130
                    obtain ⟨ji114, hji114⟩ : ∃ j_ : Int, (mn a6_1 t287) = j_ := ⟨_, rfl⟩
                    replace H : (parterreref29_Used.j2 kj63 a3 (mx a6_0 (ji114)) a1_0 a1_1 a2_0 a2_1 a6_0 a6_1) = some (r1, r2) := by first | (rw [hji114] at H; exact H) | (simp only [hji114] at H ⊢; exact H)
                    (try rw [hji114] at A113)
                    have hji114_ : (if t287 < a6_1 then t287 else a6_1) = ji114 := hji114
                    obtain ⟨ji115, hji115⟩ : ∃ j_ : Int, (mx a6_0 (ji114)) = j_ := ⟨_, rfl⟩
                    replace H : (parterreref29_Used.j2 kj63 a3 ji115 a1_0 a1_1 a2_0 a2_1 a6_0 a6_1) = some (r1, r2) := by first | (rw [hji115] at H; exact H) | (simp only [hji115] at H ⊢; exact H)
                    (try rw [hji115] at A113)
                    have hji115_ : (if a6_0 < (ji114) then (ji114) else a6_0) = ji115 := hji115
                    have H' := Aside0.mk H
                    clear H
                    try go_wp2
                    have n0_ := Aside0.mk (blk_drew BK273.out)
                    have n1_ := Aside0.mk (blk_drew BK274.out)
                    have n2_ := Aside0.mk (blk_drew BK275.out)
                    have n3_ := Aside0.mk (blk_drew BK276.out)
                    have n4_ := Aside0.mk (blk_drew BK277.out)
                    have n5_ := Aside0.mk (blk_drew BK278.out)
                    have n6_ := Aside0.mk (below_drew1 HB.out)
                    clear BK273
                    clear BK274
                    clear BK275
                    clear BK276
                    clear BK277
                    clear BK278
                    clear HB
                    have BK273 := n0_
                    have BK274 := n1_
                    have BK275 := n2_
                    have BK276 := n3_
                    have BK277 := n4_
                    have BK278 := n5_
                    have HB := n6_
                    clear n0_ n1_ n2_ n3_ n4_ n5_ n6_
                    refine start_ (n := 11) (S := fun w' => w'.cell? ⟨gb278, 0, none⟩ = some (.int .i64 a6_0) ∧ w'.cell? ⟨gb278, 1, none⟩ = some (.int .i64 a6_1) ∧ w'.cell? ⟨gb276, 0, none⟩ = some (.bool a4_0) ∧ w'.cell? ⟨gb276, 1, none⟩ = some (.int .i64 a4_1) ∧ w'.cell? ⟨gb277, 0, none⟩ = some (.bool a5_0) ∧ w'.cell? ⟨gb277, 1, none⟩ = some (.int .i64 a5_1)) (ds := []) #[false, false, false, false, false, false, false, false, false, false, false] pmBx14_21_ rfl rfl ⟨(blk_cell BK278.out 0).trans rfl, (blk_cell BK278.out 1).trans rfl, (blk_cell BK276.out 0).trans rfl, (blk_cell BK276.out 1).trans rfl, (blk_cell BK277.out 0).trans rfl, (blk_cell BK277.out 1).trans rfl⟩ (fun hHeld => ?_); refine with_tabW parterreref29_Used.tab9 parterreref29_Used.bits9 (fun HT_ HW_ => ?_)
                    generalize wc.drew = w116 at BK273 BK274 BK275 BK276 BK277 BK278 HB hHeld ⊢
                    refine pure_ (i := 0) (N := some 71) (v := ?_) (a' := ?_) #[true, false, false, false, false, false, false, false, false, false, false] rfl rfl (any_of HT_.out pmBx14_21_) (fun _ _ _ h => h) (Or.inl ⟨by rfl, ?_⟩) ?_ ?_
                    rotate_left
                    · intro w'
                      go_simp
                      with_reducible rfl
                    rotate_left
                    · simp only [Act.put, List.setIfInBounds_toArray, List.set_cons_zero, List.set_cons_succ, i64_w, i32_w]
                      rfl
                    refine pure_ (i := 2) (N := some 73) (v := ?_) (a' := ?_) #[true, false, true, false, false, false, false, false, false, false, false] rfl rfl (any_of HT_.out pmBx14_21_) (fun _ _ _ h => h) (Or.inl ⟨by rfl, ?_⟩) ?_ ?_
                    rotate_left
                    · intro w'
                      go_simp
                      with_reducible rfl
                    rotate_left
                    · simp only [Act.put, List.setIfInBounds_toArray, List.set_cons_zero, List.set_cons_succ, i64_w, i32_w]
                      rfl
                    refine pure_ (i := 4) (N := some 75) (v := ?_) (a' := ?_) #[true, false, true, false, true, false, false, false, false, false, false] rfl rfl (any_of HT_.out pmBx14_21_) (fun _ _ _ h => h) (Or.inl ⟨by rfl, ?_⟩) ?_ ?_
                    rotate_left
                    · intro w'
                      go_simp
                      with_reducible rfl
                    rotate_left
                    · simp only [Act.put, List.setIfInBounds_toArray, List.set_cons_zero, List.set_cons_succ, i64_w, i32_w]
                      rfl
                    refine take_ (i := 1) (N := some 72) (v := ?_) (a' := ?_) #[true, true, true, false, true, false, false, false, false, false, false] rfl rfl (take_ofW HT_.out HW_.out pmBx14_21_) (fun _ _ _ h => h) (Or.inl ⟨by rfl, ?_⟩) hHeld ?_ ?_
                    rotate_left
                    · rintro w' ⟨s0, s1, s2, s3, s4, s5⟩
                      go_simp
                      with_reducible rfl
                    rotate_left
                    · simp only [Act.put, List.setIfInBounds_toArray, List.set_cons_zero, List.set_cons_succ, i64_w, i32_w]
                      rfl
                    refine take_ (i := 3) (N := some 74) (v := ?_) (a' := ?_) #[true, true, true, true, true, false, false, false, false, false, false] rfl rfl (take_ofW HT_.out HW_.out pmBx14_21_) (fun _ _ _ h => h) (Or.inl ⟨by rfl, ?_⟩) hHeld ?_ ?_
                    rotate_left
                    · rintro w' ⟨s0, s1, s2, s3, s4, s5⟩
                      go_simp
                      with_reducible rfl
                    rotate_left
                    · simp only [Act.put, List.setIfInBounds_toArray, List.set_cons_zero, List.set_cons_succ, i64_w, i32_w]
                      rfl
                    refine take_ (i := 5) (N := some 76) (v := ?_) (a' := ?_) #[true, true, true, true, true, true, false, false, false, false, false] rfl rfl (take_ofW HT_.out HW_.out pmBx14_21_) (fun _ _ _ h => h) (Or.inl ⟨by rfl, ?_⟩) hHeld ?_ ?_
                    rotate_left
                    · rintro w' ⟨s0, s1, s2, s3, s4, s5⟩
                      go_simp
                      with_reducible rfl
                    rotate_left
                    · simp only [Act.put, List.setIfInBounds_toArray, List.set_cons_zero, List.set_cons_succ, i64_w, i32_w]
                      rfl
                    refine take_ (i := 6) (N := some 77) (v := ?_) (a' := ?_) #[true, true, true, true, true, true, true, false, false, false, false] rfl rfl (take_ofW HT_.out HW_.out pmBx14_21_) (fun _ _ _ h => h) (Or.inl ⟨by rfl, ?_⟩) hHeld ?_ ?_
                    rotate_left
                    · rintro w' ⟨s0, s1, s2, s3, s4, s5⟩
                      go_simp
                      with_reducible rfl
                    rotate_left
                    · simp only [Act.put, List.setIfInBounds_toArray, List.set_cons_zero, List.set_cons_succ, i64_w, i32_w]
                      rfl
                    refine one_ (i := 7) (N := some 78) #[true, true, true, true, true, true, true, true, false, false, false] rfl rfl (one_of HT_.out pmBx14_21_) (by decide) (fun K hK => ?_)
                    refine goes_ Try.func20 pmBx14_21_ rfl #[.int .i64 a3, .agg #[.bool a4_0, .int .i64 a4_1], .agg #[.bool a5_0, .int .i64 a5_1]] (by rfl) rfl rfl pmBx14_7_ ?_
                    with_reducible refine (parterreref29_Inner.calls a3 a4_0 a4_1 a5_0 a5_1 t287 _ A113.out).mono ?_
                    rintro e w117 ⟨rfl, hb⟩
                    refine ⟨_, rfl, ?_⟩
                    have n0_ := Aside0.mk (blk_below (g := gb273) (o := .cells #[.int .i64 a0_0, .int .i64 a0_1] 31 (0, 0)) pmBx14_1_ hb)
                    have n1_ := Aside0.mk (blk_below (g := gb274) (o := .cells #[.int .i64 a1_0, .int .i64 a1_1] 31 (0, 0)) pmBx14_2_ hb)
                    have n2_ := Aside0.mk (blk_below (g := gb275) (o := .cells #[.int .i64 a2_0, .int .i64 a2_1] 31 (0, 0)) pmBx14_3_ hb)
                    have n3_ := Aside0.mk (blk_below (g := gb276) (o := .cells #[.bool a4_0, .int .i64 a4_1] 23 (0, 0)) pmBx14_4_ hb)
                    have n4_ := Aside0.mk (blk_below (g := gb277) (o := .cells #[.bool a5_0, .int .i64 a5_1] 23 (0, 0)) pmBx14_5_ hb)
                    have n5_ := Aside0.mk (blk_below (g := gb278) (o := .cells #[.int .i64 a6_0, .int .i64 a6_1] 46 (0, 0)) pmBx14_6_ hb)
                    have n6_ := Aside0.mk (below_step pmBx14_0_ hb)
                    clear BK273
                    clear BK274
                    clear BK275
                    clear BK276
                    clear BK277
                    clear BK278
                    clear HB
                    have BK273 := n0_
                    have BK274 := n1_
                    have BK275 := n2_
                    have BK276 := n3_
                    have BK277 := n4_
                    have BK278 := n5_
                    have HB := n6_
                    clear n0_ n1_ n2_ n3_ n4_ n5_ n6_
                    (try clear hb)
                    (try clear hb2)
                    (try clear hk)
                    (try clear hi)
                    refine hK.out _ _ ⟨(blk_cell BK278.out 0).trans rfl, (blk_cell BK278.out 1).trans rfl, (blk_cell BK276.out 0).trans rfl, (blk_cell BK276.out 1).trans rfl, (blk_cell BK277.out 0).trans rfl, (blk_cell BK277.out 1).trans rfl⟩ (fun hHeld => ?_)
                    clear hK K
                    refine norm_ (a' := ?_) ?_ ?_
                    rotate_left
                    · show Act.put _ (some 78) _ = _
                      simp only [Act.put, List.setIfInBounds_toArray, List.set_cons_zero, List.set_cons_succ, i64_w, i32_w]
                      rfl
                    refine pure_ (i := 8) (N := some 79) (v := ?_) (a' := ?_) #[true, true, true, true, true, true, true, true, true, false, false] rfl rfl (any_of HT_.out pmBx14_21_) (fun _ _ _ h => h) (Or.inl ⟨by rfl, ?_⟩) ?_ ?_
                    rotate_left
                    · intro w'
                      go_simp
                      with_reducible rfl
                    rotate_left
                    · simp only [Act.put, List.setIfInBounds_toArray, List.set_cons_zero, List.set_cons_succ, i64_w, i32_w]
                      rfl
                    refine pure_ (i := 9) (N := some 80) (v := ?_) (a' := ?_) #[true, true, true, true, true, true, true, true, true, true, false] rfl rfl (any_of HT_.out pmBx14_21_) (fun _ _ _ h => h) (Or.inl ⟨by rfl, ?_⟩) ?_ ?_
                    rotate_left
                    · intro w'
                      go_simp
                      with_reducible rfl
                    rotate_left
                    · simp only [Act.put, List.setIfInBounds_toArray, List.set_cons_zero, List.set_cons_succ, i64_w, i32_w]
                      rfl
                    refine pure_ (i := 10) (N := some 18) (v := ?_) (a' := ?_) #[true, true, true, true, true, true, true, true, true, true, true] rfl rfl (any_of HT_.out pmBx14_21_) (fun _ _ _ h => h) (Or.inl ⟨by rfl, ?_⟩) ?_ ?_
                    rotate_left
                    · intro w'
                      go_simp
                      with_reducible rfl
                    rotate_left
                    · simp only [Act.put, List.setIfInBounds_toArray, List.set_cons_zero, List.set_cons_succ, i64_w, i32_w]
                      rfl
                    refine done_ (done_of HT_.out pmBx14_21_) ?_
                    try go_wp2
                    go_meet
                    case rel => exact ⟨_, (ji115), (by first | rfl | (simp; done) | (simp only [← hji115] <;> (first | rfl | simp)) | (simp [*]; done)), H', ⟨by have := HJ8.out; have := HJ63.out; first | omega | exact Nat.le_refl _⟩, ⟨pmBx14_1_⟩, ⟨pmBx14_2_⟩, ⟨pmBx14_3_⟩, ⟨pmBx14_4_⟩, ⟨pmBx14_5_⟩, ⟨pmBx14_6_⟩, ⟨pmBx14_0_⟩⟩
              case rest =>
                clear HC97
                try clear c1
                try clear c2
                try clear p2
                try clear c3
                try clear c4
                try clear c5
                try clear c6
                try clear c7
                try clear c8
                try clear c9
                try clear c10
                try clear c11
                try clear c14
                try clear c17
                try clear c18
                try clear c19
                try clear c20
                try clear c21
                try clear c23
                try clear c24
                try clear c25
                try clear c26
                try clear c27
                try clear c30
                try clear c31
                try clear c32
                try clear c33
                try clear c36
                try clear c37
                try clear c38
                try clear c41
                try clear c42
                try clear c43
                try clear c44
                try clear c45
                try clear c48
                try clear c49
                try clear c50
                try clear c51
                try clear c54
                try clear c55
                try clear c56
                try clear c57
                try clear c58
                try clear c61
                try clear c63
                try clear c63b0
                try clear c63b1
                try clear c65
                try clear c66
                try clear c67
                try clear c68
                try clear c69
                try clear c71
                try clear c72
                try clear c73
                try clear c74
                try clear c77
                try clear c78
                try clear c79
                try clear c80
                try clear c81
                try clear c82
                try clear c83
                try clear c84
                try clear c86
                try clear c87
                try clear c88
                try clear c89
                try clear c90
                try clear c92
                try clear c93
                try clear c94
                try clear c95
                try clear c98
                try clear c100
                try clear c101
                try clear c102
                try clear c103
                try clear c104
                try clear c106
                try clear c107
                try clear c108
                try clear c109
                try clear c112
                try clear hcz105_0
                try clear hcz105_1
                try clear hcz110_0
                try clear hcz110_1
                try clear hcz28_0
                try clear hcz28_1
                try clear hcz34_0
                try clear hcz34_1
                try clear hcz39_0
                try clear hcz39_1
                try clear hcz46_0
                try clear hcz46_1
                try clear hcz52_0
                try clear hcz52_1
                try clear hcz59_0
                try clear hcz59_1
                try clear hcz70_0
                try clear hcz70_1
                try clear hcz75_0
                try clear hcz75_1
                try clear hcz85_0
                try clear hcz85_1
                try clear hcz91_0
                try clear hcz91_1
                try clear hcz96_0
                try clear hcz96_1
                try clear hfz105_0
                try clear hfz105_1
                try clear hfz110_0
                try clear hfz110_1
                try clear hfz28_0
                try clear hfz28_1
                try clear hfz34_0
                try clear hfz34_1
                try clear hfz39_0
                try clear hfz39_1
                try clear hfz46_0
                try clear hfz46_1
                try clear hfz52_0
                try clear hfz52_1
                try clear hfz59_0
                try clear hfz59_1
                try clear hfz70_0
                try clear hfz70_1
                try clear hfz75_0
                try clear hfz75_1
                try clear hfz85_0
                try clear hfz85_1
                try clear hfz91_0
                try clear hfz91_1
                try clear hfz96_0
                try clear hfz96_1
                try clear p2
                obtain ⟨kq, x18_96, rfl, HA, HJ96, BK273, BK274, BK275, BK276, BK277, BK278, HB⟩ := hcut
                cases kq with
                | zero => exact absurd HA.out (by simp [parterreref29_Used.j2])
                | succ kj96 =>
                  have H := HA.out
                  clear HA
                  simp only [parterreref29_Used.j2] at H
                  replace H := Option.bind_eq_some_iff.mp H
                  obtain ⟨t288, A1180, H⟩ := H
                  replace H : (if t288 = true then ((parterreref29_Clamp.f kj96 x18_96 a1_0 a1_1 a2_0 a2_1 a3 true a6_0 a6_1).bind fun bt289 => (some (bt289.1, bt289.2))) else (some (0, 2))) = some (r1, r2) := H
                  have A118 := Aside0.mk A1180
                  clear A1180
                  by_cases c119 : t288 = true
                  · subst c119
                    have H1 : ((parterreref29_Clamp.f kj96 x18_96 a1_0 a1_1 a2_0 a2_1 a3 true a6_0 a6_1).bind fun bt289 => (some (bt289.1, bt289.2))) = some (r1, r2) := by rw [if_pos rfl] at H; exact H
                    clear H
                    have H := H1
                    clear H1
                    replace H := Option.bind_eq_some_iff.mp H
                    obtain ⟨⟨t289, t290⟩, A1200, H⟩ := H
                    replace H : (some (t289, t290)) = some (r1, r2) := H
                    have A120 := Aside0.mk A1200
                    clear A1200
                    simp only [Option.some.injEq, Prod.mk.injEq] at H
                    obtain ⟨rfl, rfl⟩ := H
                    go_wp2_with (first | ((with_reducible refine gate_callee (f := 21) rfl ?_); refine goesL_ (some 82) rfl rfl Try.func21 pmBx14_21_ rfl #[.int .i64 x18_96] rfl pmBx14_7_ ?_; (with_reducible refine (parterreref29_Size.calls x18_96 true _ A118.out).mono ?_); rintro e w' ⟨rfl, ⟨nd, rfl⟩⟩; refine ⟨_, rfl, ?_⟩; have hnb121 := NB274_273.out; have hnc121 := NB273_274.out; have hnb122 := NB274_275.out; have hnc122 := NB275_274.out; have hnb123 := NB274_276.out; have hnc123 := NB276_274.out; have hnb124 := NB274_277.out; have hnc124 := NB277_274.out; have hnb125 := NB274_278.out; have hnc125 := NB278_274.out; have hcz126_0 : wc.cell? ⟨gb274, 0, none⟩ = some (.int .i64 a1_0) := (blk_cell BK274.out 0).trans rfl; have hcz126_1 : wc.cell? ⟨gb274, 1, none⟩ = some (.int .i64 a1_1) := (blk_cell BK274.out 1).trans rfl; have hfz126_0 := blk_frozen BK274.out 0; have hfz126_1 := blk_frozen BK274.out 1; have hnb127 := NB275_273.out; have hnc127 := NB273_275.out; have hnb128 := NB275_276.out; have hnc128 := NB276_275.out; have hnb129 := NB275_277.out; have hnc129 := NB277_275.out; have hnb130 := NB275_278.out; have hnc130 := NB278_275.out; have hcz131_0 : wc.cell? ⟨gb275, 0, none⟩ = some (.int .i64 a2_0) := (blk_cell BK275.out 0).trans rfl; have hcz131_1 : wc.cell? ⟨gb275, 1, none⟩ = some (.int .i64 a2_1) := (blk_cell BK275.out 1).trans rfl; have hfz131_0 := blk_frozen BK275.out 0; have hfz131_1 := blk_frozen BK275.out 1; have hnb132 := NB278_273.out; have hnc132 := NB273_278.out; have hnb133 := NB278_276.out; have hnc133 := NB276_278.out; have hnb134 := NB278_277.out; have hnc134 := NB277_278.out; have hcz135_0 : wc.cell? ⟨gb278, 0, none⟩ = some (.int .i64 a6_0) := (blk_cell BK278.out 0).trans rfl; have hcz135_1 : wc.cell? ⟨gb278, 1, none⟩ = some (.int .i64 a6_1) := (blk_cell BK278.out 1).trans rfl; have hfz135_0 := blk_frozen BK278.out 0; have hfz135_1 := blk_frozen BK278.out 1) | ((with_reducible refine gate_callee (f := 16) rfl ?_); refine goesL_ (some 89) rfl rfl Try.func16 pmBx14_21_ rfl #[.int .i64 x18_96, .agg #[.int .i64 a1_0, .int .i64 a1_1], .agg #[.int .i64 a2_0, .int .i64 a2_1], .int .i64 a3, .bool true, .agg #[.int .i64 a6_0, .int .i64 a6_1]] rfl pmBx14_7_ ?_; (with_reducible refine (parterreref29_Clamp.calls kj96 x18_96 a1_0 a1_1 a2_0 a2_1 a3 true a6_0 a6_1 t289 t290 _ A120.out).mono ?_); rintro e w136 ⟨rfl, hb⟩; refine ⟨_, rfl, ?_⟩; have n0_ := Aside0.mk (blk_below (g := gb273) (o := .cells #[.int .i64 a0_0, .int .i64 a0_1] 31 (0, 0)) pmBx14_1_ hb); have n1_ := Aside0.mk (blk_below (g := gb274) (o := .cells #[.int .i64 a1_0, .int .i64 a1_1] 31 (0, 0)) pmBx14_2_ hb); have n2_ := Aside0.mk (blk_below (g := gb275) (o := .cells #[.int .i64 a2_0, .int .i64 a2_1] 31 (0, 0)) pmBx14_3_ hb); have n3_ := Aside0.mk (blk_below (g := gb276) (o := .cells #[.bool a4_0, .int .i64 a4_1] 23 (0, 0)) pmBx14_4_ hb); have n4_ := Aside0.mk (blk_below (g := gb277) (o := .cells #[.bool a5_0, .int .i64 a5_1] 23 (0, 0)) pmBx14_5_ hb); have n5_ := Aside0.mk (blk_below (g := gb278) (o := .cells #[.int .i64 a6_0, .int .i64 a6_1] 46 (0, 0)) pmBx14_6_ hb); have n6_ := Aside0.mk (below_step pmBx14_0_ hb); clear BK273; clear BK274; clear BK275; clear BK276; clear BK277; clear BK278; clear HB; have BK273 := n0_; have BK274 := n1_; have BK275 := n2_; have BK276 := n3_; have BK277 := n4_; have BK278 := n5_; have HB := n6_; clear n0_ n1_ n2_ n3_ n4_ n5_ n6_; (try clear hb); (try clear hb2); (try clear hk); (try clear hi)))
                    go_ret2
                    exact ⟨by first | rfl | (simp [errW_none, errW_some] <;> rfl) | (simp [*, errW_none, errW_some] <;> rfl), by repeat (first | (with_reducible first | exact HB.out | apply below_alloc | apply pw_below_drewN | apply below_drew1 | refine below_set ?_ GE273.out | refine below_set ?_ GE274.out | refine below_set ?_ GE275.out | refine below_set ?_ GE276.out | refine below_set ?_ GE277.out | refine below_set ?_ GE278.out) | exact HB.out)⟩
                  · replace c119 := Bool.eq_false_iff.mpr c119
                    subst c119
                    have H1 : (some (0, 2)) = some (r1, r2) := by rw [if_neg (show ¬ (false = true) by decide)] at H; exact H
                    clear H
                    have H := H1
                    clear H1
                    simp only [Option.some.injEq, Prod.mk.injEq] at H
                    obtain ⟨rfl, rfl⟩ := H
                    go_wp2_with (first | ((with_reducible refine gate_callee (f := 21) rfl ?_); refine goesL_ (some 82) rfl rfl Try.func21 pmBx14_21_ rfl #[.int .i64 x18_96] rfl pmBx14_7_ ?_; (with_reducible refine (parterreref29_Size.calls x18_96 false _ A118.out).mono ?_); rintro e w' ⟨rfl, ⟨nd, rfl⟩⟩; refine ⟨_, rfl, ?_⟩))
                    go_ret2
                    exact ⟨by first | rfl | (simp [errW_none, errW_some] <;> rfl) | (simp [*, errW_none, errW_some] <;> rfl), by repeat (first | (with_reducible first | exact HB.out | apply below_alloc | apply pw_below_drewN | apply below_drew1 | refine below_set ?_ GE273.out | refine below_set ?_ GE274.out | refine below_set ?_ GE275.out | refine below_set ?_ GE276.out | refine below_set ?_ GE277.out | refine below_set ?_ GE278.out) | exact HB.out)⟩
        · rw [if_neg c63] at H
          have c63b0 : (t285 == 0) = false := beq_eq_false_iff_ne.mpr c63
          have c63b1 : (t285 != 0) = true := bne_iff_ne.mpr c63
          simp only [Option.some.injEq, Prod.mk.injEq] at H
          obtain ⟨rfl, rfl⟩ := H
          have hnb137 := NB273_274.out
          have hnc137 := NB274_273.out
          have hnb138 := NB273_275.out
          have hnc138 := NB275_273.out
          have hnb139 := NB273_276.out
          have hnc139 := NB276_273.out
          have hnb140 := NB273_277.out
          have hnc140 := NB277_273.out
          have hnb141 := NB273_278.out
          have hnc141 := NB278_273.out
          have hcz142_0 : wc.cell? ⟨gb273, 0, none⟩ = some (.int .i64 a0_0) := (blk_cell BK273.out 0).trans rfl
          have hcz142_1 : wc.cell? ⟨gb273, 1, none⟩ = some (.int .i64 a0_1) := (blk_cell BK273.out 1).trans rfl
          have hfz142_0 := blk_frozen BK273.out 0
          have hfz142_1 := blk_frozen BK273.out 1
          have hnb143 := NB278_274.out
          have hnc143 := NB274_278.out
          have hnb144 := NB278_275.out
          have hnc144 := NB275_278.out
          have hnb145 := NB278_276.out
          have hnc145 := NB276_278.out
          have hnb146 := NB278_277.out
          have hnc146 := NB277_278.out
          have hcz147_0 : wc.cell? ⟨gb278, 0, none⟩ = some (.int .i64 a6_0) := (blk_cell BK278.out 0).trans rfl
          have hcz147_1 : wc.cell? ⟨gb278, 1, none⟩ = some (.int .i64 a6_1) := (blk_cell BK278.out 1).trans rfl
          have hfz147_0 := blk_frozen BK278.out 0
          have hfz147_1 := blk_frozen BK278.out 1
          go_wp2_with (first | ((with_reducible refine gate_callee (f := 14) rfl ?_); refine goesL_ (some 43) rfl rfl Try.func14 pmBx14_21_ rfl #[.agg #[.int .i64 a0_0, .int .i64 a0_1], .int .i64 a3, .bool true, .agg #[.int .i64 a6_0, .int .i64 a6_1]] rfl pmBx14_7_ ?_; (with_reducible refine (parterreref29_Limit.calls kj8 a0_0 a0_1 a3 true a6_0 a6_1 t283 t284 t285 _ A62.out).mono ?_); rintro e w148 ⟨rfl, hb⟩; refine ⟨_, rfl, ?_⟩; have n0_ := Aside0.mk (blk_below (g := gb273) (o := .cells #[.int .i64 a0_0, .int .i64 a0_1] 31 (0, 0)) pmBx14_1_ hb); have n1_ := Aside0.mk (blk_below (g := gb274) (o := .cells #[.int .i64 a1_0, .int .i64 a1_1] 31 (0, 0)) pmBx14_2_ hb); have n2_ := Aside0.mk (blk_below (g := gb275) (o := .cells #[.int .i64 a2_0, .int .i64 a2_1] 31 (0, 0)) pmBx14_3_ hb); have n3_ := Aside0.mk (blk_below (g := gb276) (o := .cells #[.bool a4_0, .int .i64 a4_1] 23 (0, 0)) pmBx14_4_ hb); have n4_ := Aside0.mk (blk_below (g := gb277) (o := .cells #[.bool a5_0, .int .i64 a5_1] 23 (0, 0)) pmBx14_5_ hb); have n5_ := Aside0.mk (blk_below (g := gb278) (o := .cells #[.int .i64 a6_0, .int .i64 a6_1] 46 (0, 0)) pmBx14_6_ hb); have n6_ := Aside0.mk (below_step pmBx14_0_ hb); clear BK273; clear BK274; clear BK275; clear BK276; clear BK277; clear BK278; clear HB; have BK273 := n0_; have BK274 := n1_; have BK275 := n2_; have BK276 := n3_; have BK277 := n4_; have BK278 := n5_; have HB := n6_; clear n0_ n1_ n2_ n3_ n4_ n5_ n6_; (try clear hb); (try clear hb2); (try clear hk); (try clear hi)))
          go_ret2
          exact ⟨by first | rfl | (simp [errW_none, errW_some] <;> rfl) | (simp [*, errW_none, errW_some] <;> rfl), by repeat (first | (with_reducible first | exact HB.out | apply below_alloc | apply pw_below_drewN | apply below_drew1 | refine below_set ?_ GE273.out | refine below_set ?_ GE274.out | refine below_set ?_ GE275.out | refine below_set ?_ GE276.out | refine below_set ?_ GE277.out | refine below_set ?_ GE278.out) | exact HB.out)⟩

end Go.Proofs.Ytbenanokgfphmaa.PB
