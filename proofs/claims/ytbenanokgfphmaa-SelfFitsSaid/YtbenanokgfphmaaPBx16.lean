-- written by a program of this session (a print of the translation with changes of its own)
import Derived.Test.YtbenanokgfphmaaPBx0
import Derived.Test.YtbenanokgfphmaaPBx5
import Derived.Test.YtbenanokgfphmaaPBx7
import Derived.Test.YtbenanokgfphmaaPBx12
namespace Go.Proofs.Ytbenanokgfphmaa.PB
open Go.RowKit Go.Proofs.YtbenanokgfphmaaW.PrintWords Go.Proofs.YtbenanokgfphmaaW.PrintLast Go.Proofs.YtbenanokgfphmaaW.PrintMore
theorem pmBx16_0_ {P : Prop} (h : P := by repeat (first | (with_reducible first | exact HB.out | apply below_alloc | apply pw_below_drewN | apply below_drew1 | refine below_set ?_ GE302.out | refine below_set ?_ GE303.out | refine below_set ?_ GE304.out) | exact HB.out)) : P := h
theorem pmBx16_1_ {P : Prop} (h : P := by (with_reducible repeat (first | refine blk_drewN ?_ _ | refine blk_drew ?_ | refine blk_alloc ?_ _)); exact BK302.out) : P := h
theorem pmBx16_2_ {P : Prop} (h : P := by (with_reducible repeat (first | refine blk_drewN ?_ _ | refine blk_drew ?_ | refine blk_alloc ?_ _)); exact BK303.out) : P := h
theorem pmBx16_3_ {P : Prop} (h : P := by (with_reducible repeat (first | refine blk_drewN ?_ _ | refine blk_drew ?_ | refine blk_alloc ?_ _)); exact BK304.out) : P := h
theorem pmBx16_4_ {P : Prop} (h : P := by (try simp only [List.map_toArray, List.map_cons, List.map_nil]); first | done | rfl | (simp only [List.length_drop, List.length_take]; rfl)) : P := h
theorem pmBx16_5_ {P : Prop} (h : P := by repeat (first | (with_reducible first | exact HB.out | apply below_alloc | apply pw_below_drewN | apply below_drew1 | refine below_set ?_ GE302.out | refine below_set ?_ GE303.out | refine below_set ?_ GE304.out | refine below_set ?_ GE315.out | refine below_set ?_ GE316.out) | exact HB.out)) : P := h
theorem pmBx16_6_ {P : Prop} (h : P := by (with_reducible repeat (first | refine blk_drewN ?_ _ | refine blk_drew ?_ | refine blk_alloc ?_ _)); refine blk_far ?_ NB315_316.out _; (with_reducible repeat (first | refine blk_drewN ?_ _ | refine blk_drew ?_ | refine blk_alloc ?_ _)); refine blk_far ?_ NB315_316.out _; (with_reducible repeat (first | refine blk_drewN ?_ _ | refine blk_drew ?_ | refine blk_alloc ?_ _)); refine blk_put (cs := #[.int .i64 1, .int .i64 0]) ?_ 1 _ rfl; (with_reducible repeat (first | refine blk_drewN ?_ _ | refine blk_drew ?_ | refine blk_alloc ?_ _)); refine blk_put (cs := #[.int .i64 0, .int .i64 0]) ?_ 0 _ rfl; (with_reducible repeat (first | refine blk_drewN ?_ _ | refine blk_drew ?_ | refine blk_alloc ?_ _)); exact BK315.out) : P := h
theorem pmBx16_7_ {P : Prop} (h : P := by (with_reducible repeat (first | refine blk_drewN ?_ _ | refine blk_drew ?_ | refine blk_alloc ?_ _)); refine blk_put (cs := #[.int .i64 7, .int .i64 0]) ?_ 1 _ rfl; (with_reducible repeat (first | refine blk_drewN ?_ _ | refine blk_drew ?_ | refine blk_alloc ?_ _)); refine blk_put (cs := #[.int .i64 0, .int .i64 0]) ?_ 0 _ rfl; (with_reducible repeat (first | refine blk_drewN ?_ _ | refine blk_drew ?_ | refine blk_alloc ?_ _)); refine blk_far ?_ NB316_315.out _; (with_reducible repeat (first | refine blk_drewN ?_ _ | refine blk_drew ?_ | refine blk_alloc ?_ _)); refine blk_far ?_ NB316_315.out _; (with_reducible repeat (first | refine blk_drewN ?_ _ | refine blk_drew ?_ | refine blk_alloc ?_ _)); exact BK316.out) : P := h
theorem pmBx16_8_ {P : Prop} (h : P := by (with_reducible repeat (first | refine blk_drewN ?_ _ | refine blk_drew ?_ | refine blk_alloc ?_ _)); refine blk_far ?_ NB302_316.out _; (with_reducible repeat (first | refine blk_drewN ?_ _ | refine blk_drew ?_ | refine blk_alloc ?_ _)); refine blk_far ?_ NB302_316.out _; (with_reducible repeat (first | refine blk_drewN ?_ _ | refine blk_drew ?_ | refine blk_alloc ?_ _)); refine blk_far ?_ NB302_315.out _; (with_reducible repeat (first | refine blk_drewN ?_ _ | refine blk_drew ?_ | refine blk_alloc ?_ _)); refine blk_far ?_ NB302_315.out _; (with_reducible repeat (first | refine blk_drewN ?_ _ | refine blk_drew ?_ | refine blk_alloc ?_ _)); exact BK302.out) : P := h
theorem pmBx16_9_ {P : Prop} (h : P := by (with_reducible repeat (first | refine blk_drewN ?_ _ | refine blk_drew ?_ | refine blk_alloc ?_ _)); refine blk_far ?_ NB303_316.out _; (with_reducible repeat (first | refine blk_drewN ?_ _ | refine blk_drew ?_ | refine blk_alloc ?_ _)); refine blk_far ?_ NB303_316.out _; (with_reducible repeat (first | refine blk_drewN ?_ _ | refine blk_drew ?_ | refine blk_alloc ?_ _)); refine blk_far ?_ NB303_315.out _; (with_reducible repeat (first | refine blk_drewN ?_ _ | refine blk_drew ?_ | refine blk_alloc ?_ _)); refine blk_far ?_ NB303_315.out _; (with_reducible repeat (first | refine blk_drewN ?_ _ | refine blk_drew ?_ | refine blk_alloc ?_ _)); exact BK303.out) : P := h
theorem pmBx16_10_ {P : Prop} (h : P := by (with_reducible repeat (first | refine blk_drewN ?_ _ | refine blk_drew ?_ | refine blk_alloc ?_ _)); refine blk_far ?_ NB304_316.out _; (with_reducible repeat (first | refine blk_drewN ?_ _ | refine blk_drew ?_ | refine blk_alloc ?_ _)); refine blk_far ?_ NB304_316.out _; (with_reducible repeat (first | refine blk_drewN ?_ _ | refine blk_drew ?_ | refine blk_alloc ?_ _)); refine blk_far ?_ NB304_315.out _; (with_reducible repeat (first | refine blk_drewN ?_ _ | refine blk_drew ?_ | refine blk_alloc ?_ _)); refine blk_far ?_ NB304_315.out _; (with_reducible repeat (first | refine blk_drewN ?_ _ | refine blk_drew ?_ | refine blk_alloc ?_ _)); exact BK304.out) : P := h
theorem pmBx16_11_ {P : Prop} (h : P := by (with_reducible repeat (first | refine blk_drewN ?_ _ | refine blk_drew ?_ | refine blk_alloc ?_ _)); exact BK315.out) : P := h
theorem pmBx16_12_ {P : Prop} (h : P := by (with_reducible repeat (first | refine blk_drewN ?_ _ | refine blk_drew ?_ | refine blk_alloc ?_ _)); exact BK316.out) : P := h
theorem pmBx16_13_ {P : Prop} (h : P := by first | rfl | (simp; done) | (simp [*]; done)) : P := h
theorem pmBx16_14_ {P : Prop} (h : P := by kernel_rfl) : P := h
theorem pmBx16_15_ {P : Prop} (h : P := by first | omega | exact Nat.le_refl _) : P := h
theorem pmBx16_16_ {P : Prop} (h : P := by repeat (first | (with_reducible first | exact HB.out | apply below_alloc | apply pw_below_drewN | apply below_drew1 | refine below_set ?_ GE302.out | refine below_set ?_ GE303.out | refine below_set ?_ GE304.out | refine below_set ?_ GE315.out) | exact HB.out)) : P := h
theorem pmBx16_17_ {P : Prop} (h : P := by repeat (first | (with_reducible first | exact HB.out | apply below_alloc | apply pw_below_drewN | apply below_drew1 | refine below_set ?_ GE302.out | refine below_set ?_ GE303.out) | exact HB.out)) : P := h
theorem pmBx16_18_ {P : Prop} (h : P := by rw [hg]; exact Nat.ne_of_lt (blk_lt (g := gb302) (o := .cells #[.bool a2_0, .int .i64 a2_1] 23 (0, 0)) pmBx16_1_)) : P := h
theorem pmBx16_19_ {P : Prop} (h : P := by rw [hg]; exact Nat.ne_of_gt (blk_lt (g := gb302) (o := .cells #[.bool a2_0, .int .i64 a2_1] 23 (0, 0)) pmBx16_1_)) : P := h
theorem pmBx16_20_ {P : Prop} (h : P := by repeat (first | (with_reducible first | exact HB.out | apply below_alloc | apply pw_below_drewN | apply below_drew1 | refine below_set ?_ GE302.out) | exact HB.out)) : P := h
theorem pmBx16_21_ {P : Prop} (h : P := by repeat (first | (with_reducible first | exact HB.out | apply below_alloc | apply pw_below_drewN | apply below_drew1) | exact HB.out)) : P := h
theorem pmBx16_22_ {P : Prop} (h : P := by rw [hg]; exact Nat.ne_of_lt (blk_lt (g := gb303) (o := .cells #[.bool a3_0, .int .i64 a3_1] 23 (0, 0)) pmBx16_2_)) : P := h
theorem pmBx16_23_ {P : Prop} (h : P := by rw [hg]; exact Nat.ne_of_gt (blk_lt (g := gb303) (o := .cells #[.bool a3_0, .int .i64 a3_1] 23 (0, 0)) pmBx16_2_)) : P := h
attribute [local go_sem] max2_int min2_int max_two min_two max_three min_three max_four min_four   -- for this text's walks alone
set_option linter.unusedVariables false
set_option linter.unusedSimpArgs false

/-! ### parterrelaw29_SelfFits: function 7 -/
mutual
def parterrelaw29_SelfFits.j0 : Nat → Int → Int → Int → Bool → Bool → Int → Bool → Int → Int → Int → Option (Bool)
  | 0, _, _, _, _, _, _, _, _, _, _ => none
  | k + 1, x0, x1, x5, x71, x303000, x303001, x304000, x304001, x305000, x305001 => if x71 = true then ((parterrelaw29_lives.f k).bind fun t314 => (some t314)) else (if (wrap64 ((wrap64 (x0 - x303001)) - x304001)) ≥ 0 then (if (wrap64 ((wrap64 (x0 - x303001)) - x304001)) ≤ 68719476736 then (if x303000 = true then (parterrelaw29_SelfFits.j1 k x0 x1 x5 (wrap64 ((wrap64 (x0 - x303001)) - x304001)) false x303000 x303001 x304000 x304001 x305000 x305001 1 0 7 0) else (parterrelaw29_SelfFits.j1 k x0 x1 x5 (wrap64 ((wrap64 (x0 - x303001)) - x304001)) (!x304000) x303000 x303001 x304000 x304001 x305000 x305001 1 0 7 0)) else (parterrelaw29_SelfFits.j1 k x0 x1 x5 (wrap64 ((wrap64 (x0 - x303001)) - x304001)) false x303000 x303001 x304000 x304001 x305000 x305001 1 0 7 0)) else (parterrelaw29_SelfFits.j1 k x0 x1 x5 (wrap64 ((wrap64 (x0 - x303001)) - x304001)) false x303000 x303001 x304000 x304001 x305000 x305001 1 0 7 0))
def parterrelaw29_SelfFits.j1 : Nat → Int → Int → Int → Int → Bool → Bool → Int → Bool → Int → Int → Int → Int → Int → Int → Int → Option (Bool)
  | 0, _, _, _, _, _, _, _, _, _, _, _, _, _, _, _ => none
  | k + 1, x0, x1, x5, x15, x97, x303000, x303001, x304000, x304001, x305000, x305001, x316000, x316001, x317000, x317001 => if x97 = true then ((self_Used.f k x316000 x316001 x316000 x316001 x317000 x317001 x0 x303000 x303001 x304000 x304001 x305000 x305001 true).bind fun bt317 => (if bt317.2 = 0 then (if bt317.1 = x15 then ((self_Place.f k x0 bt317.1 x303000 x303001 x304000 x304001 x5).bind fun t319 => (if t319 = x303001 then (parterrelaw29_SelfFits.j2 k x0 x1 x5 x303000 x303001 x304000 x304001) else (some false))) else (some false)) else (some false))) else (parterrelaw29_SelfFits.j2 k x0 x1 x5 x303000 x303001 x304000 x304001)
def parterrelaw29_SelfFits.j2 : Nat → Int → Int → Int → Bool → Int → Bool → Int → Option (Bool)
  | 0, _, _, _, _, _, _, _ => none
  | k + 1, x0, x1, x5, x303000, x303001, x304000, x304001 => (parterreref29_Size.f x1).bind fun t320 => (if t320 = true then (parterrelaw29_SelfFits.j3 k x0 x1 x5 (decide (x1 > (wrap64 ((wrap64 (x0 - x303001)) - x304001)))) x303000 x303001 x304000 x304001) else (parterrelaw29_SelfFits.j3 k x0 x1 x5 true x303000 x303001 x304000 x304001))
def parterrelaw29_SelfFits.j3 : Nat → Int → Int → Int → Bool → Bool → Int → Bool → Int → Option (Bool)
  | 0, _, _, _, _, _, _, _, _ => none
  | k + 1, x0, x1, x5, x140, x303000, x303001, x304000, x304001 => if x140 = true then ((parterrelaw29_lives.f k).bind fun t321 => (some t321)) else ((self_Place.f k x0 x1 x303000 x303001 x304000 x304001 x5).bind fun t322 => (if t322 ≥ x303001 then (if (wrap64 ((wrap64 (t322 + x1)) + x304001)) ≤ x0 then ((parterrelaw29_lives.f k).bind fun t323 => (some t323)) else (some false)) else (some false)))
end
def parterrelaw29_SelfFits.f (k : Nat) (a0 : Int) (a1 : Int) (a2_0 : Bool) (a2_1 : Int) (a3_0 : Bool) (a3_1 : Int) (a4_0 : Int) (a4_1 : Int) (a5 : Int) : Option (Bool) := (parterreref29_Size.f a0).bind fun t305 => (if t305 = true then (if a2_0 = true then (if a2_1 = 0 then (if a3_0 = true then (if a3_1 = 0 then (if a2_1 < (-68719476736) then (parterrelaw29_SelfFits.j0 k a0 a1 a5 true a2_0 a2_1 a3_0 a3_1 a4_0 a4_1) else (if a2_1 > 68719476736 then (parterrelaw29_SelfFits.j0 k a0 a1 a5 true a2_0 a2_1 a3_0 a3_1 a4_0 a4_1) else (if a3_1 < (-68719476736) then (parterrelaw29_SelfFits.j0 k a0 a1 a5 true a2_0 a2_1 a3_0 a3_1 a4_0 a4_1) else (if a3_1 > 68719476736 then (parterrelaw29_SelfFits.j0 k a0 a1 a5 true a2_0 a2_1 a3_0 a3_1 a4_0 a4_1) else ((parterreref29_Size.f a4_0).bind fun t306 => (if t306 = true then ((parterreref29_Size.f a4_1).bind fun t307 => (parterrelaw29_SelfFits.j0 k a0 a1 a5 (!t307) a2_0 a2_1 a3_0 a3_1 a4_0 a4_1)) else (parterrelaw29_SelfFits.j0 k a0 a1 a5 true a2_0 a2_1 a3_0 a3_1 a4_0 a4_1))))))) else (parterrelaw29_SelfFits.j0 k a0 a1 a5 true a2_0 a2_1 a3_0 a3_1 a4_0 a4_1)) else (if a2_1 < (-68719476736) then (parterrelaw29_SelfFits.j0 k a0 a1 a5 true a2_0 a2_1 a3_0 a3_1 a4_0 a4_1) else (if a2_1 > 68719476736 then (parterrelaw29_SelfFits.j0 k a0 a1 a5 true a2_0 a2_1 a3_0 a3_1 a4_0 a4_1) else (if a3_1 < (-68719476736) then (parterrelaw29_SelfFits.j0 k a0 a1 a5 true a2_0 a2_1 a3_0 a3_1 a4_0 a4_1) else (if a3_1 > 68719476736 then (parterrelaw29_SelfFits.j0 k a0 a1 a5 true a2_0 a2_1 a3_0 a3_1 a4_0 a4_1) else ((parterreref29_Size.f a4_0).bind fun t308 => (if t308 = true then ((parterreref29_Size.f a4_1).bind fun t309 => (parterrelaw29_SelfFits.j0 k a0 a1 a5 (!t309) a2_0 a2_1 a3_0 a3_1 a4_0 a4_1)) else (parterrelaw29_SelfFits.j0 k a0 a1 a5 true a2_0 a2_1 a3_0 a3_1 a4_0 a4_1)))))))) else (parterrelaw29_SelfFits.j0 k a0 a1 a5 true a2_0 a2_1 a3_0 a3_1 a4_0 a4_1)) else (if a3_0 = true then (if a3_1 = 0 then (if a2_1 < (-68719476736) then (parterrelaw29_SelfFits.j0 k a0 a1 a5 true a2_0 a2_1 a3_0 a3_1 a4_0 a4_1) else (if a2_1 > 68719476736 then (parterrelaw29_SelfFits.j0 k a0 a1 a5 true a2_0 a2_1 a3_0 a3_1 a4_0 a4_1) else (if a3_1 < (-68719476736) then (parterrelaw29_SelfFits.j0 k a0 a1 a5 true a2_0 a2_1 a3_0 a3_1 a4_0 a4_1) else (if a3_1 > 68719476736 then (parterrelaw29_SelfFits.j0 k a0 a1 a5 true a2_0 a2_1 a3_0 a3_1 a4_0 a4_1) else ((parterreref29_Size.f a4_0).bind fun t310 => (if t310 = true then ((parterreref29_Size.f a4_1).bind fun t311 => (parterrelaw29_SelfFits.j0 k a0 a1 a5 (!t311) a2_0 a2_1 a3_0 a3_1 a4_0 a4_1)) else (parterrelaw29_SelfFits.j0 k a0 a1 a5 true a2_0 a2_1 a3_0 a3_1 a4_0 a4_1))))))) else (parterrelaw29_SelfFits.j0 k a0 a1 a5 true a2_0 a2_1 a3_0 a3_1 a4_0 a4_1)) else (if a2_1 < (-68719476736) then (parterrelaw29_SelfFits.j0 k a0 a1 a5 true a2_0 a2_1 a3_0 a3_1 a4_0 a4_1) else (if a2_1 > 68719476736 then (parterrelaw29_SelfFits.j0 k a0 a1 a5 true a2_0 a2_1 a3_0 a3_1 a4_0 a4_1) else (if a3_1 < (-68719476736) then (parterrelaw29_SelfFits.j0 k a0 a1 a5 true a2_0 a2_1 a3_0 a3_1 a4_0 a4_1) else (if a3_1 > 68719476736 then (parterrelaw29_SelfFits.j0 k a0 a1 a5 true a2_0 a2_1 a3_0 a3_1 a4_0 a4_1) else ((parterreref29_Size.f a4_0).bind fun t312 => (if t312 = true then ((parterreref29_Size.f a4_1).bind fun t313 => (parterrelaw29_SelfFits.j0 k a0 a1 a5 (!t313) a2_0 a2_1 a3_0 a3_1 a4_0 a4_1)) else (parterrelaw29_SelfFits.j0 k a0 a1 a5 true a2_0 a2_1 a3_0 a3_1 a4_0 a4_1))))))))) else (parterrelaw29_SelfFits.j0 k a0 a1 a5 true a2_0 a2_1 a3_0 a3_1 a4_0 a4_1))
theorem parterrelaw29_SelfFits.mono_l : ∀ k, (∀ y0 y1 y2 y3 y4 y5 y6 y7 y8 y9, LeO (parterrelaw29_SelfFits.j0 k y0 y1 y2 y3 y4 y5 y6 y7 y8 y9) (parterrelaw29_SelfFits.j0 (k + 1) y0 y1 y2 y3 y4 y5 y6 y7 y8 y9)) ∧ (∀ y0 y1 y2 y3 y4 y5 y6 y7 y8 y9 y10 y11 y12 y13 y14, LeO (parterrelaw29_SelfFits.j1 k y0 y1 y2 y3 y4 y5 y6 y7 y8 y9 y10 y11 y12 y13 y14) (parterrelaw29_SelfFits.j1 (k + 1) y0 y1 y2 y3 y4 y5 y6 y7 y8 y9 y10 y11 y12 y13 y14)) ∧ (∀ y0 y1 y2 y3 y4 y5 y6, LeO (parterrelaw29_SelfFits.j2 k y0 y1 y2 y3 y4 y5 y6) (parterrelaw29_SelfFits.j2 (k + 1) y0 y1 y2 y3 y4 y5 y6)) ∧ (∀ y0 y1 y2 y3 y4 y5 y6 y7, LeO (parterrelaw29_SelfFits.j3 k y0 y1 y2 y3 y4 y5 y6 y7) (parterrelaw29_SelfFits.j3 (k + 1) y0 y1 y2 y3 y4 y5 y6 y7))
  | 0 => ⟨fun _ _ _ _ _ _ _ _ _ _ r h => by simp [parterrelaw29_SelfFits.j0] at h, fun _ _ _ _ _ _ _ _ _ _ _ _ _ _ _ r h => by simp [parterrelaw29_SelfFits.j1] at h, fun _ _ _ _ _ _ _ r h => by simp [parterrelaw29_SelfFits.j2] at h, fun _ _ _ _ _ _ _ _ r h => by simp [parterrelaw29_SelfFits.j3] at h⟩
  | k + 1 => by
    obtain ⟨ih0, ih1, ih2, ih3⟩ := parterrelaw29_SelfFits.mono_l k
    refine ⟨?_, ?_, ?_, ?_⟩
    · intro y0 y1 y2 y3 y4 y5 y6 y7 y8 y9
      unfold parterrelaw29_SelfFits.j0
      repeat' first
      | (with_reducible exact ih0 _ _ _ _ _ _ _ _ _ _)
      | (with_reducible exact ih1 _ _ _ _ _ _ _ _ _ _ _ _ _ _ _)
      | (with_reducible exact ih2 _ _ _ _ _ _ _)
      | (with_reducible exact ih3 _ _ _ _ _ _ _ _)
      | (with_reducible exact parterrelaw29_lives.mono _)
      | (with_reducible exact self_Place.mono _ _ _ _ _ _ _ _)
      | (with_reducible exact self_Used.mono _ _ _ _ _ _ _ _ _ _ _ _ _ _ _)
      | (with_reducible exact LeO.refl _)
      | (with_reducible exact LeO.none _)
      | (with_reducible refine LeO.ite ?_ ?_)
      | (with_reducible refine LeO.bind ?_ (fun _ => ?_))
      | exact ih0 _ _ _ _ _ _ _ _ _ _
      | exact ih1 _ _ _ _ _ _ _ _ _ _ _ _ _ _ _
      | exact ih2 _ _ _ _ _ _ _
      | exact ih3 _ _ _ _ _ _ _ _
      | exact parterrelaw29_lives.mono _
      | exact self_Place.mono _ _ _ _ _ _ _ _
      | exact self_Used.mono _ _ _ _ _ _ _ _ _ _ _ _ _ _ _
      | exact LeO.none _
      | refine LeO.ite ?_ ?_
      | refine LeO.bind ?_ (fun _ => ?_)
    · intro y0 y1 y2 y3 y4 y5 y6 y7 y8 y9 y10 y11 y12 y13 y14
      unfold parterrelaw29_SelfFits.j1
      repeat' first
      | (with_reducible exact ih0 _ _ _ _ _ _ _ _ _ _)
      | (with_reducible exact ih1 _ _ _ _ _ _ _ _ _ _ _ _ _ _ _)
      | (with_reducible exact ih2 _ _ _ _ _ _ _)
      | (with_reducible exact ih3 _ _ _ _ _ _ _ _)
      | (with_reducible exact parterrelaw29_lives.mono _)
      | (with_reducible exact self_Place.mono _ _ _ _ _ _ _ _)
      | (with_reducible exact self_Used.mono _ _ _ _ _ _ _ _ _ _ _ _ _ _ _)
      | (with_reducible exact LeO.refl _)
      | (with_reducible exact LeO.none _)
      | (with_reducible refine LeO.ite ?_ ?_)
      | (with_reducible refine LeO.bind ?_ (fun _ => ?_))
      | exact ih0 _ _ _ _ _ _ _ _ _ _
      | exact ih1 _ _ _ _ _ _ _ _ _ _ _ _ _ _ _
      | exact ih2 _ _ _ _ _ _ _
      | exact ih3 _ _ _ _ _ _ _ _
      | exact parterrelaw29_lives.mono _
      | exact self_Place.mono _ _ _ _ _ _ _ _
      | exact self_Used.mono _ _ _ _ _ _ _ _ _ _ _ _ _ _ _
      | exact LeO.none _
      | refine LeO.ite ?_ ?_
      | refine LeO.bind ?_ (fun _ => ?_)
    · intro y0 y1 y2 y3 y4 y5 y6
      unfold parterrelaw29_SelfFits.j2
      repeat' first
      | (with_reducible exact ih0 _ _ _ _ _ _ _ _ _ _)
      | (with_reducible exact ih1 _ _ _ _ _ _ _ _ _ _ _ _ _ _ _)
      | (with_reducible exact ih2 _ _ _ _ _ _ _)
      | (with_reducible exact ih3 _ _ _ _ _ _ _ _)
      | (with_reducible exact parterrelaw29_lives.mono _)
      | (with_reducible exact self_Place.mono _ _ _ _ _ _ _ _)
      | (with_reducible exact self_Used.mono _ _ _ _ _ _ _ _ _ _ _ _ _ _ _)
      | (with_reducible exact LeO.refl _)
      | (with_reducible exact LeO.none _)
      | (with_reducible refine LeO.ite ?_ ?_)
      | (with_reducible refine LeO.bind ?_ (fun _ => ?_))
      | exact ih0 _ _ _ _ _ _ _ _ _ _
      | exact ih1 _ _ _ _ _ _ _ _ _ _ _ _ _ _ _
      | exact ih2 _ _ _ _ _ _ _
      | exact ih3 _ _ _ _ _ _ _ _
      | exact parterrelaw29_lives.mono _
      | exact self_Place.mono _ _ _ _ _ _ _ _
      | exact self_Used.mono _ _ _ _ _ _ _ _ _ _ _ _ _ _ _
      | exact LeO.none _
      | refine LeO.ite ?_ ?_
      | refine LeO.bind ?_ (fun _ => ?_)
    · intro y0 y1 y2 y3 y4 y5 y6 y7
      unfold parterrelaw29_SelfFits.j3
      repeat' first
      | (with_reducible exact ih0 _ _ _ _ _ _ _ _ _ _)
      | (with_reducible exact ih1 _ _ _ _ _ _ _ _ _ _ _ _ _ _ _)
      | (with_reducible exact ih2 _ _ _ _ _ _ _)
      | (with_reducible exact ih3 _ _ _ _ _ _ _ _)
      | (with_reducible exact parterrelaw29_lives.mono _)
      | (with_reducible exact self_Place.mono _ _ _ _ _ _ _ _)
      | (with_reducible exact self_Used.mono _ _ _ _ _ _ _ _ _ _ _ _ _ _ _)
      | (with_reducible exact LeO.refl _)
      | (with_reducible exact LeO.none _)
      | (with_reducible refine LeO.ite ?_ ?_)
      | (with_reducible refine LeO.bind ?_ (fun _ => ?_))
      | exact ih0 _ _ _ _ _ _ _ _ _ _
      | exact ih1 _ _ _ _ _ _ _ _ _ _ _ _ _ _ _
      | exact ih2 _ _ _ _ _ _ _
      | exact ih3 _ _ _ _ _ _ _ _
      | exact parterrelaw29_lives.mono _
      | exact self_Place.mono _ _ _ _ _ _ _ _
      | exact self_Used.mono _ _ _ _ _ _ _ _ _ _ _ _ _ _ _
      | exact LeO.none _
      | refine LeO.ite ?_ ?_
      | refine LeO.bind ?_ (fun _ => ?_)
theorem parterrelaw29_SelfFits.mono : ∀ a0 a1 a2 a3 a4 a5 a6 a7 a8 k, LeO (parterrelaw29_SelfFits.f k a0 a1 a2 a3 a4 a5 a6 a7 a8) (parterrelaw29_SelfFits.f (k + 1) a0 a1 a2 a3 a4 a5 a6 a7 a8) := by
  intro a0 a1 a2 a3 a4 a5 a6 a7 a8 k
  obtain ⟨ih0, ih1, ih2, ih3⟩ := parterrelaw29_SelfFits.mono_l k
  unfold parterrelaw29_SelfFits.f
  repeat' first
      | (with_reducible exact ih0 _ _ _ _ _ _ _ _ _ _)
      | (with_reducible exact ih1 _ _ _ _ _ _ _ _ _ _ _ _ _ _ _)
      | (with_reducible exact ih2 _ _ _ _ _ _ _)
      | (with_reducible exact ih3 _ _ _ _ _ _ _ _)
      | (with_reducible exact parterrelaw29_lives.mono _)
      | (with_reducible exact self_Place.mono _ _ _ _ _ _ _ _)
      | (with_reducible exact self_Used.mono _ _ _ _ _ _ _ _ _ _ _ _ _ _ _)
      | (with_reducible exact LeO.refl _)
      | (with_reducible exact LeO.none _)
      | (with_reducible refine LeO.ite ?_ ?_)
      | (with_reducible refine LeO.bind ?_ (fun _ => ?_))
      | exact ih0 _ _ _ _ _ _ _ _ _ _
      | exact ih1 _ _ _ _ _ _ _ _ _ _ _ _ _ _ _
      | exact ih2 _ _ _ _ _ _ _
      | exact ih3 _ _ _ _ _ _ _ _
      | exact parterrelaw29_lives.mono _
      | exact self_Place.mono _ _ _ _ _ _ _ _
      | exact self_Used.mono _ _ _ _ _ _ _ _ _ _ _ _ _ _ _
      | exact LeO.none _
      | refine LeO.ite ?_ ?_
      | refine LeO.bind ?_ (fun _ => ?_)
def parterrelaw29_SelfFits.T7 : Bool × List (List Nat × List Nat) := (true, [([], []), ([0], [0]), ([1], [1]), ([2], [2]), ([2], [2]), ([3, 4, 2], [2, 3, 4]), ([2, 5], [2, 5]), ([6, 2], [6]), ([7], [7]), ([7], [7]), ([7], [7]), ([7], [7]), ([7], [7]), ([8, 9, 10, 11, 12, 7, 7], [7, 8, 9, 10, 11, 12]), ([7], [7]), ([14, 7], [7, 14]), ([13, 15, 7], [7, 13, 15]), ([7, 16], [7, 16])])
def parterrelaw29_SelfFits.B7 : List Nat := [0, 1, 3, 7, 7, 31, 63, 127, 255, 255, 255, 255, 255, 8191, 255, 16639, 65535, 131071]
theorem parterrelaw29_SelfFits.tab7 : rtab .any (opsOf Try.f7 7) = parterrelaw29_SelfFits.T7 := by kernel_rfl
theorem parterrelaw29_SelfFits.bits7 : waitsOk parterrelaw29_SelfFits.T7.2 parterrelaw29_SelfFits.B7 = true := by kernel_rfl
set_option maxHeartbeats 8000000 in
set_option maxRecDepth 100000 in
theorem parterrelaw29_SelfFits.calls (k : Nat) (a0 : Int) (a1 : Int) (a2_0 : Bool) (a2_1 : Int) (a3_0 : Bool) (a3_1 : Int) (a4_0 : Int) (a4_1 : Int) (a5 : Int) (r : Bool) (w : World) (h : parterrelaw29_SelfFits.f k a0 a1 a2_0 a2_1 a3_0 a3_1 a4_0 a4_1 a5 = some r) :
    Calls Try.prog 7 #[.int .i64 a0, .int .i64 a1, .agg #[.bool a2_0, .int .i64 a2_1], .agg #[.bool a3_0, .int .i64 a3_1], .agg #[.int .i64 a4_0, .int .i64 a4_1], .int .i64 a5] w fun e w' => e = .returned (.bool r) ∧ Below w.heap.size w w' := by
  have hu23 := Try.underlying23
  have hu46 := Try.underlying46
  have hu31 := Try.underlying31
  have HB := Aside0.mk (Below.refl w.heap.size w)
  have H : ((parterreref29_Size.f a0).bind fun t305 => (if t305 = true then (if a2_0 = true then (if a2_1 = 0 then (if a3_0 = true then (if a3_1 = 0 then (if a2_1 < (-68719476736) then (parterrelaw29_SelfFits.j0 k a0 a1 a5 true a2_0 a2_1 a3_0 a3_1 a4_0 a4_1) else (if a2_1 > 68719476736 then (parterrelaw29_SelfFits.j0 k a0 a1 a5 true a2_0 a2_1 a3_0 a3_1 a4_0 a4_1) else (if a3_1 < (-68719476736) then (parterrelaw29_SelfFits.j0 k a0 a1 a5 true a2_0 a2_1 a3_0 a3_1 a4_0 a4_1) else (if a3_1 > 68719476736 then (parterrelaw29_SelfFits.j0 k a0 a1 a5 true a2_0 a2_1 a3_0 a3_1 a4_0 a4_1) else ((parterreref29_Size.f a4_0).bind fun t306 => (if t306 = true then ((parterreref29_Size.f a4_1).bind fun t307 => (parterrelaw29_SelfFits.j0 k a0 a1 a5 (!t307) a2_0 a2_1 a3_0 a3_1 a4_0 a4_1)) else (parterrelaw29_SelfFits.j0 k a0 a1 a5 true a2_0 a2_1 a3_0 a3_1 a4_0 a4_1))))))) else (parterrelaw29_SelfFits.j0 k a0 a1 a5 true a2_0 a2_1 a3_0 a3_1 a4_0 a4_1)) else (if a2_1 < (-68719476736) then (parterrelaw29_SelfFits.j0 k a0 a1 a5 true a2_0 a2_1 a3_0 a3_1 a4_0 a4_1) else (if a2_1 > 68719476736 then (parterrelaw29_SelfFits.j0 k a0 a1 a5 true a2_0 a2_1 a3_0 a3_1 a4_0 a4_1) else (if a3_1 < (-68719476736) then (parterrelaw29_SelfFits.j0 k a0 a1 a5 true a2_0 a2_1 a3_0 a3_1 a4_0 a4_1) else (if a3_1 > 68719476736 then (parterrelaw29_SelfFits.j0 k a0 a1 a5 true a2_0 a2_1 a3_0 a3_1 a4_0 a4_1) else ((parterreref29_Size.f a4_0).bind fun t308 => (if t308 = true then ((parterreref29_Size.f a4_1).bind fun t309 => (parterrelaw29_SelfFits.j0 k a0 a1 a5 (!t309) a2_0 a2_1 a3_0 a3_1 a4_0 a4_1)) else (parterrelaw29_SelfFits.j0 k a0 a1 a5 true a2_0 a2_1 a3_0 a3_1 a4_0 a4_1)))))))) else (parterrelaw29_SelfFits.j0 k a0 a1 a5 true a2_0 a2_1 a3_0 a3_1 a4_0 a4_1)) else (if a3_0 = true then (if a3_1 = 0 then (if a2_1 < (-68719476736) then (parterrelaw29_SelfFits.j0 k a0 a1 a5 true a2_0 a2_1 a3_0 a3_1 a4_0 a4_1) else (if a2_1 > 68719476736 then (parterrelaw29_SelfFits.j0 k a0 a1 a5 true a2_0 a2_1 a3_0 a3_1 a4_0 a4_1) else (if a3_1 < (-68719476736) then (parterrelaw29_SelfFits.j0 k a0 a1 a5 true a2_0 a2_1 a3_0 a3_1 a4_0 a4_1) else (if a3_1 > 68719476736 then (parterrelaw29_SelfFits.j0 k a0 a1 a5 true a2_0 a2_1 a3_0 a3_1 a4_0 a4_1) else ((parterreref29_Size.f a4_0).bind fun t310 => (if t310 = true then ((parterreref29_Size.f a4_1).bind fun t311 => (parterrelaw29_SelfFits.j0 k a0 a1 a5 (!t311) a2_0 a2_1 a3_0 a3_1 a4_0 a4_1)) else (parterrelaw29_SelfFits.j0 k a0 a1 a5 true a2_0 a2_1 a3_0 a3_1 a4_0 a4_1))))))) else (parterrelaw29_SelfFits.j0 k a0 a1 a5 true a2_0 a2_1 a3_0 a3_1 a4_0 a4_1)) else (if a2_1 < (-68719476736) then (parterrelaw29_SelfFits.j0 k a0 a1 a5 true a2_0 a2_1 a3_0 a3_1 a4_0 a4_1) else (if a2_1 > 68719476736 then (parterrelaw29_SelfFits.j0 k a0 a1 a5 true a2_0 a2_1 a3_0 a3_1 a4_0 a4_1) else (if a3_1 < (-68719476736) then (parterrelaw29_SelfFits.j0 k a0 a1 a5 true a2_0 a2_1 a3_0 a3_1 a4_0 a4_1) else (if a3_1 > 68719476736 then (parterrelaw29_SelfFits.j0 k a0 a1 a5 true a2_0 a2_1 a3_0 a3_1 a4_0 a4_1) else ((parterreref29_Size.f a4_0).bind fun t312 => (if t312 = true then ((parterreref29_Size.f a4_1).bind fun t313 => (parterrelaw29_SelfFits.j0 k a0 a1 a5 (!t313) a2_0 a2_1 a3_0 a3_1 a4_0 a4_1)) else (parterrelaw29_SelfFits.j0 k a0 a1 a5 true a2_0 a2_1 a3_0 a3_1 a4_0 a4_1))))))))) else (parterrelaw29_SelfFits.j0 k a0 a1 a5 true a2_0 a2_1 a3_0 a3_1 a4_0 a4_1))) = some r := h
  clear h
  have HC7 := Aside0.mk H
  clear H
  go_enter Try.func7, Try.ntmps7
  go_upto_region 1 with (first | ((with_reducible refine gate_dst (N := 8) rfl ?_); refine box_event ?hg (N := 8) ?hd (cs := #[.bool a2_0, .int .i64 a2_1]) (t := 23) ?hr ?_; (case hd => rfl); (case hg => rfl); (case hr => first | (go_simp; done) | (go_simp; rfl)); intro gb302 hg w8 hbox hb; have n0_ := Aside0.mk (below_step pmBx16_21_ hb); have n1_ := Aside0.mk (hbox); have n2_ := Aside0.mk ((by rw [hg]; exact (below_size pmBx16_21_) : w.heap.size ≤ gb302)); have n3_ := Aside0.mk ((by rw [hg]; exact (below_size pmBx16_21_) : w.heap.size ≤ gb302)); clear HB; have HB := n0_; have BK302 := n1_; have GW302 := n2_; have GE302 := n3_; clear n0_ n1_ n2_ n3_; clear hb hbox hg) | ((with_reducible refine gate_dst (N := 9) rfl ?_); refine box_event ?hg (N := 9) ?hd (cs := #[.bool a3_0, .int .i64 a3_1]) (t := 23) ?hr ?_; (case hd => rfl); (case hg => rfl); (case hr => first | (go_simp; done) | (go_simp; rfl)); intro gb303 hg w9 hbox hb; have n0_ := Aside0.mk (blk_below (g := gb302) (o := .cells #[.bool a2_0, .int .i64 a2_1] 23 (0, 0)) pmBx16_1_ hb); have n1_ := Aside0.mk (below_step pmBx16_20_ hb); have n2_ := Aside0.mk (hbox); have n3_ := Aside0.mk ((by rw [hg]; exact (below_size pmBx16_20_) : w.heap.size ≤ gb303)); have n4_ := Aside0.mk ((by rw [hg]; exact (below_size pmBx16_20_) : w.heap.size ≤ gb303)); have n5_ := Aside0.mk ((pmBx16_18_ : gb302 ≠ gb303)); have n6_ := Aside0.mk ((pmBx16_19_ : gb303 ≠ gb302)); clear BK302; clear HB; have BK302 := n0_; have HB := n1_; have BK303 := n2_; have GW303 := n3_; have GE303 := n4_; have NB302_303 := n5_; have NB303_302 := n6_; clear n0_ n1_ n2_ n3_ n4_ n5_ n6_; clear hb hbox hg) | ((with_reducible refine gate_dst (N := 10) rfl ?_); refine box_event ?hg (N := 10) ?hd (cs := #[.int .i64 a4_0, .int .i64 a4_1]) (t := 46) ?hr ?_; (case hd => rfl); (case hg => rfl); (case hr => first | (go_simp; done) | (go_simp; rfl)); intro gb304 hg w10 hbox hb; have n0_ := Aside0.mk (blk_below (g := gb302) (o := .cells #[.bool a2_0, .int .i64 a2_1] 23 (0, 0)) pmBx16_1_ hb); have n1_ := Aside0.mk (blk_below (g := gb303) (o := .cells #[.bool a3_0, .int .i64 a3_1] 23 (0, 0)) pmBx16_2_ hb); have n2_ := Aside0.mk (below_step pmBx16_17_ hb); have n3_ := Aside0.mk (hbox); have n4_ := Aside0.mk ((by rw [hg]; exact (below_size pmBx16_17_) : w.heap.size ≤ gb304)); have n5_ := Aside0.mk ((by rw [hg]; exact (below_size pmBx16_17_) : w.heap.size ≤ gb304)); have n6_ := Aside0.mk ((pmBx16_18_ : gb302 ≠ gb304)); have n7_ := Aside0.mk ((pmBx16_19_ : gb304 ≠ gb302)); have n8_ := Aside0.mk ((pmBx16_22_ : gb303 ≠ gb304)); have n9_ := Aside0.mk ((pmBx16_23_ : gb304 ≠ gb303)); clear BK302; clear BK303; clear HB; have BK302 := n0_; have BK303 := n1_; have HB := n2_; have BK304 := n3_; have GW304 := n4_; have GE304 := n5_; have NB302_304 := n6_; have NB304_302 := n7_; have NB303_304 := n8_; have NB304_303 := n9_; clear n0_ n1_ n2_ n3_ n4_ n5_ n6_ n7_ n8_ n9_; clear hb hbox hg))
  (try simp only [Act.put, List.setIfInBounds_toArray, List.set_cons_zero, List.set_cons_succ])
  go_cut [71] (fun v71 wc => ∃ (kq : Nat) (x71_6 : Bool), v71 = .bool x71_6 ∧ Aside0 (parterrelaw29_SelfFits.j0 kq a0 a1 a5 x71_6 a2_0 a2_1 a3_0 a3_1 a4_0 a4_1 = some r) ∧ Aside0 (kq ≤ k) ∧ Aside0 (wc.heap[gb302]? = some (.cells #[.bool a2_0, .int .i64 a2_1] 23 (0, 0))) ∧ Aside0 (wc.heap[gb303]? = some (.cells #[.bool a3_0, .int .i64 a3_1] 23 (0, 0))) ∧ Aside0 (wc.heap[gb304]? = some (.cells #[.int .i64 a4_0, .int .i64 a4_1] 46 (0, 0))) ∧ Aside0 (Below w.heap.size w wc))
  case first =>
    have H := HC7.out
    clear HC7
    replace H := Option.bind_eq_some_iff.mp H
    obtain ⟨t305, A110, H⟩ := H
    replace H : (if t305 = true then (if a2_0 = true then (if a2_1 = 0 then (if a3_0 = true then (if a3_1 = 0 then (if a2_1 < (-68719476736) then (parterrelaw29_SelfFits.j0 k a0 a1 a5 true a2_0 a2_1 a3_0 a3_1 a4_0 a4_1) else (if a2_1 > 68719476736 then (parterrelaw29_SelfFits.j0 k a0 a1 a5 true a2_0 a2_1 a3_0 a3_1 a4_0 a4_1) else (if a3_1 < (-68719476736) then (parterrelaw29_SelfFits.j0 k a0 a1 a5 true a2_0 a2_1 a3_0 a3_1 a4_0 a4_1) else (if a3_1 > 68719476736 then (parterrelaw29_SelfFits.j0 k a0 a1 a5 true a2_0 a2_1 a3_0 a3_1 a4_0 a4_1) else ((parterreref29_Size.f a4_0).bind fun t306 => (if t306 = true then ((parterreref29_Size.f a4_1).bind fun t307 => (parterrelaw29_SelfFits.j0 k a0 a1 a5 (!t307) a2_0 a2_1 a3_0 a3_1 a4_0 a4_1)) else (parterrelaw29_SelfFits.j0 k a0 a1 a5 true a2_0 a2_1 a3_0 a3_1 a4_0 a4_1))))))) else (parterrelaw29_SelfFits.j0 k a0 a1 a5 true a2_0 a2_1 a3_0 a3_1 a4_0 a4_1)) else (if a2_1 < (-68719476736) then (parterrelaw29_SelfFits.j0 k a0 a1 a5 true a2_0 a2_1 a3_0 a3_1 a4_0 a4_1) else (if a2_1 > 68719476736 then (parterrelaw29_SelfFits.j0 k a0 a1 a5 true a2_0 a2_1 a3_0 a3_1 a4_0 a4_1) else (if a3_1 < (-68719476736) then (parterrelaw29_SelfFits.j0 k a0 a1 a5 true a2_0 a2_1 a3_0 a3_1 a4_0 a4_1) else (if a3_1 > 68719476736 then (parterrelaw29_SelfFits.j0 k a0 a1 a5 true a2_0 a2_1 a3_0 a3_1 a4_0 a4_1) else ((parterreref29_Size.f a4_0).bind fun t308 => (if t308 = true then ((parterreref29_Size.f a4_1).bind fun t309 => (parterrelaw29_SelfFits.j0 k a0 a1 a5 (!t309) a2_0 a2_1 a3_0 a3_1 a4_0 a4_1)) else (parterrelaw29_SelfFits.j0 k a0 a1 a5 true a2_0 a2_1 a3_0 a3_1 a4_0 a4_1)))))))) else (parterrelaw29_SelfFits.j0 k a0 a1 a5 true a2_0 a2_1 a3_0 a3_1 a4_0 a4_1)) else (if a3_0 = true then (if a3_1 = 0 then (if a2_1 < (-68719476736) then (parterrelaw29_SelfFits.j0 k a0 a1 a5 true a2_0 a2_1 a3_0 a3_1 a4_0 a4_1) else (if a2_1 > 68719476736 then (parterrelaw29_SelfFits.j0 k a0 a1 a5 true a2_0 a2_1 a3_0 a3_1 a4_0 a4_1) else (if a3_1 < (-68719476736) then (parterrelaw29_SelfFits.j0 k a0 a1 a5 true a2_0 a2_1 a3_0 a3_1 a4_0 a4_1) else (if a3_1 > 68719476736 then (parterrelaw29_SelfFits.j0 k a0 a1 a5 true a2_0 a2_1 a3_0 a3_1 a4_0 a4_1) else ((parterreref29_Size.f a4_0).bind fun t310 => (if t310 = true then ((parterreref29_Size.f a4_1).bind fun t311 => (parterrelaw29_SelfFits.j0 k a0 a1 a5 (!t311) a2_0 a2_1 a3_0 a3_1 a4_0 a4_1)) else (parterrelaw29_SelfFits.j0 k a0 a1 a5 true a2_0 a2_1 a3_0 a3_1 a4_0 a4_1))))))) else (parterrelaw29_SelfFits.j0 k a0 a1 a5 true a2_0 a2_1 a3_0 a3_1 a4_0 a4_1)) else (if a2_1 < (-68719476736) then (parterrelaw29_SelfFits.j0 k a0 a1 a5 true a2_0 a2_1 a3_0 a3_1 a4_0 a4_1) else (if a2_1 > 68719476736 then (parterrelaw29_SelfFits.j0 k a0 a1 a5 true a2_0 a2_1 a3_0 a3_1 a4_0 a4_1) else (if a3_1 < (-68719476736) then (parterrelaw29_SelfFits.j0 k a0 a1 a5 true a2_0 a2_1 a3_0 a3_1 a4_0 a4_1) else (if a3_1 > 68719476736 then (parterrelaw29_SelfFits.j0 k a0 a1 a5 true a2_0 a2_1 a3_0 a3_1 a4_0 a4_1) else ((parterreref29_Size.f a4_0).bind fun t312 => (if t312 = true then ((parterreref29_Size.f a4_1).bind fun t313 => (parterrelaw29_SelfFits.j0 k a0 a1 a5 (!t313) a2_0 a2_1 a3_0 a3_1 a4_0 a4_1)) else (parterrelaw29_SelfFits.j0 k a0 a1 a5 true a2_0 a2_1 a3_0 a3_1 a4_0 a4_1))))))))) else (parterrelaw29_SelfFits.j0 k a0 a1 a5 true a2_0 a2_1 a3_0 a3_1 a4_0 a4_1)) = some r := H
    have A11 := Aside0.mk A110
    clear A110
    by_cases c12 : t305 = true
    · subst c12
      have H1 : (if a2_0 = true then (if a2_1 = 0 then (if a3_0 = true then (if a3_1 = 0 then (if a2_1 < (-68719476736) then (parterrelaw29_SelfFits.j0 k a0 a1 a5 true a2_0 a2_1 a3_0 a3_1 a4_0 a4_1) else (if a2_1 > 68719476736 then (parterrelaw29_SelfFits.j0 k a0 a1 a5 true a2_0 a2_1 a3_0 a3_1 a4_0 a4_1) else (if a3_1 < (-68719476736) then (parterrelaw29_SelfFits.j0 k a0 a1 a5 true a2_0 a2_1 a3_0 a3_1 a4_0 a4_1) else (if a3_1 > 68719476736 then (parterrelaw29_SelfFits.j0 k a0 a1 a5 true a2_0 a2_1 a3_0 a3_1 a4_0 a4_1) else ((parterreref29_Size.f a4_0).bind fun t306 => (if t306 = true then ((parterreref29_Size.f a4_1).bind fun t307 => (parterrelaw29_SelfFits.j0 k a0 a1 a5 (!t307) a2_0 a2_1 a3_0 a3_1 a4_0 a4_1)) else (parterrelaw29_SelfFits.j0 k a0 a1 a5 true a2_0 a2_1 a3_0 a3_1 a4_0 a4_1))))))) else (parterrelaw29_SelfFits.j0 k a0 a1 a5 true a2_0 a2_1 a3_0 a3_1 a4_0 a4_1)) else (if a2_1 < (-68719476736) then (parterrelaw29_SelfFits.j0 k a0 a1 a5 true a2_0 a2_1 a3_0 a3_1 a4_0 a4_1) else (if a2_1 > 68719476736 then (parterrelaw29_SelfFits.j0 k a0 a1 a5 true a2_0 a2_1 a3_0 a3_1 a4_0 a4_1) else (if a3_1 < (-68719476736) then (parterrelaw29_SelfFits.j0 k a0 a1 a5 true a2_0 a2_1 a3_0 a3_1 a4_0 a4_1) else (if a3_1 > 68719476736 then (parterrelaw29_SelfFits.j0 k a0 a1 a5 true a2_0 a2_1 a3_0 a3_1 a4_0 a4_1) else ((parterreref29_Size.f a4_0).bind fun t308 => (if t308 = true then ((parterreref29_Size.f a4_1).bind fun t309 => (parterrelaw29_SelfFits.j0 k a0 a1 a5 (!t309) a2_0 a2_1 a3_0 a3_1 a4_0 a4_1)) else (parterrelaw29_SelfFits.j0 k a0 a1 a5 true a2_0 a2_1 a3_0 a3_1 a4_0 a4_1)))))))) else (parterrelaw29_SelfFits.j0 k a0 a1 a5 true a2_0 a2_1 a3_0 a3_1 a4_0 a4_1)) else (if a3_0 = true then (if a3_1 = 0 then (if a2_1 < (-68719476736) then (parterrelaw29_SelfFits.j0 k a0 a1 a5 true a2_0 a2_1 a3_0 a3_1 a4_0 a4_1) else (if a2_1 > 68719476736 then (parterrelaw29_SelfFits.j0 k a0 a1 a5 true a2_0 a2_1 a3_0 a3_1 a4_0 a4_1) else (if a3_1 < (-68719476736) then (parterrelaw29_SelfFits.j0 k a0 a1 a5 true a2_0 a2_1 a3_0 a3_1 a4_0 a4_1) else (if a3_1 > 68719476736 then (parterrelaw29_SelfFits.j0 k a0 a1 a5 true a2_0 a2_1 a3_0 a3_1 a4_0 a4_1) else ((parterreref29_Size.f a4_0).bind fun t310 => (if t310 = true then ((parterreref29_Size.f a4_1).bind fun t311 => (parterrelaw29_SelfFits.j0 k a0 a1 a5 (!t311) a2_0 a2_1 a3_0 a3_1 a4_0 a4_1)) else (parterrelaw29_SelfFits.j0 k a0 a1 a5 true a2_0 a2_1 a3_0 a3_1 a4_0 a4_1))))))) else (parterrelaw29_SelfFits.j0 k a0 a1 a5 true a2_0 a2_1 a3_0 a3_1 a4_0 a4_1)) else (if a2_1 < (-68719476736) then (parterrelaw29_SelfFits.j0 k a0 a1 a5 true a2_0 a2_1 a3_0 a3_1 a4_0 a4_1) else (if a2_1 > 68719476736 then (parterrelaw29_SelfFits.j0 k a0 a1 a5 true a2_0 a2_1 a3_0 a3_1 a4_0 a4_1) else (if a3_1 < (-68719476736) then (parterrelaw29_SelfFits.j0 k a0 a1 a5 true a2_0 a2_1 a3_0 a3_1 a4_0 a4_1) else (if a3_1 > 68719476736 then (parterrelaw29_SelfFits.j0 k a0 a1 a5 true a2_0 a2_1 a3_0 a3_1 a4_0 a4_1) else ((parterreref29_Size.f a4_0).bind fun t312 => (if t312 = true then ((parterreref29_Size.f a4_1).bind fun t313 => (parterrelaw29_SelfFits.j0 k a0 a1 a5 (!t313) a2_0 a2_1 a3_0 a3_1 a4_0 a4_1)) else (parterrelaw29_SelfFits.j0 k a0 a1 a5 true a2_0 a2_1 a3_0 a3_1 a4_0 a4_1))))))))) = some r := by rw [if_pos rfl] at H; exact H
      clear H
      have H := H1
      clear H1
      by_cases c13 : a2_0 = true
      · subst c13
        have H1 : (if a2_1 = 0 then (if a3_0 = true then (if a3_1 = 0 then (if a2_1 < (-68719476736) then (parterrelaw29_SelfFits.j0 k a0 a1 a5 true true a2_1 a3_0 a3_1 a4_0 a4_1) else (if a2_1 > 68719476736 then (parterrelaw29_SelfFits.j0 k a0 a1 a5 true true a2_1 a3_0 a3_1 a4_0 a4_1) else (if a3_1 < (-68719476736) then (parterrelaw29_SelfFits.j0 k a0 a1 a5 true true a2_1 a3_0 a3_1 a4_0 a4_1) else (if a3_1 > 68719476736 then (parterrelaw29_SelfFits.j0 k a0 a1 a5 true true a2_1 a3_0 a3_1 a4_0 a4_1) else ((parterreref29_Size.f a4_0).bind fun t306 => (if t306 = true then ((parterreref29_Size.f a4_1).bind fun t307 => (parterrelaw29_SelfFits.j0 k a0 a1 a5 (!t307) true a2_1 a3_0 a3_1 a4_0 a4_1)) else (parterrelaw29_SelfFits.j0 k a0 a1 a5 true true a2_1 a3_0 a3_1 a4_0 a4_1))))))) else (parterrelaw29_SelfFits.j0 k a0 a1 a5 true true a2_1 a3_0 a3_1 a4_0 a4_1)) else (if a2_1 < (-68719476736) then (parterrelaw29_SelfFits.j0 k a0 a1 a5 true true a2_1 a3_0 a3_1 a4_0 a4_1) else (if a2_1 > 68719476736 then (parterrelaw29_SelfFits.j0 k a0 a1 a5 true true a2_1 a3_0 a3_1 a4_0 a4_1) else (if a3_1 < (-68719476736) then (parterrelaw29_SelfFits.j0 k a0 a1 a5 true true a2_1 a3_0 a3_1 a4_0 a4_1) else (if a3_1 > 68719476736 then (parterrelaw29_SelfFits.j0 k a0 a1 a5 true true a2_1 a3_0 a3_1 a4_0 a4_1) else ((parterreref29_Size.f a4_0).bind fun t308 => (if t308 = true then ((parterreref29_Size.f a4_1).bind fun t309 => (parterrelaw29_SelfFits.j0 k a0 a1 a5 (!t309) true a2_1 a3_0 a3_1 a4_0 a4_1)) else (parterrelaw29_SelfFits.j0 k a0 a1 a5 true true a2_1 a3_0 a3_1 a4_0 a4_1)))))))) else (parterrelaw29_SelfFits.j0 k a0 a1 a5 true true a2_1 a3_0 a3_1 a4_0 a4_1)) = some r := by rw [if_pos rfl] at H; exact H
        clear H
        have H := H1
        clear H1
        by_cases c14 : a2_1 = 0
        · rw [if_pos c14] at H
          have c14b0 : (a2_1 == 0) = true := beq_iff_eq.mpr c14
          have c14b1 : (a2_1 != 0) = false := bne_eq_false_iff_eq.mpr c14
          clear c14
          (first | rw [c14b0] | (simp only [i64_w, i32_w]; rw [c14b0]) | skip)
          by_cases c15 : a3_0 = true
          · subst c15
            have H1 : (if a3_1 = 0 then (if a2_1 < (-68719476736) then (parterrelaw29_SelfFits.j0 k a0 a1 a5 true true a2_1 true a3_1 a4_0 a4_1) else (if a2_1 > 68719476736 then (parterrelaw29_SelfFits.j0 k a0 a1 a5 true true a2_1 true a3_1 a4_0 a4_1) else (if a3_1 < (-68719476736) then (parterrelaw29_SelfFits.j0 k a0 a1 a5 true true a2_1 true a3_1 a4_0 a4_1) else (if a3_1 > 68719476736 then (parterrelaw29_SelfFits.j0 k a0 a1 a5 true true a2_1 true a3_1 a4_0 a4_1) else ((parterreref29_Size.f a4_0).bind fun t306 => (if t306 = true then ((parterreref29_Size.f a4_1).bind fun t307 => (parterrelaw29_SelfFits.j0 k a0 a1 a5 (!t307) true a2_1 true a3_1 a4_0 a4_1)) else (parterrelaw29_SelfFits.j0 k a0 a1 a5 true true a2_1 true a3_1 a4_0 a4_1))))))) else (parterrelaw29_SelfFits.j0 k a0 a1 a5 true true a2_1 true a3_1 a4_0 a4_1)) = some r := by rw [if_pos rfl] at H; exact H
            clear H
            have H := H1
            clear H1
            by_cases c16 : a3_1 = 0
            · rw [if_pos c16] at H
              have c16b0 : (a3_1 == 0) = true := beq_iff_eq.mpr c16
              have c16b1 : (a3_1 != 0) = false := bne_eq_false_iff_eq.mpr c16
              clear c16
              by_cases c17 : a2_1 < (-68719476736)
              · rw [if_pos c17] at H
                have c17b0 : decide (a2_1 < (-68719476736)) = true := decide_eq_true c17
                clear c17
                have H' := Aside0.mk H
                clear H
                go_wp2_with (first | ((with_reducible refine gate_callee (f := 21) rfl ?_); refine goesL_ (some 20) rfl rfl Try.func21 pmBx16_14_ rfl #[.int .i64 a0] rfl pmBx16_4_ ?_; (with_reducible refine (parterreref29_Size.calls a0 true _ A11.out).mono ?_); rintro e w' ⟨rfl, ⟨nd, rfl⟩⟩; refine ⟨_, rfl, ?_⟩; have hnb18 := NB302_303.out; have hnc18 := NB303_302.out; have hnb19 := NB302_304.out; have hnc19 := NB304_302.out; have hcz20_0 : w10.cell? ⟨gb302, 0, none⟩ = some (.bool true) := (blk_cell BK302.out 0).trans rfl; have hcz20_1 : w10.cell? ⟨gb302, 1, none⟩ = some (.int .i64 a2_1) := (blk_cell BK302.out 1).trans rfl; have hfz20_0 := blk_frozen BK302.out 0; have hfz20_1 := blk_frozen BK302.out 1; have hnb21 := NB303_304.out; have hnc21 := NB304_303.out; have hcz22_0 : w10.cell? ⟨gb303, 0, none⟩ = some (.bool true) := (blk_cell BK303.out 0).trans rfl; have hcz22_1 : w10.cell? ⟨gb303, 1, none⟩ = some (.int .i64 a3_1) := (blk_cell BK303.out 1).trans rfl; have hfz22_0 := blk_frozen BK303.out 0; have hfz22_1 := blk_frozen BK303.out 1))
                go_meet
                case rel => exact ⟨_, (true), pmBx16_13_, H', ⟨pmBx16_15_⟩, ⟨pmBx16_1_⟩, ⟨pmBx16_2_⟩, ⟨pmBx16_3_⟩, ⟨pmBx16_0_⟩⟩
              · rw [if_neg c17] at H
                have c17b0 : decide (a2_1 < (-68719476736)) = false := decide_eq_false c17
                clear c17
                by_cases c23 : a2_1 > 68719476736
                · rw [if_pos c23] at H
                  have c23b0 : decide (68719476736 < a2_1) = true := decide_eq_true c23
                  clear c23
                  have H' := Aside0.mk H
                  clear H
                  go_wp2_with (first | ((with_reducible refine gate_callee (f := 21) rfl ?_); refine goesL_ (some 20) rfl rfl Try.func21 pmBx16_14_ rfl #[.int .i64 a0] rfl pmBx16_4_ ?_; (with_reducible refine (parterreref29_Size.calls a0 true _ A11.out).mono ?_); rintro e w' ⟨rfl, ⟨nd, rfl⟩⟩; refine ⟨_, rfl, ?_⟩; have hnb24 := NB302_303.out; have hnc24 := NB303_302.out; have hnb25 := NB302_304.out; have hnc25 := NB304_302.out; have hcz26_0 : w10.cell? ⟨gb302, 0, none⟩ = some (.bool true) := (blk_cell BK302.out 0).trans rfl; have hcz26_1 : w10.cell? ⟨gb302, 1, none⟩ = some (.int .i64 a2_1) := (blk_cell BK302.out 1).trans rfl; have hfz26_0 := blk_frozen BK302.out 0; have hfz26_1 := blk_frozen BK302.out 1; have hnb27 := NB303_304.out; have hnc27 := NB304_303.out; have hcz28_0 : w10.cell? ⟨gb303, 0, none⟩ = some (.bool true) := (blk_cell BK303.out 0).trans rfl; have hcz28_1 : w10.cell? ⟨gb303, 1, none⟩ = some (.int .i64 a3_1) := (blk_cell BK303.out 1).trans rfl; have hfz28_0 := blk_frozen BK303.out 0; have hfz28_1 := blk_frozen BK303.out 1))
                  go_meet
                  case rel => exact ⟨_, (true), pmBx16_13_, H', ⟨pmBx16_15_⟩, ⟨pmBx16_1_⟩, ⟨pmBx16_2_⟩, ⟨pmBx16_3_⟩, ⟨pmBx16_0_⟩⟩
                · rw [if_neg c23] at H
                  have c23b0 : decide (68719476736 < a2_1) = false := decide_eq_false c23
                  clear c23
                  by_cases c29 : a3_1 < (-68719476736)
                  · rw [if_pos c29] at H
                    have c29b0 : decide (a3_1 < (-68719476736)) = true := decide_eq_true c29
                    clear c29
                    have H' := Aside0.mk H
                    clear H
                    go_wp2_with (first | ((with_reducible refine gate_callee (f := 21) rfl ?_); refine goesL_ (some 20) rfl rfl Try.func21 pmBx16_14_ rfl #[.int .i64 a0] rfl pmBx16_4_ ?_; (with_reducible refine (parterreref29_Size.calls a0 true _ A11.out).mono ?_); rintro e w' ⟨rfl, ⟨nd, rfl⟩⟩; refine ⟨_, rfl, ?_⟩; have hnb30 := NB302_303.out; have hnc30 := NB303_302.out; have hnb31 := NB302_304.out; have hnc31 := NB304_302.out; have hcz32_0 : w10.cell? ⟨gb302, 0, none⟩ = some (.bool true) := (blk_cell BK302.out 0).trans rfl; have hcz32_1 : w10.cell? ⟨gb302, 1, none⟩ = some (.int .i64 a2_1) := (blk_cell BK302.out 1).trans rfl; have hfz32_0 := blk_frozen BK302.out 0; have hfz32_1 := blk_frozen BK302.out 1; have hnb33 := NB303_304.out; have hnc33 := NB304_303.out; have hcz34_0 : w10.cell? ⟨gb303, 0, none⟩ = some (.bool true) := (blk_cell BK303.out 0).trans rfl; have hcz34_1 : w10.cell? ⟨gb303, 1, none⟩ = some (.int .i64 a3_1) := (blk_cell BK303.out 1).trans rfl; have hfz34_0 := blk_frozen BK303.out 0; have hfz34_1 := blk_frozen BK303.out 1))
                    go_meet
                    case rel => exact ⟨_, (true), pmBx16_13_, H', ⟨pmBx16_15_⟩, ⟨pmBx16_1_⟩, ⟨pmBx16_2_⟩, ⟨pmBx16_3_⟩, ⟨pmBx16_0_⟩⟩
                  · rw [if_neg c29] at H
                    have c29b0 : decide (a3_1 < (-68719476736)) = false := decide_eq_false c29
                    clear c29
                    by_cases c35 : a3_1 > 68719476736
                    · rw [if_pos c35] at H
                      have c35b0 : decide (68719476736 < a3_1) = true := decide_eq_true c35
                      clear c35
                      have H' := Aside0.mk H
                      clear H
                      go_wp2_with (first | ((with_reducible refine gate_callee (f := 21) rfl ?_); refine goesL_ (some 20) rfl rfl Try.func21 pmBx16_14_ rfl #[.int .i64 a0] rfl pmBx16_4_ ?_; (with_reducible refine (parterreref29_Size.calls a0 true _ A11.out).mono ?_); rintro e w' ⟨rfl, ⟨nd, rfl⟩⟩; refine ⟨_, rfl, ?_⟩; have hnb36 := NB302_303.out; have hnc36 := NB303_302.out; have hnb37 := NB302_304.out; have hnc37 := NB304_302.out; have hcz38_0 : w10.cell? ⟨gb302, 0, none⟩ = some (.bool true) := (blk_cell BK302.out 0).trans rfl; have hcz38_1 : w10.cell? ⟨gb302, 1, none⟩ = some (.int .i64 a2_1) := (blk_cell BK302.out 1).trans rfl; have hfz38_0 := blk_frozen BK302.out 0; have hfz38_1 := blk_frozen BK302.out 1; have hnb39 := NB303_304.out; have hnc39 := NB304_303.out; have hcz40_0 : w10.cell? ⟨gb303, 0, none⟩ = some (.bool true) := (blk_cell BK303.out 0).trans rfl; have hcz40_1 : w10.cell? ⟨gb303, 1, none⟩ = some (.int .i64 a3_1) := (blk_cell BK303.out 1).trans rfl; have hfz40_0 := blk_frozen BK303.out 0; have hfz40_1 := blk_frozen BK303.out 1))
                      go_meet
                      case rel => exact ⟨_, (true), pmBx16_13_, H', ⟨pmBx16_15_⟩, ⟨pmBx16_1_⟩, ⟨pmBx16_2_⟩, ⟨pmBx16_3_⟩, ⟨pmBx16_0_⟩⟩
                    · rw [if_neg c35] at H
                      have c35b0 : decide (68719476736 < a3_1) = false := decide_eq_false c35
                      clear c35
                      replace H := Option.bind_eq_some_iff.mp H
                      obtain ⟨t306, A410, H⟩ := H
                      replace H : (if t306 = true then ((parterreref29_Size.f a4_1).bind fun t307 => (parterrelaw29_SelfFits.j0 k a0 a1 a5 (!t307) true a2_1 true a3_1 a4_0 a4_1)) else (parterrelaw29_SelfFits.j0 k a0 a1 a5 true true a2_1 true a3_1 a4_0 a4_1)) = some r := H
                      have A41 := Aside0.mk A410
                      clear A410
                      by_cases c42 : t306 = true
                      · subst c42
                        have H1 : ((parterreref29_Size.f a4_1).bind fun t307 => (parterrelaw29_SelfFits.j0 k a0 a1 a5 (!t307) true a2_1 true a3_1 a4_0 a4_1)) = some r := by rw [if_pos rfl] at H; exact H
                        clear H
                        have H := H1
                        clear H1
                        replace H := Option.bind_eq_some_iff.mp H
                        obtain ⟨t307, A430, H⟩ := H
                        replace H : (parterrelaw29_SelfFits.j0 k a0 a1 a5 (!t307) true a2_1 true a3_1 a4_0 a4_1) = some r := H
                        have A43 := Aside0.mk A430
                        clear A430
                        have H' := Aside0.mk H
                        clear H
                        go_wp2_with (first | ((with_reducible refine gate_callee (f := 21) rfl ?_); refine goesL_ (some 20) rfl rfl Try.func21 pmBx16_14_ rfl #[.int .i64 a0] rfl pmBx16_4_ ?_; (with_reducible refine (parterreref29_Size.calls a0 true _ A11.out).mono ?_); rintro e w' ⟨rfl, ⟨nd, rfl⟩⟩; refine ⟨_, rfl, ?_⟩; have hnb44 := NB302_303.out; have hnc44 := NB303_302.out; have hnb45 := NB302_304.out; have hnc45 := NB304_302.out; have hcz46_0 : w10.cell? ⟨gb302, 0, none⟩ = some (.bool true) := (blk_cell BK302.out 0).trans rfl; have hcz46_1 : w10.cell? ⟨gb302, 1, none⟩ = some (.int .i64 a2_1) := (blk_cell BK302.out 1).trans rfl; have hfz46_0 := blk_frozen BK302.out 0; have hfz46_1 := blk_frozen BK302.out 1; have hnb47 := NB303_304.out; have hnc47 := NB304_303.out; have hcz48_0 : w10.cell? ⟨gb303, 0, none⟩ = some (.bool true) := (blk_cell BK303.out 0).trans rfl; have hcz48_1 : w10.cell? ⟨gb303, 1, none⟩ = some (.int .i64 a3_1) := (blk_cell BK303.out 1).trans rfl; have hfz48_0 := blk_frozen BK303.out 0; have hfz48_1 := blk_frozen BK303.out 1; have hcz49_0 : w10.cell? ⟨gb304, 0, none⟩ = some (.int .i64 a4_0) := (blk_cell BK304.out 0).trans rfl; have hcz49_1 : w10.cell? ⟨gb304, 1, none⟩ = some (.int .i64 a4_1) := (blk_cell BK304.out 1).trans rfl; have hfz49_0 := blk_frozen BK304.out 0; have hfz49_1 := blk_frozen BK304.out 1) | (go_at_call 21; (with_reducible refine (parterreref29_Size.calls a4_0 true _ A41.out).mono ?_); rintro e w' ⟨rfl, ⟨nd, rfl⟩⟩) | (go_at_call 21; (with_reducible refine (parterreref29_Size.calls a4_1 t307 _ A43.out).mono ?_); rintro e w' ⟨rfl, ⟨nd, rfl⟩⟩))
                        go_meet
                        case rel => exact ⟨_, (!t307), pmBx16_13_, H', ⟨pmBx16_15_⟩, ⟨pmBx16_1_⟩, ⟨pmBx16_2_⟩, ⟨pmBx16_3_⟩, ⟨pmBx16_0_⟩⟩
                      · replace c42 := Bool.eq_false_iff.mpr c42
                        subst c42
                        have H1 : (parterrelaw29_SelfFits.j0 k a0 a1 a5 true true a2_1 true a3_1 a4_0 a4_1) = some r := by rw [if_neg (show ¬ (false = true) by decide)] at H; exact H
                        clear H
                        have H := H1
                        clear H1
                        have H' := Aside0.mk H
                        clear H
                        go_wp2_with (first | ((with_reducible refine gate_callee (f := 21) rfl ?_); refine goesL_ (some 20) rfl rfl Try.func21 pmBx16_14_ rfl #[.int .i64 a0] rfl pmBx16_4_ ?_; (with_reducible refine (parterreref29_Size.calls a0 true _ A11.out).mono ?_); rintro e w' ⟨rfl, ⟨nd, rfl⟩⟩; refine ⟨_, rfl, ?_⟩; have hnb50 := NB302_303.out; have hnc50 := NB303_302.out; have hnb51 := NB302_304.out; have hnc51 := NB304_302.out; have hcz52_0 : w10.cell? ⟨gb302, 0, none⟩ = some (.bool true) := (blk_cell BK302.out 0).trans rfl; have hcz52_1 : w10.cell? ⟨gb302, 1, none⟩ = some (.int .i64 a2_1) := (blk_cell BK302.out 1).trans rfl; have hfz52_0 := blk_frozen BK302.out 0; have hfz52_1 := blk_frozen BK302.out 1; have hnb53 := NB303_304.out; have hnc53 := NB304_303.out; have hcz54_0 : w10.cell? ⟨gb303, 0, none⟩ = some (.bool true) := (blk_cell BK303.out 0).trans rfl; have hcz54_1 : w10.cell? ⟨gb303, 1, none⟩ = some (.int .i64 a3_1) := (blk_cell BK303.out 1).trans rfl; have hfz54_0 := blk_frozen BK303.out 0; have hfz54_1 := blk_frozen BK303.out 1; have hcz55_0 : w10.cell? ⟨gb304, 0, none⟩ = some (.int .i64 a4_0) := (blk_cell BK304.out 0).trans rfl; have hcz55_1 : w10.cell? ⟨gb304, 1, none⟩ = some (.int .i64 a4_1) := (blk_cell BK304.out 1).trans rfl; have hfz55_0 := blk_frozen BK304.out 0; have hfz55_1 := blk_frozen BK304.out 1) | (go_at_call 21; (with_reducible refine (parterreref29_Size.calls a4_0 false _ A41.out).mono ?_); rintro e w' ⟨rfl, ⟨nd, rfl⟩⟩))
                        go_meet
                        case rel => exact ⟨_, (true), pmBx16_13_, H', ⟨pmBx16_15_⟩, ⟨pmBx16_1_⟩, ⟨pmBx16_2_⟩, ⟨pmBx16_3_⟩, ⟨pmBx16_0_⟩⟩
            · rw [if_neg c16] at H
              have c16b0 : (a3_1 == 0) = false := beq_eq_false_iff_ne.mpr c16
              have c16b1 : (a3_1 != 0) = true := bne_iff_ne.mpr c16
              have H' := Aside0.mk H
              clear H
              go_wp2_with (first | ((with_reducible refine gate_callee (f := 21) rfl ?_); refine goesL_ (some 20) rfl rfl Try.func21 pmBx16_14_ rfl #[.int .i64 a0] rfl pmBx16_4_ ?_; (with_reducible refine (parterreref29_Size.calls a0 true _ A11.out).mono ?_); rintro e w' ⟨rfl, ⟨nd, rfl⟩⟩; refine ⟨_, rfl, ?_⟩; have hnb56 := NB302_303.out; have hnc56 := NB303_302.out; have hnb57 := NB302_304.out; have hnc57 := NB304_302.out; have hcz58_0 : w10.cell? ⟨gb302, 0, none⟩ = some (.bool true) := (blk_cell BK302.out 0).trans rfl; have hcz58_1 : w10.cell? ⟨gb302, 1, none⟩ = some (.int .i64 a2_1) := (blk_cell BK302.out 1).trans rfl; have hfz58_0 := blk_frozen BK302.out 0; have hfz58_1 := blk_frozen BK302.out 1; have hnb59 := NB303_304.out; have hnc59 := NB304_303.out; have hcz60_0 : w10.cell? ⟨gb303, 0, none⟩ = some (.bool true) := (blk_cell BK303.out 0).trans rfl; have hcz60_1 : w10.cell? ⟨gb303, 1, none⟩ = some (.int .i64 a3_1) := (blk_cell BK303.out 1).trans rfl; have hfz60_0 := blk_frozen BK303.out 0; have hfz60_1 := blk_frozen BK303.out 1))
              go_meet
              case rel => exact ⟨_, (true), pmBx16_13_, H', ⟨pmBx16_15_⟩, ⟨pmBx16_1_⟩, ⟨pmBx16_2_⟩, ⟨pmBx16_3_⟩, ⟨pmBx16_0_⟩⟩
          · replace c15 := Bool.eq_false_iff.mpr c15
            subst c15
            have H1 : (if a2_1 < (-68719476736) then (parterrelaw29_SelfFits.j0 k a0 a1 a5 true true a2_1 false a3_1 a4_0 a4_1) else (if a2_1 > 68719476736 then (parterrelaw29_SelfFits.j0 k a0 a1 a5 true true a2_1 false a3_1 a4_0 a4_1) else (if a3_1 < (-68719476736) then (parterrelaw29_SelfFits.j0 k a0 a1 a5 true true a2_1 false a3_1 a4_0 a4_1) else (if a3_1 > 68719476736 then (parterrelaw29_SelfFits.j0 k a0 a1 a5 true true a2_1 false a3_1 a4_0 a4_1) else ((parterreref29_Size.f a4_0).bind fun t308 => (if t308 = true then ((parterreref29_Size.f a4_1).bind fun t309 => (parterrelaw29_SelfFits.j0 k a0 a1 a5 (!t309) true a2_1 false a3_1 a4_0 a4_1)) else (parterrelaw29_SelfFits.j0 k a0 a1 a5 true true a2_1 false a3_1 a4_0 a4_1))))))) = some r := by rw [if_neg (show ¬ (false = true) by decide)] at H; exact H
            clear H
            have H := H1
            clear H1
            by_cases c61 : a2_1 < (-68719476736)
            · rw [if_pos c61] at H
              have c61b0 : decide (a2_1 < (-68719476736)) = true := decide_eq_true c61
              clear c61
              have H' := Aside0.mk H
              clear H
              go_wp2_with (first | ((with_reducible refine gate_callee (f := 21) rfl ?_); refine goesL_ (some 20) rfl rfl Try.func21 pmBx16_14_ rfl #[.int .i64 a0] rfl pmBx16_4_ ?_; (with_reducible refine (parterreref29_Size.calls a0 true _ A11.out).mono ?_); rintro e w' ⟨rfl, ⟨nd, rfl⟩⟩; refine ⟨_, rfl, ?_⟩; have hnb62 := NB302_303.out; have hnc62 := NB303_302.out; have hnb63 := NB302_304.out; have hnc63 := NB304_302.out; have hcz64_0 : w10.cell? ⟨gb302, 0, none⟩ = some (.bool true) := (blk_cell BK302.out 0).trans rfl; have hcz64_1 : w10.cell? ⟨gb302, 1, none⟩ = some (.int .i64 a2_1) := (blk_cell BK302.out 1).trans rfl; have hfz64_0 := blk_frozen BK302.out 0; have hfz64_1 := blk_frozen BK302.out 1; have hnb65 := NB303_304.out; have hnc65 := NB304_303.out; have hcz66_0 : w10.cell? ⟨gb303, 0, none⟩ = some (.bool false) := (blk_cell BK303.out 0).trans rfl; have hcz66_1 : w10.cell? ⟨gb303, 1, none⟩ = some (.int .i64 a3_1) := (blk_cell BK303.out 1).trans rfl; have hfz66_0 := blk_frozen BK303.out 0; have hfz66_1 := blk_frozen BK303.out 1))
              go_meet
              case rel => exact ⟨_, (true), pmBx16_13_, H', ⟨pmBx16_15_⟩, ⟨pmBx16_1_⟩, ⟨pmBx16_2_⟩, ⟨pmBx16_3_⟩, ⟨pmBx16_0_⟩⟩
            · rw [if_neg c61] at H
              have c61b0 : decide (a2_1 < (-68719476736)) = false := decide_eq_false c61
              clear c61
              by_cases c67 : a2_1 > 68719476736
              · rw [if_pos c67] at H
                have c67b0 : decide (68719476736 < a2_1) = true := decide_eq_true c67
                clear c67
                have H' := Aside0.mk H
                clear H
                go_wp2_with (first | ((with_reducible refine gate_callee (f := 21) rfl ?_); refine goesL_ (some 20) rfl rfl Try.func21 pmBx16_14_ rfl #[.int .i64 a0] rfl pmBx16_4_ ?_; (with_reducible refine (parterreref29_Size.calls a0 true _ A11.out).mono ?_); rintro e w' ⟨rfl, ⟨nd, rfl⟩⟩; refine ⟨_, rfl, ?_⟩; have hnb68 := NB302_303.out; have hnc68 := NB303_302.out; have hnb69 := NB302_304.out; have hnc69 := NB304_302.out; have hcz70_0 : w10.cell? ⟨gb302, 0, none⟩ = some (.bool true) := (blk_cell BK302.out 0).trans rfl; have hcz70_1 : w10.cell? ⟨gb302, 1, none⟩ = some (.int .i64 a2_1) := (blk_cell BK302.out 1).trans rfl; have hfz70_0 := blk_frozen BK302.out 0; have hfz70_1 := blk_frozen BK302.out 1; have hnb71 := NB303_304.out; have hnc71 := NB304_303.out; have hcz72_0 : w10.cell? ⟨gb303, 0, none⟩ = some (.bool false) := (blk_cell BK303.out 0).trans rfl; have hcz72_1 : w10.cell? ⟨gb303, 1, none⟩ = some (.int .i64 a3_1) := (blk_cell BK303.out 1).trans rfl; have hfz72_0 := blk_frozen BK303.out 0; have hfz72_1 := blk_frozen BK303.out 1))
                go_meet
                case rel => exact ⟨_, (true), pmBx16_13_, H', ⟨pmBx16_15_⟩, ⟨pmBx16_1_⟩, ⟨pmBx16_2_⟩, ⟨pmBx16_3_⟩, ⟨pmBx16_0_⟩⟩
              · rw [if_neg c67] at H
                have c67b0 : decide (68719476736 < a2_1) = false := decide_eq_false c67
                clear c67
                by_cases c73 : a3_1 < (-68719476736)
                · rw [if_pos c73] at H
                  have c73b0 : decide (a3_1 < (-68719476736)) = true := decide_eq_true c73
                  clear c73
                  have H' := Aside0.mk H
                  clear H
                  go_wp2_with (first | ((with_reducible refine gate_callee (f := 21) rfl ?_); refine goesL_ (some 20) rfl rfl Try.func21 pmBx16_14_ rfl #[.int .i64 a0] rfl pmBx16_4_ ?_; (with_reducible refine (parterreref29_Size.calls a0 true _ A11.out).mono ?_); rintro e w' ⟨rfl, ⟨nd, rfl⟩⟩; refine ⟨_, rfl, ?_⟩; have hnb74 := NB302_303.out; have hnc74 := NB303_302.out; have hnb75 := NB302_304.out; have hnc75 := NB304_302.out; have hcz76_0 : w10.cell? ⟨gb302, 0, none⟩ = some (.bool true) := (blk_cell BK302.out 0).trans rfl; have hcz76_1 : w10.cell? ⟨gb302, 1, none⟩ = some (.int .i64 a2_1) := (blk_cell BK302.out 1).trans rfl; have hfz76_0 := blk_frozen BK302.out 0; have hfz76_1 := blk_frozen BK302.out 1; have hnb77 := NB303_304.out; have hnc77 := NB304_303.out; have hcz78_0 : w10.cell? ⟨gb303, 0, none⟩ = some (.bool false) := (blk_cell BK303.out 0).trans rfl; have hcz78_1 : w10.cell? ⟨gb303, 1, none⟩ = some (.int .i64 a3_1) := (blk_cell BK303.out 1).trans rfl; have hfz78_0 := blk_frozen BK303.out 0; have hfz78_1 := blk_frozen BK303.out 1))
                  go_meet
                  case rel => exact ⟨_, (true), pmBx16_13_, H', ⟨pmBx16_15_⟩, ⟨pmBx16_1_⟩, ⟨pmBx16_2_⟩, ⟨pmBx16_3_⟩, ⟨pmBx16_0_⟩⟩
                · rw [if_neg c73] at H
                  have c73b0 : decide (a3_1 < (-68719476736)) = false := decide_eq_false c73
                  clear c73
                  by_cases c79 : a3_1 > 68719476736
                  · rw [if_pos c79] at H
                    have c79b0 : decide (68719476736 < a3_1) = true := decide_eq_true c79
                    clear c79
                    have H' := Aside0.mk H
                    clear H
                    go_wp2_with (first | ((with_reducible refine gate_callee (f := 21) rfl ?_); refine goesL_ (some 20) rfl rfl Try.func21 pmBx16_14_ rfl #[.int .i64 a0] rfl pmBx16_4_ ?_; (with_reducible refine (parterreref29_Size.calls a0 true _ A11.out).mono ?_); rintro e w' ⟨rfl, ⟨nd, rfl⟩⟩; refine ⟨_, rfl, ?_⟩; have hnb80 := NB302_303.out; have hnc80 := NB303_302.out; have hnb81 := NB302_304.out; have hnc81 := NB304_302.out; have hcz82_0 : w10.cell? ⟨gb302, 0, none⟩ = some (.bool true) := (blk_cell BK302.out 0).trans rfl; have hcz82_1 : w10.cell? ⟨gb302, 1, none⟩ = some (.int .i64 a2_1) := (blk_cell BK302.out 1).trans rfl; have hfz82_0 := blk_frozen BK302.out 0; have hfz82_1 := blk_frozen BK302.out 1; have hnb83 := NB303_304.out; have hnc83 := NB304_303.out; have hcz84_0 : w10.cell? ⟨gb303, 0, none⟩ = some (.bool false) := (blk_cell BK303.out 0).trans rfl; have hcz84_1 : w10.cell? ⟨gb303, 1, none⟩ = some (.int .i64 a3_1) := (blk_cell BK303.out 1).trans rfl; have hfz84_0 := blk_frozen BK303.out 0; have hfz84_1 := blk_frozen BK303.out 1))
                    go_meet
                    case rel => exact ⟨_, (true), pmBx16_13_, H', ⟨pmBx16_15_⟩, ⟨pmBx16_1_⟩, ⟨pmBx16_2_⟩, ⟨pmBx16_3_⟩, ⟨pmBx16_0_⟩⟩
                  · rw [if_neg c79] at H
                    have c79b0 : decide (68719476736 < a3_1) = false := decide_eq_false c79
                    clear c79
                    replace H := Option.bind_eq_some_iff.mp H
                    obtain ⟨t308, A850, H⟩ := H
                    replace H : (if t308 = true then ((parterreref29_Size.f a4_1).bind fun t309 => (parterrelaw29_SelfFits.j0 k a0 a1 a5 (!t309) true a2_1 false a3_1 a4_0 a4_1)) else (parterrelaw29_SelfFits.j0 k a0 a1 a5 true true a2_1 false a3_1 a4_0 a4_1)) = some r := H
                    have A85 := Aside0.mk A850
                    clear A850
                    by_cases c86 : t308 = true
                    · subst c86
                      have H1 : ((parterreref29_Size.f a4_1).bind fun t309 => (parterrelaw29_SelfFits.j0 k a0 a1 a5 (!t309) true a2_1 false a3_1 a4_0 a4_1)) = some r := by rw [if_pos rfl] at H; exact H
                      clear H
                      have H := H1
                      clear H1
                      replace H := Option.bind_eq_some_iff.mp H
                      obtain ⟨t309, A870, H⟩ := H
                      replace H : (parterrelaw29_SelfFits.j0 k a0 a1 a5 (!t309) true a2_1 false a3_1 a4_0 a4_1) = some r := H
                      have A87 := Aside0.mk A870
                      clear A870
                      have H' := Aside0.mk H
                      clear H
                      go_wp2_with (first | ((with_reducible refine gate_callee (f := 21) rfl ?_); refine goesL_ (some 20) rfl rfl Try.func21 pmBx16_14_ rfl #[.int .i64 a0] rfl pmBx16_4_ ?_; (with_reducible refine (parterreref29_Size.calls a0 true _ A11.out).mono ?_); rintro e w' ⟨rfl, ⟨nd, rfl⟩⟩; refine ⟨_, rfl, ?_⟩; have hnb88 := NB302_303.out; have hnc88 := NB303_302.out; have hnb89 := NB302_304.out; have hnc89 := NB304_302.out; have hcz90_0 : w10.cell? ⟨gb302, 0, none⟩ = some (.bool true) := (blk_cell BK302.out 0).trans rfl; have hcz90_1 : w10.cell? ⟨gb302, 1, none⟩ = some (.int .i64 a2_1) := (blk_cell BK302.out 1).trans rfl; have hfz90_0 := blk_frozen BK302.out 0; have hfz90_1 := blk_frozen BK302.out 1; have hnb91 := NB303_304.out; have hnc91 := NB304_303.out; have hcz92_0 : w10.cell? ⟨gb303, 0, none⟩ = some (.bool false) := (blk_cell BK303.out 0).trans rfl; have hcz92_1 : w10.cell? ⟨gb303, 1, none⟩ = some (.int .i64 a3_1) := (blk_cell BK303.out 1).trans rfl; have hfz92_0 := blk_frozen BK303.out 0; have hfz92_1 := blk_frozen BK303.out 1; have hcz93_0 : w10.cell? ⟨gb304, 0, none⟩ = some (.int .i64 a4_0) := (blk_cell BK304.out 0).trans rfl; have hcz93_1 : w10.cell? ⟨gb304, 1, none⟩ = some (.int .i64 a4_1) := (blk_cell BK304.out 1).trans rfl; have hfz93_0 := blk_frozen BK304.out 0; have hfz93_1 := blk_frozen BK304.out 1) | (go_at_call 21; (with_reducible refine (parterreref29_Size.calls a4_0 true _ A85.out).mono ?_); rintro e w' ⟨rfl, ⟨nd, rfl⟩⟩) | (go_at_call 21; (with_reducible refine (parterreref29_Size.calls a4_1 t309 _ A87.out).mono ?_); rintro e w' ⟨rfl, ⟨nd, rfl⟩⟩))
                      go_meet
                      case rel => exact ⟨_, (!t309), pmBx16_13_, H', ⟨pmBx16_15_⟩, ⟨pmBx16_1_⟩, ⟨pmBx16_2_⟩, ⟨pmBx16_3_⟩, ⟨pmBx16_0_⟩⟩
                    · replace c86 := Bool.eq_false_iff.mpr c86
                      subst c86
                      have H1 : (parterrelaw29_SelfFits.j0 k a0 a1 a5 true true a2_1 false a3_1 a4_0 a4_1) = some r := by rw [if_neg (show ¬ (false = true) by decide)] at H; exact H
                      clear H
                      have H := H1
                      clear H1
                      have H' := Aside0.mk H
                      clear H
                      go_wp2_with (first | ((with_reducible refine gate_callee (f := 21) rfl ?_); refine goesL_ (some 20) rfl rfl Try.func21 pmBx16_14_ rfl #[.int .i64 a0] rfl pmBx16_4_ ?_; (with_reducible refine (parterreref29_Size.calls a0 true _ A11.out).mono ?_); rintro e w' ⟨rfl, ⟨nd, rfl⟩⟩; refine ⟨_, rfl, ?_⟩; have hnb94 := NB302_303.out; have hnc94 := NB303_302.out; have hnb95 := NB302_304.out; have hnc95 := NB304_302.out; have hcz96_0 : w10.cell? ⟨gb302, 0, none⟩ = some (.bool true) := (blk_cell BK302.out 0).trans rfl; have hcz96_1 : w10.cell? ⟨gb302, 1, none⟩ = some (.int .i64 a2_1) := (blk_cell BK302.out 1).trans rfl; have hfz96_0 := blk_frozen BK302.out 0; have hfz96_1 := blk_frozen BK302.out 1; have hnb97 := NB303_304.out; have hnc97 := NB304_303.out; have hcz98_0 : w10.cell? ⟨gb303, 0, none⟩ = some (.bool false) := (blk_cell BK303.out 0).trans rfl; have hcz98_1 : w10.cell? ⟨gb303, 1, none⟩ = some (.int .i64 a3_1) := (blk_cell BK303.out 1).trans rfl; have hfz98_0 := blk_frozen BK303.out 0; have hfz98_1 := blk_frozen BK303.out 1; have hcz99_0 : w10.cell? ⟨gb304, 0, none⟩ = some (.int .i64 a4_0) := (blk_cell BK304.out 0).trans rfl; have hcz99_1 : w10.cell? ⟨gb304, 1, none⟩ = some (.int .i64 a4_1) := (blk_cell BK304.out 1).trans rfl; have hfz99_0 := blk_frozen BK304.out 0; have hfz99_1 := blk_frozen BK304.out 1) | (go_at_call 21; (with_reducible refine (parterreref29_Size.calls a4_0 false _ A85.out).mono ?_); rintro e w' ⟨rfl, ⟨nd, rfl⟩⟩))
                      go_meet
                      case rel => exact ⟨_, (true), pmBx16_13_, H', ⟨pmBx16_15_⟩, ⟨pmBx16_1_⟩, ⟨pmBx16_2_⟩, ⟨pmBx16_3_⟩, ⟨pmBx16_0_⟩⟩
        · rw [if_neg c14] at H
          have c14b0 : (a2_1 == 0) = false := beq_eq_false_iff_ne.mpr c14
          have c14b1 : (a2_1 != 0) = true := bne_iff_ne.mpr c14
          (first | rw [c14b0] | (simp only [i64_w, i32_w]; rw [c14b0]) | skip)
          have H' := Aside0.mk H
          clear H
          go_wp2_with (first | ((with_reducible refine gate_callee (f := 21) rfl ?_); refine goesL_ (some 20) rfl rfl Try.func21 pmBx16_14_ rfl #[.int .i64 a0] rfl pmBx16_4_ ?_; (with_reducible refine (parterreref29_Size.calls a0 true _ A11.out).mono ?_); rintro e w' ⟨rfl, ⟨nd, rfl⟩⟩; refine ⟨_, rfl, ?_⟩; have hnb100 := NB302_303.out; have hnc100 := NB303_302.out; have hnb101 := NB302_304.out; have hnc101 := NB304_302.out; have hcz102_0 : w10.cell? ⟨gb302, 0, none⟩ = some (.bool true) := (blk_cell BK302.out 0).trans rfl; have hcz102_1 : w10.cell? ⟨gb302, 1, none⟩ = some (.int .i64 a2_1) := (blk_cell BK302.out 1).trans rfl; have hfz102_0 := blk_frozen BK302.out 0; have hfz102_1 := blk_frozen BK302.out 1))
          go_meet
          case rel => exact ⟨_, (true), pmBx16_13_, H', ⟨pmBx16_15_⟩, ⟨pmBx16_1_⟩, ⟨pmBx16_2_⟩, ⟨pmBx16_3_⟩, ⟨pmBx16_0_⟩⟩
      · replace c13 := Bool.eq_false_iff.mpr c13
        subst c13
        have H1 : (if a3_0 = true then (if a3_1 = 0 then (if a2_1 < (-68719476736) then (parterrelaw29_SelfFits.j0 k a0 a1 a5 true false a2_1 a3_0 a3_1 a4_0 a4_1) else (if a2_1 > 68719476736 then (parterrelaw29_SelfFits.j0 k a0 a1 a5 true false a2_1 a3_0 a3_1 a4_0 a4_1) else (if a3_1 < (-68719476736) then (parterrelaw29_SelfFits.j0 k a0 a1 a5 true false a2_1 a3_0 a3_1 a4_0 a4_1) else (if a3_1 > 68719476736 then (parterrelaw29_SelfFits.j0 k a0 a1 a5 true false a2_1 a3_0 a3_1 a4_0 a4_1) else ((parterreref29_Size.f a4_0).bind fun t310 => (if t310 = true then ((parterreref29_Size.f a4_1).bind fun t311 => (parterrelaw29_SelfFits.j0 k a0 a1 a5 (!t311) false a2_1 a3_0 a3_1 a4_0 a4_1)) else (parterrelaw29_SelfFits.j0 k a0 a1 a5 true false a2_1 a3_0 a3_1 a4_0 a4_1))))))) else (parterrelaw29_SelfFits.j0 k a0 a1 a5 true false a2_1 a3_0 a3_1 a4_0 a4_1)) else (if a2_1 < (-68719476736) then (parterrelaw29_SelfFits.j0 k a0 a1 a5 true false a2_1 a3_0 a3_1 a4_0 a4_1) else (if a2_1 > 68719476736 then (parterrelaw29_SelfFits.j0 k a0 a1 a5 true false a2_1 a3_0 a3_1 a4_0 a4_1) else (if a3_1 < (-68719476736) then (parterrelaw29_SelfFits.j0 k a0 a1 a5 true false a2_1 a3_0 a3_1 a4_0 a4_1) else (if a3_1 > 68719476736 then (parterrelaw29_SelfFits.j0 k a0 a1 a5 true false a2_1 a3_0 a3_1 a4_0 a4_1) else ((parterreref29_Size.f a4_0).bind fun t312 => (if t312 = true then ((parterreref29_Size.f a4_1).bind fun t313 => (parterrelaw29_SelfFits.j0 k a0 a1 a5 (!t313) false a2_1 a3_0 a3_1 a4_0 a4_1)) else (parterrelaw29_SelfFits.j0 k a0 a1 a5 true false a2_1 a3_0 a3_1 a4_0 a4_1)))))))) = some r := by rw [if_neg (show ¬ (false = true) by decide)] at H; exact H
        clear H
        have H := H1
        clear H1
        by_cases c103 : a3_0 = true
        · subst c103
          have H1 : (if a3_1 = 0 then (if a2_1 < (-68719476736) then (parterrelaw29_SelfFits.j0 k a0 a1 a5 true false a2_1 true a3_1 a4_0 a4_1) else (if a2_1 > 68719476736 then (parterrelaw29_SelfFits.j0 k a0 a1 a5 true false a2_1 true a3_1 a4_0 a4_1) else (if a3_1 < (-68719476736) then (parterrelaw29_SelfFits.j0 k a0 a1 a5 true false a2_1 true a3_1 a4_0 a4_1) else (if a3_1 > 68719476736 then (parterrelaw29_SelfFits.j0 k a0 a1 a5 true false a2_1 true a3_1 a4_0 a4_1) else ((parterreref29_Size.f a4_0).bind fun t310 => (if t310 = true then ((parterreref29_Size.f a4_1).bind fun t311 => (parterrelaw29_SelfFits.j0 k a0 a1 a5 (!t311) false a2_1 true a3_1 a4_0 a4_1)) else (parterrelaw29_SelfFits.j0 k a0 a1 a5 true false a2_1 true a3_1 a4_0 a4_1))))))) else (parterrelaw29_SelfFits.j0 k a0 a1 a5 true false a2_1 true a3_1 a4_0 a4_1)) = some r := by rw [if_pos rfl] at H; exact H
          clear H
          have H := H1
          clear H1
          by_cases c104 : a3_1 = 0
          · rw [if_pos c104] at H
            have c104b0 : (a3_1 == 0) = true := beq_iff_eq.mpr c104
            have c104b1 : (a3_1 != 0) = false := bne_eq_false_iff_eq.mpr c104
            clear c104
            by_cases c105 : a2_1 < (-68719476736)
            · rw [if_pos c105] at H
              have c105b0 : decide (a2_1 < (-68719476736)) = true := decide_eq_true c105
              clear c105
              have H' := Aside0.mk H
              clear H
              go_wp2_with (first | ((with_reducible refine gate_callee (f := 21) rfl ?_); refine goesL_ (some 20) rfl rfl Try.func21 pmBx16_14_ rfl #[.int .i64 a0] rfl pmBx16_4_ ?_; (with_reducible refine (parterreref29_Size.calls a0 true _ A11.out).mono ?_); rintro e w' ⟨rfl, ⟨nd, rfl⟩⟩; refine ⟨_, rfl, ?_⟩; have hnb106 := NB302_303.out; have hnc106 := NB303_302.out; have hnb107 := NB302_304.out; have hnc107 := NB304_302.out; have hcz108_0 : w10.cell? ⟨gb302, 0, none⟩ = some (.bool false) := (blk_cell BK302.out 0).trans rfl; have hcz108_1 : w10.cell? ⟨gb302, 1, none⟩ = some (.int .i64 a2_1) := (blk_cell BK302.out 1).trans rfl; have hfz108_0 := blk_frozen BK302.out 0; have hfz108_1 := blk_frozen BK302.out 1; have hnb109 := NB303_304.out; have hnc109 := NB304_303.out; have hcz110_0 : w10.cell? ⟨gb303, 0, none⟩ = some (.bool true) := (blk_cell BK303.out 0).trans rfl; have hcz110_1 : w10.cell? ⟨gb303, 1, none⟩ = some (.int .i64 a3_1) := (blk_cell BK303.out 1).trans rfl; have hfz110_0 := blk_frozen BK303.out 0; have hfz110_1 := blk_frozen BK303.out 1))
              go_meet
              case rel => exact ⟨_, (true), pmBx16_13_, H', ⟨pmBx16_15_⟩, ⟨pmBx16_1_⟩, ⟨pmBx16_2_⟩, ⟨pmBx16_3_⟩, ⟨pmBx16_0_⟩⟩
            · rw [if_neg c105] at H
              have c105b0 : decide (a2_1 < (-68719476736)) = false := decide_eq_false c105
              clear c105
              by_cases c111 : a2_1 > 68719476736
              · rw [if_pos c111] at H
                have c111b0 : decide (68719476736 < a2_1) = true := decide_eq_true c111
                clear c111
                have H' := Aside0.mk H
                clear H
                go_wp2_with (first | ((with_reducible refine gate_callee (f := 21) rfl ?_); refine goesL_ (some 20) rfl rfl Try.func21 pmBx16_14_ rfl #[.int .i64 a0] rfl pmBx16_4_ ?_; (with_reducible refine (parterreref29_Size.calls a0 true _ A11.out).mono ?_); rintro e w' ⟨rfl, ⟨nd, rfl⟩⟩; refine ⟨_, rfl, ?_⟩; have hnb112 := NB302_303.out; have hnc112 := NB303_302.out; have hnb113 := NB302_304.out; have hnc113 := NB304_302.out; have hcz114_0 : w10.cell? ⟨gb302, 0, none⟩ = some (.bool false) := (blk_cell BK302.out 0).trans rfl; have hcz114_1 : w10.cell? ⟨gb302, 1, none⟩ = some (.int .i64 a2_1) := (blk_cell BK302.out 1).trans rfl; have hfz114_0 := blk_frozen BK302.out 0; have hfz114_1 := blk_frozen BK302.out 1; have hnb115 := NB303_304.out; have hnc115 := NB304_303.out; have hcz116_0 : w10.cell? ⟨gb303, 0, none⟩ = some (.bool true) := (blk_cell BK303.out 0).trans rfl; have hcz116_1 : w10.cell? ⟨gb303, 1, none⟩ = some (.int .i64 a3_1) := (blk_cell BK303.out 1).trans rfl; have hfz116_0 := blk_frozen BK303.out 0; have hfz116_1 := blk_frozen BK303.out 1))
                go_meet
                case rel => exact ⟨_, (true), pmBx16_13_, H', ⟨pmBx16_15_⟩, ⟨pmBx16_1_⟩, ⟨pmBx16_2_⟩, ⟨pmBx16_3_⟩, ⟨pmBx16_0_⟩⟩
              · rw [if_neg c111] at H
                have c111b0 : decide (68719476736 < a2_1) = false := decide_eq_false c111
                clear c111
                by_cases c117 : a3_1 < (-68719476736)
                · rw [if_pos c117] at H
                  have c117b0 : decide (a3_1 < (-68719476736)) = true := decide_eq_true c117
                  clear c117
                  have H' := Aside0.mk H
                  clear H
                  go_wp2_with (first | ((with_reducible refine gate_callee (f := 21) rfl ?_); refine goesL_ (some 20) rfl rfl Try.func21 pmBx16_14_ rfl #[.int .i64 a0] rfl pmBx16_4_ ?_; (with_reducible refine (parterreref29_Size.calls a0 true _ A11.out).mono ?_); rintro e w' ⟨rfl, ⟨nd, rfl⟩⟩; refine ⟨_, rfl, ?_⟩; have hnb118 := NB302_303.out; have hnc118 := NB303_302.out; have hnb119 := NB302_304.out; have hnc119 := NB304_302.out; have hcz120_0 : w10.cell? ⟨gb302, 0, none⟩ = some (.bool false) := (blk_cell BK302.out 0).trans rfl; have hcz120_1 : w10.cell? ⟨gb302, 1, none⟩ = some (.int .i64 a2_1) := (blk_cell BK302.out 1).trans rfl; have hfz120_0 := blk_frozen BK302.out 0; have hfz120_1 := blk_frozen BK302.out 1; have hnb121 := NB303_304.out; have hnc121 := NB304_303.out; have hcz122_0 : w10.cell? ⟨gb303, 0, none⟩ = some (.bool true) := (blk_cell BK303.out 0).trans rfl; have hcz122_1 : w10.cell? ⟨gb303, 1, none⟩ = some (.int .i64 a3_1) := (blk_cell BK303.out 1).trans rfl; have hfz122_0 := blk_frozen BK303.out 0; have hfz122_1 := blk_frozen BK303.out 1))
                  go_meet
                  case rel => exact ⟨_, (true), pmBx16_13_, H', ⟨pmBx16_15_⟩, ⟨pmBx16_1_⟩, ⟨pmBx16_2_⟩, ⟨pmBx16_3_⟩, ⟨pmBx16_0_⟩⟩
                · rw [if_neg c117] at H
                  have c117b0 : decide (a3_1 < (-68719476736)) = false := decide_eq_false c117
                  clear c117
                  by_cases c123 : a3_1 > 68719476736
                  · rw [if_pos c123] at H
                    have c123b0 : decide (68719476736 < a3_1) = true := decide_eq_true c123
                    clear c123
                    have H' := Aside0.mk H
                    clear H
                    go_wp2_with (first | ((with_reducible refine gate_callee (f := 21) rfl ?_); refine goesL_ (some 20) rfl rfl Try.func21 pmBx16_14_ rfl #[.int .i64 a0] rfl pmBx16_4_ ?_; (with_reducible refine (parterreref29_Size.calls a0 true _ A11.out).mono ?_); rintro e w' ⟨rfl, ⟨nd, rfl⟩⟩; refine ⟨_, rfl, ?_⟩; have hnb124 := NB302_303.out; have hnc124 := NB303_302.out; have hnb125 := NB302_304.out; have hnc125 := NB304_302.out; have hcz126_0 : w10.cell? ⟨gb302, 0, none⟩ = some (.bool false) := (blk_cell BK302.out 0).trans rfl; have hcz126_1 : w10.cell? ⟨gb302, 1, none⟩ = some (.int .i64 a2_1) := (blk_cell BK302.out 1).trans rfl; have hfz126_0 := blk_frozen BK302.out 0; have hfz126_1 := blk_frozen BK302.out 1; have hnb127 := NB303_304.out; have hnc127 := NB304_303.out; have hcz128_0 : w10.cell? ⟨gb303, 0, none⟩ = some (.bool true) := (blk_cell BK303.out 0).trans rfl; have hcz128_1 : w10.cell? ⟨gb303, 1, none⟩ = some (.int .i64 a3_1) := (blk_cell BK303.out 1).trans rfl; have hfz128_0 := blk_frozen BK303.out 0; have hfz128_1 := blk_frozen BK303.out 1))
                    go_meet
                    case rel => exact ⟨_, (true), pmBx16_13_, H', ⟨pmBx16_15_⟩, ⟨pmBx16_1_⟩, ⟨pmBx16_2_⟩, ⟨pmBx16_3_⟩, ⟨pmBx16_0_⟩⟩
                  · rw [if_neg c123] at H
                    have c123b0 : decide (68719476736 < a3_1) = false := decide_eq_false c123
                    clear c123
                    replace H := Option.bind_eq_some_iff.mp H
                    obtain ⟨t310, A1290, H⟩ := H
                    replace H : (if t310 = true then ((parterreref29_Size.f a4_1).bind fun t311 => (parterrelaw29_SelfFits.j0 k a0 a1 a5 (!t311) false a2_1 true a3_1 a4_0 a4_1)) else (parterrelaw29_SelfFits.j0 k a0 a1 a5 true false a2_1 true a3_1 a4_0 a4_1)) = some r := H
                    have A129 := Aside0.mk A1290
                    clear A1290
                    by_cases c130 : t310 = true
                    · subst c130
                      have H1 : ((parterreref29_Size.f a4_1).bind fun t311 => (parterrelaw29_SelfFits.j0 k a0 a1 a5 (!t311) false a2_1 true a3_1 a4_0 a4_1)) = some r := by rw [if_pos rfl] at H; exact H
                      clear H
                      have H := H1
                      clear H1
                      replace H := Option.bind_eq_some_iff.mp H
                      obtain ⟨t311, A1310, H⟩ := H
                      replace H : (parterrelaw29_SelfFits.j0 k a0 a1 a5 (!t311) false a2_1 true a3_1 a4_0 a4_1) = some r := H
                      have A131 := Aside0.mk A1310
                      clear A1310
                      have H' := Aside0.mk H
                      clear H
                      go_wp2_with (first | ((with_reducible refine gate_callee (f := 21) rfl ?_); refine goesL_ (some 20) rfl rfl Try.func21 pmBx16_14_ rfl #[.int .i64 a0] rfl pmBx16_4_ ?_; (with_reducible refine (parterreref29_Size.calls a0 true _ A11.out).mono ?_); rintro e w' ⟨rfl, ⟨nd, rfl⟩⟩; refine ⟨_, rfl, ?_⟩; have hnb132 := NB302_303.out; have hnc132 := NB303_302.out; have hnb133 := NB302_304.out; have hnc133 := NB304_302.out; have hcz134_0 : w10.cell? ⟨gb302, 0, none⟩ = some (.bool false) := (blk_cell BK302.out 0).trans rfl; have hcz134_1 : w10.cell? ⟨gb302, 1, none⟩ = some (.int .i64 a2_1) := (blk_cell BK302.out 1).trans rfl; have hfz134_0 := blk_frozen BK302.out 0; have hfz134_1 := blk_frozen BK302.out 1; have hnb135 := NB303_304.out; have hnc135 := NB304_303.out; have hcz136_0 : w10.cell? ⟨gb303, 0, none⟩ = some (.bool true) := (blk_cell BK303.out 0).trans rfl; have hcz136_1 : w10.cell? ⟨gb303, 1, none⟩ = some (.int .i64 a3_1) := (blk_cell BK303.out 1).trans rfl; have hfz136_0 := blk_frozen BK303.out 0; have hfz136_1 := blk_frozen BK303.out 1; have hcz137_0 : w10.cell? ⟨gb304, 0, none⟩ = some (.int .i64 a4_0) := (blk_cell BK304.out 0).trans rfl; have hcz137_1 : w10.cell? ⟨gb304, 1, none⟩ = some (.int .i64 a4_1) := (blk_cell BK304.out 1).trans rfl; have hfz137_0 := blk_frozen BK304.out 0; have hfz137_1 := blk_frozen BK304.out 1) | (go_at_call 21; (with_reducible refine (parterreref29_Size.calls a4_0 true _ A129.out).mono ?_); rintro e w' ⟨rfl, ⟨nd, rfl⟩⟩) | (go_at_call 21; (with_reducible refine (parterreref29_Size.calls a4_1 t311 _ A131.out).mono ?_); rintro e w' ⟨rfl, ⟨nd, rfl⟩⟩))
                      go_meet
                      case rel => exact ⟨_, (!t311), pmBx16_13_, H', ⟨pmBx16_15_⟩, ⟨pmBx16_1_⟩, ⟨pmBx16_2_⟩, ⟨pmBx16_3_⟩, ⟨pmBx16_0_⟩⟩
                    · replace c130 := Bool.eq_false_iff.mpr c130
                      subst c130
                      have H1 : (parterrelaw29_SelfFits.j0 k a0 a1 a5 true false a2_1 true a3_1 a4_0 a4_1) = some r := by rw [if_neg (show ¬ (false = true) by decide)] at H; exact H
                      clear H
                      have H := H1
                      clear H1
                      have H' := Aside0.mk H
                      clear H
                      go_wp2_with (first | ((with_reducible refine gate_callee (f := 21) rfl ?_); refine goesL_ (some 20) rfl rfl Try.func21 pmBx16_14_ rfl #[.int .i64 a0] rfl pmBx16_4_ ?_; (with_reducible refine (parterreref29_Size.calls a0 true _ A11.out).mono ?_); rintro e w' ⟨rfl, ⟨nd, rfl⟩⟩; refine ⟨_, rfl, ?_⟩; have hnb138 := NB302_303.out; have hnc138 := NB303_302.out; have hnb139 := NB302_304.out; have hnc139 := NB304_302.out; have hcz140_0 : w10.cell? ⟨gb302, 0, none⟩ = some (.bool false) := (blk_cell BK302.out 0).trans rfl; have hcz140_1 : w10.cell? ⟨gb302, 1, none⟩ = some (.int .i64 a2_1) := (blk_cell BK302.out 1).trans rfl; have hfz140_0 := blk_frozen BK302.out 0; have hfz140_1 := blk_frozen BK302.out 1; have hnb141 := NB303_304.out; have hnc141 := NB304_303.out; have hcz142_0 : w10.cell? ⟨gb303, 0, none⟩ = some (.bool true) := (blk_cell BK303.out 0).trans rfl; have hcz142_1 : w10.cell? ⟨gb303, 1, none⟩ = some (.int .i64 a3_1) := (blk_cell BK303.out 1).trans rfl; have hfz142_0 := blk_frozen BK303.out 0; have hfz142_1 := blk_frozen BK303.out 1; have hcz143_0 : w10.cell? ⟨gb304, 0, none⟩ = some (.int .i64 a4_0) := (blk_cell BK304.out 0).trans rfl; have hcz143_1 : w10.cell? ⟨gb304, 1, none⟩ = some (.int .i64 a4_1) := (blk_cell BK304.out 1).trans rfl; have hfz143_0 := blk_frozen BK304.out 0; have hfz143_1 := blk_frozen BK304.out 1) | (go_at_call 21; (with_reducible refine (parterreref29_Size.calls a4_0 false _ A129.out).mono ?_); rintro e w' ⟨rfl, ⟨nd, rfl⟩⟩))
                      go_meet
                      case rel => exact ⟨_, (true), pmBx16_13_, H', ⟨pmBx16_15_⟩, ⟨pmBx16_1_⟩, ⟨pmBx16_2_⟩, ⟨pmBx16_3_⟩, ⟨pmBx16_0_⟩⟩
          · rw [if_neg c104] at H
            have c104b0 : (a3_1 == 0) = false := beq_eq_false_iff_ne.mpr c104
            have c104b1 : (a3_1 != 0) = true := bne_iff_ne.mpr c104
            have H' := Aside0.mk H
            clear H
            go_wp2_with (first | ((with_reducible refine gate_callee (f := 21) rfl ?_); refine goesL_ (some 20) rfl rfl Try.func21 pmBx16_14_ rfl #[.int .i64 a0] rfl pmBx16_4_ ?_; (with_reducible refine (parterreref29_Size.calls a0 true _ A11.out).mono ?_); rintro e w' ⟨rfl, ⟨nd, rfl⟩⟩; refine ⟨_, rfl, ?_⟩; have hnb144 := NB302_303.out; have hnc144 := NB303_302.out; have hnb145 := NB302_304.out; have hnc145 := NB304_302.out; have hcz146_0 : w10.cell? ⟨gb302, 0, none⟩ = some (.bool false) := (blk_cell BK302.out 0).trans rfl; have hcz146_1 : w10.cell? ⟨gb302, 1, none⟩ = some (.int .i64 a2_1) := (blk_cell BK302.out 1).trans rfl; have hfz146_0 := blk_frozen BK302.out 0; have hfz146_1 := blk_frozen BK302.out 1; have hnb147 := NB303_304.out; have hnc147 := NB304_303.out; have hcz148_0 : w10.cell? ⟨gb303, 0, none⟩ = some (.bool true) := (blk_cell BK303.out 0).trans rfl; have hcz148_1 : w10.cell? ⟨gb303, 1, none⟩ = some (.int .i64 a3_1) := (blk_cell BK303.out 1).trans rfl; have hfz148_0 := blk_frozen BK303.out 0; have hfz148_1 := blk_frozen BK303.out 1))
            go_meet
            case rel => exact ⟨_, (true), pmBx16_13_, H', ⟨pmBx16_15_⟩, ⟨pmBx16_1_⟩, ⟨pmBx16_2_⟩, ⟨pmBx16_3_⟩, ⟨pmBx16_0_⟩⟩
        · replace c103 := Bool.eq_false_iff.mpr c103
          subst c103
          have H1 : (if a2_1 < (-68719476736) then (parterrelaw29_SelfFits.j0 k a0 a1 a5 true false a2_1 false a3_1 a4_0 a4_1) else (if a2_1 > 68719476736 then (parterrelaw29_SelfFits.j0 k a0 a1 a5 true false a2_1 false a3_1 a4_0 a4_1) else (if a3_1 < (-68719476736) then (parterrelaw29_SelfFits.j0 k a0 a1 a5 true false a2_1 false a3_1 a4_0 a4_1) else (if a3_1 > 68719476736 then (parterrelaw29_SelfFits.j0 k a0 a1 a5 true false a2_1 false a3_1 a4_0 a4_1) else ((parterreref29_Size.f a4_0).bind fun t312 => (if t312 = true then ((parterreref29_Size.f a4_1).bind fun t313 => (parterrelaw29_SelfFits.j0 k a0 a1 a5 (!t313) false a2_1 false a3_1 a4_0 a4_1)) else (parterrelaw29_SelfFits.j0 k a0 a1 a5 true false a2_1 false a3_1 a4_0 a4_1))))))) = some r := by rw [if_neg (show ¬ (false = true) by decide)] at H; exact H
          clear H
          have H := H1
          clear H1
          by_cases c149 : a2_1 < (-68719476736)
          · rw [if_pos c149] at H
            have c149b0 : decide (a2_1 < (-68719476736)) = true := decide_eq_true c149
            clear c149
            have H' := Aside0.mk H
            clear H
            go_wp2_with (first | ((with_reducible refine gate_callee (f := 21) rfl ?_); refine goesL_ (some 20) rfl rfl Try.func21 pmBx16_14_ rfl #[.int .i64 a0] rfl pmBx16_4_ ?_; (with_reducible refine (parterreref29_Size.calls a0 true _ A11.out).mono ?_); rintro e w' ⟨rfl, ⟨nd, rfl⟩⟩; refine ⟨_, rfl, ?_⟩; have hnb150 := NB302_303.out; have hnc150 := NB303_302.out; have hnb151 := NB302_304.out; have hnc151 := NB304_302.out; have hcz152_0 : w10.cell? ⟨gb302, 0, none⟩ = some (.bool false) := (blk_cell BK302.out 0).trans rfl; have hcz152_1 : w10.cell? ⟨gb302, 1, none⟩ = some (.int .i64 a2_1) := (blk_cell BK302.out 1).trans rfl; have hfz152_0 := blk_frozen BK302.out 0; have hfz152_1 := blk_frozen BK302.out 1; have hnb153 := NB303_304.out; have hnc153 := NB304_303.out; have hcz154_0 : w10.cell? ⟨gb303, 0, none⟩ = some (.bool false) := (blk_cell BK303.out 0).trans rfl; have hcz154_1 : w10.cell? ⟨gb303, 1, none⟩ = some (.int .i64 a3_1) := (blk_cell BK303.out 1).trans rfl; have hfz154_0 := blk_frozen BK303.out 0; have hfz154_1 := blk_frozen BK303.out 1))
            go_meet
            case rel => exact ⟨_, (true), pmBx16_13_, H', ⟨pmBx16_15_⟩, ⟨pmBx16_1_⟩, ⟨pmBx16_2_⟩, ⟨pmBx16_3_⟩, ⟨pmBx16_0_⟩⟩
          · rw [if_neg c149] at H
            have c149b0 : decide (a2_1 < (-68719476736)) = false := decide_eq_false c149
            clear c149
            by_cases c155 : a2_1 > 68719476736
            · rw [if_pos c155] at H
              have c155b0 : decide (68719476736 < a2_1) = true := decide_eq_true c155
              clear c155
              have H' := Aside0.mk H
              clear H
              go_wp2_with (first | ((with_reducible refine gate_callee (f := 21) rfl ?_); refine goesL_ (some 20) rfl rfl Try.func21 pmBx16_14_ rfl #[.int .i64 a0] rfl pmBx16_4_ ?_; (with_reducible refine (parterreref29_Size.calls a0 true _ A11.out).mono ?_); rintro e w' ⟨rfl, ⟨nd, rfl⟩⟩; refine ⟨_, rfl, ?_⟩; have hnb156 := NB302_303.out; have hnc156 := NB303_302.out; have hnb157 := NB302_304.out; have hnc157 := NB304_302.out; have hcz158_0 : w10.cell? ⟨gb302, 0, none⟩ = some (.bool false) := (blk_cell BK302.out 0).trans rfl; have hcz158_1 : w10.cell? ⟨gb302, 1, none⟩ = some (.int .i64 a2_1) := (blk_cell BK302.out 1).trans rfl; have hfz158_0 := blk_frozen BK302.out 0; have hfz158_1 := blk_frozen BK302.out 1; have hnb159 := NB303_304.out; have hnc159 := NB304_303.out; have hcz160_0 : w10.cell? ⟨gb303, 0, none⟩ = some (.bool false) := (blk_cell BK303.out 0).trans rfl; have hcz160_1 : w10.cell? ⟨gb303, 1, none⟩ = some (.int .i64 a3_1) := (blk_cell BK303.out 1).trans rfl; have hfz160_0 := blk_frozen BK303.out 0; have hfz160_1 := blk_frozen BK303.out 1))
              go_meet
              case rel => exact ⟨_, (true), pmBx16_13_, H', ⟨pmBx16_15_⟩, ⟨pmBx16_1_⟩, ⟨pmBx16_2_⟩, ⟨pmBx16_3_⟩, ⟨pmBx16_0_⟩⟩
            · rw [if_neg c155] at H
              have c155b0 : decide (68719476736 < a2_1) = false := decide_eq_false c155
              clear c155
              by_cases c161 : a3_1 < (-68719476736)
              · rw [if_pos c161] at H
                have c161b0 : decide (a3_1 < (-68719476736)) = true := decide_eq_true c161
                clear c161
                have H' := Aside0.mk H
                clear H
                go_wp2_with (first | ((with_reducible refine gate_callee (f := 21) rfl ?_); refine goesL_ (some 20) rfl rfl Try.func21 pmBx16_14_ rfl #[.int .i64 a0] rfl pmBx16_4_ ?_; (with_reducible refine (parterreref29_Size.calls a0 true _ A11.out).mono ?_); rintro e w' ⟨rfl, ⟨nd, rfl⟩⟩; refine ⟨_, rfl, ?_⟩; have hnb162 := NB302_303.out; have hnc162 := NB303_302.out; have hnb163 := NB302_304.out; have hnc163 := NB304_302.out; have hcz164_0 : w10.cell? ⟨gb302, 0, none⟩ = some (.bool false) := (blk_cell BK302.out 0).trans rfl; have hcz164_1 : w10.cell? ⟨gb302, 1, none⟩ = some (.int .i64 a2_1) := (blk_cell BK302.out 1).trans rfl; have hfz164_0 := blk_frozen BK302.out 0; have hfz164_1 := blk_frozen BK302.out 1; have hnb165 := NB303_304.out; have hnc165 := NB304_303.out; have hcz166_0 : w10.cell? ⟨gb303, 0, none⟩ = some (.bool false) := (blk_cell BK303.out 0).trans rfl; have hcz166_1 : w10.cell? ⟨gb303, 1, none⟩ = some (.int .i64 a3_1) := (blk_cell BK303.out 1).trans rfl; have hfz166_0 := blk_frozen BK303.out 0; have hfz166_1 := blk_frozen BK303.out 1))
                go_meet
                case rel => exact ⟨_, (true), pmBx16_13_, H', ⟨pmBx16_15_⟩, ⟨pmBx16_1_⟩, ⟨pmBx16_2_⟩, ⟨pmBx16_3_⟩, ⟨pmBx16_0_⟩⟩
              · rw [if_neg c161] at H
                have c161b0 : decide (a3_1 < (-68719476736)) = false := decide_eq_false c161
                clear c161
                by_cases c167 : a3_1 > 68719476736
                · rw [if_pos c167] at H
                  have c167b0 : decide (68719476736 < a3_1) = true := decide_eq_true c167
                  clear c167
                  have H' := Aside0.mk H
                  clear H
                  go_wp2_with (first | ((with_reducible refine gate_callee (f := 21) rfl ?_); refine goesL_ (some 20) rfl rfl Try.func21 pmBx16_14_ rfl #[.int .i64 a0] rfl pmBx16_4_ ?_; (with_reducible refine (parterreref29_Size.calls a0 true _ A11.out).mono ?_); rintro e w' ⟨rfl, ⟨nd, rfl⟩⟩; refine ⟨_, rfl, ?_⟩; have hnb168 := NB302_303.out; have hnc168 := NB303_302.out; have hnb169 := NB302_304.out; have hnc169 := NB304_302.out; have hcz170_0 : w10.cell? ⟨gb302, 0, none⟩ = some (.bool false) := (blk_cell BK302.out 0).trans rfl; have hcz170_1 : w10.cell? ⟨gb302, 1, none⟩ = some (.int .i64 a2_1) := (blk_cell BK302.out 1).trans rfl; have hfz170_0 := blk_frozen BK302.out 0; have hfz170_1 := blk_frozen BK302.out 1; have hnb171 := NB303_304.out; have hnc171 := NB304_303.out; have hcz172_0 : w10.cell? ⟨gb303, 0, none⟩ = some (.bool false) := (blk_cell BK303.out 0).trans rfl; have hcz172_1 : w10.cell? ⟨gb303, 1, none⟩ = some (.int .i64 a3_1) := (blk_cell BK303.out 1).trans rfl; have hfz172_0 := blk_frozen BK303.out 0; have hfz172_1 := blk_frozen BK303.out 1))
                  go_meet
                  case rel => exact ⟨_, (true), pmBx16_13_, H', ⟨pmBx16_15_⟩, ⟨pmBx16_1_⟩, ⟨pmBx16_2_⟩, ⟨pmBx16_3_⟩, ⟨pmBx16_0_⟩⟩
                · rw [if_neg c167] at H
                  have c167b0 : decide (68719476736 < a3_1) = false := decide_eq_false c167
                  clear c167
                  replace H := Option.bind_eq_some_iff.mp H
                  obtain ⟨t312, A1730, H⟩ := H
                  replace H : (if t312 = true then ((parterreref29_Size.f a4_1).bind fun t313 => (parterrelaw29_SelfFits.j0 k a0 a1 a5 (!t313) false a2_1 false a3_1 a4_0 a4_1)) else (parterrelaw29_SelfFits.j0 k a0 a1 a5 true false a2_1 false a3_1 a4_0 a4_1)) = some r := H
                  have A173 := Aside0.mk A1730
                  clear A1730
                  by_cases c174 : t312 = true
                  · subst c174
                    have H1 : ((parterreref29_Size.f a4_1).bind fun t313 => (parterrelaw29_SelfFits.j0 k a0 a1 a5 (!t313) false a2_1 false a3_1 a4_0 a4_1)) = some r := by rw [if_pos rfl] at H; exact H
                    clear H
                    have H := H1
                    clear H1
                    replace H := Option.bind_eq_some_iff.mp H
                    obtain ⟨t313, A1750, H⟩ := H
                    replace H : (parterrelaw29_SelfFits.j0 k a0 a1 a5 (!t313) false a2_1 false a3_1 a4_0 a4_1) = some r := H
                    have A175 := Aside0.mk A1750
                    clear A1750
                    have H' := Aside0.mk H
                    clear H
                    go_wp2_with (first | ((with_reducible refine gate_callee (f := 21) rfl ?_); refine goesL_ (some 20) rfl rfl Try.func21 pmBx16_14_ rfl #[.int .i64 a0] rfl pmBx16_4_ ?_; (with_reducible refine (parterreref29_Size.calls a0 true _ A11.out).mono ?_); rintro e w' ⟨rfl, ⟨nd, rfl⟩⟩; refine ⟨_, rfl, ?_⟩; have hnb176 := NB302_303.out; have hnc176 := NB303_302.out; have hnb177 := NB302_304.out; have hnc177 := NB304_302.out; have hcz178_0 : w10.cell? ⟨gb302, 0, none⟩ = some (.bool false) := (blk_cell BK302.out 0).trans rfl; have hcz178_1 : w10.cell? ⟨gb302, 1, none⟩ = some (.int .i64 a2_1) := (blk_cell BK302.out 1).trans rfl; have hfz178_0 := blk_frozen BK302.out 0; have hfz178_1 := blk_frozen BK302.out 1; have hnb179 := NB303_304.out; have hnc179 := NB304_303.out; have hcz180_0 : w10.cell? ⟨gb303, 0, none⟩ = some (.bool false) := (blk_cell BK303.out 0).trans rfl; have hcz180_1 : w10.cell? ⟨gb303, 1, none⟩ = some (.int .i64 a3_1) := (blk_cell BK303.out 1).trans rfl; have hfz180_0 := blk_frozen BK303.out 0; have hfz180_1 := blk_frozen BK303.out 1; have hcz181_0 : w10.cell? ⟨gb304, 0, none⟩ = some (.int .i64 a4_0) := (blk_cell BK304.out 0).trans rfl; have hcz181_1 : w10.cell? ⟨gb304, 1, none⟩ = some (.int .i64 a4_1) := (blk_cell BK304.out 1).trans rfl; have hfz181_0 := blk_frozen BK304.out 0; have hfz181_1 := blk_frozen BK304.out 1) | (go_at_call 21; (with_reducible refine (parterreref29_Size.calls a4_0 true _ A173.out).mono ?_); rintro e w' ⟨rfl, ⟨nd, rfl⟩⟩) | (go_at_call 21; (with_reducible refine (parterreref29_Size.calls a4_1 t313 _ A175.out).mono ?_); rintro e w' ⟨rfl, ⟨nd, rfl⟩⟩))
                    go_meet
                    case rel => exact ⟨_, (!t313), pmBx16_13_, H', ⟨pmBx16_15_⟩, ⟨pmBx16_1_⟩, ⟨pmBx16_2_⟩, ⟨pmBx16_3_⟩, ⟨pmBx16_0_⟩⟩
                  · replace c174 := Bool.eq_false_iff.mpr c174
                    subst c174
                    have H1 : (parterrelaw29_SelfFits.j0 k a0 a1 a5 true false a2_1 false a3_1 a4_0 a4_1) = some r := by rw [if_neg (show ¬ (false = true) by decide)] at H; exact H
                    clear H
                    have H := H1
                    clear H1
                    have H' := Aside0.mk H
                    clear H
                    go_wp2_with (first | ((with_reducible refine gate_callee (f := 21) rfl ?_); refine goesL_ (some 20) rfl rfl Try.func21 pmBx16_14_ rfl #[.int .i64 a0] rfl pmBx16_4_ ?_; (with_reducible refine (parterreref29_Size.calls a0 true _ A11.out).mono ?_); rintro e w' ⟨rfl, ⟨nd, rfl⟩⟩; refine ⟨_, rfl, ?_⟩; have hnb182 := NB302_303.out; have hnc182 := NB303_302.out; have hnb183 := NB302_304.out; have hnc183 := NB304_302.out; have hcz184_0 : w10.cell? ⟨gb302, 0, none⟩ = some (.bool false) := (blk_cell BK302.out 0).trans rfl; have hcz184_1 : w10.cell? ⟨gb302, 1, none⟩ = some (.int .i64 a2_1) := (blk_cell BK302.out 1).trans rfl; have hfz184_0 := blk_frozen BK302.out 0; have hfz184_1 := blk_frozen BK302.out 1; have hnb185 := NB303_304.out; have hnc185 := NB304_303.out; have hcz186_0 : w10.cell? ⟨gb303, 0, none⟩ = some (.bool false) := (blk_cell BK303.out 0).trans rfl; have hcz186_1 : w10.cell? ⟨gb303, 1, none⟩ = some (.int .i64 a3_1) := (blk_cell BK303.out 1).trans rfl; have hfz186_0 := blk_frozen BK303.out 0; have hfz186_1 := blk_frozen BK303.out 1; have hcz187_0 : w10.cell? ⟨gb304, 0, none⟩ = some (.int .i64 a4_0) := (blk_cell BK304.out 0).trans rfl; have hcz187_1 : w10.cell? ⟨gb304, 1, none⟩ = some (.int .i64 a4_1) := (blk_cell BK304.out 1).trans rfl; have hfz187_0 := blk_frozen BK304.out 0; have hfz187_1 := blk_frozen BK304.out 1) | (go_at_call 21; (with_reducible refine (parterreref29_Size.calls a4_0 false _ A173.out).mono ?_); rintro e w' ⟨rfl, ⟨nd, rfl⟩⟩))
                    go_meet
                    case rel => exact ⟨_, (true), pmBx16_13_, H', ⟨pmBx16_15_⟩, ⟨pmBx16_1_⟩, ⟨pmBx16_2_⟩, ⟨pmBx16_3_⟩, ⟨pmBx16_0_⟩⟩
    · replace c12 := Bool.eq_false_iff.mpr c12
      subst c12
      have H1 : (parterrelaw29_SelfFits.j0 k a0 a1 a5 true a2_0 a2_1 a3_0 a3_1 a4_0 a4_1) = some r := by rw [if_neg (show ¬ (false = true) by decide)] at H; exact H
      clear H
      have H := H1
      clear H1
      have H' := Aside0.mk H
      clear H
      go_wp2_with (first | ((with_reducible refine gate_callee (f := 21) rfl ?_); refine goesL_ (some 20) rfl rfl Try.func21 pmBx16_14_ rfl #[.int .i64 a0] rfl pmBx16_4_ ?_; (with_reducible refine (parterreref29_Size.calls a0 false _ A11.out).mono ?_); rintro e w' ⟨rfl, ⟨nd, rfl⟩⟩; refine ⟨_, rfl, ?_⟩))
      go_meet
      case rel => exact ⟨_, (true), pmBx16_13_, H', ⟨pmBx16_15_⟩, ⟨pmBx16_1_⟩, ⟨pmBx16_2_⟩, ⟨pmBx16_3_⟩, ⟨pmBx16_0_⟩⟩
  case rest =>
    clear HC7
    try clear c1
    try clear c2
    try clear p2
    try clear c3
    try clear c4
    try clear c5
    try clear c6
    try clear c7
    try clear c8
    try clear c9
    try clear c10
    try clear c11
    try clear c12
    try clear c13
    try clear c14
    try clear c14b0
    try clear c14b1
    try clear c15
    try clear c16
    try clear c16b0
    try clear c16b1
    try clear c17
    try clear c17b0
    try clear c18
    try clear c19
    try clear c21
    try clear c23
    try clear c23b0
    try clear c24
    try clear c25
    try clear c27
    try clear c29
    try clear c29b0
    try clear c30
    try clear c31
    try clear c33
    try clear c35
    try clear c35b0
    try clear c36
    try clear c37
    try clear c39
    try clear c42
    try clear c44
    try clear c45
    try clear c47
    try clear c50
    try clear c51
    try clear c53
    try clear c56
    try clear c57
    try clear c59
    try clear c61
    try clear c61b0
    try clear c62
    try clear c63
    try clear c65
    try clear c67
    try clear c67b0
    try clear c68
    try clear c69
    try clear c71
    try clear c73
    try clear c73b0
    try clear c74
    try clear c75
    try clear c77
    try clear c79
    try clear c79b0
    try clear c80
    try clear c81
    try clear c83
    try clear c86
    try clear c88
    try clear c89
    try clear c91
    try clear c94
    try clear c95
    try clear c97
    try clear c100
    try clear c101
    try clear c103
    try clear c104
    try clear c104b0
    try clear c104b1
    try clear c105
    try clear c105b0
    try clear c106
    try clear c107
    try clear c109
    try clear c111
    try clear c111b0
    try clear c112
    try clear c113
    try clear c115
    try clear c117
    try clear c117b0
    try clear c118
    try clear c119
    try clear c121
    try clear c123
    try clear c123b0
    try clear c124
    try clear c125
    try clear c127
    try clear c130
    try clear c132
    try clear c133
    try clear c135
    try clear c138
    try clear c139
    try clear c141
    try clear c144
    try clear c145
    try clear c147
    try clear c149
    try clear c149b0
    try clear c150
    try clear c151
    try clear c153
    try clear c155
    try clear c155b0
    try clear c156
    try clear c157
    try clear c159
    try clear c161
    try clear c161b0
    try clear c162
    try clear c163
    try clear c165
    try clear c167
    try clear c167b0
    try clear c168
    try clear c169
    try clear c171
    try clear c174
    try clear c176
    try clear c177
    try clear c179
    try clear c182
    try clear c183
    try clear c185
    try clear hcz102_0
    try clear hcz102_1
    try clear hcz108_0
    try clear hcz108_1
    try clear hcz110_0
    try clear hcz110_1
    try clear hcz114_0
    try clear hcz114_1
    try clear hcz116_0
    try clear hcz116_1
    try clear hcz120_0
    try clear hcz120_1
    try clear hcz122_0
    try clear hcz122_1
    try clear hcz126_0
    try clear hcz126_1
    try clear hcz128_0
    try clear hcz128_1
    try clear hcz134_0
    try clear hcz134_1
    try clear hcz136_0
    try clear hcz136_1
    try clear hcz137_0
    try clear hcz137_1
    try clear hcz140_0
    try clear hcz140_1
    try clear hcz142_0
    try clear hcz142_1
    try clear hcz143_0
    try clear hcz143_1
    try clear hcz146_0
    try clear hcz146_1
    try clear hcz148_0
    try clear hcz148_1
    try clear hcz152_0
    try clear hcz152_1
    try clear hcz154_0
    try clear hcz154_1
    try clear hcz158_0
    try clear hcz158_1
    try clear hcz160_0
    try clear hcz160_1
    try clear hcz164_0
    try clear hcz164_1
    try clear hcz166_0
    try clear hcz166_1
    try clear hcz170_0
    try clear hcz170_1
    try clear hcz172_0
    try clear hcz172_1
    try clear hcz178_0
    try clear hcz178_1
    try clear hcz180_0
    try clear hcz180_1
    try clear hcz181_0
    try clear hcz181_1
    try clear hcz184_0
    try clear hcz184_1
    try clear hcz186_0
    try clear hcz186_1
    try clear hcz187_0
    try clear hcz187_1
    try clear hcz20_0
    try clear hcz20_1
    try clear hcz22_0
    try clear hcz22_1
    try clear hcz26_0
    try clear hcz26_1
    try clear hcz28_0
    try clear hcz28_1
    try clear hcz32_0
    try clear hcz32_1
    try clear hcz34_0
    try clear hcz34_1
    try clear hcz38_0
    try clear hcz38_1
    try clear hcz40_0
    try clear hcz40_1
    try clear hcz46_0
    try clear hcz46_1
    try clear hcz48_0
    try clear hcz48_1
    try clear hcz49_0
    try clear hcz49_1
    try clear hcz52_0
    try clear hcz52_1
    try clear hcz54_0
    try clear hcz54_1
    try clear hcz55_0
    try clear hcz55_1
    try clear hcz58_0
    try clear hcz58_1
    try clear hcz60_0
    try clear hcz60_1
    try clear hcz64_0
    try clear hcz64_1
    try clear hcz66_0
    try clear hcz66_1
    try clear hcz70_0
    try clear hcz70_1
    try clear hcz72_0
    try clear hcz72_1
    try clear hcz76_0
    try clear hcz76_1
    try clear hcz78_0
    try clear hcz78_1
    try clear hcz82_0
    try clear hcz82_1
    try clear hcz84_0
    try clear hcz84_1
    try clear hcz90_0
    try clear hcz90_1
    try clear hcz92_0
    try clear hcz92_1
    try clear hcz93_0
    try clear hcz93_1
    try clear hcz96_0
    try clear hcz96_1
    try clear hcz98_0
    try clear hcz98_1
    try clear hcz99_0
    try clear hcz99_1
    try clear hfz102_0
    try clear hfz102_1
    try clear hfz108_0
    try clear hfz108_1
    try clear hfz110_0
    try clear hfz110_1
    try clear hfz114_0
    try clear hfz114_1
    try clear hfz116_0
    try clear hfz116_1
    try clear hfz120_0
    try clear hfz120_1
    try clear hfz122_0
    try clear hfz122_1
    try clear hfz126_0
    try clear hfz126_1
    try clear hfz128_0
    try clear hfz128_1
    try clear hfz134_0
    try clear hfz134_1
    try clear hfz136_0
    try clear hfz136_1
    try clear hfz137_0
    try clear hfz137_1
    try clear hfz140_0
    try clear hfz140_1
    try clear hfz142_0
    try clear hfz142_1
    try clear hfz143_0
    try clear hfz143_1
    try clear hfz146_0
    try clear hfz146_1
    try clear hfz148_0
    try clear hfz148_1
    try clear hfz152_0
    try clear hfz152_1
    try clear hfz154_0
    try clear hfz154_1
    try clear hfz158_0
    try clear hfz158_1
    try clear hfz160_0
    try clear hfz160_1
    try clear hfz164_0
    try clear hfz164_1
    try clear hfz166_0
    try clear hfz166_1
    try clear hfz170_0
    try clear hfz170_1
    try clear hfz172_0
    try clear hfz172_1
    try clear hfz178_0
    try clear hfz178_1
    try clear hfz180_0
    try clear hfz180_1
    try clear hfz181_0
    try clear hfz181_1
    try clear hfz184_0
    try clear hfz184_1
    try clear hfz186_0
    try clear hfz186_1
    try clear hfz187_0
    try clear hfz187_1
    try clear hfz20_0
    try clear hfz20_1
    try clear hfz22_0
    try clear hfz22_1
    try clear hfz26_0
    try clear hfz26_1
    try clear hfz28_0
    try clear hfz28_1
    try clear hfz32_0
    try clear hfz32_1
    try clear hfz34_0
    try clear hfz34_1
    try clear hfz38_0
    try clear hfz38_1
    try clear hfz40_0
    try clear hfz40_1
    try clear hfz46_0
    try clear hfz46_1
    try clear hfz48_0
    try clear hfz48_1
    try clear hfz49_0
    try clear hfz49_1
    try clear hfz52_0
    try clear hfz52_1
    try clear hfz54_0
    try clear hfz54_1
    try clear hfz55_0
    try clear hfz55_1
    try clear hfz58_0
    try clear hfz58_1
    try clear hfz60_0
    try clear hfz60_1
    try clear hfz64_0
    try clear hfz64_1
    try clear hfz66_0
    try clear hfz66_1
    try clear hfz70_0
    try clear hfz70_1
    try clear hfz72_0
    try clear hfz72_1
    try clear hfz76_0
    try clear hfz76_1
    try clear hfz78_0
    try clear hfz78_1
    try clear hfz82_0
    try clear hfz82_1
    try clear hfz84_0
    try clear hfz84_1
    try clear hfz90_0
    try clear hfz90_1
    try clear hfz92_0
    try clear hfz92_1
    try clear hfz93_0
    try clear hfz93_1
    try clear hfz96_0
    try clear hfz96_1
    try clear hfz98_0
    try clear hfz98_1
    try clear hfz99_0
    try clear hfz99_1
    obtain ⟨kq, x71_6, rfl, HA, HJ6, BK302, BK303, BK304, HB⟩ := hcut
    cases kq with
    | zero => exact absurd HA.out (by simp [parterrelaw29_SelfFits.j0])
    | succ kj6 =>
      have H := HA.out
      clear HA
      simp only [parterrelaw29_SelfFits.j0] at H
      by_cases c188 : x71_6 = true
      · subst c188
        have H1 : ((parterrelaw29_lives.f kj6).bind fun t314 => (some t314)) = some r := by rw [if_pos rfl] at H; exact H
        clear H
        have H := H1
        clear H1
        replace H := Option.bind_eq_some_iff.mp H
        obtain ⟨t314, A1890, H⟩ := H
        replace H : (some t314) = some r := H
        have A189 := Aside0.mk A1890
        clear A1890
        obtain rfl := Option.some.inj H
        go_wp2_with (first | ((with_reducible refine gate_callee (f := 10) rfl ?_); refine goesL_ (some 72) rfl rfl Try.func10 pmBx16_14_ rfl #[] rfl pmBx16_4_ ?_; (with_reducible refine (parterrelaw29_lives.calls kj6  t314 _ A189.out).mono ?_); rintro e w190 ⟨rfl, hb⟩; refine ⟨_, rfl, ?_⟩; have n0_ := Aside0.mk (blk_below (g := gb302) (o := .cells #[.bool a2_0, .int .i64 a2_1] 23 (0, 0)) pmBx16_1_ hb); have n1_ := Aside0.mk (blk_below (g := gb303) (o := .cells #[.bool a3_0, .int .i64 a3_1] 23 (0, 0)) pmBx16_2_ hb); have n2_ := Aside0.mk (blk_below (g := gb304) (o := .cells #[.int .i64 a4_0, .int .i64 a4_1] 46 (0, 0)) pmBx16_3_ hb); have n3_ := Aside0.mk (below_step pmBx16_0_ hb); clear BK302; clear BK303; clear BK304; clear HB; have BK302 := n0_; have BK303 := n1_; have BK304 := n2_; have HB := n3_; clear n0_ n1_ n2_ n3_; (try clear hb); (try clear hb2); (try clear hk); (try clear hi)))
        go_ret
        exact ⟨by first | rfl | (simp [errW_none, errW_some] <;> rfl) | (simp [*, errW_none, errW_some] <;> rfl), by repeat (first | (with_reducible first | exact HB.out | apply below_alloc | apply pw_below_drewN | apply below_drew1 | refine below_set ?_ GE302.out | refine below_set ?_ GE303.out | refine below_set ?_ GE304.out) | exact HB.out)⟩
      · replace c188 := Bool.eq_false_iff.mpr c188
        subst c188
        have H1 : (if (wrap64 ((wrap64 (a0 - a2_1)) - a3_1)) ≥ 0 then (if (wrap64 ((wrap64 (a0 - a2_1)) - a3_1)) ≤ 68719476736 then (if a2_0 = true then (parterrelaw29_SelfFits.j1 kj6 a0 a1 a5 (wrap64 ((wrap64 (a0 - a2_1)) - a3_1)) false a2_0 a2_1 a3_0 a3_1 a4_0 a4_1 1 0 7 0) else (parterrelaw29_SelfFits.j1 kj6 a0 a1 a5 (wrap64 ((wrap64 (a0 - a2_1)) - a3_1)) (!a3_0) a2_0 a2_1 a3_0 a3_1 a4_0 a4_1 1 0 7 0)) else (parterrelaw29_SelfFits.j1 kj6 a0 a1 a5 (wrap64 ((wrap64 (a0 - a2_1)) - a3_1)) false a2_0 a2_1 a3_0 a3_1 a4_0 a4_1 1 0 7 0)) else (parterrelaw29_SelfFits.j1 kj6 a0 a1 a5 (wrap64 ((wrap64 (a0 - a2_1)) - a3_1)) false a2_0 a2_1 a3_0 a3_1 a4_0 a4_1 1 0 7 0)) = some r := by rw [if_neg (show ¬ (false = true) by decide)] at H; exact H
        clear H
        have H := H1
        clear H1
        have HC191 := Aside0.mk H
        clear H
        go_upto_region 5 with (first | ((with_reducible refine gate_dst (N := 13) rfl ?_); refine box_event ?hg (N := 13) ?hd (cs := #[.int .i64 0, .int .i64 0]) (t := 31) ?hr ?_; (case hd => rfl); (case hg => rfl); (case hr => first | (go_simp; done) | (go_simp; rfl)); intro gb315 hg w192 hbox hb; have n0_ := Aside0.mk (blk_below (g := gb302) (o := .cells #[.bool a2_0, .int .i64 a2_1] 23 (0, 0)) pmBx16_1_ hb); have n1_ := Aside0.mk (blk_below (g := gb303) (o := .cells #[.bool a3_0, .int .i64 a3_1] 23 (0, 0)) pmBx16_2_ hb); have n2_ := Aside0.mk (blk_below (g := gb304) (o := .cells #[.int .i64 a4_0, .int .i64 a4_1] 46 (0, 0)) pmBx16_3_ hb); have n3_ := Aside0.mk (below_step pmBx16_0_ hb); have n4_ := Aside0.mk (hbox); have n5_ := Aside0.mk ((by rw [hg]; exact (below_size pmBx16_0_) : w.heap.size ≤ gb315)); have n6_ := Aside0.mk ((by rw [hg]; exact (below_size pmBx16_0_) : w.heap.size ≤ gb315)); have n7_ := Aside0.mk ((pmBx16_18_ : gb302 ≠ gb315)); have n8_ := Aside0.mk ((pmBx16_19_ : gb315 ≠ gb302)); have n9_ := Aside0.mk ((pmBx16_22_ : gb303 ≠ gb315)); have n10_ := Aside0.mk ((pmBx16_23_ : gb315 ≠ gb303)); have n11_ := Aside0.mk ((by rw [hg]; exact Nat.ne_of_lt (blk_lt (g := gb304) (o := .cells #[.int .i64 a4_0, .int .i64 a4_1] 46 (0, 0)) pmBx16_3_) : gb304 ≠ gb315)); have n12_ := Aside0.mk ((by rw [hg]; exact Nat.ne_of_gt (blk_lt (g := gb304) (o := .cells #[.int .i64 a4_0, .int .i64 a4_1] 46 (0, 0)) pmBx16_3_) : gb315 ≠ gb304)); clear BK302; clear BK303; clear BK304; clear HB; have BK302 := n0_; have BK303 := n1_; have BK304 := n2_; have HB := n3_; have BK315 := n4_; have GW315 := n5_; have GE315 := n6_; have NB302_315 := n7_; have NB315_302 := n8_; have NB303_315 := n9_; have NB315_303 := n10_; have NB304_315 := n11_; have NB315_304 := n12_; clear n0_ n1_ n2_ n3_ n4_ n5_ n6_ n7_ n8_ n9_ n10_ n11_ n12_; clear hb hbox hg) | ((with_reducible refine gate_dst (N := 14) rfl ?_); refine box_event ?hg (N := 14) ?hd (cs := #[.int .i64 0, .int .i64 0]) (t := 31) ?hr ?_; (case hd => rfl); (case hg => rfl); (case hr => first | (go_simp; done) | (go_simp; rfl)); intro gb316 hg w193 hbox hb; have n0_ := Aside0.mk (blk_below (g := gb302) (o := .cells #[.bool a2_0, .int .i64 a2_1] 23 (0, 0)) pmBx16_1_ hb); have n1_ := Aside0.mk (blk_below (g := gb303) (o := .cells #[.bool a3_0, .int .i64 a3_1] 23 (0, 0)) pmBx16_2_ hb); have n2_ := Aside0.mk (blk_below (g := gb304) (o := .cells #[.int .i64 a4_0, .int .i64 a4_1] 46 (0, 0)) pmBx16_3_ hb); have n3_ := Aside0.mk (blk_below (g := gb315) (o := .cells #[.int .i64 0, .int .i64 0] 31 (0, 0)) pmBx16_11_ hb); have n4_ := Aside0.mk (below_step pmBx16_16_ hb); have n5_ := Aside0.mk (hbox); have n6_ := Aside0.mk ((by rw [hg]; exact (below_size pmBx16_16_) : w.heap.size ≤ gb316)); have n7_ := Aside0.mk ((by rw [hg]; exact (below_size pmBx16_16_) : w.heap.size ≤ gb316)); have n8_ := Aside0.mk ((pmBx16_18_ : gb302 ≠ gb316)); have n9_ := Aside0.mk ((pmBx16_19_ : gb316 ≠ gb302)); have n10_ := Aside0.mk ((pmBx16_22_ : gb303 ≠ gb316)); have n11_ := Aside0.mk ((pmBx16_23_ : gb316 ≠ gb303)); have n12_ := Aside0.mk ((by rw [hg]; exact Nat.ne_of_lt (blk_lt (g := gb304) (o := .cells #[.int .i64 a4_0, .int .i64 a4_1] 46 (0, 0)) pmBx16_3_) : gb304 ≠ gb316)); have n13_ := Aside0.mk ((by rw [hg]; exact Nat.ne_of_gt (blk_lt (g := gb304) (o := .cells #[.int .i64 a4_0, .int .i64 a4_1] 46 (0, 0)) pmBx16_3_) : gb316 ≠ gb304)); have n14_ := Aside0.mk ((by rw [hg]; exact Nat.ne_of_lt (blk_lt (g := gb315) (o := .cells #[.int .i64 0, .int .i64 0] 31 (0, 0)) pmBx16_11_) : gb315 ≠ gb316)); have n15_ := Aside0.mk ((by rw [hg]; exact Nat.ne_of_gt (blk_lt (g := gb315) (o := .cells #[.int .i64 0, .int .i64 0] 31 (0, 0)) pmBx16_11_) : gb316 ≠ gb315)); clear BK302; clear BK303; clear BK304; clear BK315; clear HB; have BK302 := n0_; have BK303 := n1_; have BK304 := n2_; have BK315 := n3_; have HB := n4_; have BK316 := n5_; have GW316 := n6_; have GE316 := n7_; have NB302_316 := n8_; have NB316_302 := n9_; have NB303_316 := n10_; have NB316_303 := n11_; have NB304_316 := n12_; have NB316_304 := n13_; have NB315_316 := n14_; have NB316_315 := n15_; clear n0_ n1_ n2_ n3_ n4_ n5_ n6_ n7_ n8_ n9_ n10_ n11_ n12_ n13_ n14_ n15_; clear hb hbox hg; have hnb194 := NB315_302.out; have hnc194 := NB302_315.out; have hnb195 := NB315_303.out; have hnc195 := NB303_315.out; have hnb196 := NB315_304.out; have hnc196 := NB304_315.out; have hnb197 := NB315_316.out; have hnc197 := NB316_315.out; have hcz198_0 : w193.cell? ⟨gb315, 0, none⟩ = some (.int .i64 0) := (blk_cell BK315.out 0).trans rfl; have hcz198_1 : w193.cell? ⟨gb315, 1, none⟩ = some (.int .i64 0) := (blk_cell BK315.out 1).trans rfl; have hfz198_0 := blk_frozen BK315.out 0; have hfz198_1 := blk_frozen BK315.out 1; have hnb199 := NB316_302.out; have hnc199 := NB302_316.out; have hnb200 := NB316_303.out; have hnc200 := NB303_316.out; have hnb201 := NB316_304.out; have hnc201 := NB304_316.out; have hcz202_0 : w193.cell? ⟨gb316, 0, none⟩ = some (.int .i64 0) := (blk_cell BK316.out 0).trans rfl; have hcz202_1 : w193.cell? ⟨gb316, 1, none⟩ = some (.int .i64 0) := (blk_cell BK316.out 1).trans rfl; have hfz202_0 := blk_frozen BK316.out 0; have hfz202_1 := blk_frozen BK316.out 1; have hnb203 := NB302_303.out; have hnc203 := NB303_302.out; have hnb204 := NB302_304.out; have hnc204 := NB304_302.out; have hcz205_0 : w193.cell? ⟨gb302, 0, none⟩ = some (.bool a2_0) := (blk_cell BK302.out 0).trans rfl; have hcz205_1 : w193.cell? ⟨gb302, 1, none⟩ = some (.int .i64 a2_1) := (blk_cell BK302.out 1).trans rfl; have hfz205_0 := blk_frozen BK302.out 0; have hfz205_1 := blk_frozen BK302.out 1; have hnb206 := NB303_304.out; have hnc206 := NB304_303.out; have hcz207_0 : w193.cell? ⟨gb303, 0, none⟩ = some (.bool a3_0) := (blk_cell BK303.out 0).trans rfl; have hcz207_1 : w193.cell? ⟨gb303, 1, none⟩ = some (.int .i64 a3_1) := (blk_cell BK303.out 1).trans rfl; have hfz207_0 := blk_frozen BK303.out 0; have hfz207_1 := blk_frozen BK303.out 1))
        (try simp only [Act.put, List.setIfInBounds_toArray, List.set_cons_zero, List.set_cons_succ])
        go_cut [97] (fun v97 wc => ∃ (kq : Nat) (x97_190 : Bool), v97 = .bool x97_190 ∧ Aside0 (parterrelaw29_SelfFits.j1 kq a0 a1 a5 (wrap64 ((wrap64 (a0 - a2_1)) - a3_1)) x97_190 a2_0 a2_1 a3_0 a3_1 a4_0 a4_1 1 0 7 0 = some r) ∧ Aside0 (kq ≤ kj6) ∧ Aside0 (wc.heap[gb302]? = some (.cells #[.bool a2_0, .int .i64 a2_1] 23 (0, 0))) ∧ Aside0 (wc.heap[gb303]? = some (.cells #[.bool a3_0, .int .i64 a3_1] 23 (0, 0))) ∧ Aside0 (wc.heap[gb304]? = some (.cells #[.int .i64 a4_0, .int .i64 a4_1] 46 (0, 0))) ∧ Aside0 (wc.heap[gb315]? = some (.cells #[.int .i64 1, .int .i64 0] 31 (0, 0))) ∧ Aside0 (wc.heap[gb316]? = some (.cells #[.int .i64 7, .int .i64 0] 31 (0, 0))) ∧ Aside0 (Below w.heap.size w wc))
        case first =>
          have H := HC191.out
          clear HC191
          by_cases c208 : (wrap64 ((wrap64 (a0 - a2_1)) - a3_1)) ≥ 0
          · rw [if_pos c208] at H
            have c208b0 : decide (0 ≤ (wrap64 ((wrap64 (a0 - a2_1)) - a3_1))) = true := decide_eq_true c208
            clear c208
            (first | rw [c208b0] | (simp only [i64_w, i32_w]; rw [c208b0]) | skip)
            by_cases c209 : (wrap64 ((wrap64 (a0 - a2_1)) - a3_1)) ≤ 68719476736
            · rw [if_pos c209] at H
              have c209b0 : decide ((wrap64 ((wrap64 (a0 - a2_1)) - a3_1)) ≤ 68719476736) = true := decide_eq_true c209
              clear c209
              by_cases c210 : a2_0 = true
              · subst c210
                have H1 : (parterrelaw29_SelfFits.j1 kj6 a0 a1 a5 (wrap64 ((wrap64 (a0 - a2_1)) - a3_1)) false true a2_1 a3_0 a3_1 a4_0 a4_1 1 0 7 0) = some r := by rw [if_pos rfl] at H; exact H
                clear H
                have H := H1
                clear H1
                have H' := Aside0.mk H
                clear H
                have hnb211 := NB302_303.out
                have hnc211 := NB303_302.out
                have hnb212 := NB302_304.out
                have hnc212 := NB304_302.out
                have hnb213 := NB302_315.out
                have hnc213 := NB315_302.out
                have hnb214 := NB302_316.out
                have hnc214 := NB316_302.out
                have hcz215_0 : w193.cell? ⟨gb302, 0, none⟩ = some (.bool true) := (blk_cell BK302.out 0).trans rfl
                have hcz215_1 : w193.cell? ⟨gb302, 1, none⟩ = some (.int .i64 a2_1) := (blk_cell BK302.out 1).trans rfl
                have hfz215_0 := blk_frozen BK302.out 0
                have hfz215_1 := blk_frozen BK302.out 1
                go_wp2
                go_meet
                case rel => exact ⟨_, (false), pmBx16_13_, H', ⟨by have := HJ6.out; first | omega | exact Nat.le_refl _⟩, ⟨pmBx16_8_⟩, ⟨pmBx16_9_⟩, ⟨pmBx16_10_⟩, ⟨pmBx16_6_⟩, ⟨pmBx16_7_⟩, ⟨pmBx16_5_⟩⟩
              · replace c210 := Bool.eq_false_iff.mpr c210
                subst c210
                have H1 : (parterrelaw29_SelfFits.j1 kj6 a0 a1 a5 (wrap64 ((wrap64 (a0 - a2_1)) - a3_1)) (!a3_0) false a2_1 a3_0 a3_1 a4_0 a4_1 1 0 7 0) = some r := by rw [if_neg (show ¬ (false = true) by decide)] at H; exact H
                clear H
                have H := H1
                clear H1
                have H' := Aside0.mk H
                clear H
                have hnb216 := NB302_303.out
                have hnc216 := NB303_302.out
                have hnb217 := NB302_304.out
                have hnc217 := NB304_302.out
                have hnb218 := NB302_315.out
                have hnc218 := NB315_302.out
                have hnb219 := NB302_316.out
                have hnc219 := NB316_302.out
                have hcz220_0 : w193.cell? ⟨gb302, 0, none⟩ = some (.bool false) := (blk_cell BK302.out 0).trans rfl
                have hcz220_1 : w193.cell? ⟨gb302, 1, none⟩ = some (.int .i64 a2_1) := (blk_cell BK302.out 1).trans rfl
                have hfz220_0 := blk_frozen BK302.out 0
                have hfz220_1 := blk_frozen BK302.out 1
                have hnb221 := NB303_304.out
                have hnc221 := NB304_303.out
                have hnb222 := NB303_315.out
                have hnc222 := NB315_303.out
                have hnb223 := NB303_316.out
                have hnc223 := NB316_303.out
                have hcz224_0 : w193.cell? ⟨gb303, 0, none⟩ = some (.bool a3_0) := (blk_cell BK303.out 0).trans rfl
                have hcz224_1 : w193.cell? ⟨gb303, 1, none⟩ = some (.int .i64 a3_1) := (blk_cell BK303.out 1).trans rfl
                have hfz224_0 := blk_frozen BK303.out 0
                have hfz224_1 := blk_frozen BK303.out 1
                as_aux_lemma =>
                  go_wp2
                  go_meet
                  case rel => exact ⟨_, (!a3_0), pmBx16_13_, H', ⟨by have := HJ6.out; first | omega | exact Nat.le_refl _⟩, ⟨pmBx16_8_⟩, ⟨pmBx16_9_⟩, ⟨pmBx16_10_⟩, ⟨pmBx16_6_⟩, ⟨pmBx16_7_⟩, ⟨pmBx16_5_⟩⟩
            · rw [if_neg c209] at H
              have c209b0 : decide ((wrap64 ((wrap64 (a0 - a2_1)) - a3_1)) ≤ 68719476736) = false := decide_eq_false c209
              clear c209
              have H' := Aside0.mk H
              clear H
              go_wp2
              go_meet
              case rel => exact ⟨_, (false), pmBx16_13_, H', ⟨by have := HJ6.out; first | omega | exact Nat.le_refl _⟩, ⟨pmBx16_8_⟩, ⟨pmBx16_9_⟩, ⟨pmBx16_10_⟩, ⟨pmBx16_6_⟩, ⟨pmBx16_7_⟩, ⟨pmBx16_5_⟩⟩
          · rw [if_neg c208] at H
            have c208b0 : decide (0 ≤ (wrap64 ((wrap64 (a0 - a2_1)) - a3_1))) = false := decide_eq_false c208
            clear c208
            (first | rw [c208b0] | (simp only [i64_w, i32_w]; rw [c208b0]) | skip)
            have H' := Aside0.mk H
            clear H
            go_wp2
            go_meet
            case rel => exact ⟨_, (false), pmBx16_13_, H', ⟨by have := HJ6.out; first | omega | exact Nat.le_refl _⟩, ⟨pmBx16_8_⟩, ⟨pmBx16_9_⟩, ⟨pmBx16_10_⟩, ⟨pmBx16_6_⟩, ⟨pmBx16_7_⟩, ⟨pmBx16_5_⟩⟩
        case rest =>
          clear HC191
          try clear c1
          try clear c2
          try clear p2
          try clear c3
          try clear c4
          try clear c5
          try clear c6
          try clear p6
          try clear c7
          try clear c8
          try clear c9
          try clear c10
          try clear c11
          try clear c12
          try clear c13
          try clear c14
          try clear c14b0
          try clear c14b1
          try clear c15
          try clear c16
          try clear c16b0
          try clear c16b1
          try clear c17
          try clear c17b0
          try clear c18
          try clear c19
          try clear c20
          try clear c21
          try clear c22
          try clear c23
          try clear c23b0
          try clear c24
          try clear c25
          try clear c27
          try clear c29
          try clear c29b0
          try clear c30
          try clear c31
          try clear c33
          try clear c35
          try clear c35b0
          try clear c36
          try clear c37
          try clear c39
          try clear c42
          try clear c44
          try clear c45
          try clear c47
          try clear c50
          try clear c51
          try clear c53
          try clear c56
          try clear c57
          try clear c59
          try clear c61
          try clear c61b0
          try clear c62
          try clear c63
          try clear p64
          try clear c65
          try clear c67
          try clear c67b0
          try clear c68
          try clear c69
          try clear c71
          try clear c73
          try clear c73b0
          try clear c74
          try clear c75
          try clear c77
          try clear c79
          try clear c79b0
          try clear c80
          try clear c81
          try clear c83
          try clear c86
          try clear c88
          try clear c89
          try clear c91
          try clear c94
          try clear c95
          try clear c97
          try clear c100
          try clear c101
          try clear c103
          try clear c104
          try clear c104b0
          try clear c104b1
          try clear c105
          try clear c105b0
          try clear c106
          try clear c107
          try clear c109
          try clear c111
          try clear c111b0
          try clear c112
          try clear c113
          try clear c115
          try clear c117
          try clear c117b0
          try clear c118
          try clear c119
          try clear c121
          try clear c123
          try clear c123b0
          try clear c124
          try clear c125
          try clear c127
          try clear c130
          try clear c132
          try clear c133
          try clear c135
          try clear c138
          try clear c139
          try clear c141
          try clear c144
          try clear c145
          try clear c147
          try clear c149
          try clear c149b0
          try clear c150
          try clear c151
          try clear c153
          try clear c155
          try clear c155b0
          try clear c156
          try clear c157
          try clear c159
          try clear c161
          try clear c161b0
          try clear c162
          try clear c163
          try clear c165
          try clear c167
          try clear c167b0
          try clear c168
          try clear c169
          try clear c171
          try clear c174
          try clear c176
          try clear c177
          try clear c179
          try clear c182
          try clear c183
          try clear c185
          try clear c188
          try clear c194
          try clear c195
          try clear c196
          try clear c197
          try clear c199
          try clear c200
          try clear c201
          try clear c203
          try clear c204
          try clear c206
          try clear c208
          try clear c208b0
          try clear c209
          try clear c209b0
          try clear c210
          try clear c211
          try clear c212
          try clear c213
          try clear c214
          try clear c216
          try clear c217
          try clear c218
          try clear c219
          try clear c221
          try clear c222
          try clear c223
          try clear hcz102_0
          try clear hcz102_1
          try clear hcz108_0
          try clear hcz108_1
          try clear hcz110_0
          try clear hcz110_1
          try clear hcz114_0
          try clear hcz114_1
          try clear hcz116_0
          try clear hcz116_1
          try clear hcz120_0
          try clear hcz120_1
          try clear hcz122_0
          try clear hcz122_1
          try clear hcz126_0
          try clear hcz126_1
          try clear hcz128_0
          try clear hcz128_1
          try clear hcz134_0
          try clear hcz134_1
          try clear hcz136_0
          try clear hcz136_1
          try clear hcz137_0
          try clear hcz137_1
          try clear hcz140_0
          try clear hcz140_1
          try clear hcz142_0
          try clear hcz142_1
          try clear hcz143_0
          try clear hcz143_1
          try clear hcz146_0
          try clear hcz146_1
          try clear hcz148_0
          try clear hcz148_1
          try clear hcz152_0
          try clear hcz152_1
          try clear hcz154_0
          try clear hcz154_1
          try clear hcz158_0
          try clear hcz158_1
          try clear hcz160_0
          try clear hcz160_1
          try clear hcz164_0
          try clear hcz164_1
          try clear hcz166_0
          try clear hcz166_1
          try clear hcz170_0
          try clear hcz170_1
          try clear hcz172_0
          try clear hcz172_1
          try clear hcz178_0
          try clear hcz178_1
          try clear hcz180_0
          try clear hcz180_1
          try clear hcz181_0
          try clear hcz181_1
          try clear hcz184_0
          try clear hcz184_1
          try clear hcz186_0
          try clear hcz186_1
          try clear hcz187_0
          try clear hcz187_1
          try clear hcz198_0
          try clear hcz198_1
          try clear hcz202_0
          try clear hcz202_1
          try clear hcz205_0
          try clear hcz205_1
          try clear hcz207_0
          try clear hcz207_1
          try clear hcz20_0
          try clear hcz20_1
          try clear hcz215_0
          try clear hcz215_1
          try clear hcz220_0
          try clear hcz220_1
          try clear hcz224_0
          try clear hcz224_1
          try clear hcz22_0
          try clear hcz22_1
          try clear hcz26_0
          try clear hcz26_1
          try clear hcz28_0
          try clear hcz28_1
          try clear hcz32_0
          try clear hcz32_1
          try clear hcz34_0
          try clear hcz34_1
          try clear hcz38_0
          try clear hcz38_1
          try clear hcz40_0
          try clear hcz40_1
          try clear hcz46_0
          try clear hcz46_1
          try clear hcz48_0
          try clear hcz48_1
          try clear hcz49_0
          try clear hcz49_1
          try clear hcz52_0
          try clear hcz52_1
          try clear hcz54_0
          try clear hcz54_1
          try clear hcz55_0
          try clear hcz55_1
          try clear hcz58_0
          try clear hcz58_1
          try clear hcz60_0
          try clear hcz60_1
          try clear hcz64_0
          try clear hcz64_1
          try clear hcz66_0
          try clear hcz66_1
          try clear hcz70_0
          try clear hcz70_1
          try clear hcz72_0
          try clear hcz72_1
          try clear hcz76_0
          try clear hcz76_1
          try clear hcz78_0
          try clear hcz78_1
          try clear hcz82_0
          try clear hcz82_1
          try clear hcz84_0
          try clear hcz84_1
          try clear hcz90_0
          try clear hcz90_1
          try clear hcz92_0
          try clear hcz92_1
          try clear hcz93_0
          try clear hcz93_1
          try clear hcz96_0
          try clear hcz96_1
          try clear hcz98_0
          try clear hcz98_1
          try clear hcz99_0
          try clear hcz99_1
          try clear hfz102_0
          try clear hfz102_1
          try clear hfz108_0
          try clear hfz108_1
          try clear hfz110_0
          try clear hfz110_1
          try clear hfz114_0
          try clear hfz114_1
          try clear hfz116_0
          try clear hfz116_1
          try clear hfz120_0
          try clear hfz120_1
          try clear hfz122_0
          try clear hfz122_1
          try clear hfz126_0
          try clear hfz126_1
          try clear hfz128_0
          try clear hfz128_1
          try clear hfz134_0
          try clear hfz134_1
          try clear hfz136_0
          try clear hfz136_1
          try clear hfz137_0
          try clear hfz137_1
          try clear hfz140_0
          try clear hfz140_1
          try clear hfz142_0
          try clear hfz142_1
          try clear hfz143_0
          try clear hfz143_1
          try clear hfz146_0
          try clear hfz146_1
          try clear hfz148_0
          try clear hfz148_1
          try clear hfz152_0
          try clear hfz152_1
          try clear hfz154_0
          try clear hfz154_1
          try clear hfz158_0
          try clear hfz158_1
          try clear hfz160_0
          try clear hfz160_1
          try clear hfz164_0
          try clear hfz164_1
          try clear hfz166_0
          try clear hfz166_1
          try clear hfz170_0
          try clear hfz170_1
          try clear hfz172_0
          try clear hfz172_1
          try clear hfz178_0
          try clear hfz178_1
          try clear hfz180_0
          try clear hfz180_1
          try clear hfz181_0
          try clear hfz181_1
          try clear hfz184_0
          try clear hfz184_1
          try clear hfz186_0
          try clear hfz186_1
          try clear hfz187_0
          try clear hfz187_1
          try clear hfz198_0
          try clear hfz198_1
          try clear hfz202_0
          try clear hfz202_1
          try clear hfz205_0
          try clear hfz205_1
          try clear hfz207_0
          try clear hfz207_1
          try clear hfz20_0
          try clear hfz20_1
          try clear hfz215_0
          try clear hfz215_1
          try clear hfz220_0
          try clear hfz220_1
          try clear hfz224_0
          try clear hfz224_1
          try clear hfz22_0
          try clear hfz22_1
          try clear hfz26_0
          try clear hfz26_1
          try clear hfz28_0
          try clear hfz28_1
          try clear hfz32_0
          try clear hfz32_1
          try clear hfz34_0
          try clear hfz34_1
          try clear hfz38_0
          try clear hfz38_1
          try clear hfz40_0
          try clear hfz40_1
          try clear hfz46_0
          try clear hfz46_1
          try clear hfz48_0
          try clear hfz48_1
          try clear hfz49_0
          try clear hfz49_1
          try clear hfz52_0
          try clear hfz52_1
          try clear hfz54_0
          try clear hfz54_1
          try clear hfz55_0
          try clear hfz55_1
          try clear hfz58_0
          try clear hfz58_1
          try clear hfz60_0
          try clear hfz60_1
          try clear hfz64_0
          try clear hfz64_1
          try clear hfz66_0
          try clear hfz66_1
          try clear hfz70_0
          try clear hfz70_1
          try clear hfz72_0
          try clear hfz72_1
          try clear hfz76_0
          try clear hfz76_1
          try clear hfz78_0
          try clear hfz78_1
          try clear hfz82_0
          try clear hfz82_1
          try clear hfz84_0
          try clear hfz84_1
          try clear hfz90_0
          try clear hfz90_1
          try clear hfz92_0
          try clear hfz92_1
          try clear hfz93_0
          try clear hfz93_1
          try clear hfz96_0
          try clear hfz96_1
          try clear hfz98_0
          try clear hfz98_1
          try clear hfz99_0
          try clear hfz99_1
          try clear p2
          obtain ⟨kq, x97_190, rfl, HA, HJ190, BK302, BK303, BK304, BK315, BK316, HB⟩ := hcut
          cases kq with
          | zero => exact absurd HA.out (by simp [parterrelaw29_SelfFits.j1])
          | succ kj190 =>
            have H := HA.out
            clear HA
            simp only [parterrelaw29_SelfFits.j1] at H
            have HC225 := Aside0.mk H
            clear H
            go_upto_if 97 with (fail)
            go_cut [] (fun wc => ∃ (kq : Nat), Aside0 (parterrelaw29_SelfFits.j2 kq a0 a1 a5 a2_0 a2_1 a3_0 a3_1 = some r) ∧ Aside0 (kq ≤ kj190) ∧ Aside0 (wc.heap[gb302]? = some (.cells #[.bool a2_0, .int .i64 a2_1] 23 (0, 0))) ∧ Aside0 (wc.heap[gb303]? = some (.cells #[.bool a3_0, .int .i64 a3_1] 23 (0, 0))) ∧ Aside0 (wc.heap[gb304]? = some (.cells #[.int .i64 a4_0, .int .i64 a4_1] 46 (0, 0))) ∧ Aside0 (wc.heap[gb315]? = some (.cells #[.int .i64 1, .int .i64 0] 31 (0, 0))) ∧ Aside0 (wc.heap[gb316]? = some (.cells #[.int .i64 7, .int .i64 0] 31 (0, 0))) ∧ Aside0 (Below w.heap.size w wc))
            case first =>
              have H := HC225.out
              clear HC225
              by_cases c226 : x97_190 = true
              · subst c226
                have H1 : ((self_Used.f kj190 1 0 1 0 7 0 a0 a2_0 a2_1 a3_0 a3_1 a4_0 a4_1 true).bind fun bt317 => (if bt317.2 = 0 then (if bt317.1 = (wrap64 ((wrap64 (a0 - a2_1)) - a3_1)) then ((self_Place.f kj190 a0 bt317.1 a2_0 a2_1 a3_0 a3_1 a5).bind fun t319 => (if t319 = a2_1 then (parterrelaw29_SelfFits.j2 kj190 a0 a1 a5 a2_0 a2_1 a3_0 a3_1) else (some false))) else (some false)) else (some false))) = some r := by rw [if_pos rfl] at H; exact H
                clear H
                have H := H1
                clear H1
                replace H := Option.bind_eq_some_iff.mp H
                obtain ⟨⟨t317, t318⟩, A2270, H⟩ := H
                replace H : (if t318 = 0 then (if t317 = (wrap64 ((wrap64 (a0 - a2_1)) - a3_1)) then ((self_Place.f kj190 a0 t317 a2_0 a2_1 a3_0 a3_1 a5).bind fun t319 => (if t319 = a2_1 then (parterrelaw29_SelfFits.j2 kj190 a0 a1 a5 a2_0 a2_1 a3_0 a3_1) else (some false))) else (some false)) else (some false)) = some r := H
                have A227 := Aside0.mk A2270
                clear A2270
                by_cases c228 : t318 = 0
                · rw [if_pos c228] at H
                  have c228b0 : (t318 == 0) = true := beq_iff_eq.mpr c228
                  have c228b1 : (t318 != 0) = false := bne_eq_false_iff_eq.mpr c228
                  clear c228
                  (first | rw [c228b0] | (simp only [i64_w, i32_w]; rw [c228b0]) | skip)
                  by_cases c229 : t317 = (wrap64 ((wrap64 (a0 - a2_1)) - a3_1))
                  · rw [if_pos c229] at H
                    have c229b0 : (t317 == (wrap64 ((wrap64 (a0 - a2_1)) - a3_1))) = true := beq_iff_eq.mpr c229
                    have c229b1 : (t317 != (wrap64 ((wrap64 (a0 - a2_1)) - a3_1))) = false := bne_eq_false_iff_eq.mpr c229
                    clear c229
                    replace H := Option.bind_eq_some_iff.mp H
                    obtain ⟨t319, A2300, H⟩ := H
                    replace H : (if t319 = a2_1 then (parterrelaw29_SelfFits.j2 kj190 a0 a1 a5 a2_0 a2_1 a3_0 a3_1) else (some false)) = some r := H
                    have A230 := Aside0.mk A2300
                    clear A2300
                    by_cases c231 : t319 = a2_1
                    · rw [if_pos c231] at H
                      have c231b0 : (t319 == a2_1) = true := beq_iff_eq.mpr c231
                      have c231b1 : (t319 != a2_1) = false := bne_eq_false_iff_eq.mpr c231
                      clear c231
                      have H' := Aside0.mk H
                      clear H
                      have hnb232 := NB315_302.out
                      have hnc232 := NB302_315.out
                      have hnb233 := NB315_303.out
                      have hnc233 := NB303_315.out
                      have hnb234 := NB315_304.out
                      have hnc234 := NB304_315.out
                      have hnb235 := NB315_316.out
                      have hnc235 := NB316_315.out
                      have hcz236_0 : wc.cell? ⟨gb315, 0, none⟩ = some (.int .i64 1) := (blk_cell BK315.out 0).trans rfl
                      have hcz236_1 : wc.cell? ⟨gb315, 1, none⟩ = some (.int .i64 0) := (blk_cell BK315.out 1).trans rfl
                      have hfz236_0 := blk_frozen BK315.out 0
                      have hfz236_1 := blk_frozen BK315.out 1
                      have hnb237 := NB316_302.out
                      have hnc237 := NB302_316.out
                      have hnb238 := NB316_303.out
                      have hnc238 := NB303_316.out
                      have hnb239 := NB316_304.out
                      have hnc239 := NB304_316.out
                      have hcz240_0 : wc.cell? ⟨gb316, 0, none⟩ = some (.int .i64 7) := (blk_cell BK316.out 0).trans rfl
                      have hcz240_1 : wc.cell? ⟨gb316, 1, none⟩ = some (.int .i64 0) := (blk_cell BK316.out 1).trans rfl
                      have hfz240_0 := blk_frozen BK316.out 0
                      have hfz240_1 := blk_frozen BK316.out 1
                      have hnb241 := NB302_303.out
                      have hnc241 := NB303_302.out
                      have hnb242 := NB302_304.out
                      have hnc242 := NB304_302.out
                      have hcz243_0 : wc.cell? ⟨gb302, 0, none⟩ = some (.bool a2_0) := (blk_cell BK302.out 0).trans rfl
                      have hcz243_1 : wc.cell? ⟨gb302, 1, none⟩ = some (.int .i64 a2_1) := (blk_cell BK302.out 1).trans rfl
                      have hfz243_0 := blk_frozen BK302.out 0
                      have hfz243_1 := blk_frozen BK302.out 1
                      have hnb244 := NB303_304.out
                      have hnc244 := NB304_303.out
                      have hcz245_0 : wc.cell? ⟨gb303, 0, none⟩ = some (.bool a3_0) := (blk_cell BK303.out 0).trans rfl
                      have hcz245_1 : wc.cell? ⟨gb303, 1, none⟩ = some (.int .i64 a3_1) := (blk_cell BK303.out 1).trans rfl
                      have hfz245_0 := blk_frozen BK303.out 0
                      have hfz245_1 := blk_frozen BK303.out 1
                      have hcz246_0 : wc.cell? ⟨gb304, 0, none⟩ = some (.int .i64 a4_0) := (blk_cell BK304.out 0).trans rfl
                      have hcz246_1 : wc.cell? ⟨gb304, 1, none⟩ = some (.int .i64 a4_1) := (blk_cell BK304.out 1).trans rfl
                      have hfz246_0 := blk_frozen BK304.out 0
                      have hfz246_1 := blk_frozen BK304.out 1
                      as_aux_lemma =>
                        try go_wp2_with (first | ((with_reducible refine gate_callee (f := 17) rfl ?_); refine goesL_ (some 106) rfl rfl Try.func17 pmBx16_14_ rfl #[.agg #[.int .i64 1, .int .i64 0], .agg #[.int .i64 1, .int .i64 0], .agg #[.int .i64 7, .int .i64 0], .int .i64 a0, .agg #[.bool a2_0, .int .i64 a2_1], .agg #[.bool a3_0, .int .i64 a3_1], .agg #[.int .i64 a4_0, .int .i64 a4_1], .bool true] rfl pmBx16_4_ ?_; (with_reducible refine (self_Used.calls kj190 1 0 1 0 7 0 a0 a2_0 a2_1 a3_0 a3_1 a4_0 a4_1 true t317 t318 _ A227.out).mono ?_); rintro e w247 ⟨rfl, hb⟩; refine ⟨_, rfl, ?_⟩; have n0_ := Aside0.mk (blk_below (g := gb302) (o := .cells #[.bool a2_0, .int .i64 a2_1] 23 (0, 0)) pmBx16_1_ hb); have n1_ := Aside0.mk (blk_below (g := gb303) (o := .cells #[.bool a3_0, .int .i64 a3_1] 23 (0, 0)) pmBx16_2_ hb); have n2_ := Aside0.mk (blk_below (g := gb304) (o := .cells #[.int .i64 a4_0, .int .i64 a4_1] 46 (0, 0)) pmBx16_3_ hb); have n3_ := Aside0.mk (blk_below (g := gb315) (o := .cells #[.int .i64 1, .int .i64 0] 31 (0, 0)) pmBx16_11_ hb); have n4_ := Aside0.mk (blk_below (g := gb316) (o := .cells #[.int .i64 7, .int .i64 0] 31 (0, 0)) pmBx16_12_ hb); have n5_ := Aside0.mk (below_step pmBx16_5_ hb); clear BK302; clear BK303; clear BK304; clear BK315; clear BK316; clear HB; have BK302 := n0_; have BK303 := n1_; have BK304 := n2_; have BK315 := n3_; have BK316 := n4_; have HB := n5_; clear n0_ n1_ n2_ n3_ n4_ n5_; (try clear hb); (try clear hb2); (try clear hk); (try clear hi)))
                        have n0_ := Aside0.mk (blk_drew BK302.out)
                        have n1_ := Aside0.mk (blk_drew BK303.out)
                        have n2_ := Aside0.mk (blk_drew BK304.out)
                        have n3_ := Aside0.mk (blk_drew BK315.out)
                        have n4_ := Aside0.mk (blk_drew BK316.out)
                        have n5_ := Aside0.mk (below_drew1 HB.out)
                        clear BK302
                        clear BK303
                        clear BK304
                        clear BK315
                        clear BK316
                        clear HB
                        have BK302 := n0_
                        have BK303 := n1_
                        have BK304 := n2_
                        have BK315 := n3_
                        have BK316 := n4_
                        have HB := n5_
                        clear n0_ n1_ n2_ n3_ n4_ n5_
                        refine start_ (n := 18) (S := fun w' => w'.cell? ⟨gb302, 0, none⟩ = some (.bool a2_0) ∧ w'.cell? ⟨gb302, 1, none⟩ = some (.int .i64 a2_1) ∧ w'.cell? ⟨gb303, 0, none⟩ = some (.bool a3_0) ∧ w'.cell? ⟨gb303, 1, none⟩ = some (.int .i64 a3_1)) (ds := []) #[false, false, false, false, false, false, false, false, false, false, false, false, false, false, false, false, false, false] pmBx16_14_ rfl rfl ⟨(blk_cell BK302.out 0).trans rfl, (blk_cell BK302.out 1).trans rfl, (blk_cell BK303.out 0).trans rfl, (blk_cell BK303.out 1).trans rfl⟩ (fun hHeld => ?_); refine with_tabW parterrelaw29_SelfFits.tab7 parterrelaw29_SelfFits.bits7 (fun HT_ HW_ => ?_)
                        generalize w247.drew = w248 at BK302 BK303 BK304 BK315 BK316 HB hHeld ⊢
                        refine pure_ (i := 0) (N := some 109) (v := ?_) (a' := ?_) #[true, false, false, false, false, false, false, false, false, false, false, false, false, false, false, false, false, false] rfl rfl (any_of HT_.out pmBx16_14_) (fun _ _ _ h => h) (Or.inl ⟨by rfl, ?_⟩) ?_ ?_
                        rotate_left
                        · intro w'
                          go_simp
                          with_reducible rfl
                        rotate_left
                        · simp only [Act.put, List.setIfInBounds_toArray, List.set_cons_zero, List.set_cons_succ, i64_w, i32_w]
                          rfl
                        refine pure_ (i := 1) (N := some 110) (v := ?_) (a' := ?_) #[true, true, false, false, false, false, false, false, false, false, false, false, false, false, false, false, false, false] rfl rfl (any_of HT_.out pmBx16_14_) (fun _ _ _ h => h) (Or.inl ⟨by rfl, ?_⟩) ?_ ?_
                        rotate_left
                        · intro w'
                          go_simp
                          with_reducible rfl
                        rotate_left
                        · simp only [Act.put, List.setIfInBounds_toArray, List.set_cons_zero, List.set_cons_succ, i64_w, i32_w]
                          rfl
                        refine pure_ (i := 2) (N := some 111) (v := ?_) (a' := ?_) #[true, true, true, false, false, false, false, false, false, false, false, false, false, false, false, false, false, false] rfl rfl (any_of HT_.out pmBx16_14_) (fun _ _ _ h => h) (Or.inl ⟨by rfl, ?_⟩) ?_ ?_
                        rotate_left
                        · intro w'
                          go_simp
                          with_reducible rfl
                        rotate_left
                        · simp only [Act.put, List.setIfInBounds_toArray, List.set_cons_zero, List.set_cons_succ, i64_w, i32_w]
                          rfl
                        refine pure_ (i := 3) (N := some 112) (v := ?_) (a' := ?_) #[true, true, true, true, false, false, false, false, false, false, false, false, false, false, false, false, false, false] rfl rfl (any_of HT_.out pmBx16_14_) (fun _ _ _ h => h) (Or.inl ⟨by rfl, ?_⟩) ?_ ?_
                        rotate_left
                        · intro w'
                          go_simp
                          with_reducible rfl
                        rotate_left
                        · simp only [Act.put, List.setIfInBounds_toArray, List.set_cons_zero, List.set_cons_succ, i64_w, i32_w]
                          rfl
                        refine pure_ (i := 4) (N := some 113) (v := ?_) (a' := ?_) #[true, true, true, true, true, false, false, false, false, false, false, false, false, false, false, false, false, false] rfl rfl (any_of HT_.out pmBx16_14_) (fun _ _ _ h => h) (Or.inl ⟨by rfl, ?_⟩) ?_ ?_
                        rotate_left
                        · intro w'
                          go_simp
                          with_reducible rfl
                        rotate_left
                        · simp only [Act.put, List.setIfInBounds_toArray, List.set_cons_zero, List.set_cons_succ, i64_w, i32_w]
                          rfl
                        refine pure_ (i := 5) (N := some 114) (v := ?_) (a' := ?_) #[true, true, true, true, true, true, false, false, false, false, false, false, false, false, false, false, false, false] rfl rfl (any_of HT_.out pmBx16_14_) (fun _ _ _ h => h) (Or.inl ⟨by rfl, ?_⟩) ?_ ?_
                        rotate_left
                        · intro w'
                          go_simp
                          with_reducible rfl
                        rotate_left
                        · simp only [Act.put, List.setIfInBounds_toArray, List.set_cons_zero, List.set_cons_succ, i64_w, i32_w]
                          rfl
                        refine pure_ (i := 6) (N := some 115) (v := ?_) (a' := ?_) #[true, true, true, true, true, true, true, false, false, false, false, false, false, false, false, false, false, false] rfl rfl (any_of HT_.out pmBx16_14_) (fun _ _ _ h => h) (Or.inl ⟨by rfl, ?_⟩) ?_ ?_
                        rotate_left
                        · intro w'
                          go_simp
                          with_reducible rfl
                        rotate_left
                        · simp only [Act.put, List.setIfInBounds_toArray, List.set_cons_zero, List.set_cons_succ, i64_w, i32_w]
                          rfl
                        refine pure_ (i := 7) (N := some 116) (v := ?_) (a' := ?_) #[true, true, true, true, true, true, true, true, false, false, false, false, false, false, false, false, false, false] rfl rfl (any_of HT_.out pmBx16_14_) (fun _ _ _ h => h) (Or.inl ⟨by rfl, ?_⟩) ?_ ?_
                        rotate_left
                        · intro w'
                          go_simp
                          with_reducible rfl
                        rotate_left
                        · simp only [Act.put, List.setIfInBounds_toArray, List.set_cons_zero, List.set_cons_succ, i64_w, i32_w]
                          rfl
                        refine pure_ (i := 8) (N := some 117) (v := ?_) (a' := ?_) #[true, true, true, true, true, true, true, true, true, false, false, false, false, false, false, false, false, false] rfl rfl (any_of HT_.out pmBx16_14_) (fun _ _ _ h => h) (Or.inl ⟨by rfl, ?_⟩) ?_ ?_
                        rotate_left
                        · intro w'
                          go_simp
                          with_reducible rfl
                        rotate_left
                        · simp only [Act.put, List.setIfInBounds_toArray, List.set_cons_zero, List.set_cons_succ, i64_w, i32_w]
                          rfl
                        refine pure_ (i := 9) (N := some 118) (v := ?_) (a' := ?_) #[true, true, true, true, true, true, true, true, true, true, false, false, false, false, false, false, false, false] rfl rfl (any_of HT_.out pmBx16_14_) (fun _ _ _ h => h) (Or.inl ⟨by rfl, ?_⟩) ?_ ?_
                        rotate_left
                        · intro w'
                          go_simp
                          with_reducible rfl
                        rotate_left
                        · simp only [Act.put, List.setIfInBounds_toArray, List.set_cons_zero, List.set_cons_succ, i64_w, i32_w]
                          rfl
                        refine pure_ (i := 12) (N := some 121) (v := ?_) (a' := ?_) #[true, true, true, true, true, true, true, true, true, true, false, false, true, false, false, false, false, false] rfl rfl (any_of HT_.out pmBx16_14_) (fun _ _ _ h => h) (Or.inl ⟨by rfl, ?_⟩) ?_ ?_
                        rotate_left
                        · intro w'
                          go_simp
                          with_reducible rfl
                        rotate_left
                        · simp only [Act.put, List.setIfInBounds_toArray, List.set_cons_zero, List.set_cons_succ, i64_w, i32_w]
                          rfl
                        refine pure_ (i := 14) (N := some 123) (v := ?_) (a' := ?_) #[true, true, true, true, true, true, true, true, true, true, false, false, true, false, true, false, false, false] rfl rfl (any_of HT_.out pmBx16_14_) (fun _ _ _ h => h) (Or.inl ⟨by rfl, ?_⟩) ?_ ?_
                        rotate_left
                        · intro w'
                          go_simp
                          with_reducible rfl
                        rotate_left
                        · simp only [Act.put, List.setIfInBounds_toArray, List.set_cons_zero, List.set_cons_succ, i64_w, i32_w]
                          rfl
                        refine take_ (i := 10) (N := some 119) (v := ?_) (a' := ?_) #[true, true, true, true, true, true, true, true, true, true, true, false, true, false, true, false, false, false] rfl rfl (take_ofW HT_.out HW_.out pmBx16_14_) (fun _ _ _ h => h) (Or.inl ⟨by rfl, ?_⟩) hHeld ?_ ?_
                        rotate_left
                        · rintro w' ⟨s0, s1, s2, s3⟩
                          go_simp
                          with_reducible rfl
                        rotate_left
                        · simp only [Act.put, List.setIfInBounds_toArray, List.set_cons_zero, List.set_cons_succ, i64_w, i32_w]
                          rfl
                        refine take_ (i := 11) (N := some 120) (v := ?_) (a' := ?_) #[true, true, true, true, true, true, true, true, true, true, true, true, true, false, true, false, false, false] rfl rfl (take_ofW HT_.out HW_.out pmBx16_14_) (fun _ _ _ h => h) (Or.inl ⟨by rfl, ?_⟩) hHeld ?_ ?_
                        rotate_left
                        · rintro w' ⟨s0, s1, s2, s3⟩
                          go_simp
                          with_reducible rfl
                        rotate_left
                        · simp only [Act.put, List.setIfInBounds_toArray, List.set_cons_zero, List.set_cons_succ, i64_w, i32_w]
                          rfl
                        refine take_ (i := 15) (N := some 124) (v := ?_) (a' := ?_) #[true, true, true, true, true, true, true, true, true, true, true, true, true, false, true, true, false, false] rfl rfl (take_ofW HT_.out HW_.out pmBx16_14_) (fun _ _ _ h => h) (Or.inl ⟨by rfl, ?_⟩) hHeld ?_ ?_
                        rotate_left
                        · rintro w' ⟨s0, s1, s2, s3⟩
                          go_simp
                          with_reducible rfl
                        rotate_left
                        · simp only [Act.put, List.setIfInBounds_toArray, List.set_cons_zero, List.set_cons_succ, i64_w, i32_w]
                          rfl
                        refine one_ (i := 13) (N := some 122) #[true, true, true, true, true, true, true, true, true, true, true, true, true, true, true, true, false, false] rfl rfl (one_of HT_.out pmBx16_14_) (by decide) (fun K hK => ?_)
                        refine goes_ Try.func8 pmBx16_14_ rfl #[.int .i64 a0, .int .i64 t317, .agg #[.bool a2_0, .int .i64 a2_1], .agg #[.bool a3_0, .int .i64 a3_1], .int .i64 a5] (by rfl) rfl rfl pmBx16_4_ ?_
                        with_reducible refine (self_Place.calls kj190 a0 t317 a2_0 a2_1 a3_0 a3_1 a5 t319 _ A230.out).mono ?_
                        rintro e w249 ⟨rfl, hb⟩
                        refine ⟨_, rfl, ?_⟩
                        have n0_ := Aside0.mk (blk_below (g := gb302) (o := .cells #[.bool a2_0, .int .i64 a2_1] 23 (0, 0)) pmBx16_1_ hb)
                        have n1_ := Aside0.mk (blk_below (g := gb303) (o := .cells #[.bool a3_0, .int .i64 a3_1] 23 (0, 0)) pmBx16_2_ hb)
                        have n2_ := Aside0.mk (blk_below (g := gb304) (o := .cells #[.int .i64 a4_0, .int .i64 a4_1] 46 (0, 0)) pmBx16_3_ hb)
                        have n3_ := Aside0.mk (blk_below (g := gb315) (o := .cells #[.int .i64 1, .int .i64 0] 31 (0, 0)) pmBx16_11_ hb)
                        have n4_ := Aside0.mk (blk_below (g := gb316) (o := .cells #[.int .i64 7, .int .i64 0] 31 (0, 0)) pmBx16_12_ hb)
                        have n5_ := Aside0.mk (below_step pmBx16_5_ hb)
                        clear BK302
                        clear BK303
                        clear BK304
                        clear BK315
                        clear BK316
                        clear HB
                        have BK302 := n0_
                        have BK303 := n1_
                        have BK304 := n2_
                        have BK315 := n3_
                        have BK316 := n4_
                        have HB := n5_
                        clear n0_ n1_ n2_ n3_ n4_ n5_
                        (try clear hb)
                        (try clear hb2)
                        (try clear hk)
                        (try clear hi)
                        refine hK.out _ _ ⟨(blk_cell BK302.out 0).trans rfl, (blk_cell BK302.out 1).trans rfl, (blk_cell BK303.out 0).trans rfl, (blk_cell BK303.out 1).trans rfl⟩ (fun hHeld => ?_)
                        clear hK K
                        refine norm_ (a' := ?_) ?_ ?_
                        rotate_left
                        · show Act.put _ (some 122) _ = _
                          simp only [Act.put, List.setIfInBounds_toArray, List.set_cons_zero, List.set_cons_succ, i64_w, i32_w]
                          rfl
                        refine pure_ (i := 16) (N := some 125) (v := ?_) (a' := ?_) #[true, true, true, true, true, true, true, true, true, true, true, true, true, true, true, true, true, false] rfl rfl (any_of HT_.out pmBx16_14_) (fun _ _ _ h => h) (Or.inl ⟨by rfl, ?_⟩) ?_ ?_
                        rotate_left
                        · intro w'
                          go_simp
                          with_reducible rfl
                        rotate_left
                        · simp only [Act.put, List.setIfInBounds_toArray, List.set_cons_zero, List.set_cons_succ, i64_w, i32_w]
                          rfl
                        refine pure_ (i := 17) (N := some 126) (v := ?_) (a' := ?_) #[true, true, true, true, true, true, true, true, true, true, true, true, true, true, true, true, true, true] rfl rfl (any_of HT_.out pmBx16_14_) (fun _ _ _ h => h) (Or.inl ⟨by rfl, ?_⟩) ?_ ?_
                        rotate_left
                        · intro w'
                          go_simp
                          with_reducible rfl
                        rotate_left
                        · simp only [Act.put, List.setIfInBounds_toArray, List.set_cons_zero, List.set_cons_succ, i64_w, i32_w]
                          rfl
                        refine done_ (done_of HT_.out pmBx16_14_) ?_
                        try go_wp2
                        go_meet
                        case rel => exact ⟨_, H', ⟨by have := HJ6.out; have := HJ190.out; first | omega | exact Nat.le_refl _⟩, ⟨pmBx16_1_⟩, ⟨pmBx16_2_⟩, ⟨pmBx16_3_⟩, ⟨pmBx16_11_⟩, ⟨pmBx16_12_⟩, ⟨pmBx16_5_⟩⟩
                    · rw [if_neg c231] at H
                      have c231b0 : (t319 == a2_1) = false := beq_eq_false_iff_ne.mpr c231
                      have c231b1 : (t319 != a2_1) = true := bne_iff_ne.mpr c231
                      obtain rfl := Option.some.inj H
                      have hnb250 := NB315_302.out
                      have hnc250 := NB302_315.out
                      have hnb251 := NB315_303.out
                      have hnc251 := NB303_315.out
                      have hnb252 := NB315_304.out
                      have hnc252 := NB304_315.out
                      have hnb253 := NB315_316.out
                      have hnc253 := NB316_315.out
                      have hcz254_0 : wc.cell? ⟨gb315, 0, none⟩ = some (.int .i64 1) := (blk_cell BK315.out 0).trans rfl
                      have hcz254_1 : wc.cell? ⟨gb315, 1, none⟩ = some (.int .i64 0) := (blk_cell BK315.out 1).trans rfl
                      have hfz254_0 := blk_frozen BK315.out 0
                      have hfz254_1 := blk_frozen BK315.out 1
                      have hnb255 := NB316_302.out
                      have hnc255 := NB302_316.out
                      have hnb256 := NB316_303.out
                      have hnc256 := NB303_316.out
                      have hnb257 := NB316_304.out
                      have hnc257 := NB304_316.out
                      have hcz258_0 : wc.cell? ⟨gb316, 0, none⟩ = some (.int .i64 7) := (blk_cell BK316.out 0).trans rfl
                      have hcz258_1 : wc.cell? ⟨gb316, 1, none⟩ = some (.int .i64 0) := (blk_cell BK316.out 1).trans rfl
                      have hfz258_0 := blk_frozen BK316.out 0
                      have hfz258_1 := blk_frozen BK316.out 1
                      have hnb259 := NB302_303.out
                      have hnc259 := NB303_302.out
                      have hnb260 := NB302_304.out
                      have hnc260 := NB304_302.out
                      have hcz261_0 : wc.cell? ⟨gb302, 0, none⟩ = some (.bool a2_0) := (blk_cell BK302.out 0).trans rfl
                      have hcz261_1 : wc.cell? ⟨gb302, 1, none⟩ = some (.int .i64 a2_1) := (blk_cell BK302.out 1).trans rfl
                      have hfz261_0 := blk_frozen BK302.out 0
                      have hfz261_1 := blk_frozen BK302.out 1
                      have hnb262 := NB303_304.out
                      have hnc262 := NB304_303.out
                      have hcz263_0 : wc.cell? ⟨gb303, 0, none⟩ = some (.bool a3_0) := (blk_cell BK303.out 0).trans rfl
                      have hcz263_1 : wc.cell? ⟨gb303, 1, none⟩ = some (.int .i64 a3_1) := (blk_cell BK303.out 1).trans rfl
                      have hfz263_0 := blk_frozen BK303.out 0
                      have hfz263_1 := blk_frozen BK303.out 1
                      have hcz264_0 : wc.cell? ⟨gb304, 0, none⟩ = some (.int .i64 a4_0) := (blk_cell BK304.out 0).trans rfl
                      have hcz264_1 : wc.cell? ⟨gb304, 1, none⟩ = some (.int .i64 a4_1) := (blk_cell BK304.out 1).trans rfl
                      have hfz264_0 := blk_frozen BK304.out 0
                      have hfz264_1 := blk_frozen BK304.out 1
                      as_aux_lemma =>
                        try go_wp2_with (first | ((with_reducible refine gate_callee (f := 17) rfl ?_); refine goesL_ (some 106) rfl rfl Try.func17 pmBx16_14_ rfl #[.agg #[.int .i64 1, .int .i64 0], .agg #[.int .i64 1, .int .i64 0], .agg #[.int .i64 7, .int .i64 0], .int .i64 a0, .agg #[.bool a2_0, .int .i64 a2_1], .agg #[.bool a3_0, .int .i64 a3_1], .agg #[.int .i64 a4_0, .int .i64 a4_1], .bool true] rfl pmBx16_4_ ?_; (with_reducible refine (self_Used.calls kj190 1 0 1 0 7 0 a0 a2_0 a2_1 a3_0 a3_1 a4_0 a4_1 true t317 t318 _ A227.out).mono ?_); rintro e w265 ⟨rfl, hb⟩; refine ⟨_, rfl, ?_⟩; have n0_ := Aside0.mk (blk_below (g := gb302) (o := .cells #[.bool a2_0, .int .i64 a2_1] 23 (0, 0)) pmBx16_1_ hb); have n1_ := Aside0.mk (blk_below (g := gb303) (o := .cells #[.bool a3_0, .int .i64 a3_1] 23 (0, 0)) pmBx16_2_ hb); have n2_ := Aside0.mk (blk_below (g := gb304) (o := .cells #[.int .i64 a4_0, .int .i64 a4_1] 46 (0, 0)) pmBx16_3_ hb); have n3_ := Aside0.mk (blk_below (g := gb315) (o := .cells #[.int .i64 1, .int .i64 0] 31 (0, 0)) pmBx16_11_ hb); have n4_ := Aside0.mk (blk_below (g := gb316) (o := .cells #[.int .i64 7, .int .i64 0] 31 (0, 0)) pmBx16_12_ hb); have n5_ := Aside0.mk (below_step pmBx16_5_ hb); clear BK302; clear BK303; clear BK304; clear BK315; clear BK316; clear HB; have BK302 := n0_; have BK303 := n1_; have BK304 := n2_; have BK315 := n3_; have BK316 := n4_; have HB := n5_; clear n0_ n1_ n2_ n3_ n4_ n5_; (try clear hb); (try clear hb2); (try clear hk); (try clear hi)))
                        have n0_ := Aside0.mk (blk_drew BK302.out)
                        have n1_ := Aside0.mk (blk_drew BK303.out)
                        have n2_ := Aside0.mk (blk_drew BK304.out)
                        have n3_ := Aside0.mk (blk_drew BK315.out)
                        have n4_ := Aside0.mk (blk_drew BK316.out)
                        have n5_ := Aside0.mk (below_drew1 HB.out)
                        clear BK302
                        clear BK303
                        clear BK304
                        clear BK315
                        clear BK316
                        clear HB
                        have BK302 := n0_
                        have BK303 := n1_
                        have BK304 := n2_
                        have BK315 := n3_
                        have BK316 := n4_
                        have HB := n5_
                        clear n0_ n1_ n2_ n3_ n4_ n5_
                        refine start_ (n := 18) (S := fun w' => w'.cell? ⟨gb302, 0, none⟩ = some (.bool a2_0) ∧ w'.cell? ⟨gb302, 1, none⟩ = some (.int .i64 a2_1) ∧ w'.cell? ⟨gb303, 0, none⟩ = some (.bool a3_0) ∧ w'.cell? ⟨gb303, 1, none⟩ = some (.int .i64 a3_1)) (ds := []) #[false, false, false, false, false, false, false, false, false, false, false, false, false, false, false, false, false, false] pmBx16_14_ rfl rfl ⟨(blk_cell BK302.out 0).trans rfl, (blk_cell BK302.out 1).trans rfl, (blk_cell BK303.out 0).trans rfl, (blk_cell BK303.out 1).trans rfl⟩ (fun hHeld => ?_); refine with_tabW parterrelaw29_SelfFits.tab7 parterrelaw29_SelfFits.bits7 (fun HT_ HW_ => ?_)
                        generalize w265.drew = w266 at BK302 BK303 BK304 BK315 BK316 HB hHeld ⊢
                        refine pure_ (i := 0) (N := some 109) (v := ?_) (a' := ?_) #[true, false, false, false, false, false, false, false, false, false, false, false, false, false, false, false, false, false] rfl rfl (any_of HT_.out pmBx16_14_) (fun _ _ _ h => h) (Or.inl ⟨by rfl, ?_⟩) ?_ ?_
                        rotate_left
                        · intro w'
                          go_simp
                          with_reducible rfl
                        rotate_left
                        · simp only [Act.put, List.setIfInBounds_toArray, List.set_cons_zero, List.set_cons_succ, i64_w, i32_w]
                          rfl
                        refine pure_ (i := 1) (N := some 110) (v := ?_) (a' := ?_) #[true, true, false, false, false, false, false, false, false, false, false, false, false, false, false, false, false, false] rfl rfl (any_of HT_.out pmBx16_14_) (fun _ _ _ h => h) (Or.inl ⟨by rfl, ?_⟩) ?_ ?_
                        rotate_left
                        · intro w'
                          go_simp
                          with_reducible rfl
                        rotate_left
                        · simp only [Act.put, List.setIfInBounds_toArray, List.set_cons_zero, List.set_cons_succ, i64_w, i32_w]
                          rfl
                        refine pure_ (i := 2) (N := some 111) (v := ?_) (a' := ?_) #[true, true, true, false, false, false, false, false, false, false, false, false, false, false, false, false, false, false] rfl rfl (any_of HT_.out pmBx16_14_) (fun _ _ _ h => h) (Or.inl ⟨by rfl, ?_⟩) ?_ ?_
                        rotate_left
                        · intro w'
                          go_simp
                          with_reducible rfl
                        rotate_left
                        · simp only [Act.put, List.setIfInBounds_toArray, List.set_cons_zero, List.set_cons_succ, i64_w, i32_w]
                          rfl
                        refine pure_ (i := 3) (N := some 112) (v := ?_) (a' := ?_) #[true, true, true, true, false, false, false, false, false, false, false, false, false, false, false, false, false, false] rfl rfl (any_of HT_.out pmBx16_14_) (fun _ _ _ h => h) (Or.inl ⟨by rfl, ?_⟩) ?_ ?_
                        rotate_left
                        · intro w'
                          go_simp
                          with_reducible rfl
                        rotate_left
                        · simp only [Act.put, List.setIfInBounds_toArray, List.set_cons_zero, List.set_cons_succ, i64_w, i32_w]
                          rfl
                        refine pure_ (i := 4) (N := some 113) (v := ?_) (a' := ?_) #[true, true, true, true, true, false, false, false, false, false, false, false, false, false, false, false, false, false] rfl rfl (any_of HT_.out pmBx16_14_) (fun _ _ _ h => h) (Or.inl ⟨by rfl, ?_⟩) ?_ ?_
                        rotate_left
                        · intro w'
                          go_simp
                          with_reducible rfl
                        rotate_left
                        · simp only [Act.put, List.setIfInBounds_toArray, List.set_cons_zero, List.set_cons_succ, i64_w, i32_w]
                          rfl
                        refine pure_ (i := 5) (N := some 114) (v := ?_) (a' := ?_) #[true, true, true, true, true, true, false, false, false, false, false, false, false, false, false, false, false, false] rfl rfl (any_of HT_.out pmBx16_14_) (fun _ _ _ h => h) (Or.inl ⟨by rfl, ?_⟩) ?_ ?_
                        rotate_left
                        · intro w'
                          go_simp
                          with_reducible rfl
                        rotate_left
                        · simp only [Act.put, List.setIfInBounds_toArray, List.set_cons_zero, List.set_cons_succ, i64_w, i32_w]
                          rfl
                        refine pure_ (i := 6) (N := some 115) (v := ?_) (a' := ?_) #[true, true, true, true, true, true, true, false, false, false, false, false, false, false, false, false, false, false] rfl rfl (any_of HT_.out pmBx16_14_) (fun _ _ _ h => h) (Or.inl ⟨by rfl, ?_⟩) ?_ ?_
                        rotate_left
                        · intro w'
                          go_simp
                          with_reducible rfl
                        rotate_left
                        · simp only [Act.put, List.setIfInBounds_toArray, List.set_cons_zero, List.set_cons_succ, i64_w, i32_w]
                          rfl
                        refine pure_ (i := 7) (N := some 116) (v := ?_) (a' := ?_) #[true, true, true, true, true, true, true, true, false, false, false, false, false, false, false, false, false, false] rfl rfl (any_of HT_.out pmBx16_14_) (fun _ _ _ h => h) (Or.inl ⟨by rfl, ?_⟩) ?_ ?_
                        rotate_left
                        · intro w'
                          go_simp
                          with_reducible rfl
                        rotate_left
                        · simp only [Act.put, List.setIfInBounds_toArray, List.set_cons_zero, List.set_cons_succ, i64_w, i32_w]
                          rfl
                        refine pure_ (i := 8) (N := some 117) (v := ?_) (a' := ?_) #[true, true, true, true, true, true, true, true, true, false, false, false, false, false, false, false, false, false] rfl rfl (any_of HT_.out pmBx16_14_) (fun _ _ _ h => h) (Or.inl ⟨by rfl, ?_⟩) ?_ ?_
                        rotate_left
                        · intro w'
                          go_simp
                          with_reducible rfl
                        rotate_left
                        · simp only [Act.put, List.setIfInBounds_toArray, List.set_cons_zero, List.set_cons_succ, i64_w, i32_w]
                          rfl
                        refine pure_ (i := 9) (N := some 118) (v := ?_) (a' := ?_) #[true, true, true, true, true, true, true, true, true, true, false, false, false, false, false, false, false, false] rfl rfl (any_of HT_.out pmBx16_14_) (fun _ _ _ h => h) (Or.inl ⟨by rfl, ?_⟩) ?_ ?_
                        rotate_left
                        · intro w'
                          go_simp
                          with_reducible rfl
                        rotate_left
                        · simp only [Act.put, List.setIfInBounds_toArray, List.set_cons_zero, List.set_cons_succ, i64_w, i32_w]
                          rfl
                        refine pure_ (i := 12) (N := some 121) (v := ?_) (a' := ?_) #[true, true, true, true, true, true, true, true, true, true, false, false, true, false, false, false, false, false] rfl rfl (any_of HT_.out pmBx16_14_) (fun _ _ _ h => h) (Or.inl ⟨by rfl, ?_⟩) ?_ ?_
                        rotate_left
                        · intro w'
                          go_simp
                          with_reducible rfl
                        rotate_left
                        · simp only [Act.put, List.setIfInBounds_toArray, List.set_cons_zero, List.set_cons_succ, i64_w, i32_w]
                          rfl
                        refine pure_ (i := 14) (N := some 123) (v := ?_) (a' := ?_) #[true, true, true, true, true, true, true, true, true, true, false, false, true, false, true, false, false, false] rfl rfl (any_of HT_.out pmBx16_14_) (fun _ _ _ h => h) (Or.inl ⟨by rfl, ?_⟩) ?_ ?_
                        rotate_left
                        · intro w'
                          go_simp
                          with_reducible rfl
                        rotate_left
                        · simp only [Act.put, List.setIfInBounds_toArray, List.set_cons_zero, List.set_cons_succ, i64_w, i32_w]
                          rfl
                        refine take_ (i := 10) (N := some 119) (v := ?_) (a' := ?_) #[true, true, true, true, true, true, true, true, true, true, true, false, true, false, true, false, false, false] rfl rfl (take_ofW HT_.out HW_.out pmBx16_14_) (fun _ _ _ h => h) (Or.inl ⟨by rfl, ?_⟩) hHeld ?_ ?_
                        rotate_left
                        · rintro w' ⟨s0, s1, s2, s3⟩
                          go_simp
                          with_reducible rfl
                        rotate_left
                        · simp only [Act.put, List.setIfInBounds_toArray, List.set_cons_zero, List.set_cons_succ, i64_w, i32_w]
                          rfl
                        refine take_ (i := 11) (N := some 120) (v := ?_) (a' := ?_) #[true, true, true, true, true, true, true, true, true, true, true, true, true, false, true, false, false, false] rfl rfl (take_ofW HT_.out HW_.out pmBx16_14_) (fun _ _ _ h => h) (Or.inl ⟨by rfl, ?_⟩) hHeld ?_ ?_
                        rotate_left
                        · rintro w' ⟨s0, s1, s2, s3⟩
                          go_simp
                          with_reducible rfl
                        rotate_left
                        · simp only [Act.put, List.setIfInBounds_toArray, List.set_cons_zero, List.set_cons_succ, i64_w, i32_w]
                          rfl
                        refine take_ (i := 15) (N := some 124) (v := ?_) (a' := ?_) #[true, true, true, true, true, true, true, true, true, true, true, true, true, false, true, true, false, false] rfl rfl (take_ofW HT_.out HW_.out pmBx16_14_) (fun _ _ _ h => h) (Or.inl ⟨by rfl, ?_⟩) hHeld ?_ ?_
                        rotate_left
                        · rintro w' ⟨s0, s1, s2, s3⟩
                          go_simp
                          with_reducible rfl
                        rotate_left
                        · simp only [Act.put, List.setIfInBounds_toArray, List.set_cons_zero, List.set_cons_succ, i64_w, i32_w]
                          rfl
                        refine one_ (i := 13) (N := some 122) #[true, true, true, true, true, true, true, true, true, true, true, true, true, true, true, true, false, false] rfl rfl (one_of HT_.out pmBx16_14_) (by decide) (fun K hK => ?_)
                        refine goes_ Try.func8 pmBx16_14_ rfl #[.int .i64 a0, .int .i64 t317, .agg #[.bool a2_0, .int .i64 a2_1], .agg #[.bool a3_0, .int .i64 a3_1], .int .i64 a5] (by rfl) rfl rfl pmBx16_4_ ?_
                        with_reducible refine (self_Place.calls kj190 a0 t317 a2_0 a2_1 a3_0 a3_1 a5 t319 _ A230.out).mono ?_
                        rintro e w267 ⟨rfl, hb⟩
                        refine ⟨_, rfl, ?_⟩
                        have n0_ := Aside0.mk (blk_below (g := gb302) (o := .cells #[.bool a2_0, .int .i64 a2_1] 23 (0, 0)) pmBx16_1_ hb)
                        have n1_ := Aside0.mk (blk_below (g := gb303) (o := .cells #[.bool a3_0, .int .i64 a3_1] 23 (0, 0)) pmBx16_2_ hb)
                        have n2_ := Aside0.mk (blk_below (g := gb304) (o := .cells #[.int .i64 a4_0, .int .i64 a4_1] 46 (0, 0)) pmBx16_3_ hb)
                        have n3_ := Aside0.mk (blk_below (g := gb315) (o := .cells #[.int .i64 1, .int .i64 0] 31 (0, 0)) pmBx16_11_ hb)
                        have n4_ := Aside0.mk (blk_below (g := gb316) (o := .cells #[.int .i64 7, .int .i64 0] 31 (0, 0)) pmBx16_12_ hb)
                        have n5_ := Aside0.mk (below_step pmBx16_5_ hb)
                        clear BK302
                        clear BK303
                        clear BK304
                        clear BK315
                        clear BK316
                        clear HB
                        have BK302 := n0_
                        have BK303 := n1_
                        have BK304 := n2_
                        have BK315 := n3_
                        have BK316 := n4_
                        have HB := n5_
                        clear n0_ n1_ n2_ n3_ n4_ n5_
                        (try clear hb)
                        (try clear hb2)
                        (try clear hk)
                        (try clear hi)
                        refine hK.out _ _ ⟨(blk_cell BK302.out 0).trans rfl, (blk_cell BK302.out 1).trans rfl, (blk_cell BK303.out 0).trans rfl, (blk_cell BK303.out 1).trans rfl⟩ (fun hHeld => ?_)
                        clear hK K
                        refine norm_ (a' := ?_) ?_ ?_
                        rotate_left
                        · show Act.put _ (some 122) _ = _
                          simp only [Act.put, List.setIfInBounds_toArray, List.set_cons_zero, List.set_cons_succ, i64_w, i32_w]
                          rfl
                        refine pure_ (i := 16) (N := some 125) (v := ?_) (a' := ?_) #[true, true, true, true, true, true, true, true, true, true, true, true, true, true, true, true, true, false] rfl rfl (any_of HT_.out pmBx16_14_) (fun _ _ _ h => h) (Or.inl ⟨by rfl, ?_⟩) ?_ ?_
                        rotate_left
                        · intro w'
                          go_simp
                          with_reducible rfl
                        rotate_left
                        · simp only [Act.put, List.setIfInBounds_toArray, List.set_cons_zero, List.set_cons_succ, i64_w, i32_w]
                          rfl
                        refine pure_ (i := 17) (N := some 126) (v := ?_) (a' := ?_) #[true, true, true, true, true, true, true, true, true, true, true, true, true, true, true, true, true, true] rfl rfl (any_of HT_.out pmBx16_14_) (fun _ _ _ h => h) (Or.inl ⟨by rfl, ?_⟩) ?_ ?_
                        rotate_left
                        · intro w'
                          go_simp
                          with_reducible rfl
                        rotate_left
                        · simp only [Act.put, List.setIfInBounds_toArray, List.set_cons_zero, List.set_cons_succ, i64_w, i32_w]
                          rfl
                        refine done_ (done_of HT_.out pmBx16_14_) ?_
                        try go_wp2
                        go_ret
                        exact ⟨by first | rfl | (simp [errW_none, errW_some] <;> rfl) | (simp [*, errW_none, errW_some] <;> rfl), by repeat (first | (with_reducible first | exact HB.out | apply below_alloc | apply pw_below_drewN | apply below_drew1 | refine below_set ?_ GE302.out | refine below_set ?_ GE303.out | refine below_set ?_ GE304.out | refine below_set ?_ GE315.out | refine below_set ?_ GE316.out) | exact HB.out)⟩
                  · rw [if_neg c229] at H
                    have c229b0 : (t317 == (wrap64 ((wrap64 (a0 - a2_1)) - a3_1))) = false := beq_eq_false_iff_ne.mpr c229
                    have c229b1 : (t317 != (wrap64 ((wrap64 (a0 - a2_1)) - a3_1))) = true := bne_iff_ne.mpr c229
                    obtain rfl := Option.some.inj H
                    have hnb268 := NB315_302.out
                    have hnc268 := NB302_315.out
                    have hnb269 := NB315_303.out
                    have hnc269 := NB303_315.out
                    have hnb270 := NB315_304.out
                    have hnc270 := NB304_315.out
                    have hnb271 := NB315_316.out
                    have hnc271 := NB316_315.out
                    have hcz272_0 : wc.cell? ⟨gb315, 0, none⟩ = some (.int .i64 1) := (blk_cell BK315.out 0).trans rfl
                    have hcz272_1 : wc.cell? ⟨gb315, 1, none⟩ = some (.int .i64 0) := (blk_cell BK315.out 1).trans rfl
                    have hfz272_0 := blk_frozen BK315.out 0
                    have hfz272_1 := blk_frozen BK315.out 1
                    have hnb273 := NB316_302.out
                    have hnc273 := NB302_316.out
                    have hnb274 := NB316_303.out
                    have hnc274 := NB303_316.out
                    have hnb275 := NB316_304.out
                    have hnc275 := NB304_316.out
                    have hcz276_0 : wc.cell? ⟨gb316, 0, none⟩ = some (.int .i64 7) := (blk_cell BK316.out 0).trans rfl
                    have hcz276_1 : wc.cell? ⟨gb316, 1, none⟩ = some (.int .i64 0) := (blk_cell BK316.out 1).trans rfl
                    have hfz276_0 := blk_frozen BK316.out 0
                    have hfz276_1 := blk_frozen BK316.out 1
                    have hnb277 := NB302_303.out
                    have hnc277 := NB303_302.out
                    have hnb278 := NB302_304.out
                    have hnc278 := NB304_302.out
                    have hcz279_0 : wc.cell? ⟨gb302, 0, none⟩ = some (.bool a2_0) := (blk_cell BK302.out 0).trans rfl
                    have hcz279_1 : wc.cell? ⟨gb302, 1, none⟩ = some (.int .i64 a2_1) := (blk_cell BK302.out 1).trans rfl
                    have hfz279_0 := blk_frozen BK302.out 0
                    have hfz279_1 := blk_frozen BK302.out 1
                    have hnb280 := NB303_304.out
                    have hnc280 := NB304_303.out
                    have hcz281_0 : wc.cell? ⟨gb303, 0, none⟩ = some (.bool a3_0) := (blk_cell BK303.out 0).trans rfl
                    have hcz281_1 : wc.cell? ⟨gb303, 1, none⟩ = some (.int .i64 a3_1) := (blk_cell BK303.out 1).trans rfl
                    have hfz281_0 := blk_frozen BK303.out 0
                    have hfz281_1 := blk_frozen BK303.out 1
                    have hcz282_0 : wc.cell? ⟨gb304, 0, none⟩ = some (.int .i64 a4_0) := (blk_cell BK304.out 0).trans rfl
                    have hcz282_1 : wc.cell? ⟨gb304, 1, none⟩ = some (.int .i64 a4_1) := (blk_cell BK304.out 1).trans rfl
                    have hfz282_0 := blk_frozen BK304.out 0
                    have hfz282_1 := blk_frozen BK304.out 1
                    as_aux_lemma =>
                      try go_wp2_with (first | ((with_reducible refine gate_callee (f := 17) rfl ?_); refine goesL_ (some 106) rfl rfl Try.func17 pmBx16_14_ rfl #[.agg #[.int .i64 1, .int .i64 0], .agg #[.int .i64 1, .int .i64 0], .agg #[.int .i64 7, .int .i64 0], .int .i64 a0, .agg #[.bool a2_0, .int .i64 a2_1], .agg #[.bool a3_0, .int .i64 a3_1], .agg #[.int .i64 a4_0, .int .i64 a4_1], .bool true] rfl pmBx16_4_ ?_; (with_reducible refine (self_Used.calls kj190 1 0 1 0 7 0 a0 a2_0 a2_1 a3_0 a3_1 a4_0 a4_1 true t317 t318 _ A227.out).mono ?_); rintro e w283 ⟨rfl, hb⟩; refine ⟨_, rfl, ?_⟩; have n0_ := Aside0.mk (blk_below (g := gb302) (o := .cells #[.bool a2_0, .int .i64 a2_1] 23 (0, 0)) pmBx16_1_ hb); have n1_ := Aside0.mk (blk_below (g := gb303) (o := .cells #[.bool a3_0, .int .i64 a3_1] 23 (0, 0)) pmBx16_2_ hb); have n2_ := Aside0.mk (blk_below (g := gb304) (o := .cells #[.int .i64 a4_0, .int .i64 a4_1] 46 (0, 0)) pmBx16_3_ hb); have n3_ := Aside0.mk (blk_below (g := gb315) (o := .cells #[.int .i64 1, .int .i64 0] 31 (0, 0)) pmBx16_11_ hb); have n4_ := Aside0.mk (blk_below (g := gb316) (o := .cells #[.int .i64 7, .int .i64 0] 31 (0, 0)) pmBx16_12_ hb); have n5_ := Aside0.mk (below_step pmBx16_5_ hb); clear BK302; clear BK303; clear BK304; clear BK315; clear BK316; clear HB; have BK302 := n0_; have BK303 := n1_; have BK304 := n2_; have BK315 := n3_; have BK316 := n4_; have HB := n5_; clear n0_ n1_ n2_ n3_ n4_ n5_; (try clear hb); (try clear hb2); (try clear hk); (try clear hi)))
                      have n0_ := Aside0.mk (blk_drew BK302.out)
                      have n1_ := Aside0.mk (blk_drew BK303.out)
                      have n2_ := Aside0.mk (blk_drew BK304.out)
                      have n3_ := Aside0.mk (blk_drew BK315.out)
                      have n4_ := Aside0.mk (blk_drew BK316.out)
                      have n5_ := Aside0.mk (below_drew1 HB.out)
                      clear BK302
                      clear BK303
                      clear BK304
                      clear BK315
                      clear BK316
                      clear HB
                      have BK302 := n0_
                      have BK303 := n1_
                      have BK304 := n2_
                      have BK315 := n3_
                      have BK316 := n4_
                      have HB := n5_
                      clear n0_ n1_ n2_ n3_ n4_ n5_
                      refine start_ (n := 18) (S := fun w' => True) (ds := []) #[false, false, false, false, false, false, false, false, false, false, false, false, false, false, false, false, false, false] pmBx16_14_ rfl rfl trivial (fun hHeld => ?_); refine with_tabW parterrelaw29_SelfFits.tab7 parterrelaw29_SelfFits.bits7 (fun HT_ HW_ => ?_)
                      generalize w283.drew = w284 at BK302 BK303 BK304 BK315 BK316 HB hHeld ⊢
                      refine pure_ (i := 0) (N := some 109) (v := ?_) (a' := ?_) #[true, false, false, false, false, false, false, false, false, false, false, false, false, false, false, false, false, false] rfl rfl (any_of HT_.out pmBx16_14_) (fun _ _ _ h => h) (Or.inl ⟨by rfl, ?_⟩) ?_ ?_
                      rotate_left
                      · intro w'
                        go_simp
                        with_reducible rfl
                      rotate_left
                      · simp only [Act.put, List.setIfInBounds_toArray, List.set_cons_zero, List.set_cons_succ, i64_w, i32_w]
                        rfl
                      refine pure_ (i := 1) (N := some 110) (v := ?_) (a' := ?_) #[true, true, false, false, false, false, false, false, false, false, false, false, false, false, false, false, false, false] rfl rfl (any_of HT_.out pmBx16_14_) (fun _ _ _ h => h) (Or.inl ⟨by rfl, ?_⟩) ?_ ?_
                      rotate_left
                      · intro w'
                        go_simp
                        with_reducible rfl
                      rotate_left
                      · simp only [Act.put, List.setIfInBounds_toArray, List.set_cons_zero, List.set_cons_succ, i64_w, i32_w]
                        rfl
                      refine pure_ (i := 2) (N := some 111) (v := ?_) (a' := ?_) #[true, true, true, false, false, false, false, false, false, false, false, false, false, false, false, false, false, false] rfl rfl (any_of HT_.out pmBx16_14_) (fun _ _ _ h => h) (Or.inl ⟨by rfl, ?_⟩) ?_ ?_
                      rotate_left
                      · intro w'
                        go_simp
                        with_reducible rfl
                      rotate_left
                      · simp only [Act.put, List.setIfInBounds_toArray, List.set_cons_zero, List.set_cons_succ, i64_w, i32_w]
                        rfl
                      refine pure_ (i := 3) (N := some 112) (v := ?_) (a' := ?_) #[true, true, true, true, false, false, false, false, false, false, false, false, false, false, false, false, false, false] rfl rfl (any_of HT_.out pmBx16_14_) (fun _ _ _ h => h) (Or.inl ⟨by rfl, ?_⟩) ?_ ?_
                      rotate_left
                      · intro w'
                        go_simp
                        with_reducible rfl
                      rotate_left
                      · simp only [Act.put, List.setIfInBounds_toArray, List.set_cons_zero, List.set_cons_succ, i64_w, i32_w]
                        rfl
                      refine pure_ (i := 4) (N := some 113) (v := ?_) (a' := ?_) #[true, true, true, true, true, false, false, false, false, false, false, false, false, false, false, false, false, false] rfl rfl (any_of HT_.out pmBx16_14_) (fun _ _ _ h => h) (Or.inl ⟨by rfl, ?_⟩) ?_ ?_
                      rotate_left
                      · intro w'
                        go_simp
                        with_reducible rfl
                      rotate_left
                      · simp only [Act.put, List.setIfInBounds_toArray, List.set_cons_zero, List.set_cons_succ, i64_w, i32_w]
                        rfl
                      refine pure_ (i := 5) (N := some 114) (v := ?_) (a' := ?_) #[true, true, true, true, true, true, false, false, false, false, false, false, false, false, false, false, false, false] rfl rfl (any_of HT_.out pmBx16_14_) (fun _ _ _ h => h) (Or.inl ⟨by rfl, ?_⟩) ?_ ?_
                      rotate_left
                      · intro w'
                        go_simp
                        with_reducible rfl
                      rotate_left
                      · simp only [Act.put, List.setIfInBounds_toArray, List.set_cons_zero, List.set_cons_succ, i64_w, i32_w]
                        rfl
                      refine pure_ (i := 6) (N := some 115) (v := ?_) (a' := ?_) #[true, true, true, true, true, true, true, false, false, false, false, false, false, false, false, false, false, false] rfl rfl (any_of HT_.out pmBx16_14_) (fun _ _ _ h => h) (Or.inl ⟨by rfl, ?_⟩) ?_ ?_
                      rotate_left
                      · intro w'
                        go_simp
                        with_reducible rfl
                      rotate_left
                      · simp only [Act.put, List.setIfInBounds_toArray, List.set_cons_zero, List.set_cons_succ, i64_w, i32_w]
                        rfl
                      refine pure_ (i := 7) (N := some 116) (v := ?_) (a' := ?_) #[true, true, true, true, true, true, true, true, false, false, false, false, false, false, false, false, false, false] rfl rfl (any_of HT_.out pmBx16_14_) (fun _ _ _ h => h) (Or.inl ⟨by rfl, ?_⟩) ?_ ?_
                      rotate_left
                      · intro w'
                        go_simp
                        with_reducible rfl
                      rotate_left
                      · simp only [Act.put, List.setIfInBounds_toArray, List.set_cons_zero, List.set_cons_succ, i64_w, i32_w]
                        rfl
                      refine pure_ (i := 8) (N := some 117) (v := undef) (a' := ?_) #[true, true, true, true, true, true, true, true, true, false, false, false, false, false, false, false, false, false] rfl rfl (any_of HT_.out pmBx16_14_) (fun _ _ _ h => h) (Or.inr ⟨by rfl, rfl⟩) ?_ ?_
                      rotate_left
                      · simp only [Act.put, List.setIfInBounds_toArray, List.set_cons_zero, List.set_cons_succ, i64_w, i32_w]
                        rfl
                      refine pure_ (i := 9) (N := some 118) (v := undef) (a' := ?_) #[true, true, true, true, true, true, true, true, true, true, false, false, false, false, false, false, false, false] rfl rfl (any_of HT_.out pmBx16_14_) (fun _ _ _ h => h) (Or.inr ⟨by rfl, rfl⟩) ?_ ?_
                      rotate_left
                      · simp only [Act.put, List.setIfInBounds_toArray, List.set_cons_zero, List.set_cons_succ, i64_w, i32_w]
                        rfl
                      refine pure_ (i := 10) (N := some 119) (v := undef) (a' := ?_) #[true, true, true, true, true, true, true, true, true, true, true, false, false, false, false, false, false, false] rfl rfl (any_of HT_.out pmBx16_14_) (fun _ _ _ h => h) (Or.inr ⟨by rfl, rfl⟩) ?_ ?_
                      rotate_left
                      · simp only [Act.put, List.setIfInBounds_toArray, List.set_cons_zero, List.set_cons_succ, i64_w, i32_w]
                        rfl
                      refine pure_ (i := 11) (N := some 120) (v := undef) (a' := ?_) #[true, true, true, true, true, true, true, true, true, true, true, true, false, false, false, false, false, false] rfl rfl (any_of HT_.out pmBx16_14_) (fun _ _ _ h => h) (Or.inr ⟨by rfl, rfl⟩) ?_ ?_
                      rotate_left
                      · simp only [Act.put, List.setIfInBounds_toArray, List.set_cons_zero, List.set_cons_succ, i64_w, i32_w]
                        rfl
                      refine pure_ (i := 12) (N := some 121) (v := undef) (a' := ?_) #[true, true, true, true, true, true, true, true, true, true, true, true, true, false, false, false, false, false] rfl rfl (any_of HT_.out pmBx16_14_) (fun _ _ _ h => h) (Or.inr ⟨by rfl, rfl⟩) ?_ ?_
                      rotate_left
                      · simp only [Act.put, List.setIfInBounds_toArray, List.set_cons_zero, List.set_cons_succ, i64_w, i32_w]
                        rfl
                      refine pure_ (i := 13) (N := some 122) (v := undef) (a' := ?_) #[true, true, true, true, true, true, true, true, true, true, true, true, true, true, false, false, false, false] rfl rfl (any_of HT_.out pmBx16_14_) (fun _ _ _ h => h) (Or.inr ⟨by rfl, rfl⟩) ?_ ?_
                      rotate_left
                      · simp only [Act.put, List.setIfInBounds_toArray, List.set_cons_zero, List.set_cons_succ, i64_w, i32_w]
                        rfl
                      refine pure_ (i := 14) (N := some 123) (v := undef) (a' := ?_) #[true, true, true, true, true, true, true, true, true, true, true, true, true, true, true, false, false, false] rfl rfl (any_of HT_.out pmBx16_14_) (fun _ _ _ h => h) (Or.inr ⟨by rfl, rfl⟩) ?_ ?_
                      rotate_left
                      · simp only [Act.put, List.setIfInBounds_toArray, List.set_cons_zero, List.set_cons_succ, i64_w, i32_w]
                        rfl
                      refine pure_ (i := 15) (N := some 124) (v := undef) (a' := ?_) #[true, true, true, true, true, true, true, true, true, true, true, true, true, true, true, true, false, false] rfl rfl (any_of HT_.out pmBx16_14_) (fun _ _ _ h => h) (Or.inr ⟨by rfl, rfl⟩) ?_ ?_
                      rotate_left
                      · simp only [Act.put, List.setIfInBounds_toArray, List.set_cons_zero, List.set_cons_succ, i64_w, i32_w]
                        rfl
                      refine pure_ (i := 16) (N := some 125) (v := undef) (a' := ?_) #[true, true, true, true, true, true, true, true, true, true, true, true, true, true, true, true, true, false] rfl rfl (any_of HT_.out pmBx16_14_) (fun _ _ _ h => h) (Or.inr ⟨by rfl, rfl⟩) ?_ ?_
                      rotate_left
                      · simp only [Act.put, List.setIfInBounds_toArray, List.set_cons_zero, List.set_cons_succ, i64_w, i32_w]
                        rfl
                      refine pure_ (i := 17) (N := some 126) (v := ?_) (a' := ?_) #[true, true, true, true, true, true, true, true, true, true, true, true, true, true, true, true, true, true] rfl rfl (any_of HT_.out pmBx16_14_) (fun _ _ _ h => h) (Or.inl ⟨by rfl, ?_⟩) ?_ ?_
                      rotate_left
                      · intro w'
                        go_simp
                        with_reducible rfl
                      rotate_left
                      · simp only [Act.put, List.setIfInBounds_toArray, List.set_cons_zero, List.set_cons_succ, i64_w, i32_w]
                        rfl
                      refine done_ (done_of HT_.out pmBx16_14_) ?_
                      try go_wp2
                      go_ret
                      exact ⟨by first | rfl | (simp [errW_none, errW_some] <;> rfl) | (simp [*, errW_none, errW_some] <;> rfl), by repeat (first | (with_reducible first | exact HB.out | apply below_alloc | apply pw_below_drewN | apply below_drew1 | refine below_set ?_ GE302.out | refine below_set ?_ GE303.out | refine below_set ?_ GE304.out | refine below_set ?_ GE315.out | refine below_set ?_ GE316.out) | exact HB.out)⟩
                · rw [if_neg c228] at H
                  have c228b0 : (t318 == 0) = false := beq_eq_false_iff_ne.mpr c228
                  have c228b1 : (t318 != 0) = true := bne_iff_ne.mpr c228
                  (first | rw [c228b0] | (simp only [i64_w, i32_w]; rw [c228b0]) | skip)
                  obtain rfl := Option.some.inj H
                  have hnb285 := NB315_302.out
                  have hnc285 := NB302_315.out
                  have hnb286 := NB315_303.out
                  have hnc286 := NB303_315.out
                  have hnb287 := NB315_304.out
                  have hnc287 := NB304_315.out
                  have hnb288 := NB315_316.out
                  have hnc288 := NB316_315.out
                  have hcz289_0 : wc.cell? ⟨gb315, 0, none⟩ = some (.int .i64 1) := (blk_cell BK315.out 0).trans rfl
                  have hcz289_1 : wc.cell? ⟨gb315, 1, none⟩ = some (.int .i64 0) := (blk_cell BK315.out 1).trans rfl
                  have hfz289_0 := blk_frozen BK315.out 0
                  have hfz289_1 := blk_frozen BK315.out 1
                  have hnb290 := NB316_302.out
                  have hnc290 := NB302_316.out
                  have hnb291 := NB316_303.out
                  have hnc291 := NB303_316.out
                  have hnb292 := NB316_304.out
                  have hnc292 := NB304_316.out
                  have hcz293_0 : wc.cell? ⟨gb316, 0, none⟩ = some (.int .i64 7) := (blk_cell BK316.out 0).trans rfl
                  have hcz293_1 : wc.cell? ⟨gb316, 1, none⟩ = some (.int .i64 0) := (blk_cell BK316.out 1).trans rfl
                  have hfz293_0 := blk_frozen BK316.out 0
                  have hfz293_1 := blk_frozen BK316.out 1
                  have hnb294 := NB302_303.out
                  have hnc294 := NB303_302.out
                  have hnb295 := NB302_304.out
                  have hnc295 := NB304_302.out
                  have hcz296_0 : wc.cell? ⟨gb302, 0, none⟩ = some (.bool a2_0) := (blk_cell BK302.out 0).trans rfl
                  have hcz296_1 : wc.cell? ⟨gb302, 1, none⟩ = some (.int .i64 a2_1) := (blk_cell BK302.out 1).trans rfl
                  have hfz296_0 := blk_frozen BK302.out 0
                  have hfz296_1 := blk_frozen BK302.out 1
                  have hnb297 := NB303_304.out
                  have hnc297 := NB304_303.out
                  have hcz298_0 : wc.cell? ⟨gb303, 0, none⟩ = some (.bool a3_0) := (blk_cell BK303.out 0).trans rfl
                  have hcz298_1 : wc.cell? ⟨gb303, 1, none⟩ = some (.int .i64 a3_1) := (blk_cell BK303.out 1).trans rfl
                  have hfz298_0 := blk_frozen BK303.out 0
                  have hfz298_1 := blk_frozen BK303.out 1
                  have hcz299_0 : wc.cell? ⟨gb304, 0, none⟩ = some (.int .i64 a4_0) := (blk_cell BK304.out 0).trans rfl
                  have hcz299_1 : wc.cell? ⟨gb304, 1, none⟩ = some (.int .i64 a4_1) := (blk_cell BK304.out 1).trans rfl
                  have hfz299_0 := blk_frozen BK304.out 0
                  have hfz299_1 := blk_frozen BK304.out 1
                  as_aux_lemma =>
                    try go_wp2_with (first | ((with_reducible refine gate_callee (f := 17) rfl ?_); refine goesL_ (some 106) rfl rfl Try.func17 pmBx16_14_ rfl #[.agg #[.int .i64 1, .int .i64 0], .agg #[.int .i64 1, .int .i64 0], .agg #[.int .i64 7, .int .i64 0], .int .i64 a0, .agg #[.bool a2_0, .int .i64 a2_1], .agg #[.bool a3_0, .int .i64 a3_1], .agg #[.int .i64 a4_0, .int .i64 a4_1], .bool true] rfl pmBx16_4_ ?_; (with_reducible refine (self_Used.calls kj190 1 0 1 0 7 0 a0 a2_0 a2_1 a3_0 a3_1 a4_0 a4_1 true t317 t318 _ A227.out).mono ?_); rintro e w300 ⟨rfl, hb⟩; refine ⟨_, rfl, ?_⟩; have n0_ := Aside0.mk (blk_below (g := gb302) (o := .cells #[.bool a2_0, .int .i64 a2_1] 23 (0, 0)) pmBx16_1_ hb); have n1_ := Aside0.mk (blk_below (g := gb303) (o := .cells #[.bool a3_0, .int .i64 a3_1] 23 (0, 0)) pmBx16_2_ hb); have n2_ := Aside0.mk (blk_below (g := gb304) (o := .cells #[.int .i64 a4_0, .int .i64 a4_1] 46 (0, 0)) pmBx16_3_ hb); have n3_ := Aside0.mk (blk_below (g := gb315) (o := .cells #[.int .i64 1, .int .i64 0] 31 (0, 0)) pmBx16_11_ hb); have n4_ := Aside0.mk (blk_below (g := gb316) (o := .cells #[.int .i64 7, .int .i64 0] 31 (0, 0)) pmBx16_12_ hb); have n5_ := Aside0.mk (below_step pmBx16_5_ hb); clear BK302; clear BK303; clear BK304; clear BK315; clear BK316; clear HB; have BK302 := n0_; have BK303 := n1_; have BK304 := n2_; have BK315 := n3_; have BK316 := n4_; have HB := n5_; clear n0_ n1_ n2_ n3_ n4_ n5_; (try clear hb); (try clear hb2); (try clear hk); (try clear hi)))
                    have n0_ := Aside0.mk (blk_drew BK302.out)
                    have n1_ := Aside0.mk (blk_drew BK303.out)
                    have n2_ := Aside0.mk (blk_drew BK304.out)
                    have n3_ := Aside0.mk (blk_drew BK315.out)
                    have n4_ := Aside0.mk (blk_drew BK316.out)
                    have n5_ := Aside0.mk (below_drew1 HB.out)
                    clear BK302
                    clear BK303
                    clear BK304
                    clear BK315
                    clear BK316
                    clear HB
                    have BK302 := n0_
                    have BK303 := n1_
                    have BK304 := n2_
                    have BK315 := n3_
                    have BK316 := n4_
                    have HB := n5_
                    clear n0_ n1_ n2_ n3_ n4_ n5_
                    refine start_ (n := 18) (S := fun w' => True) (ds := []) #[false, false, false, false, false, false, false, false, false, false, false, false, false, false, false, false, false, false] pmBx16_14_ rfl rfl trivial (fun hHeld => ?_); refine with_tabW parterrelaw29_SelfFits.tab7 parterrelaw29_SelfFits.bits7 (fun HT_ HW_ => ?_)
                    generalize w300.drew = w301 at BK302 BK303 BK304 BK315 BK316 HB hHeld ⊢
                    refine pure_ (i := 0) (N := some 109) (v := ?_) (a' := ?_) #[true, false, false, false, false, false, false, false, false, false, false, false, false, false, false, false, false, false] rfl rfl (any_of HT_.out pmBx16_14_) (fun _ _ _ h => h) (Or.inl ⟨by rfl, ?_⟩) ?_ ?_
                    rotate_left
                    · intro w'
                      go_simp
                      with_reducible rfl
                    rotate_left
                    · simp only [Act.put, List.setIfInBounds_toArray, List.set_cons_zero, List.set_cons_succ, i64_w, i32_w]
                      rfl
                    refine pure_ (i := 1) (N := some 110) (v := ?_) (a' := ?_) #[true, true, false, false, false, false, false, false, false, false, false, false, false, false, false, false, false, false] rfl rfl (any_of HT_.out pmBx16_14_) (fun _ _ _ h => h) (Or.inl ⟨by rfl, ?_⟩) ?_ ?_
                    rotate_left
                    · intro w'
                      go_simp
                      with_reducible rfl
                    rotate_left
                    · simp only [Act.put, List.setIfInBounds_toArray, List.set_cons_zero, List.set_cons_succ, i64_w, i32_w]
                      rfl
                    refine pure_ (i := 2) (N := some 111) (v := ?_) (a' := ?_) #[true, true, true, false, false, false, false, false, false, false, false, false, false, false, false, false, false, false] rfl rfl (any_of HT_.out pmBx16_14_) (fun _ _ _ h => h) (Or.inl ⟨by rfl, ?_⟩) ?_ ?_
                    rotate_left
                    · intro w'
                      go_simp
                      with_reducible rfl
                    rotate_left
                    · simp only [Act.put, List.setIfInBounds_toArray, List.set_cons_zero, List.set_cons_succ, i64_w, i32_w]
                      rfl
                    refine pure_ (i := 3) (N := some 112) (v := undef) (a' := ?_) #[true, true, true, true, false, false, false, false, false, false, false, false, false, false, false, false, false, false] rfl rfl (any_of HT_.out pmBx16_14_) (fun _ _ _ h => h) (Or.inr ⟨by rfl, rfl⟩) ?_ ?_
                    rotate_left
                    · simp only [Act.put, List.setIfInBounds_toArray, List.set_cons_zero, List.set_cons_succ, i64_w, i32_w]
                      rfl
                    refine pure_ (i := 4) (N := some 113) (v := undef) (a' := ?_) #[true, true, true, true, true, false, false, false, false, false, false, false, false, false, false, false, false, false] rfl rfl (any_of HT_.out pmBx16_14_) (fun _ _ _ h => h) (Or.inr ⟨by rfl, rfl⟩) ?_ ?_
                    rotate_left
                    · simp only [Act.put, List.setIfInBounds_toArray, List.set_cons_zero, List.set_cons_succ, i64_w, i32_w]
                      rfl
                    refine pure_ (i := 5) (N := some 114) (v := undef) (a' := ?_) #[true, true, true, true, true, true, false, false, false, false, false, false, false, false, false, false, false, false] rfl rfl (any_of HT_.out pmBx16_14_) (fun _ _ _ h => h) (Or.inr ⟨by rfl, rfl⟩) ?_ ?_
                    rotate_left
                    · simp only [Act.put, List.setIfInBounds_toArray, List.set_cons_zero, List.set_cons_succ, i64_w, i32_w]
                      rfl
                    refine pure_ (i := 6) (N := some 115) (v := ?_) (a' := ?_) #[true, true, true, true, true, true, true, false, false, false, false, false, false, false, false, false, false, false] rfl rfl (any_of HT_.out pmBx16_14_) (fun _ _ _ h => h) (Or.inl ⟨by rfl, ?_⟩) ?_ ?_
                    rotate_left
                    · intro w'
                      go_simp
                      with_reducible rfl
                    rotate_left
                    · simp only [Act.put, List.setIfInBounds_toArray, List.set_cons_zero, List.set_cons_succ, i64_w, i32_w]
                      rfl
                    refine pure_ (i := 7) (N := some 116) (v := ?_) (a' := ?_) #[true, true, true, true, true, true, true, true, false, false, false, false, false, false, false, false, false, false] rfl rfl (any_of HT_.out pmBx16_14_) (fun _ _ _ h => h) (Or.inl ⟨by rfl, ?_⟩) ?_ ?_
                    rotate_left
                    · intro w'
                      go_simp
                      with_reducible rfl
                    rotate_left
                    · simp only [Act.put, List.setIfInBounds_toArray, List.set_cons_zero, List.set_cons_succ, i64_w, i32_w]
                      rfl
                    refine pure_ (i := 8) (N := some 117) (v := undef) (a' := ?_) #[true, true, true, true, true, true, true, true, true, false, false, false, false, false, false, false, false, false] rfl rfl (any_of HT_.out pmBx16_14_) (fun _ _ _ h => h) (Or.inr ⟨by rfl, rfl⟩) ?_ ?_
                    rotate_left
                    · simp only [Act.put, List.setIfInBounds_toArray, List.set_cons_zero, List.set_cons_succ, i64_w, i32_w]
                      rfl
                    refine pure_ (i := 9) (N := some 118) (v := undef) (a' := ?_) #[true, true, true, true, true, true, true, true, true, true, false, false, false, false, false, false, false, false] rfl rfl (any_of HT_.out pmBx16_14_) (fun _ _ _ h => h) (Or.inr ⟨by rfl, rfl⟩) ?_ ?_
                    rotate_left
                    · simp only [Act.put, List.setIfInBounds_toArray, List.set_cons_zero, List.set_cons_succ, i64_w, i32_w]
                      rfl
                    refine pure_ (i := 10) (N := some 119) (v := undef) (a' := ?_) #[true, true, true, true, true, true, true, true, true, true, true, false, false, false, false, false, false, false] rfl rfl (any_of HT_.out pmBx16_14_) (fun _ _ _ h => h) (Or.inr ⟨by rfl, rfl⟩) ?_ ?_
                    rotate_left
                    · simp only [Act.put, List.setIfInBounds_toArray, List.set_cons_zero, List.set_cons_succ, i64_w, i32_w]
                      rfl
                    refine pure_ (i := 11) (N := some 120) (v := undef) (a' := ?_) #[true, true, true, true, true, true, true, true, true, true, true, true, false, false, false, false, false, false] rfl rfl (any_of HT_.out pmBx16_14_) (fun _ _ _ h => h) (Or.inr ⟨by rfl, rfl⟩) ?_ ?_
                    rotate_left
                    · simp only [Act.put, List.setIfInBounds_toArray, List.set_cons_zero, List.set_cons_succ, i64_w, i32_w]
                      rfl
                    refine pure_ (i := 12) (N := some 121) (v := undef) (a' := ?_) #[true, true, true, true, true, true, true, true, true, true, true, true, true, false, false, false, false, false] rfl rfl (any_of HT_.out pmBx16_14_) (fun _ _ _ h => h) (Or.inr ⟨by rfl, rfl⟩) ?_ ?_
                    rotate_left
                    · simp only [Act.put, List.setIfInBounds_toArray, List.set_cons_zero, List.set_cons_succ, i64_w, i32_w]
                      rfl
                    refine pure_ (i := 13) (N := some 122) (v := undef) (a' := ?_) #[true, true, true, true, true, true, true, true, true, true, true, true, true, true, false, false, false, false] rfl rfl (any_of HT_.out pmBx16_14_) (fun _ _ _ h => h) (Or.inr ⟨by rfl, rfl⟩) ?_ ?_
                    rotate_left
                    · simp only [Act.put, List.setIfInBounds_toArray, List.set_cons_zero, List.set_cons_succ, i64_w, i32_w]
                      rfl
                    refine pure_ (i := 14) (N := some 123) (v := undef) (a' := ?_) #[true, true, true, true, true, true, true, true, true, true, true, true, true, true, true, false, false, false] rfl rfl (any_of HT_.out pmBx16_14_) (fun _ _ _ h => h) (Or.inr ⟨by rfl, rfl⟩) ?_ ?_
                    rotate_left
                    · simp only [Act.put, List.setIfInBounds_toArray, List.set_cons_zero, List.set_cons_succ, i64_w, i32_w]
                      rfl
                    refine pure_ (i := 15) (N := some 124) (v := undef) (a' := ?_) #[true, true, true, true, true, true, true, true, true, true, true, true, true, true, true, true, false, false] rfl rfl (any_of HT_.out pmBx16_14_) (fun _ _ _ h => h) (Or.inr ⟨by rfl, rfl⟩) ?_ ?_
                    rotate_left
                    · simp only [Act.put, List.setIfInBounds_toArray, List.set_cons_zero, List.set_cons_succ, i64_w, i32_w]
                      rfl
                    refine pure_ (i := 16) (N := some 125) (v := undef) (a' := ?_) #[true, true, true, true, true, true, true, true, true, true, true, true, true, true, true, true, true, false] rfl rfl (any_of HT_.out pmBx16_14_) (fun _ _ _ h => h) (Or.inr ⟨by rfl, rfl⟩) ?_ ?_
                    rotate_left
                    · simp only [Act.put, List.setIfInBounds_toArray, List.set_cons_zero, List.set_cons_succ, i64_w, i32_w]
                      rfl
                    refine pure_ (i := 17) (N := some 126) (v := ?_) (a' := ?_) #[true, true, true, true, true, true, true, true, true, true, true, true, true, true, true, true, true, true] rfl rfl (any_of HT_.out pmBx16_14_) (fun _ _ _ h => h) (Or.inl ⟨by rfl, ?_⟩) ?_ ?_
                    rotate_left
                    · intro w'
                      go_simp
                      with_reducible rfl
                    rotate_left
                    · simp only [Act.put, List.setIfInBounds_toArray, List.set_cons_zero, List.set_cons_succ, i64_w, i32_w]
                      rfl
                    refine done_ (done_of HT_.out pmBx16_14_) ?_
                    try go_wp2
                    go_ret
                    exact ⟨by first | rfl | (simp [errW_none, errW_some] <;> rfl) | (simp [*, errW_none, errW_some] <;> rfl), by repeat (first | (with_reducible first | exact HB.out | apply below_alloc | apply pw_below_drewN | apply below_drew1 | refine below_set ?_ GE302.out | refine below_set ?_ GE303.out | refine below_set ?_ GE304.out | refine below_set ?_ GE315.out | refine below_set ?_ GE316.out) | exact HB.out)⟩
              · replace c226 := Bool.eq_false_iff.mpr c226
                subst c226
                have H1 : (parterrelaw29_SelfFits.j2 kj190 a0 a1 a5 a2_0 a2_1 a3_0 a3_1) = some r := by rw [if_neg (show ¬ (false = true) by decide)] at H; exact H
                clear H
                have H := H1
                clear H1
                have H' := Aside0.mk H
                clear H
                go_wp2
                go_meet
                case rel => exact ⟨_, H', ⟨by have := HJ6.out; have := HJ190.out; first | omega | exact Nat.le_refl _⟩, ⟨pmBx16_1_⟩, ⟨pmBx16_2_⟩, ⟨pmBx16_3_⟩, ⟨pmBx16_11_⟩, ⟨pmBx16_12_⟩, ⟨pmBx16_5_⟩⟩
            case rest =>
              clear HC225
              try clear c1
              try clear c2
              try clear p2
              try clear p6
              try clear c8
              try clear c17
              try clear c22
              try clear c23
              try clear c25
              try clear c26
              try clear c27
              try clear c28
              try clear c29
              try clear p64
              try clear c226
              try clear c228
              try clear c228b0
              try clear c228b1
              try clear c229
              try clear c229b0
              try clear c229b1
              try clear c231
              try clear c231b0
              try clear c231b1
              try clear c250
              try clear c251
              try clear c252
              try clear c253
              try clear c255
              try clear c256
              try clear c257
              try clear c259
              try clear c260
              try clear c262
              try clear c268
              try clear c269
              try clear c270
              try clear c271
              try clear c273
              try clear c274
              try clear c275
              try clear c277
              try clear c278
              try clear c280
              try clear c285
              try clear c286
              try clear c287
              try clear c288
              try clear c290
              try clear c291
              try clear c292
              try clear c294
              try clear c295
              try clear c297
              try clear hcz254_0
              try clear hcz254_1
              try clear hcz258_0
              try clear hcz258_1
              try clear hcz261_0
              try clear hcz261_1
              try clear hcz263_0
              try clear hcz263_1
              try clear hcz264_0
              try clear hcz264_1
              try clear hcz272_0
              try clear hcz272_1
              try clear hcz276_0
              try clear hcz276_1
              try clear hcz279_0
              try clear hcz279_1
              try clear hcz281_0
              try clear hcz281_1
              try clear hcz282_0
              try clear hcz282_1
              try clear hcz289_0
              try clear hcz289_1
              try clear hcz293_0
              try clear hcz293_1
              try clear hcz296_0
              try clear hcz296_1
              try clear hcz298_0
              try clear hcz298_1
              try clear hcz299_0
              try clear hcz299_1
              try clear hfz254_0
              try clear hfz254_1
              try clear hfz258_0
              try clear hfz258_1
              try clear hfz261_0
              try clear hfz261_1
              try clear hfz263_0
              try clear hfz263_1
              try clear hfz264_0
              try clear hfz264_1
              try clear hfz272_0
              try clear hfz272_1
              try clear hfz276_0
              try clear hfz276_1
              try clear hfz279_0
              try clear hfz279_1
              try clear hfz281_0
              try clear hfz281_1
              try clear hfz282_0
              try clear hfz282_1
              try clear hfz289_0
              try clear hfz289_1
              try clear hfz293_0
              try clear hfz293_1
              try clear hfz296_0
              try clear hfz296_1
              try clear hfz298_0
              try clear hfz298_1
              try clear hfz299_0
              try clear hfz299_1
              obtain ⟨kq, HA, HJ224, BK302, BK303, BK304, BK315, BK316, HB⟩ := hcut
              cases kq with
              | zero => exact absurd HA.out (by simp [parterrelaw29_SelfFits.j2])
              | succ kj224 =>
                have H := HA.out
                clear HA
                simp only [parterrelaw29_SelfFits.j2] at H
                have HC302 := Aside0.mk H
                clear H
                go_upto_region 9 with (fail)
                go_cut [140] (fun v140 wc => ∃ (kq : Nat) (x140_301 : Bool), v140 = .bool x140_301 ∧ Aside0 (parterrelaw29_SelfFits.j3 kq a0 a1 a5 x140_301 a2_0 a2_1 a3_0 a3_1 = some r) ∧ Aside0 (kq ≤ kj224) ∧ Aside0 (wc.heap[gb302]? = some (.cells #[.bool a2_0, .int .i64 a2_1] 23 (0, 0))) ∧ Aside0 (wc.heap[gb303]? = some (.cells #[.bool a3_0, .int .i64 a3_1] 23 (0, 0))) ∧ Aside0 (wc.heap[gb304]? = some (.cells #[.int .i64 a4_0, .int .i64 a4_1] 46 (0, 0))) ∧ Aside0 (wc.heap[gb315]? = some (.cells #[.int .i64 1, .int .i64 0] 31 (0, 0))) ∧ Aside0 (wc.heap[gb316]? = some (.cells #[.int .i64 7, .int .i64 0] 31 (0, 0))) ∧ Aside0 (Below w.heap.size w wc))
                case first =>
                  have H := HC302.out
                  clear HC302
                  replace H := Option.bind_eq_some_iff.mp H
                  obtain ⟨t320, A3030, H⟩ := H
                  replace H : (if t320 = true then (parterrelaw29_SelfFits.j3 kj224 a0 a1 a5 (decide (a1 > (wrap64 ((wrap64 (a0 - a2_1)) - a3_1)))) a2_0 a2_1 a3_0 a3_1) else (parterrelaw29_SelfFits.j3 kj224 a0 a1 a5 true a2_0 a2_1 a3_0 a3_1)) = some r := H
                  have A303 := Aside0.mk A3030
                  clear A3030
                  by_cases c304 : t320 = true
                  · subst c304
                    have H1 : (parterrelaw29_SelfFits.j3 kj224 a0 a1 a5 (decide (a1 > (wrap64 ((wrap64 (a0 - a2_1)) - a3_1)))) a2_0 a2_1 a3_0 a3_1) = some r := by rw [if_pos rfl] at H; exact H
                    clear H
                    have H := H1
                    clear H1
                    have H' := Aside0.mk H
                    clear H
                    go_wp2_with (first | ((with_reducible refine gate_callee (f := 21) rfl ?_); refine goesL_ (some 128) rfl rfl Try.func21 pmBx16_14_ rfl #[.int .i64 a1] rfl pmBx16_4_ ?_; (with_reducible refine (parterreref29_Size.calls a1 true _ A303.out).mono ?_); rintro e w' ⟨rfl, ⟨nd, rfl⟩⟩; refine ⟨_, rfl, ?_⟩; have hnb305 := NB302_303.out; have hnc305 := NB303_302.out; have hnb306 := NB302_304.out; have hnc306 := NB304_302.out; have hnb307 := NB302_315.out; have hnc307 := NB315_302.out; have hnb308 := NB302_316.out; have hnc308 := NB316_302.out; have hcz309_0 : wc.cell? ⟨gb302, 0, none⟩ = some (.bool a2_0) := (blk_cell BK302.out 0).trans rfl; have hcz309_1 : wc.cell? ⟨gb302, 1, none⟩ = some (.int .i64 a2_1) := (blk_cell BK302.out 1).trans rfl; have hfz309_0 := blk_frozen BK302.out 0; have hfz309_1 := blk_frozen BK302.out 1; have hnb310 := NB303_304.out; have hnc310 := NB304_303.out; have hnb311 := NB303_315.out; have hnc311 := NB315_303.out; have hnb312 := NB303_316.out; have hnc312 := NB316_303.out; have hcz313_0 : wc.cell? ⟨gb303, 0, none⟩ = some (.bool a3_0) := (blk_cell BK303.out 0).trans rfl; have hcz313_1 : wc.cell? ⟨gb303, 1, none⟩ = some (.int .i64 a3_1) := (blk_cell BK303.out 1).trans rfl; have hfz313_0 := blk_frozen BK303.out 0; have hfz313_1 := blk_frozen BK303.out 1))
                    go_meet
                    case rel => exact ⟨_, (decide (a1 > (wrap64 ((wrap64 (a0 - a2_1)) - a3_1)))), pmBx16_13_, H', ⟨by have := HJ6.out; have := HJ190.out; have := HJ224.out; first | omega | exact Nat.le_refl _⟩, ⟨pmBx16_1_⟩, ⟨pmBx16_2_⟩, ⟨pmBx16_3_⟩, ⟨pmBx16_11_⟩, ⟨pmBx16_12_⟩, ⟨pmBx16_5_⟩⟩
                  · replace c304 := Bool.eq_false_iff.mpr c304
                    subst c304
                    have H1 : (parterrelaw29_SelfFits.j3 kj224 a0 a1 a5 true a2_0 a2_1 a3_0 a3_1) = some r := by rw [if_neg (show ¬ (false = true) by decide)] at H; exact H
                    clear H
                    have H := H1
                    clear H1
                    have H' := Aside0.mk H
                    clear H
                    go_wp2_with (first | ((with_reducible refine gate_callee (f := 21) rfl ?_); refine goesL_ (some 128) rfl rfl Try.func21 pmBx16_14_ rfl #[.int .i64 a1] rfl pmBx16_4_ ?_; (with_reducible refine (parterreref29_Size.calls a1 false _ A303.out).mono ?_); rintro e w' ⟨rfl, ⟨nd, rfl⟩⟩; refine ⟨_, rfl, ?_⟩))
                    go_meet
                    case rel => exact ⟨_, (true), pmBx16_13_, H', ⟨by have := HJ6.out; have := HJ190.out; have := HJ224.out; first | omega | exact Nat.le_refl _⟩, ⟨pmBx16_1_⟩, ⟨pmBx16_2_⟩, ⟨pmBx16_3_⟩, ⟨pmBx16_11_⟩, ⟨pmBx16_12_⟩, ⟨pmBx16_5_⟩⟩
                case rest =>
                  clear HC302
                  try clear c1
                  try clear c2
                  try clear p2
                  try clear c3
                  try clear p6
                  try clear c8
                  try clear c17
                  try clear c21
                  try clear c22
                  try clear c23
                  try clear c25
                  try clear c26
                  try clear c27
                  try clear c28
                  try clear c29
                  try clear c30
                  try clear c31
                  try clear p64
                  try clear c226
                  try clear c228
                  try clear c228b0
                  try clear c228b1
                  try clear c229
                  try clear c229b0
                  try clear c229b1
                  try clear c231
                  try clear c231b0
                  try clear c231b1
                  try clear c250
                  try clear c251
                  try clear c252
                  try clear c253
                  try clear c255
                  try clear c256
                  try clear c257
                  try clear c259
                  try clear c260
                  try clear c262
                  try clear c268
                  try clear c269
                  try clear c270
                  try clear c271
                  try clear c273
                  try clear c274
                  try clear c275
                  try clear c277
                  try clear c278
                  try clear c280
                  try clear c285
                  try clear c286
                  try clear c287
                  try clear c288
                  try clear c290
                  try clear c291
                  try clear c292
                  try clear c294
                  try clear c295
                  try clear c297
                  try clear c304
                  try clear c305
                  try clear c306
                  try clear c307
                  try clear c308
                  try clear c310
                  try clear c311
                  try clear c312
                  try clear hcz254_0
                  try clear hcz254_1
                  try clear hcz258_0
                  try clear hcz258_1
                  try clear hcz261_0
                  try clear hcz261_1
                  try clear hcz263_0
                  try clear hcz263_1
                  try clear hcz264_0
                  try clear hcz264_1
                  try clear hcz272_0
                  try clear hcz272_1
                  try clear hcz276_0
                  try clear hcz276_1
                  try clear hcz279_0
                  try clear hcz279_1
                  try clear hcz281_0
                  try clear hcz281_1
                  try clear hcz282_0
                  try clear hcz282_1
                  try clear hcz289_0
                  try clear hcz289_1
                  try clear hcz293_0
                  try clear hcz293_1
                  try clear hcz296_0
                  try clear hcz296_1
                  try clear hcz298_0
                  try clear hcz298_1
                  try clear hcz299_0
                  try clear hcz299_1
                  try clear hcz309_0
                  try clear hcz309_1
                  try clear hcz313_0
                  try clear hcz313_1
                  try clear hfz254_0
                  try clear hfz254_1
                  try clear hfz258_0
                  try clear hfz258_1
                  try clear hfz261_0
                  try clear hfz261_1
                  try clear hfz263_0
                  try clear hfz263_1
                  try clear hfz264_0
                  try clear hfz264_1
                  try clear hfz272_0
                  try clear hfz272_1
                  try clear hfz276_0
                  try clear hfz276_1
                  try clear hfz279_0
                  try clear hfz279_1
                  try clear hfz281_0
                  try clear hfz281_1
                  try clear hfz282_0
                  try clear hfz282_1
                  try clear hfz289_0
                  try clear hfz289_1
                  try clear hfz293_0
                  try clear hfz293_1
                  try clear hfz296_0
                  try clear hfz296_1
                  try clear hfz298_0
                  try clear hfz298_1
                  try clear hfz299_0
                  try clear hfz299_1
                  try clear hfz309_0
                  try clear hfz309_1
                  try clear hfz313_0
                  try clear hfz313_1
                  try clear p2
                  try clear p6
                  try clear p64
                  obtain ⟨kq, x140_301, rfl, HA, HJ301, BK302, BK303, BK304, BK315, BK316, HB⟩ := hcut
                  cases kq with
                  | zero => exact absurd HA.out (by simp [parterrelaw29_SelfFits.j3])
                  | succ kj301 =>
                    have H := HA.out
                    clear HA
                    simp only [parterrelaw29_SelfFits.j3] at H
                    by_cases c314 : x140_301 = true
                    · subst c314
                      have H1 : ((parterrelaw29_lives.f kj301).bind fun t321 => (some t321)) = some r := by rw [if_pos rfl] at H; exact H
                      clear H
                      have H := H1
                      clear H1
                      replace H := Option.bind_eq_some_iff.mp H
                      obtain ⟨t321, A3150, H⟩ := H
                      replace H : (some t321) = some r := H
                      have A315 := Aside0.mk A3150
                      clear A3150
                      obtain rfl := Option.some.inj H
                      go_wp2_with (first | ((with_reducible refine gate_callee (f := 10) rfl ?_); refine goesL_ (some 141) rfl rfl Try.func10 pmBx16_14_ rfl #[] rfl pmBx16_4_ ?_; (with_reducible refine (parterrelaw29_lives.calls kj301  t321 _ A315.out).mono ?_); rintro e w316 ⟨rfl, hb⟩; refine ⟨_, rfl, ?_⟩; have n0_ := Aside0.mk (blk_below (g := gb302) (o := .cells #[.bool a2_0, .int .i64 a2_1] 23 (0, 0)) pmBx16_1_ hb); have n1_ := Aside0.mk (blk_below (g := gb303) (o := .cells #[.bool a3_0, .int .i64 a3_1] 23 (0, 0)) pmBx16_2_ hb); have n2_ := Aside0.mk (blk_below (g := gb304) (o := .cells #[.int .i64 a4_0, .int .i64 a4_1] 46 (0, 0)) pmBx16_3_ hb); have n3_ := Aside0.mk (blk_below (g := gb315) (o := .cells #[.int .i64 1, .int .i64 0] 31 (0, 0)) pmBx16_11_ hb); have n4_ := Aside0.mk (blk_below (g := gb316) (o := .cells #[.int .i64 7, .int .i64 0] 31 (0, 0)) pmBx16_12_ hb); have n5_ := Aside0.mk (below_step pmBx16_5_ hb); clear BK302; clear BK303; clear BK304; clear BK315; clear BK316; clear HB; have BK302 := n0_; have BK303 := n1_; have BK304 := n2_; have BK315 := n3_; have BK316 := n4_; have HB := n5_; clear n0_ n1_ n2_ n3_ n4_ n5_; (try clear hb); (try clear hb2); (try clear hk); (try clear hi)))
                      go_ret
                      exact ⟨by first | rfl | (simp [errW_none, errW_some] <;> rfl) | (simp [*, errW_none, errW_some] <;> rfl), by repeat (first | (with_reducible first | exact HB.out | apply below_alloc | apply pw_below_drewN | apply below_drew1 | refine below_set ?_ GE302.out | refine below_set ?_ GE303.out | refine below_set ?_ GE304.out | refine below_set ?_ GE315.out | refine below_set ?_ GE316.out) | exact HB.out)⟩
                    · replace c314 := Bool.eq_false_iff.mpr c314
                      subst c314
                      have H1 : ((self_Place.f kj301 a0 a1 a2_0 a2_1 a3_0 a3_1 a5).bind fun t322 => (if t322 ≥ a2_1 then (if (wrap64 ((wrap64 (t322 + a1)) + a3_1)) ≤ a0 then ((parterrelaw29_lives.f kj301).bind fun t323 => (some t323)) else (some false)) else (some false))) = some r := by rw [if_neg (show ¬ (false = true) by decide)] at H; exact H
                      clear H
                      have H := H1
                      clear H1
                      replace H := Option.bind_eq_some_iff.mp H
                      obtain ⟨t322, A3170, H⟩ := H
                      replace H : (if t322 ≥ a2_1 then (if (wrap64 ((wrap64 (t322 + a1)) + a3_1)) ≤ a0 then ((parterrelaw29_lives.f kj301).bind fun t323 => (some t323)) else (some false)) else (some false)) = some r := H
                      have A317 := Aside0.mk A3170
                      clear A3170
                      by_cases c318 : t322 ≥ a2_1
                      · rw [if_pos c318] at H
                        have c318b0 : decide (a2_1 ≤ t322) = true := decide_eq_true c318
                        clear c318
                        by_cases c319 : (wrap64 ((wrap64 (t322 + a1)) + a3_1)) ≤ a0
                        · rw [if_pos c319] at H
                          have c319b0 : decide ((wrap64 ((wrap64 (t322 + a1)) + a3_1)) ≤ a0) = true := decide_eq_true c319
                          clear c319
                          replace H := Option.bind_eq_some_iff.mp H
                          obtain ⟨t323, A3200, H⟩ := H
                          replace H : (some t323) = some r := H
                          have A320 := Aside0.mk A3200
                          clear A3200
                          obtain rfl := Option.some.inj H
                          have hnb321 := NB302_303.out
                          have hnc321 := NB303_302.out
                          have hnb322 := NB302_304.out
                          have hnc322 := NB304_302.out
                          have hnb323 := NB302_315.out
                          have hnc323 := NB315_302.out
                          have hnb324 := NB302_316.out
                          have hnc324 := NB316_302.out
                          have hcz325_0 : wc.cell? ⟨gb302, 0, none⟩ = some (.bool a2_0) := (blk_cell BK302.out 0).trans rfl
                          have hcz325_1 : wc.cell? ⟨gb302, 1, none⟩ = some (.int .i64 a2_1) := (blk_cell BK302.out 1).trans rfl
                          have hfz325_0 := blk_frozen BK302.out 0
                          have hfz325_1 := blk_frozen BK302.out 1
                          have hnb326 := NB303_304.out
                          have hnc326 := NB304_303.out
                          have hnb327 := NB303_315.out
                          have hnc327 := NB315_303.out
                          have hnb328 := NB303_316.out
                          have hnc328 := NB316_303.out
                          have hcz329_0 : wc.cell? ⟨gb303, 0, none⟩ = some (.bool a3_0) := (blk_cell BK303.out 0).trans rfl
                          have hcz329_1 : wc.cell? ⟨gb303, 1, none⟩ = some (.int .i64 a3_1) := (blk_cell BK303.out 1).trans rfl
                          have hfz329_0 := blk_frozen BK303.out 0
                          have hfz329_1 := blk_frozen BK303.out 1
                          as_aux_lemma =>
                            go_wp2_with (first | ((with_reducible refine gate_callee (f := 8) rfl ?_); refine goesL_ (some 147) rfl rfl Try.func8 pmBx16_14_ rfl #[.int .i64 a0, .int .i64 a1, .agg #[.bool a2_0, .int .i64 a2_1], .agg #[.bool a3_0, .int .i64 a3_1], .int .i64 a5] rfl pmBx16_4_ ?_; (with_reducible refine (self_Place.calls kj301 a0 a1 a2_0 a2_1 a3_0 a3_1 a5 t322 _ A317.out).mono ?_); rintro e w330 ⟨rfl, hb⟩; refine ⟨_, rfl, ?_⟩; have n0_ := Aside0.mk (blk_below (g := gb302) (o := .cells #[.bool a2_0, .int .i64 a2_1] 23 (0, 0)) pmBx16_1_ hb); have n1_ := Aside0.mk (blk_below (g := gb303) (o := .cells #[.bool a3_0, .int .i64 a3_1] 23 (0, 0)) pmBx16_2_ hb); have n2_ := Aside0.mk (blk_below (g := gb304) (o := .cells #[.int .i64 a4_0, .int .i64 a4_1] 46 (0, 0)) pmBx16_3_ hb); have n3_ := Aside0.mk (blk_below (g := gb315) (o := .cells #[.int .i64 1, .int .i64 0] 31 (0, 0)) pmBx16_11_ hb); have n4_ := Aside0.mk (blk_below (g := gb316) (o := .cells #[.int .i64 7, .int .i64 0] 31 (0, 0)) pmBx16_12_ hb); have n5_ := Aside0.mk (below_step pmBx16_5_ hb); clear BK302; clear BK303; clear BK304; clear BK315; clear BK316; clear HB; have BK302 := n0_; have BK303 := n1_; have BK304 := n2_; have BK315 := n3_; have BK316 := n4_; have HB := n5_; clear n0_ n1_ n2_ n3_ n4_ n5_; (try clear hb); (try clear hb2); (try clear hk); (try clear hi); have hcz331_0 : w330.cell? ⟨gb302, 0, none⟩ = some (.bool a2_0) := (blk_cell BK302.out 0).trans rfl; have hcz331_1 : w330.cell? ⟨gb302, 1, none⟩ = some (.int .i64 a2_1) := (blk_cell BK302.out 1).trans rfl; have hfz331_0 := blk_frozen BK302.out 0; have hfz331_1 := blk_frozen BK302.out 1; have hcz332_0 : w330.cell? ⟨gb303, 0, none⟩ = some (.bool a3_0) := (blk_cell BK303.out 0).trans rfl; have hcz332_1 : w330.cell? ⟨gb303, 1, none⟩ = some (.int .i64 a3_1) := (blk_cell BK303.out 1).trans rfl; have hfz332_0 := blk_frozen BK303.out 0; have hfz332_1 := blk_frozen BK303.out 1) | (go_at_call 10; (with_reducible refine (parterrelaw29_lives.calls kj301  t323 _ A320.out).mono ?_); rintro e w333 ⟨rfl, hb⟩; have n0_ := Aside0.mk (blk_below (g := gb302) (o := .cells #[.bool a2_0, .int .i64 a2_1] 23 (0, 0)) pmBx16_1_ hb); have n1_ := Aside0.mk (blk_below (g := gb303) (o := .cells #[.bool a3_0, .int .i64 a3_1] 23 (0, 0)) pmBx16_2_ hb); have n2_ := Aside0.mk (blk_below (g := gb304) (o := .cells #[.int .i64 a4_0, .int .i64 a4_1] 46 (0, 0)) pmBx16_3_ hb); have n3_ := Aside0.mk (blk_below (g := gb315) (o := .cells #[.int .i64 1, .int .i64 0] 31 (0, 0)) pmBx16_11_ hb); have n4_ := Aside0.mk (blk_below (g := gb316) (o := .cells #[.int .i64 7, .int .i64 0] 31 (0, 0)) pmBx16_12_ hb); have n5_ := Aside0.mk (below_step pmBx16_5_ hb); clear BK302; clear BK303; clear BK304; clear BK315; clear BK316; clear HB; have BK302 := n0_; have BK303 := n1_; have BK304 := n2_; have BK315 := n3_; have BK316 := n4_; have HB := n5_; clear n0_ n1_ n2_ n3_ n4_ n5_; (try clear hb); (try clear hb2); (try clear hk); (try clear hi)))
                            go_ret
                            exact ⟨by first | rfl | (simp [errW_none, errW_some] <;> rfl) | (simp [*, errW_none, errW_some] <;> rfl), by repeat (first | (with_reducible first | exact HB.out | apply below_alloc | apply pw_below_drewN | apply below_drew1 | refine below_set ?_ GE302.out | refine below_set ?_ GE303.out | refine below_set ?_ GE304.out | refine below_set ?_ GE315.out | refine below_set ?_ GE316.out) | exact HB.out)⟩
                        · rw [if_neg c319] at H
                          have c319b0 : decide ((wrap64 ((wrap64 (t322 + a1)) + a3_1)) ≤ a0) = false := decide_eq_false c319
                          clear c319
                          obtain rfl := Option.some.inj H
                          have hnb334 := NB302_303.out
                          have hnc334 := NB303_302.out
                          have hnb335 := NB302_304.out
                          have hnc335 := NB304_302.out
                          have hnb336 := NB302_315.out
                          have hnc336 := NB315_302.out
                          have hnb337 := NB302_316.out
                          have hnc337 := NB316_302.out
                          have hcz338_0 : wc.cell? ⟨gb302, 0, none⟩ = some (.bool a2_0) := (blk_cell BK302.out 0).trans rfl
                          have hcz338_1 : wc.cell? ⟨gb302, 1, none⟩ = some (.int .i64 a2_1) := (blk_cell BK302.out 1).trans rfl
                          have hfz338_0 := blk_frozen BK302.out 0
                          have hfz338_1 := blk_frozen BK302.out 1
                          have hnb339 := NB303_304.out
                          have hnc339 := NB304_303.out
                          have hnb340 := NB303_315.out
                          have hnc340 := NB315_303.out
                          have hnb341 := NB303_316.out
                          have hnc341 := NB316_303.out
                          have hcz342_0 : wc.cell? ⟨gb303, 0, none⟩ = some (.bool a3_0) := (blk_cell BK303.out 0).trans rfl
                          have hcz342_1 : wc.cell? ⟨gb303, 1, none⟩ = some (.int .i64 a3_1) := (blk_cell BK303.out 1).trans rfl
                          have hfz342_0 := blk_frozen BK303.out 0
                          have hfz342_1 := blk_frozen BK303.out 1
                          as_aux_lemma =>
                            go_wp2_with (first | ((with_reducible refine gate_callee (f := 8) rfl ?_); refine goesL_ (some 147) rfl rfl Try.func8 pmBx16_14_ rfl #[.int .i64 a0, .int .i64 a1, .agg #[.bool a2_0, .int .i64 a2_1], .agg #[.bool a3_0, .int .i64 a3_1], .int .i64 a5] rfl pmBx16_4_ ?_; (with_reducible refine (self_Place.calls kj301 a0 a1 a2_0 a2_1 a3_0 a3_1 a5 t322 _ A317.out).mono ?_); rintro e w343 ⟨rfl, hb⟩; refine ⟨_, rfl, ?_⟩; have n0_ := Aside0.mk (blk_below (g := gb302) (o := .cells #[.bool a2_0, .int .i64 a2_1] 23 (0, 0)) pmBx16_1_ hb); have n1_ := Aside0.mk (blk_below (g := gb303) (o := .cells #[.bool a3_0, .int .i64 a3_1] 23 (0, 0)) pmBx16_2_ hb); have n2_ := Aside0.mk (blk_below (g := gb304) (o := .cells #[.int .i64 a4_0, .int .i64 a4_1] 46 (0, 0)) pmBx16_3_ hb); have n3_ := Aside0.mk (blk_below (g := gb315) (o := .cells #[.int .i64 1, .int .i64 0] 31 (0, 0)) pmBx16_11_ hb); have n4_ := Aside0.mk (blk_below (g := gb316) (o := .cells #[.int .i64 7, .int .i64 0] 31 (0, 0)) pmBx16_12_ hb); have n5_ := Aside0.mk (below_step pmBx16_5_ hb); clear BK302; clear BK303; clear BK304; clear BK315; clear BK316; clear HB; have BK302 := n0_; have BK303 := n1_; have BK304 := n2_; have BK315 := n3_; have BK316 := n4_; have HB := n5_; clear n0_ n1_ n2_ n3_ n4_ n5_; (try clear hb); (try clear hb2); (try clear hk); (try clear hi); have hcz344_0 : w343.cell? ⟨gb302, 0, none⟩ = some (.bool a2_0) := (blk_cell BK302.out 0).trans rfl; have hcz344_1 : w343.cell? ⟨gb302, 1, none⟩ = some (.int .i64 a2_1) := (blk_cell BK302.out 1).trans rfl; have hfz344_0 := blk_frozen BK302.out 0; have hfz344_1 := blk_frozen BK302.out 1; have hcz345_0 : w343.cell? ⟨gb303, 0, none⟩ = some (.bool a3_0) := (blk_cell BK303.out 0).trans rfl; have hcz345_1 : w343.cell? ⟨gb303, 1, none⟩ = some (.int .i64 a3_1) := (blk_cell BK303.out 1).trans rfl; have hfz345_0 := blk_frozen BK303.out 0; have hfz345_1 := blk_frozen BK303.out 1))
                            go_ret
                            exact ⟨by first | rfl | (simp [errW_none, errW_some] <;> rfl) | (simp [*, errW_none, errW_some] <;> rfl), by repeat (first | (with_reducible first | exact HB.out | apply below_alloc | apply pw_below_drewN | apply below_drew1 | refine below_set ?_ GE302.out | refine below_set ?_ GE303.out | refine below_set ?_ GE304.out | refine below_set ?_ GE315.out | refine below_set ?_ GE316.out) | exact HB.out)⟩
                      · rw [if_neg c318] at H
                        have c318b0 : decide (a2_1 ≤ t322) = false := decide_eq_false c318
                        clear c318
                        obtain rfl := Option.some.inj H
                        have hnb346 := NB302_303.out
                        have hnc346 := NB303_302.out
                        have hnb347 := NB302_304.out
                        have hnc347 := NB304_302.out
                        have hnb348 := NB302_315.out
                        have hnc348 := NB315_302.out
                        have hnb349 := NB302_316.out
                        have hnc349 := NB316_302.out
                        have hcz350_0 : wc.cell? ⟨gb302, 0, none⟩ = some (.bool a2_0) := (blk_cell BK302.out 0).trans rfl
                        have hcz350_1 : wc.cell? ⟨gb302, 1, none⟩ = some (.int .i64 a2_1) := (blk_cell BK302.out 1).trans rfl
                        have hfz350_0 := blk_frozen BK302.out 0
                        have hfz350_1 := blk_frozen BK302.out 1
                        have hnb351 := NB303_304.out
                        have hnc351 := NB304_303.out
                        have hnb352 := NB303_315.out
                        have hnc352 := NB315_303.out
                        have hnb353 := NB303_316.out
                        have hnc353 := NB316_303.out
                        have hcz354_0 : wc.cell? ⟨gb303, 0, none⟩ = some (.bool a3_0) := (blk_cell BK303.out 0).trans rfl
                        have hcz354_1 : wc.cell? ⟨gb303, 1, none⟩ = some (.int .i64 a3_1) := (blk_cell BK303.out 1).trans rfl
                        have hfz354_0 := blk_frozen BK303.out 0
                        have hfz354_1 := blk_frozen BK303.out 1
                        as_aux_lemma =>
                          go_wp2_with (first | ((with_reducible refine gate_callee (f := 8) rfl ?_); refine goesL_ (some 147) rfl rfl Try.func8 pmBx16_14_ rfl #[.int .i64 a0, .int .i64 a1, .agg #[.bool a2_0, .int .i64 a2_1], .agg #[.bool a3_0, .int .i64 a3_1], .int .i64 a5] rfl pmBx16_4_ ?_; (with_reducible refine (self_Place.calls kj301 a0 a1 a2_0 a2_1 a3_0 a3_1 a5 t322 _ A317.out).mono ?_); rintro e w355 ⟨rfl, hb⟩; refine ⟨_, rfl, ?_⟩; have n0_ := Aside0.mk (blk_below (g := gb302) (o := .cells #[.bool a2_0, .int .i64 a2_1] 23 (0, 0)) pmBx16_1_ hb); have n1_ := Aside0.mk (blk_below (g := gb303) (o := .cells #[.bool a3_0, .int .i64 a3_1] 23 (0, 0)) pmBx16_2_ hb); have n2_ := Aside0.mk (blk_below (g := gb304) (o := .cells #[.int .i64 a4_0, .int .i64 a4_1] 46 (0, 0)) pmBx16_3_ hb); have n3_ := Aside0.mk (blk_below (g := gb315) (o := .cells #[.int .i64 1, .int .i64 0] 31 (0, 0)) pmBx16_11_ hb); have n4_ := Aside0.mk (blk_below (g := gb316) (o := .cells #[.int .i64 7, .int .i64 0] 31 (0, 0)) pmBx16_12_ hb); have n5_ := Aside0.mk (below_step pmBx16_5_ hb); clear BK302; clear BK303; clear BK304; clear BK315; clear BK316; clear HB; have BK302 := n0_; have BK303 := n1_; have BK304 := n2_; have BK315 := n3_; have BK316 := n4_; have HB := n5_; clear n0_ n1_ n2_ n3_ n4_ n5_; (try clear hb); (try clear hb2); (try clear hk); (try clear hi); have hcz356_0 : w355.cell? ⟨gb302, 0, none⟩ = some (.bool a2_0) := (blk_cell BK302.out 0).trans rfl; have hcz356_1 : w355.cell? ⟨gb302, 1, none⟩ = some (.int .i64 a2_1) := (blk_cell BK302.out 1).trans rfl; have hfz356_0 := blk_frozen BK302.out 0; have hfz356_1 := blk_frozen BK302.out 1))
                          go_ret
                          exact ⟨by first | rfl | (simp [errW_none, errW_some] <;> rfl) | (simp [*, errW_none, errW_some] <;> rfl), by repeat (first | (with_reducible first | exact HB.out | apply below_alloc | apply pw_below_drewN | apply below_drew1 | refine below_set ?_ GE302.out | refine below_set ?_ GE303.out | refine below_set ?_ GE304.out | refine below_set ?_ GE315.out | refine below_set ?_ GE316.out) | exact HB.out)⟩
/-- THE ONE PURE STATEMENT of parterrelaw29_SelfFits. -/
def parterrelaw29_SelfFits.Pure : Prop := ∀ (a0 : Int) (a1 : Int) (a2_0 : Bool) (a2_1 : Int) (a3_0 : Bool) (a3_1 : Int) (a4_0 : Int) (a4_1 : Int) (a5 : Int), (Lit.int .i64 a0).wf = true → (Lit.int .i64 a1).wf = true → (Lit.int .i64 a2_1).wf = true → (Lit.int .i64 a3_1).wf = true → (Lit.int .i64 a4_0).wf = true → (Lit.int .i64 a4_1).wf = true → (Lit.int .i64 a5).wf = true → ∃ k, parterrelaw29_SelfFits.f k a0 a1 a2_0 a2_1 a3_0 a3_1 a4_0 a4_1 a5 = some true

end Go.Proofs.Ytbenanokgfphmaa.PB
