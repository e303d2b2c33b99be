-- written by a program of this session (a print of the translation with changes of its own)
import Derived.Test.YtbkohlhonhmhmaaPAx0
import Derived.Test.YtbkohlhonhmhmaaPAx4
import Derived.Test.YtbkohlhonhmhmaaPAx7
import Derived.Test.YtbkohlhonhmhmaaPAx8
namespace Go.Proofs.Ytbkohlhonhmhmaa.PA
open Go.RowKit Go.Proofs.YtbkohlhonhmhmaaW.PrintWords Go.Proofs.YtbkohlhonhmhmaaW.PrintLast Go.Proofs.YtbkohlhonhmhmaaW.PrintMore
abbrev poAx9_0 (a0 : Int) (a1 : Int) : Obj := .cells #[.int .i64 a0, .int .i64 a1] 46 (0, 0)
theorem pmAx9_0_ {P : Prop} (h : P := by repeat (first | (with_reducible first | exact HB.out | apply below_alloc | apply pw_below_drewN | apply below_drew1 | refine below_set ?_ GE148.out | refine below_set ?_ GE149.out | refine below_set ?_ GE153.out | refine below_set ?_ GE155.out) | exact HB.out)) : P := h
theorem pmAx9_1_ {P : Prop} (h : P := by first | (with_reducible assumption) | assumption) : P := h
theorem pmAx9_2_ {P : Prop} (h : P := by (with_reducible repeat (first | refine blk_drewN ?_ _ | refine blk_drew ?_ | refine blk_alloc ?_ _)); exact BK148.out) : P := h
theorem pmAx9_3_ {P : Prop} (h : P := by (with_reducible repeat (first | refine blk_drewN ?_ _ | refine blk_drew ?_ | refine blk_alloc ?_ _)); exact BK149.out) : P := h
theorem pmAx9_4_ {P : Prop} (h : P := by (with_reducible repeat (first | refine blk_drewN ?_ _ | refine blk_drew ?_ | refine blk_alloc ?_ _)); exact BK153.out) : P := h
theorem pmAx9_5_ {P : Prop} (h : P := by (with_reducible repeat (first | refine blk_drewN ?_ _ | refine blk_drew ?_ | refine blk_alloc ?_ _)); exact BK155.out) : P := h
theorem pmAx9_6_ {P : Prop} (h : P := by first | rfl | (simp; done) | (simp [*]; done)) : P := h
theorem pmAx9_7_ {P : Prop} (h : P := by repeat (first | (with_reducible first | exact HB.out | apply below_alloc | apply pw_below_drewN | apply below_drew1 | refine below_set ?_ GE148.out | refine below_set ?_ GE149.out) | exact HB.out)) : P := h
theorem pmAx9_8_ {P : Prop} (h : P := by (try simp only [hl17_3]); (with_reducible repeat (first | refine blk_drewN ?_ _ | refine blk_drew ?_ | refine blk_alloc ?_ _)); exact BK148.out) : P := h
theorem pmAx9_9_ {P : Prop} (h : P := by (try simp only [hl17_3]); (with_reducible repeat (first | refine blk_drewN ?_ _ | refine blk_drew ?_ | refine blk_alloc ?_ _)); exact BK149.out) : P := h
theorem pmAx9_10_ {P : Prop} (h : P := by (try simp only [hl17_3]); (with_reducible repeat (first | refine blk_drewN ?_ _ | refine blk_drew ?_ | refine blk_alloc ?_ _)); exact BK153.out) : P := h
theorem pmAx9_11_ {P : Prop} (h : P := by (try simp only [hl17_3]); (with_reducible repeat (first | refine blk_drewN ?_ _ | refine blk_drew ?_ | refine blk_alloc ?_ _)); exact BK155.out) : P := h
theorem pmAx9_12_ {P : Prop} (h : P := by (try simp only [hl17_3]); (with_reducible repeat (first | apply Kd.R_alloc | apply Kd.R_drewN | apply Kd.R_drew)); exact HO_17.out) : P := h
theorem pmAx9_13_ {P : Prop} (h : P := by repeat (first | (with_reducible first | exact HB.out | apply below_alloc | apply pw_below_drewN | apply below_drew1 | refine below_set ?_ GE148.out | refine below_set ?_ GE149.out | refine below_set ?_ GE153.out) | exact HB.out)) : P := h
theorem pmAx9_14_ {P : Prop} (h : P := by (with_reducible repeat (first | apply Kd.R_alloc | apply Kd.R_drewN | apply Kd.R_drew)); exact HO_17.out) : P := h
theorem pmAx9_15_ {P : Prop} (h : P := by repeat (first | (with_reducible first | exact HB.out | apply below_alloc | apply pw_below_drewN | apply below_drew1 | refine below_set ?_ GE148.out | refine below_set ?_ GE149.out | refine below_set ?_ GE153.out | refine below_set ?_ GE155.out | refine below_set ?_ GE172.out) | exact HB.out)) : P := h
theorem pmAx9_16_ {P : Prop} (h : P := by repeat (first | (with_reducible first | exact HB.out | apply below_alloc | apply pw_below_drewN | apply below_drew1 | refine below_set ?_ GE148.out | refine below_set ?_ GE149.out | refine below_set ?_ GE153.out | refine below_set ?_ GE155.out | refine below_set ?_ GE189.out) | exact HB.out)) : P := h
theorem pmAx9_17_ {P : Prop} (h : P := by (try simp only [List.map_toArray, List.map_cons, List.map_nil]); first | done | rfl | (simp only [List.length_drop, List.length_take]; rfl)) : P := h
theorem pmAx9_18_ {P : Prop} (h : P := by have := HJ5.out; have := HK2.out; have := HK3.out; omega) : P := h
theorem pmAx9_19_ {P : Prop} (h : P := by rw [hg]; exact Nat.ne_of_lt (blk_lt (g := gb148) (o := .cells #[.int .i64 a0_0, .slice A0_1 l0_1.length c0_1, .slice A0_2 l0_2.length c0_2, .slice A0_3 l0_3.length c0_3] 26 (0, 0)) pmAx9_2_)) : P := h
theorem pmAx9_20_ {P : Prop} (h : P := by rw [hg]; exact Nat.ne_of_gt (blk_lt (g := gb148) (o := .cells #[.int .i64 a0_0, .slice A0_1 l0_1.length c0_1, .slice A0_2 l0_2.length c0_2, .slice A0_3 l0_3.length c0_3] 26 (0, 0)) pmAx9_2_)) : P := h
theorem pmAx9_21_ {P : Prop} (h : P := by repeat (first | (with_reducible first | exact HB.out | apply below_alloc | apply pw_below_drewN | apply below_drew1 | refine below_set ?_ GE148.out) | exact HB.out)) : P := h
theorem pmAx9_22_ {P : Prop} (h : P := by rw [hg]; exact Nat.ne_of_lt (blk_lt (g := gb149) (o := .cells #[.int .i64 a3] 3 (0, 0)) pmAx9_3_)) : P := h
theorem pmAx9_23_ {P : Prop} (h : P := by rw [hg]; exact Nat.ne_of_gt (blk_lt (g := gb149) (o := .cells #[.int .i64 a3] 3 (0, 0)) pmAx9_3_)) : P := h
theorem pmAx9_24_ {P : Prop} (h : P := by (with_reducible repeat (first | refine blk_drewN ?_ _ | refine blk_drew ?_ | refine blk_alloc ?_ _)); refine blk_put (cs := #[.int .i64 0]) ?_ 0 _ rfl; (with_reducible repeat (first | refine blk_drewN ?_ _ | refine blk_drew ?_ | refine blk_alloc ?_ _)); exact BK155.out) : P := h
theorem pmAx9_25_ {P : Prop} (h : P := by repeat (first | (with_reducible first | exact HB.out | apply below_alloc | apply pw_below_drewN | apply below_drew1) | exact HB.out)) : P := h
theorem pmAx9_26_ {P : Prop} (h : P := by (with_reducible repeat (first | refine blk_drewN ?_ _ | refine blk_drew ?_ | refine blk_alloc ?_ _)); refine blk_far ?_ NB148_153.out _; (with_reducible repeat (first | refine blk_drewN ?_ _ | refine blk_drew ?_ | refine blk_alloc ?_ _)); exact BK148.out) : P := h
theorem pmAx9_27_ {P : Prop} (h : P := by (with_reducible repeat (first | refine blk_drewN ?_ _ | refine blk_drew ?_ | refine blk_alloc ?_ _)); refine blk_far ?_ NB149_153.out _; (with_reducible repeat (first | refine blk_drewN ?_ _ | refine blk_drew ?_ | refine blk_alloc ?_ _)); exact BK149.out) : P := h
theorem pmAx9_28_ {P : Prop} (h : P := by (with_reducible repeat (first | refine blk_drewN ?_ _ | refine blk_drew ?_ | refine blk_alloc ?_ _)); refine blk_far ?_ NB149_155.out _; (with_reducible repeat (first | refine blk_drewN ?_ _ | refine blk_drew ?_ | refine blk_alloc ?_ _)); exact BK149.out) : P := h
theorem pmAx9_29_ {P : Prop} (h : P := by (with_reducible repeat (first | refine blk_drewN ?_ _ | refine blk_drew ?_ | refine blk_alloc ?_ _)); refine blk_far ?_ NB153_155.out _; (with_reducible repeat (first | refine blk_drewN ?_ _ | refine blk_drew ?_ | refine blk_alloc ?_ _)); exact BK153.out) : P := h
attribute [local go_sem] run_index_arr max2_int min2_int max_two min_two max_three min_three max_four min_four   -- for this text's walks alone
set_option linter.unusedVariables false
set_option linter.unusedSimpArgs false

/-! ### content_Starts: function 8 -/
mutual
def content_Starts.j0 : Nat → List Int → Int → Int → Int → Bool → Int → List (S57) → List Bool → List Int → Int → Option (List Int × Int)
  | 0, _, _, _, _, _, _, _, _, _, _ => none
  | k + 1, x1, x2, x10, x11, x45, x149000, x149001, x149002, x149003, x150000 => if x45 = true then (some (([] : List Int), 2)) else (if x11 = 0 then (content_Starts.l0 k x1 x2 x10 x149002 (x149002.length : Int) 0 x149000 x149001 x149002 x149003 x150000 0) else (some (([] : List Int), x11)))
def content_Starts.l0 : Nat → List Int → Int → Int → List Bool → Int → Int → Int → List (S57) → List Bool → List Int → Int → Int → Option (List Int × Int)
  | 0, _, _, _, _, _, _, _, _, _, _, _, _ => none
  | k + 1, x1, x2, x10, x50, x51, x52, x149000, x149001, x149002, x149003, x150000, x154000 => if x52 < x51 then (if 0 ≤ x52 then (if x52 < (x50.length : Int) then (if rdOf false x50 x52 = true then (content_Starts.l0 k x1 x2 x10 x50 x51 (wrap64 (x52 + 1)) x149000 x149001 x149002 x149003 x150000 x154000) else (content_Starts.l0 k x1 x2 x10 x50 x51 (wrap64 (x52 + 1)) x149000 x149001 x149002 x149003 x150000 (wrap64 (x154000 + 1)))) else (none)) else (none)) else (if 0 ≤ (x1.length : Int) then (if ((x1.length : Int) : Int).toNat ≤ 35184372088832 then ((some (List.replicate ((x1.length : Int) : Int).toNat 0 : List Int)).bind fun y156 => (content_Starts.l1 k x1 y156 0 (-1) (y156.length : Int) 0 x149000 x149001 x149002 x149003 x150000 x154000 (wrap64 (x2 - x10)))) else (none)) else (none))
def content_Starts.l1 : Nat → List Int → List Int → Int → Int → Int → Int → Int → List (S57) → List Bool → List Int → Int → Int → Int → Option (List Int × Int)
  | 0, _, _, _, _, _, _, _, _, _, _, _, _, _ => none
  | k + 1, x1, x17, x18, x19, x69, x70, x149000, x149001, x149002, x149003, x150000, x154000, x156000 => if x70 < x69 then (if 0 ≤ x70 then (if x70 < (x149002.length : Int) then (if rdOf false x149002 x70 = true then (if x70 < (x149003.length : Int) then (if x150000 = 4 then (if x70 < (x17.length : Int) then (if x70 < (x1.length : Int) then (content_Starts.l1 k x1 (x17.set (x70 : Int).toNat (wrap64 ((wrap64 (x18 + (rd x149003 x70))) + x156000))) (wrap64 ((wrap64 (x18 + (rd x149003 x70))) + (rd x1 x70))) x19 x69 (wrap64 (x70 + 1)) x149000 x149001 x149002 x149003 x150000 x154000 x156000) else (none)) else (none)) else (if x150000 = 5 then ((fixed_Div.f x156000 2).bind fun t163 => (if x70 < (x17.length : Int) then (if x70 < (x1.length : Int) then (content_Starts.l1 k x1 (x17.set (x70 : Int).toNat (wrap64 ((wrap64 (x18 + (rd x149003 x70))) + t163))) (wrap64 ((wrap64 (x18 + (rd x149003 x70))) + (rd x1 x70))) x19 x69 (wrap64 (x70 + 1)) x149000 x149001 x149002 x149003 x150000 x154000 x156000) else (none)) else (none))) else (if x156000 ≤ 0 then (if x70 < (x17.length : Int) then (if x70 < (x1.length : Int) then (content_Starts.l1 k x1 (x17.set (x70 : Int).toNat (wrap64 ((wrap64 (x18 + (rd x149003 x70))) + 0))) (wrap64 ((wrap64 (x18 + (rd x149003 x70))) + (rd x1 x70))) x19 x69 (wrap64 (x70 + 1)) x149000 x149001 x149002 x149003 x150000 x154000 x156000) else (none)) else (none)) else (if x154000 = 0 then (if x70 < (x17.length : Int) then (if x70 < (x1.length : Int) then (content_Starts.l1 k x1 (x17.set (x70 : Int).toNat (wrap64 ((wrap64 (x18 + (rd x149003 x70))) + 0))) (wrap64 ((wrap64 (x18 + (rd x149003 x70))) + (rd x1 x70))) x19 x69 (wrap64 (x70 + 1)) x149000 x149001 x149002 x149003 x150000 x154000 x156000) else (none)) else (none)) else ((content_ratio.f x150000 (mx x19 0) x154000).bind fun bt170 => ((fixed_MulDiv.f k x156000 bt170.1 bt170.2).bind fun bt173 => (if x70 < (x17.length : Int) then (if x70 < (x1.length : Int) then (content_Starts.l1 k x1 (x17.set (x70 : Int).toNat (wrap64 ((wrap64 (x18 + (rd x149003 x70))) + bt173.1))) (wrap64 ((wrap64 (x18 + (rd x149003 x70))) + (rd x1 x70))) x19 x69 (wrap64 (x70 + 1)) x149000 x149001 x149002 x149003 x150000 x154000 x156000) else (none)) else (none)))))))) else (none)) else (if x70 < (x149003.length : Int) then (if x150000 = 4 then (if x70 < (x17.length : Int) then (if x70 < (x1.length : Int) then (content_Starts.l1 k x1 (x17.set (x70 : Int).toNat (wrap64 ((wrap64 (x18 + (rd x149003 x70))) + x156000))) (wrap64 ((wrap64 (x18 + (rd x149003 x70))) + (rd x1 x70))) (wrap64 (x19 + 1)) x69 (wrap64 (x70 + 1)) x149000 x149001 x149002 x149003 x150000 x154000 x156000) else (none)) else (none)) else (if x150000 = 5 then ((fixed_Div.f x156000 2).bind fun t180 => (if x70 < (x17.length : Int) then (if x70 < (x1.length : Int) then (content_Starts.l1 k x1 (x17.set (x70 : Int).toNat (wrap64 ((wrap64 (x18 + (rd x149003 x70))) + t180))) (wrap64 ((wrap64 (x18 + (rd x149003 x70))) + (rd x1 x70))) (wrap64 (x19 + 1)) x69 (wrap64 (x70 + 1)) x149000 x149001 x149002 x149003 x150000 x154000 x156000) else (none)) else (none))) else (if x156000 ≤ 0 then (if x70 < (x17.length : Int) then (if x70 < (x1.length : Int) then (content_Starts.l1 k x1 (x17.set (x70 : Int).toNat (wrap64 ((wrap64 (x18 + (rd x149003 x70))) + 0))) (wrap64 ((wrap64 (x18 + (rd x149003 x70))) + (rd x1 x70))) (wrap64 (x19 + 1)) x69 (wrap64 (x70 + 1)) x149000 x149001 x149002 x149003 x150000 x154000 x156000) else (none)) else (none)) else (if x154000 = 0 then (if x70 < (x17.length : Int) then (if x70 < (x1.length : Int) then (content_Starts.l1 k x1 (x17.set (x70 : Int).toNat (wrap64 ((wrap64 (x18 + (rd x149003 x70))) + 0))) (wrap64 ((wrap64 (x18 + (rd x149003 x70))) + (rd x1 x70))) (wrap64 (x19 + 1)) x69 (wrap64 (x70 + 1)) x149000 x149001 x149002 x149003 x150000 x154000 x156000) else (none)) else (none)) else ((content_ratio.f x150000 (mx (wrap64 (x19 + 1)) 0) x154000).bind fun bt187 => ((fixed_MulDiv.f k x156000 bt187.1 bt187.2).bind fun bt190 => (if x70 < (x17.length : Int) then (if x70 < (x1.length : Int) then (content_Starts.l1 k x1 (x17.set (x70 : Int).toNat (wrap64 ((wrap64 (x18 + (rd x149003 x70))) + bt190.1))) (wrap64 ((wrap64 (x18 + (rd x149003 x70))) + (rd x1 x70))) (wrap64 (x19 + 1)) x69 (wrap64 (x70 + 1)) x149000 x149001 x149002 x149003 x150000 x154000 x156000) else (none)) else (none)))))))) else (none))) else (none)) else (none)) else (some (x17, 0))
end
def content_Starts.f (k : Nat) (a0_0 : Int) (l0_1 : List (S57)) (l0_2 : List Bool) (l0_3 : List Int) (l1 : List Int) (a2 : Int) (a3 : Int) : Option (List Int × Int) := (tracks_Sum.f k a0_0 l0_1 l0_2 l0_3 l1).bind fun bt150 => (if bt150.2 = 2 then (content_Starts.j0 k l1 a2 bt150.1 bt150.2 true a0_0 l0_1 l0_2 l0_3 a3) else (if a2 < 0 then (content_Starts.j0 k l1 a2 bt150.1 bt150.2 true a0_0 l0_1 l0_2 l0_3 a3) else ((fixed_Is.f a2).bind fun t152 => (if t152 = true then (if a3 < 2 then (content_Starts.j0 k l1 a2 bt150.1 bt150.2 true a0_0 l0_1 l0_2 l0_3 a3) else (content_Starts.j0 k l1 a2 bt150.1 bt150.2 (decide (a3 > 9)) a0_0 l0_1 l0_2 l0_3 a3)) else (content_Starts.j0 k l1 a2 bt150.1 bt150.2 true a0_0 l0_1 l0_2 l0_3 a3)))))
theorem content_Starts.mono_l : ∀ k, (∀ y0 y1 y2 y3 y4 y5 y6 y7 y8 y9, LeO (content_Starts.j0 k y0 y1 y2 y3 y4 y5 y6 y7 y8 y9) (content_Starts.j0 (k + 1) y0 y1 y2 y3 y4 y5 y6 y7 y8 y9)) ∧ (∀ y0 y1 y2 y3 y4 y5 y6 y7 y8 y9 y10 y11, LeO (content_Starts.l0 k y0 y1 y2 y3 y4 y5 y6 y7 y8 y9 y10 y11) (content_Starts.l0 (k + 1) y0 y1 y2 y3 y4 y5 y6 y7 y8 y9 y10 y11)) ∧ (∀ y0 y1 y2 y3 y4 y5 y6 y7 y8 y9 y10 y11 y12, LeO (content_Starts.l1 k y0 y1 y2 y3 y4 y5 y6 y7 y8 y9 y10 y11 y12) (content_Starts.l1 (k + 1) y0 y1 y2 y3 y4 y5 y6 y7 y8 y9 y10 y11 y12))
  | 0 => ⟨fun _ _ _ _ _ _ _ _ _ _ r h => by simp [content_Starts.j0] at h, fun _ _ _ _ _ _ _ _ _ _ _ _ r h => by simp [content_Starts.l0] at h, fun _ _ _ _ _ _ _ _ _ _ _ _ _ r h => by simp [content_Starts.l1] at h⟩
  | k + 1 => by
    obtain ⟨ih0, ih1, ih2⟩ := content_Starts.mono_l k
    refine ⟨?_, ?_, ?_⟩
    · intro y0 y1 y2 y3 y4 y5 y6 y7 y8 y9
      unfold content_Starts.j0
      repeat' first
      | (with_reducible exact ih0 _ _ _ _ _ _ _ _ _ _)
      | (with_reducible exact ih1 _ _ _ _ _ _ _ _ _ _ _ _)
      | (with_reducible exact ih2 _ _ _ _ _ _ _ _ _ _ _ _ _)
      | (with_reducible exact fixed_MulDiv.mono _ _ _ _)
      | (with_reducible exact tracks_Sum.mono _ _ _ _ _ _)
      | (with_reducible exact LeO.refl _)
      | (with_reducible exact LeO.none _)
      | (with_reducible refine LeO.ite ?_ ?_)
      | (with_reducible refine LeO.bind ?_ (fun _ => ?_))
      | exact ih0 _ _ _ _ _ _ _ _ _ _
      | exact ih1 _ _ _ _ _ _ _ _ _ _ _ _
      | exact ih2 _ _ _ _ _ _ _ _ _ _ _ _ _
      | exact fixed_MulDiv.mono _ _ _ _
      | exact tracks_Sum.mono _ _ _ _ _ _
      | exact LeO.none _
      | refine LeO.ite ?_ ?_
      | refine LeO.bind ?_ (fun _ => ?_)
    · intro y0 y1 y2 y3 y4 y5 y6 y7 y8 y9 y10 y11
      unfold content_Starts.l0
      repeat' first
      | (with_reducible exact ih0 _ _ _ _ _ _ _ _ _ _)
      | (with_reducible exact ih1 _ _ _ _ _ _ _ _ _ _ _ _)
      | (with_reducible exact ih2 _ _ _ _ _ _ _ _ _ _ _ _ _)
      | (with_reducible exact fixed_MulDiv.mono _ _ _ _)
      | (with_reducible exact tracks_Sum.mono _ _ _ _ _ _)
      | (with_reducible exact LeO.refl _)
      | (with_reducible exact LeO.none _)
      | (with_reducible refine LeO.ite ?_ ?_)
      | (with_reducible refine LeO.bind ?_ (fun _ => ?_))
      | exact ih0 _ _ _ _ _ _ _ _ _ _
      | exact ih1 _ _ _ _ _ _ _ _ _ _ _ _
      | exact ih2 _ _ _ _ _ _ _ _ _ _ _ _ _
      | exact fixed_MulDiv.mono _ _ _ _
      | exact tracks_Sum.mono _ _ _ _ _ _
      | exact LeO.none _
      | refine LeO.ite ?_ ?_
      | refine LeO.bind ?_ (fun _ => ?_)
    · intro y0 y1 y2 y3 y4 y5 y6 y7 y8 y9 y10 y11 y12
      unfold content_Starts.l1
      repeat' first
      | (with_reducible exact ih0 _ _ _ _ _ _ _ _ _ _)
      | (with_reducible exact ih1 _ _ _ _ _ _ _ _ _ _ _ _)
      | (with_reducible exact ih2 _ _ _ _ _ _ _ _ _ _ _ _ _)
      | (with_reducible exact fixed_MulDiv.mono _ _ _ _)
      | (with_reducible exact tracks_Sum.mono _ _ _ _ _ _)
      | (with_reducible exact LeO.refl _)
      | (with_reducible exact LeO.none _)
      | (with_reducible refine LeO.ite ?_ ?_)
      | (with_reducible refine LeO.bind ?_ (fun _ => ?_))
      | exact ih0 _ _ _ _ _ _ _ _ _ _
      | exact ih1 _ _ _ _ _ _ _ _ _ _ _ _
      | exact ih2 _ _ _ _ _ _ _ _ _ _ _ _ _
      | exact fixed_MulDiv.mono _ _ _ _
      | exact tracks_Sum.mono _ _ _ _ _ _
      | exact LeO.none _
      | refine LeO.ite ?_ ?_
      | refine LeO.bind ?_ (fun _ => ?_)
theorem content_Starts.mono : ∀ a0 a1 a2 a3 a4 a5 a6 k, LeO (content_Starts.f k a0 a1 a2 a3 a4 a5 a6) (content_Starts.f (k + 1) a0 a1 a2 a3 a4 a5 a6) := by
  intro a0 a1 a2 a3 a4 a5 a6 k
  obtain ⟨ih0, ih1, ih2⟩ := content_Starts.mono_l k
  unfold content_Starts.f
  repeat' first
      | (with_reducible exact ih0 _ _ _ _ _ _ _ _ _ _)
      | (with_reducible exact ih1 _ _ _ _ _ _ _ _ _ _ _ _)
      | (with_reducible exact ih2 _ _ _ _ _ _ _ _ _ _ _ _ _)
      | (with_reducible exact fixed_MulDiv.mono _ _ _ _)
      | (with_reducible exact tracks_Sum.mono _ _ _ _ _ _)
      | (with_reducible exact LeO.refl _)
      | (with_reducible exact LeO.none _)
      | (with_reducible refine LeO.ite ?_ ?_)
      | (with_reducible refine LeO.bind ?_ (fun _ => ?_))
      | exact ih0 _ _ _ _ _ _ _ _ _ _
      | exact ih1 _ _ _ _ _ _ _ _ _ _ _ _
      | exact ih2 _ _ _ _ _ _ _ _ _ _ _ _ _
      | exact fixed_MulDiv.mono _ _ _ _
      | exact tracks_Sum.mono _ _ _ _ _ _
      | exact LeO.none _
      | refine LeO.ite ?_ ?_
      | refine LeO.bind ?_ (fun _ => ?_)
set_option maxHeartbeats 8000000 in
set_option maxRecDepth 100000 in
theorem content_Starts.calls (k : Nat) (a0_0 : Int) (A0_1 : Option Addr) (c0_1 : Nat) (l0_1 : List (S57)) (A0_2 : Option Addr) (c0_2 : Nat) (l0_2 : List Bool) (A0_3 : Option Addr) (c0_3 : Nat) (l0_3 : List Int) (A1 : Option Addr) (c1 : Nat) (l1 : List Int) (a2 : Int) (a3 : Int) (r1 : List Int) (r2 : Int) (w : World) (hr0_1 : Kd.C k57 w A0_1 l0_1.length l0_1) (hc0_1 : l0_1.length ≤ c0_1) (hr0_2 : Kd.C Kd.bool w A0_2 l0_2.length l0_2) (hc0_2 : l0_2.length ≤ c0_2) (hr0_3 : Kd.C (Kd.int .i64) w A0_3 l0_3.length l0_3) (hc0_3 : l0_3.length ≤ c0_3) (hr1 : Kd.C (Kd.int .i64) w A1 l1.length l1) (hc1 : l1.length ≤ c1) (h : content_Starts.f k a0_0 l0_1 l0_2 l0_3 l1 a2 a3 = some (r1, r2)) :
    Calls Try.prog 8 #[.agg #[.int .i64 a0_0, .slice A0_1 l0_1.length c0_1, .slice A0_2 l0_2.length c0_2, .slice A0_3 l0_3.length c0_3], .slice A1 l1.length c1, .int .i64 a2, .int .i64 a3] w fun e w' => ∃ v0_ : Value, e = .returned (.tuple #[v0_, .int .i64 r2]) ∧ Kd.R (Kd.int .i64) 3 w' w.heap.size (fun _ => True) v0_ r1 ∧ Below w.heap.size w w' := by
  have hu26 := Try.underlying26
  have HR0_1 := Aside0.mk hr0_1
  have HC0_1 := Aside0.mk hc0_1
  clear hr0_1 hc0_1
  have HR0_2 := Aside0.mk hr0_2
  have HC0_2 := Aside0.mk hc0_2
  clear hr0_2 hc0_2
  have HR0_3 := Aside0.mk hr0_3
  have HC0_3 := Aside0.mk hc0_3
  clear hr0_3 hc0_3
  have HR1 := Aside0.mk hr1
  have HC1 := Aside0.mk hc1
  clear hr1 hc1
  have HB := Aside0.mk (Below.refl w.heap.size w)
  have H : ((tracks_Sum.f k a0_0 l0_1 l0_2 l0_3 l1).bind fun bt150 => (if bt150.2 = 2 then (content_Starts.j0 k l1 a2 bt150.1 bt150.2 true a0_0 l0_1 l0_2 l0_3 a3) else (if a2 < 0 then (content_Starts.j0 k l1 a2 bt150.1 bt150.2 true a0_0 l0_1 l0_2 l0_3 a3) else ((fixed_Is.f a2).bind fun t152 => (if t152 = true then (if a3 < 2 then (content_Starts.j0 k l1 a2 bt150.1 bt150.2 true a0_0 l0_1 l0_2 l0_3 a3) else (content_Starts.j0 k l1 a2 bt150.1 bt150.2 (decide (a3 > 9)) a0_0 l0_1 l0_2 l0_3 a3)) else (content_Starts.j0 k l1 a2 bt150.1 bt150.2 true a0_0 l0_1 l0_2 l0_3 a3)))))) = some (r1, r2) := h
  clear h
  replace H := Option.bind_eq_some_iff.mp H
  obtain ⟨⟨t150, t151⟩, A50, H⟩ := H
  replace H : (if t151 = 2 then (content_Starts.j0 k l1 a2 t150 t151 true a0_0 l0_1 l0_2 l0_3 a3) else (if a2 < 0 then (content_Starts.j0 k l1 a2 t150 t151 true a0_0 l0_1 l0_2 l0_3 a3) else ((fixed_Is.f a2).bind fun t152 => (if t152 = true then (if a3 < 2 then (content_Starts.j0 k l1 a2 t150 t151 true a0_0 l0_1 l0_2 l0_3 a3) else (content_Starts.j0 k l1 a2 t150 t151 (decide (a3 > 9)) a0_0 l0_1 l0_2 l0_3 a3)) else (content_Starts.j0 k l1 a2 t150 t151 true a0_0 l0_1 l0_2 l0_3 a3))))) = some (r1, r2) := H
  have A5 := Aside0.mk A50
  clear A50
  have HC6 := Aside0.mk H
  clear H
  go_enter Try.func8, Try.ntmps8
  go_upto_region 2 with (first | ((with_reducible refine gate_dst (N := 4) rfl ?_); refine box_event ?hg (N := 4) ?hd (cs := #[.int .i64 a0_0, .slice A0_1 l0_1.length c0_1, .slice A0_2 l0_2.length c0_2, .slice A0_3 l0_3.length c0_3]) (t := 26) ?hr ?_; (case hd => rfl); (case hg => rfl); (case hr => first | (go_simp; done) | (go_simp; rfl)); intro gb148 hg w7 hbox hb; have n0_ := Aside0.mk (below_step pmAx9_25_ hb); have n1_ := Aside0.mk (hbox); have n2_ := Aside0.mk ((by rw [hg]; exact (below_size pmAx9_25_) : w.heap.size ≤ gb148)); have n3_ := Aside0.mk ((by rw [hg]; exact (below_size pmAx9_25_) : w.heap.size ≤ gb148)); clear HB; have HB := n0_; have BK148 := n1_; have GW148 := n2_; have GE148 := n3_; clear n0_ n1_ n2_ n3_; clear hb hbox hg) | ((with_reducible refine gate_dst (N := 7) rfl ?_); refine box_event ?hg (N := 7) ?hd (cs := #[.int .i64 a3]) (t := 3) ?hr ?_; (case hd => rfl); (case hg => rfl); (case hr => first | (go_simp; done) | (go_simp; rfl)); intro gb149 hg w8 hbox hb; have n0_ := Aside0.mk (blk_below (g := gb148) (o := .cells #[.int .i64 a0_0, .slice A0_1 l0_1.length c0_1, .slice A0_2 l0_2.length c0_2, .slice A0_3 l0_3.length c0_3] 26 (0, 0)) pmAx9_2_ hb); have n1_ := Aside0.mk (below_step pmAx9_21_ hb); have n2_ := Aside0.mk (hbox); have n3_ := Aside0.mk ((by rw [hg]; exact (below_size pmAx9_21_) : w.heap.size ≤ gb149)); have n4_ := Aside0.mk ((by rw [hg]; exact (below_size pmAx9_21_) : w.heap.size ≤ gb149)); have n5_ := Aside0.mk ((pmAx9_19_ : gb148 ≠ gb149)); have n6_ := Aside0.mk ((pmAx9_20_ : gb149 ≠ gb148)); clear BK148; clear HB; have BK148 := n0_; have HB := n1_; have BK149 := n2_; have GW149 := n3_; have GE149 := n4_; have NB148_149 := n5_; have NB149_148 := n6_; clear n0_ n1_ n2_ n3_ n4_ n5_ n6_; clear hb hbox hg; have hnb9 := NB148_149.out; have hnc9 := NB149_148.out; have hcz10_0 : w8.cell? ⟨gb148, 0, none⟩ = some (.int .i64 a0_0) := (blk_cell BK148.out 0).trans rfl; have hcz10_1 : w8.cell? ⟨gb148, 1, none⟩ = some (.slice A0_1 l0_1.length c0_1) := (blk_cell BK148.out 1).trans rfl; have hcz10_2 : w8.cell? ⟨gb148, 2, none⟩ = some (.slice A0_2 l0_2.length c0_2) := (blk_cell BK148.out 2).trans rfl; have hcz10_3 : w8.cell? ⟨gb148, 3, none⟩ = some (.slice A0_3 l0_3.length c0_3) := (blk_cell BK148.out 3).trans rfl; have hfz10_0 := blk_frozen BK148.out 0; have hfz10_1 := blk_frozen BK148.out 1; have hfz10_2 := blk_frozen BK148.out 2; have hfz10_3 := blk_frozen BK148.out 3) | ((with_reducible refine gate_callee (f := 11) rfl ?_); refine goesL_ (some 24) rfl rfl Try.func11 (by kernel_rfl) rfl #[.agg #[.int .i64 a0_0, .slice A0_1 l0_1.length c0_1, .slice A0_2 l0_2.length c0_2, .slice A0_3 l0_3.length c0_3], .slice A1 l1.length c1] rfl pmAx9_17_ ?_; (with_reducible refine (tracks_Sum.calls k a0_0 _ _ l0_1 _ _ l0_2 _ _ l0_3 _ _ l1 t150 t151 _ ?side1 ?side2 ?side3 ?side4 ?side5 ?side6 ?side7 ?side8 A5.out).mono ?_); (case side1 => repeat (first | exact (Kd.C_below HR0_1.out HB.out) | (with_reducible refine Kd.C_alloc ?_ _) | (with_reducible refine Kd.C_drewN ?_ _) | (with_reducible refine Kd.C_drew ?_))); (case side2 => exact HC0_1.out); (case side3 => repeat (first | exact (Kd.C_below HR0_2.out HB.out) | (with_reducible refine Kd.C_alloc ?_ _) | (with_reducible refine Kd.C_drewN ?_ _) | (with_reducible refine Kd.C_drew ?_))); (case side4 => exact HC0_2.out); (case side5 => repeat (first | exact (Kd.C_below HR0_3.out HB.out) | (with_reducible refine Kd.C_alloc ?_ _) | (with_reducible refine Kd.C_drewN ?_ _) | (with_reducible refine Kd.C_drew ?_))); (case side6 => exact HC0_3.out); (case side7 => repeat (first | exact (Kd.C_below HR1.out HB.out) | (with_reducible refine Kd.C_alloc ?_ _) | (with_reducible refine Kd.C_drewN ?_ _) | (with_reducible refine Kd.C_drew ?_))); (case side8 => exact HC1.out); rintro e w11 ⟨rfl, hb⟩; refine ⟨_, rfl, ?_⟩; have n0_ := Aside0.mk (blk_below (g := gb148) (o := .cells #[.int .i64 a0_0, .slice A0_1 l0_1.length c0_1, .slice A0_2 l0_2.length c0_2, .slice A0_3 l0_3.length c0_3] 26 (0, 0)) pmAx9_2_ hb); have n1_ := Aside0.mk (blk_below (g := gb149) (o := .cells #[.int .i64 a3] 3 (0, 0)) pmAx9_3_ hb); have n2_ := Aside0.mk (below_step pmAx9_7_ hb); clear BK148; clear BK149; clear HB; have BK148 := n0_; have BK149 := n1_; have HB := n2_; clear n0_ n1_ n2_; (try clear hb); (try clear hb2); (try clear hk); (try clear hi)) | go_in)
  (try simp only [Act.put, List.setIfInBounds_toArray, List.set_cons_zero, List.set_cons_succ])
  go_cut [45] (fun v45 wc => ∃ (kq : Nat) (x45_5 : Bool), v45 = .bool x45_5 ∧ Aside0 (content_Starts.j0 kq l1 a2 t150 t151 x45_5 a0_0 l0_1 l0_2 l0_3 a3 = some (r1, r2)) ∧ Aside0 (kq ≤ k) ∧ Aside0 (wc.heap[gb148]? = some (.cells #[.int .i64 a0_0, (.slice A0_1 l0_1.length c0_1), (.slice A0_2 l0_2.length c0_2), (.slice A0_3 l0_3.length c0_3)] 26 (0, 0))) ∧ Aside0 (wc.heap[gb149]? = some (.cells #[.int .i64 a3] 3 (0, 0))) ∧ Aside0 (Below w.heap.size w wc))
  case first =>
    have H := HC6.out
    clear HC6
    by_cases c12 : t151 = 2
    · rw [if_pos c12] at H
      have c12b0 : (t151 == 2) = true := beq_iff_eq.mpr c12
      have c12b1 : (t151 != 2) = false := bne_eq_false_iff_eq.mpr c12
      clear c12
      (first | rw [c12b0] | (simp only [i64_w, i32_w]; rw [c12b0]) | skip)
      have H' := Aside0.mk H
      clear H
      go_wp2
      repeat ((first | refine bodyPost_end (results_none rfl _ _ _) rfl ?_ | refine bodyPost_ret (results_none rfl _ _ _) rfl ?_ | refine bodyPost_ret (results_tmp rfl _ _ _) rfl ?_); try go_wp2)
      go_meet
      case rel => exact ⟨_, (true), pmAx9_6_, H', ⟨by first | omega | exact Nat.le_refl _⟩, ⟨pmAx9_2_⟩, ⟨pmAx9_3_⟩, ⟨pmAx9_7_⟩⟩
    rw [if_neg c12] at H
    have c12b0 : (t151 == 2) = false := beq_eq_false_iff_ne.mpr c12
    have c12b1 : (t151 != 2) = true := bne_iff_ne.mpr c12
    (first | rw [c12b0] | (simp only [i64_w, i32_w]; rw [c12b0]) | skip)
    by_cases c13 : a2 < 0
    · rw [if_pos c13] at H
      have c13b0 : decide (a2 < 0) = true := decide_eq_true c13
      clear c13
      have H' := Aside0.mk H
      clear H
      go_wp2
      repeat ((first | refine bodyPost_end (results_none rfl _ _ _) rfl ?_ | refine bodyPost_ret (results_none rfl _ _ _) rfl ?_ | refine bodyPost_ret (results_tmp rfl _ _ _) rfl ?_); try go_wp2)
      go_meet
      case rel => exact ⟨_, (true), pmAx9_6_, H', ⟨by first | omega | exact Nat.le_refl _⟩, ⟨pmAx9_2_⟩, ⟨pmAx9_3_⟩, ⟨pmAx9_7_⟩⟩
    rw [if_neg c13] at H
    have c13b0 : decide (a2 < 0) = false := decide_eq_false c13
    clear c13
    replace H := Option.bind_eq_some_iff.mp H
    obtain ⟨t152, A140, H⟩ := H
    replace H : (if t152 = true then (if a3 < 2 then (content_Starts.j0 k l1 a2 t150 t151 true a0_0 l0_1 l0_2 l0_3 a3) else (content_Starts.j0 k l1 a2 t150 t151 (decide (a3 > 9)) a0_0 l0_1 l0_2 l0_3 a3)) else (content_Starts.j0 k l1 a2 t150 t151 true a0_0 l0_1 l0_2 l0_3 a3)) = some (r1, r2) := H
    have A14 := Aside0.mk A140
    clear A140
    by_cases c15 : t152 = true
    rotate_left
    · replace c15 := Bool.eq_false_iff.mpr c15
      subst c15
      have H1 : (content_Starts.j0 k l1 a2 t150 t151 true a0_0 l0_1 l0_2 l0_3 a3) = some (r1, r2) := by rw [if_neg (show ¬ (false = true) by decide)] at H; exact H
      clear H
      have H := H1
      clear H1
      have H' := Aside0.mk H
      clear H
      go_wp2_with (first | (go_at_call 15; (with_reducible refine (fixed_Is.calls a2 false _ A14.out).mono ?_); rintro e w' ⟨rfl, ⟨nd, rfl⟩⟩) | go_in)
      repeat ((first | refine bodyPost_end (results_none rfl _ _ _) rfl ?_ | refine bodyPost_ret (results_none rfl _ _ _) rfl ?_ | refine bodyPost_ret (results_tmp rfl _ _ _) rfl ?_); try go_wp2)
      go_meet
      case rel => exact ⟨_, (true), pmAx9_6_, H', ⟨by first | omega | exact Nat.le_refl _⟩, ⟨pmAx9_2_⟩, ⟨pmAx9_3_⟩, ⟨pmAx9_7_⟩⟩
    subst c15
    have H1 : (if a3 < 2 then (content_Starts.j0 k l1 a2 t150 t151 true a0_0 l0_1 l0_2 l0_3 a3) else (content_Starts.j0 k l1 a2 t150 t151 (decide (a3 > 9)) a0_0 l0_1 l0_2 l0_3 a3)) = some (r1, r2) := by rw [if_pos rfl] at H; exact H
    clear H
    have H := H1
    clear H1
    by_cases c16 : a3 < 2
    rotate_left
    · rw [if_neg c16] at H
      have c16b0 : decide (a3 < 2) = false := decide_eq_false c16
      clear c16
      have H' := Aside0.mk H
      clear H
      go_wp2_with (first | (go_at_call 15; (with_reducible refine (fixed_Is.calls a2 true _ A14.out).mono ?_); rintro e w' ⟨rfl, ⟨nd, rfl⟩⟩; have hnb19 := NB149_148.out; have hnc19 := NB148_149.out; have hcz20_0 : w11.cell? ⟨gb149, 0, none⟩ = some (.int .i64 a3) := (blk_cell BK149.out 0).trans rfl; have hfz20_0 := blk_frozen BK149.out 0) | go_in)
      repeat ((first | refine bodyPost_end (results_none rfl _ _ _) rfl ?_ | refine bodyPost_ret (results_none rfl _ _ _) rfl ?_ | refine bodyPost_ret (results_tmp rfl _ _ _) rfl ?_); try go_wp2)
      go_meet
      case rel => exact ⟨_, (decide (a3 > 9)), pmAx9_6_, H', ⟨by first | omega | exact Nat.le_refl _⟩, ⟨pmAx9_2_⟩, ⟨pmAx9_3_⟩, ⟨pmAx9_7_⟩⟩
    rw [if_pos c16] at H
    have c16b0 : decide (a3 < 2) = true := decide_eq_true c16
    clear c16
    have H' := Aside0.mk H
    clear H
    go_wp2_with (first | (go_at_call 15; (with_reducible refine (fixed_Is.calls a2 true _ A14.out).mono ?_); rintro e w' ⟨rfl, ⟨nd, rfl⟩⟩; have hnb17 := NB149_148.out; have hnc17 := NB148_149.out; have hcz18_0 : w11.cell? ⟨gb149, 0, none⟩ = some (.int .i64 a3) := (blk_cell BK149.out 0).trans rfl; have hfz18_0 := blk_frozen BK149.out 0) | go_in)
    repeat ((first | refine bodyPost_end (results_none rfl _ _ _) rfl ?_ | refine bodyPost_ret (results_none rfl _ _ _) rfl ?_ | refine bodyPost_ret (results_tmp rfl _ _ _) rfl ?_); try go_wp2)
    go_meet
    case rel => exact ⟨_, (true), pmAx9_6_, H', ⟨by first | omega | exact Nat.le_refl _⟩, ⟨pmAx9_2_⟩, ⟨pmAx9_3_⟩, ⟨pmAx9_7_⟩⟩
  case rest =>
    clear HC6
    try clear c1
    try clear p2
    try clear c8
    try clear c9
    try clear c11
    try clear c12
    try clear c12b0
    try clear c12b1
    try clear c13
    try clear c13b0
    try clear c15
    try clear c16
    try clear c16b0
    try clear c17
    try clear c19
    try clear hcz10_0
    try clear hcz10_1
    try clear hcz10_2
    try clear hcz10_3
    try clear hcz18_0
    try clear hcz20_0
    try clear hfz10_0
    try clear hfz10_1
    try clear hfz10_2
    try clear hfz10_3
    try clear hfz18_0
    try clear hfz20_0
    obtain ⟨kq, x45_5, rfl, HA, HJ5, BK148, BK149, HB⟩ := hcut
    cases kq with
    | zero => exact absurd HA.out (by simp [content_Starts.j0])
    | succ kj5 =>
      have H := HA.out
      clear HA
      simp only [content_Starts.j0] at H
      by_cases c21 : x45_5 = true
      · subst c21
        have H1 : (some (([] : List Int), 2)) = some (r1, r2) := by rw [if_pos rfl] at H; exact H
        clear H
        have H := H1
        clear H1
        simp only [Option.some.injEq, Prod.mk.injEq] at H
        obtain ⟨rfl, rfl⟩ := H
        go_wp2
        go_ret2
        exact ⟨_, by first | rfl | (simp [errW_none, errW_some] <;> rfl) | (simp [*, errW_none, errW_some] <;> rfl), by first | exact Kd.R_nil _ _ _ _ _ | exact Kd.N_nil _ _ _ _ _ | exact Kd.V_nil _ _ _ _ _ | exact Kd.Q_nil _ _ _ _ _ | exact Kd.S_nil _ _ _ _ _, by repeat (first | (with_reducible first | exact HB.out | apply below_alloc | apply pw_below_drewN | apply below_drew1 | refine below_set ?_ GE148.out | refine below_set ?_ GE149.out) | exact HB.out)⟩
      replace c21 := Bool.eq_false_iff.mpr c21
      subst c21
      have H1 : (if t151 = 0 then (content_Starts.l0 kj5 l1 a2 t150 l0_2 (l0_2.length : Int) 0 a0_0 l0_1 l0_2 l0_3 a3 0) else (some (([] : List Int), t151))) = some (r1, r2) := by rw [if_neg (show ¬ (false = true) by decide)] at H; exact H
      clear H
      have H := H1
      clear H1
      by_cases c22 : t151 = 0
      rotate_left
      · rw [if_neg c22] at H
        have c22b0 : (t151 == 0) = false := beq_eq_false_iff_ne.mpr c22
        have c22b1 : (t151 != 0) = true := bne_iff_ne.mpr c22
        simp only [Option.some.injEq, Prod.mk.injEq] at H
        obtain ⟨rfl, rfl⟩ := H
        go_wp2
        go_ret2
        exact ⟨_, by first | rfl | (simp [errW_none, errW_some] <;> rfl) | (simp [*, errW_none, errW_some] <;> rfl), by first | exact Kd.R_nil _ _ _ _ _ | exact Kd.N_nil _ _ _ _ _ | exact Kd.V_nil _ _ _ _ _ | exact Kd.Q_nil _ _ _ _ _ | exact Kd.S_nil _ _ _ _ _, by repeat (first | (with_reducible first | exact HB.out | apply below_alloc | apply pw_below_drewN | apply below_drew1 | refine below_set ?_ GE148.out | refine below_set ?_ GE149.out) | exact HB.out)⟩

      rw [if_pos c22] at H
      have c22b0 : (t151 == 0) = true := beq_iff_eq.mpr c22
      have c22b1 : (t151 != 0) = false := bne_eq_false_iff_eq.mpr c22
      clear c22
      have H' := Aside0.mk H
      clear H
      go_wp2_with (first | ((with_reducible refine gate_dst (N := 12) rfl ?_); refine box_event ?hg (N := 12) ?hd (cs := #[.int .i64 0]) (t := 3) ?hr ?_; (case hd => rfl); (case hg => rfl); (case hr => first | (go_simp; done) | (go_simp; rfl)); intro gb153 hg w23 hbox hb; have n0_ := Aside0.mk (blk_below (g := gb148) (o := .cells #[.int .i64 a0_0, .slice A0_1 l0_1.length c0_1, .slice A0_2 l0_2.length c0_2, .slice A0_3 l0_3.length c0_3] 26 (0, 0)) pmAx9_2_ hb); have n1_ := Aside0.mk (blk_below (g := gb149) (o := .cells #[.int .i64 a3] 3 (0, 0)) pmAx9_3_ hb); have n2_ := Aside0.mk (below_step pmAx9_7_ hb); have n3_ := Aside0.mk (hbox); have n4_ := Aside0.mk ((by rw [hg]; exact (below_size pmAx9_7_) : w.heap.size ≤ gb153)); have n5_ := Aside0.mk ((by rw [hg]; exact (below_size pmAx9_7_) : w.heap.size ≤ gb153)); have n6_ := Aside0.mk ((pmAx9_19_ : gb148 ≠ gb153)); have n7_ := Aside0.mk ((pmAx9_20_ : gb153 ≠ gb148)); have n8_ := Aside0.mk ((pmAx9_22_ : gb149 ≠ gb153)); have n9_ := Aside0.mk ((pmAx9_23_ : gb153 ≠ gb149)); clear BK148; clear BK149; clear HB; have BK148 := n0_; have BK149 := n1_; have HB := n2_; have BK153 := n3_; have GW153 := n4_; have GE153 := n5_; have NB148_153 := n6_; have NB153_148 := n7_; have NB149_153 := n8_; have NB153_149 := n9_; clear n0_ n1_ n2_ n3_ n4_ n5_ n6_ n7_ n8_ n9_; clear hb hbox hg; have hnb24 := NB153_148.out; have hnc24 := NB148_153.out; have hnb25 := NB153_149.out; have hnc25 := NB149_153.out; have hcz26_0 : w23.cell? ⟨gb153, 0, none⟩ = some (.int .i64 0) := (blk_cell BK153.out 0).trans rfl; have hfz26_0 := blk_frozen BK153.out 0; have hnb27 := NB148_149.out; have hnc27 := NB149_148.out; have hcz28_0 : w23.cell? ⟨gb148, 0, none⟩ = some (.int .i64 a0_0) := (blk_cell BK148.out 0).trans rfl; have hcz28_1 : w23.cell? ⟨gb148, 1, none⟩ = some (.slice A0_1 l0_1.length c0_1) := (blk_cell BK148.out 1).trans rfl; have hcz28_2 : w23.cell? ⟨gb148, 2, none⟩ = some (.slice A0_2 l0_2.length c0_2) := (blk_cell BK148.out 2).trans rfl; have hcz28_3 : w23.cell? ⟨gb148, 3, none⟩ = some (.slice A0_3 l0_3.length c0_3) := (blk_cell BK148.out 3).trans rfl; have hfz28_0 := blk_frozen BK148.out 0; have hfz28_1 := blk_frozen BK148.out 1; have hfz28_2 := blk_frozen BK148.out 2; have hfz28_3 := blk_frozen BK148.out 3) | go_in)
      go_loopg [52] kj5 (fun kq v52 w' => ∃ (x52_2 : Int) (x154000_2 : Int), v52 = .int .i64 x52_2 ∧ Aside0 (content_Starts.l0 kq l1 a2 t150 l0_2 (l0_2.length : Int) x52_2 a0_0 l0_1 l0_2 l0_3 a3 x154000_2 = some (r1, r2)) ∧ Aside0 (kq ≤ kj5) ∧ Aside0 (w'.heap[gb148]? = some (.cells #[.int .i64 a0_0, (.slice A0_1 l0_1.length c0_1), (.slice A0_2 l0_2.length c0_2), (.slice A0_3 l0_3.length c0_3)] 26 (0, 0))) ∧ Aside0 (w'.heap[gb149]? = some (.cells #[.int .i64 a3] 3 (0, 0))) ∧ Aside0 (w'.heap[gb153]? = some (.cells #[.int .i64 x154000_2] 3 (0, 0))) ∧ Aside0 (Below w.heap.size w w'))
      case atStart => exact ⟨(0), (0), pmAx9_6_, H', ⟨Nat.le_refl _⟩, ⟨pmAx9_26_⟩, ⟨pmAx9_27_⟩, ⟨by (with_reducible repeat (first | refine blk_drewN ?_ _ | refine blk_drew ?_ | refine blk_alloc ?_ _)); refine blk_put (cs := #[.int .i64 0]) ?_ 0 _ rfl; (with_reducible repeat (first | refine blk_drewN ?_ _ | refine blk_drew ?_ | refine blk_alloc ?_ _)); exact BK153.out⟩, ⟨pmAx9_13_⟩⟩
      case round =>
        clear H'
        try clear c1
        try clear c2
        try clear p2
        try clear c8
        try clear c9
        try clear c11
        try clear c12
        try clear c12b0
        try clear c12b1
        try clear c13
        try clear c13b0
        try clear c15
        try clear c16
        try clear c16b0
        try clear c17
        try clear c19
        try clear c21
        try clear c22
        try clear c22b0
        try clear c22b1
        try clear c24
        try clear c25
        try clear c27
        try clear hcz10_0
        try clear hcz10_1
        try clear hcz10_2
        try clear hcz10_3
        try clear hcz18_0
        try clear hcz20_0
        try clear hcz26_0
        try clear hcz28_0
        try clear hcz28_1
        try clear hcz28_2
        try clear hcz28_3
        try clear hfz10_0
        try clear hfz10_1
        try clear hfz10_2
        try clear hfz10_3
        try clear hfz18_0
        try clear hfz20_0
        try clear hfz26_0
        try clear hfz28_0
        try clear hfz28_1
        try clear hfz28_2
        try clear hfz28_3
        try clear p2
        obtain ⟨x52_2, x154000_2, rfl, HA, HK2, BK148, BK149, BK153, HB⟩ := hrel
        cases gk with
        | zero => exact absurd HA.out (by simp [content_Starts.l0])
        | succ k2 =>
          have H := HA.out
          clear HA
          simp only [content_Starts.l0] at H
          by_cases c29 : x52_2 < (l0_2.length : Int)
          · rw [if_pos c29] at H
            have c29b0 : decide (x52_2 < (l0_2.length : Int)) = true := decide_eq_true c29
            clear c29
            by_cases c30 : 0 ≤ x52_2
            rotate_left
            · rw [if_neg c30] at H
              exact absurd H (by simp)
            rw [if_pos c30] at H
            have c30b0 : decide (0 ≤ x52_2) = true := decide_eq_true c30
            clear c30
            by_cases c31 : x52_2 < (l0_2.length : Int)
            rotate_left
            · rw [if_neg c31] at H
              exact absurd H (by simp)
            rw [if_pos c31] at H
            have c31b0 : decide (x52_2 < (l0_2.length : Int)) = true := decide_eq_true c31
            clear c31
            obtain ⟨bq32, hbq32⟩ : ∃ b_ : Bool, b_ = (rdOf false l0_2 x52_2) := ⟨_, rfl⟩
            replace H : (if bq32 = true then (content_Starts.l0 k2 l1 a2 t150 l0_2 (l0_2.length : Int) (wrap64 (x52_2 + 1)) a0_0 l0_1 l0_2 l0_3 a3 x154000_2) else (content_Starts.l0 k2 l1 a2 t150 l0_2 (l0_2.length : Int) (wrap64 (x52_2 + 1)) a0_0 l0_1 l0_2 l0_3 a3 (wrap64 (x154000_2 + 1)))) = some (r1, r2) := by rw [← hbq32] at H; exact H
            have Nbq32 := Aside0.mk hbq32
            clear hbq32
            by_cases c33 : bq32 = true
            · subst c33
              have H1 : (content_Starts.l0 k2 l1 a2 t150 l0_2 (l0_2.length : Int) (wrap64 (x52_2 + 1)) a0_0 l0_1 l0_2 l0_3 a3 x154000_2) = some (r1, r2) := by rw [if_pos rfl] at H; exact H
              clear H
              have H := H1
              clear H1
              have H' := Aside0.mk H
              clear H
              have p154 : 0 ≤ (x52_2 : Int) := of_decide_eq_true pmAx9_1_
              have q154 : x52_2 < (l0_2.length : Int) := of_decide_eq_true pmAx9_1_
              obtain ⟨ad154, e154, hx154_0⟩ := Kd.at_bool HR0_2.out x52_2 p154 q154
              (try rw [← Nbq32.out] at hx154_0)
              cases e154
              replace hx154_0 := (HB.out.cell (World.block_lt_of_cell? w _ hx154_0)).trans hx154_0
              replace p154 := eq_true p154
              replace q154 := eq_true q154
              go_wp2
              repeat ((first | refine bodyPost_end (results_none rfl _ _ _) rfl ?_ | refine bodyPost_ret (results_none rfl _ _ _) rfl ?_ | refine bodyPost_ret (results_tmp rfl _ _ _) rfl ?_); try go_wp2)
              go_roundg k2
              case measure => have := HJ5.out; have := HK2.out; omega
              case rel => exact ⟨(wrap64 (x52_2 + 1)), (x154000_2), pmAx9_6_, H', ⟨by have := HJ5.out; have := HK2.out; omega⟩, ⟨pmAx9_2_⟩, ⟨pmAx9_3_⟩, ⟨pmAx9_4_⟩, ⟨pmAx9_13_⟩⟩
            replace c33 := Bool.eq_false_iff.mpr c33
            subst c33
            have H1 : (content_Starts.l0 k2 l1 a2 t150 l0_2 (l0_2.length : Int) (wrap64 (x52_2 + 1)) a0_0 l0_1 l0_2 l0_3 a3 (wrap64 (x154000_2 + 1))) = some (r1, r2) := by rw [if_neg (show ¬ (false = true) by decide)] at H; exact H
            clear H
            have H := H1
            clear H1
            have H' := Aside0.mk H
            clear H
            have p154 : 0 ≤ (x52_2 : Int) := of_decide_eq_true pmAx9_1_
            have q154 : x52_2 < (l0_2.length : Int) := of_decide_eq_true pmAx9_1_
            obtain ⟨ad154, e154, hx154_0⟩ := Kd.at_bool HR0_2.out x52_2 p154 q154
            (try rw [← Nbq32.out] at hx154_0)
            cases e154
            replace hx154_0 := (HB.out.cell (World.block_lt_of_cell? w _ hx154_0)).trans hx154_0
            replace p154 := eq_true p154
            replace q154 := eq_true q154
            have hnb34 := NB153_148.out
            have hnc34 := NB148_153.out
            have hnb35 := NB153_149.out
            have hnc35 := NB149_153.out
            have hcz36_0 : wr.cell? ⟨gb153, 0, none⟩ = some (.int .i64 x154000_2) := (blk_cell BK153.out 0).trans rfl
            have hfz36_0 := blk_frozen BK153.out 0
            go_wp2
            repeat ((first | refine bodyPost_end (results_none rfl _ _ _) rfl ?_ | refine bodyPost_ret (results_none rfl _ _ _) rfl ?_ | refine bodyPost_ret (results_tmp rfl _ _ _) rfl ?_); try go_wp2)
            go_roundg k2
            case measure => have := HJ5.out; have := HK2.out; omega
            case rel => exact ⟨(wrap64 (x52_2 + 1)), (wrap64 (x154000_2 + 1)), pmAx9_6_, H', ⟨by have := HJ5.out; have := HK2.out; omega⟩, ⟨pmAx9_26_⟩, ⟨pmAx9_27_⟩, ⟨by (with_reducible repeat (first | refine blk_drewN ?_ _ | refine blk_drew ?_ | refine blk_alloc ?_ _)); refine blk_put (cs := #[.int .i64 x154000_2]) ?_ 0 _ rfl; (with_reducible repeat (first | refine blk_drewN ?_ _ | refine blk_drew ?_ | refine blk_alloc ?_ _)); exact BK153.out⟩, ⟨pmAx9_13_⟩⟩
          rw [if_neg c29] at H
          have c29b0 : decide (x52_2 < (l0_2.length : Int)) = false := decide_eq_false c29
          clear c29
          by_cases c37 : 0 ≤ (l1.length : Int)
          rotate_left
          · rw [if_neg c37] at H
            exact absurd H (by simp)
          rw [if_pos c37] at H
          have c37b0 := eq_true c37
          have c37b1 : decide (0 ≤ (l1.length : Int)) = true := decide_eq_true c37
          clear c37
          by_cases c38 : ((l1.length : Int) : Int).toNat ≤ 35184372088832
          rotate_left
          · rw [if_neg c38] at H
            exact absurd H (by simp)
          rw [if_pos c38] at H
          have c38b0 := eq_true c38
          have c38b1 : decide (((l1.length : Int) : Int).toNat ≤ 35184372088832) = true := decide_eq_true c38
          clear c38
          obtain ⟨y156, hy156⟩ : ∃ y_ : List Int, y_ = (List.replicate ((l1.length : Int) : Int).toNat 0) := ⟨_, rfl⟩
          replace H : (content_Starts.l1 k2 l1 y156 0 (-1) (y156.length : Int) 0 a0_0 l0_1 l0_2 l0_3 a3 x154000_2 (wrap64 (a2 - t150))) = some (r1, r2) := by first | (rw [hy156]; with_reducible exact H) | (have H2_ := (Option.bind_some _ _).symm.trans H; rw [hy156]; with_reducible exact H2_) | (have H2_ := (Option.bind_some _ _).symm.trans H; with_reducible exact H2_) | with_reducible exact H | (rw [hy156]; exact H) | exact H
          have Ny156 := Aside0.mk hy156
          clear hy156
          have H' := Aside0.mk H
          clear H
          go_wp2_with (first | ((with_reducible refine gate_dst (N := 15) rfl ?_); refine box_event ?hg (N := 15) ?hd (cs := #[.int .i64 0]) (t := 3) ?hr ?_; (case hd => rfl); (case hg => rfl); (case hr => first | (go_simp; done) | (go_simp; rfl)); intro gb155 hg w39 hbox hb; have n0_ := Aside0.mk (blk_below (g := gb148) (o := .cells #[.int .i64 a0_0, .slice A0_1 l0_1.length c0_1, .slice A0_2 l0_2.length c0_2, .slice A0_3 l0_3.length c0_3] 26 (0, 0)) pmAx9_2_ hb); have n1_ := Aside0.mk (blk_below (g := gb149) (o := .cells #[.int .i64 a3] 3 (0, 0)) pmAx9_3_ hb); have n2_ := Aside0.mk (blk_below (g := gb153) (o := .cells #[.int .i64 x154000_2] 3 (0, 0)) pmAx9_4_ hb); have n3_ := Aside0.mk (below_step pmAx9_13_ hb); have n4_ := Aside0.mk (hbox); have n5_ := Aside0.mk ((by rw [hg]; exact (below_size pmAx9_13_) : w.heap.size ≤ gb155)); have n6_ := Aside0.mk ((by rw [hg]; exact (below_size pmAx9_13_) : w.heap.size ≤ gb155)); have n7_ := Aside0.mk ((pmAx9_19_ : gb148 ≠ gb155)); have n8_ := Aside0.mk ((pmAx9_20_ : gb155 ≠ gb148)); have n9_ := Aside0.mk ((pmAx9_22_ : gb149 ≠ gb155)); have n10_ := Aside0.mk ((pmAx9_23_ : gb155 ≠ gb149)); have n11_ := Aside0.mk ((by rw [hg]; exact Nat.ne_of_lt (blk_lt (g := gb153) (o := .cells #[.int .i64 x154000_2] 3 (0, 0)) pmAx9_4_) : gb153 ≠ gb155)); have n12_ := Aside0.mk ((by rw [hg]; exact Nat.ne_of_gt (blk_lt (g := gb153) (o := .cells #[.int .i64 x154000_2] 3 (0, 0)) pmAx9_4_) : gb155 ≠ gb153)); clear BK148; clear BK149; clear BK153; clear HB; have BK148 := n0_; have BK149 := n1_; have BK153 := n2_; have HB := n3_; have BK155 := n4_; have GW155 := n5_; have GE155 := n6_; have NB148_155 := n7_; have NB155_148 := n8_; have NB149_155 := n9_; have NB155_149 := n10_; have NB153_155 := n11_; have NB155_153 := n12_; clear n0_ n1_ n2_ n3_ n4_ n5_ n6_ n7_ n8_ n9_ n10_ n11_ n12_; clear hb hbox hg; have hnb40 := NB155_148.out; have hnc40 := NB148_155.out; have hnb41 := NB155_149.out; have hnc41 := NB149_155.out; have hnb42 := NB155_153.out; have hnc42 := NB153_155.out; have hcz43_0 : w39.cell? ⟨gb155, 0, none⟩ = some (.int .i64 0) := (blk_cell BK155.out 0).trans rfl; have hfz43_0 := blk_frozen BK155.out 0) | ((with_reducible refine gate_dst (N := 67) rfl ?_); refine Kd.R_make (Kd.int .i64) _ 3 rfl (N := 67) rfl 24 _ _ rfl (l1.length : Int) rfl rfl Try.underlying24 (.int .i64 0) 8 info3 rfl (by decide) (by omega) 0 (ok := fun _ => True) (okp := fun _ => True) rfl (fun _ hk => hk) trivial (of_decide_eq_true pmAx9_1_) (Nat.le_trans (Nat.mul_le_mul_right _ (of_decide_eq_true pmAx9_1_ : (l1.length : Int).toNat ≤ 35184372088832)) (by omega)) (Below.refl _ _) (Nat.le_refl _) ?_; intro v157 w44 ho45 hb hg_ hnew_; clear hg_ hnew_; (first | rw [← Ny156.out] at ho45 | (simp only [Int.reduceToNat] at ho45; rw [← Ny156.out] at ho45)); have n0_ := Aside0.mk (Kd.R_lower (Kd.R_newB (Kd.R_newB (Kd.R_newB ho45 (g := gb149) (o := .cells #[.int .i64 a3] 3 (0, 0)) pmAx9_28_) (g := gb153) (o := .cells #[.int .i64 x154000_2] 3 (0, 0)) pmAx9_29_) (g := gb155) (o := .cells #[.int .i64 (wrap64 (a2 - t150))] 3 (0, 0)) pmAx9_24_) (below_size pmAx9_0_)); have n1_ := Aside0.mk (blk_below (g := gb148) (o := .cells #[.int .i64 a0_0, .slice A0_1 l0_1.length c0_1, .slice A0_2 l0_2.length c0_2, .slice A0_3 l0_3.length c0_3] 26 (0, 0)) (by (with_reducible repeat (first | refine blk_drewN ?_ _ | refine blk_drew ?_ | refine blk_alloc ?_ _)); refine blk_far ?_ NB148_155.out _; (with_reducible repeat (first | refine blk_drewN ?_ _ | refine blk_drew ?_ | refine blk_alloc ?_ _)); exact BK148.out) hb); have n2_ := Aside0.mk (blk_below (g := gb149) (o := .cells #[.int .i64 a3] 3 (0, 0)) pmAx9_28_ hb); have n3_ := Aside0.mk (blk_below (g := gb153) (o := .cells #[.int .i64 x154000_2] 3 (0, 0)) pmAx9_29_ hb); have n4_ := Aside0.mk (blk_below (g := gb155) (o := .cells #[.int .i64 (wrap64 (a2 - t150))] 3 (0, 0)) pmAx9_24_ hb); have n5_ := Aside0.mk (below_step pmAx9_0_ hb); clear BK148; clear BK149; clear BK153; clear BK155; clear HB; have HO158 := n0_; have BK148 := n1_; have BK149 := n2_; have BK153 := n3_; have BK155 := n4_; have HB := n5_; clear n0_ n1_ n2_ n3_ n4_ n5_; clear hb ho45; obtain ⟨Ao46, co46, eo46⟩ := Kd.R_slice HO158.out; subst eo46) | go_in)
          go_loopg [18, 19, 70] k2 (fun kq v18 v19 v70 w' => ∃ (x17_3 : List Int) (x18_3 : Int) (x19_3 : Int) (x70_3 : Int), v18 = .int .i64 x18_3 ∧ v19 = .int .i64 x19_3 ∧ v70 = .int .i64 x70_3 ∧ Aside0 (content_Starts.l1 kq l1 x17_3 x18_3 x19_3 (y156.length : Int) x70_3 a0_0 l0_1 l0_2 l0_3 a3 x154000_2 (wrap64 (a2 - t150)) = some (r1, r2)) ∧ Aside0 (kq ≤ k2) ∧ Aside0 (Kd.R (Kd.int .i64) 3 w' w.heap.size (fun k_ => k_ ≠ gb149 ∧ k_ ≠ gb153 ∧ k_ ≠ gb155) (.slice Ao46 y156.length co46) x17_3) ∧ Aside0 (w'.heap[gb148]? = some (.cells #[.int .i64 a0_0, (.slice A0_1 l0_1.length c0_1), (.slice A0_2 l0_2.length c0_2), (.slice A0_3 l0_3.length c0_3)] 26 (0, 0))) ∧ Aside0 (w'.heap[gb149]? = some (.cells #[.int .i64 a3] 3 (0, 0))) ∧ Aside0 (w'.heap[gb153]? = some (.cells #[.int .i64 x154000_2] 3 (0, 0))) ∧ Aside0 (w'.heap[gb155]? = some (.cells #[.int .i64 (wrap64 (a2 - t150))] 3 (0, 0))) ∧ Aside0 (Below w.heap.size w w'))
          case atStart => exact ⟨(y156), (0), ((-1)), (0), pmAx9_6_, pmAx9_6_, pmAx9_6_, H', ⟨Nat.le_refl _⟩, ⟨by (with_reducible repeat (first | apply Kd.R_alloc | apply Kd.R_drewN | apply Kd.R_drew)); exact Kd.R_mono HO158.out (fun _ hk => ⟨hk.1.1.2, ⟨hk.1.2, hk.2⟩⟩)⟩, ⟨pmAx9_2_⟩, ⟨pmAx9_3_⟩, ⟨pmAx9_4_⟩, ⟨pmAx9_5_⟩, ⟨pmAx9_0_⟩⟩
          case round =>
            clear H'
            try clear c1
            try clear p1
            try clear q1
            try clear hx1
            try clear c2
            try clear p2
            try clear c3
            try clear q3
            try clear c4
            try clear p6
            try clear c8
            try clear c9
            try clear c11
            try clear c12
            try clear c12b0
            try clear c12b1
            try clear c13
            try clear c13b0
            try clear c15
            try clear p15
            try clear q15
            try clear hx15
            try clear c16
            try clear c16b0
            try clear c17
            try clear c19
            try clear c21
            try clear c22
            try clear c22b0
            try clear c22b1
            try clear c24
            try clear c25
            try clear c27
            try clear c29
            try clear c29b0
            try clear c30
            try clear c30b0
            try clear c31
            try clear c31b0
            try clear q32
            try clear c33
            try clear c34
            try clear c35
            try clear c37
            try clear c37b0
            try clear c37b1
            try clear c38
            try clear c38b0
            try clear c38b1
            try clear c40
            try clear c41
            try clear c42
            try clear hcz10_0
            try clear hcz10_1
            try clear hcz10_2
            try clear hcz10_3
            try clear hcz18_0
            try clear hcz20_0
            try clear hcz26_0
            try clear hcz28_0
            try clear hcz28_1
            try clear hcz28_2
            try clear hcz28_3
            try clear hcz36_0
            try clear hcz43_0
            try clear hfz10_0
            try clear hfz10_1
            try clear hfz10_2
            try clear hfz10_3
            try clear hfz18_0
            try clear hfz20_0
            try clear hfz26_0
            try clear hfz28_0
            try clear hfz28_1
            try clear hfz28_2
            try clear hfz28_3
            try clear hfz36_0
            try clear hfz43_0
            try clear hx154_0
            try clear p154
            try clear p2
            try clear q154
            obtain ⟨x17_3, x18_3, x19_3, x70_3, rfl, rfl, rfl, HA, HK3, HO_17, BK148, BK149, BK153, BK155, HB⟩ := hrel
            have hl17_3 := (Kd.R_reads' HO_17.out).1
            rw [hl17_3] at HO_17
            (try simp only [hl17_3])
            (try simp only [hl17_3] at BK148)
            (try simp only [hl17_3] at BK149)
            (try simp only [hl17_3] at BK153)
            (try simp only [hl17_3] at BK155)
            cases gk with
            | zero => exact absurd HA.out (by simp [content_Starts.l1])
            | succ k3 =>
              have H := HA.out
              clear HA
              simp only [content_Starts.l1] at H
              by_cases c47 : x70_3 < (y156.length : Int)
              rotate_left
              · rw [if_neg c47] at H
                have c47b0 : decide (x70_3 < (y156.length : Int)) = false := decide_eq_false c47
                (try (have c47b0h0 := c47b0; simp only [hl17_3] at c47b0h0))
                clear c47
                simp only [Option.some.injEq, Prod.mk.injEq] at H
                obtain ⟨rfl, rfl⟩ := H
                go_wp2
                go_ret2
                exact ⟨_, by first | rfl | (simp [errW_none, errW_some] <;> rfl) | (simp [*, errW_none, errW_some] <;> rfl), by (with_reducible repeat (first | apply Kd.R_alloc | apply Kd.R_drewN | apply Kd.R_drew)); exact Kd.R_mono HO_17.out (fun _ hk => trivial), by repeat (first | (with_reducible first | exact HB.out | apply below_alloc | apply pw_below_drewN | apply below_drew1 | refine below_set ?_ GE148.out | refine below_set ?_ GE149.out | refine below_set ?_ GE153.out | refine below_set ?_ GE155.out) | exact HB.out)⟩
              rw [if_pos c47] at H
              have c47b0 : decide (x70_3 < (y156.length : Int)) = true := decide_eq_true c47
              (try (have c47b0h0 := c47b0; simp only [hl17_3] at c47b0h0))
              clear c47
              by_cases c48 : 0 ≤ x70_3
              rotate_left
              · rw [if_neg c48] at H
                exact absurd H (by simp)
              rw [if_pos c48] at H
              have c48b0 : decide (0 ≤ x70_3) = true := decide_eq_true c48
              (try (have c48b0h0 := c48b0; simp only [hl17_3] at c48b0h0))
              clear c48
              by_cases c49 : x70_3 < (l0_2.length : Int)
              rotate_left
              · rw [if_neg c49] at H
                exact absurd H (by simp)
              rw [if_pos c49] at H
              have c49b0 : decide (x70_3 < (l0_2.length : Int)) = true := decide_eq_true c49
              (try (have c49b0h0 := c49b0; simp only [hl17_3] at c49b0h0))
              clear c49
              obtain ⟨bq50, hbq50⟩ : ∃ b_ : Bool, b_ = (rdOf false l0_2 x70_3) := ⟨_, rfl⟩
              replace H : (if bq50 = true then (if x70_3 < (l0_3.length : Int) then (if a3 = 4 then (if x70_3 < (x17_3.length : Int) then (if x70_3 < (l1.length : Int) then (content_Starts.l1 k3 l1 (x17_3.set (x70_3 : Int).toNat (wrap64 ((wrap64 (x18_3 + (rd l0_3 x70_3))) + (wrap64 (a2 - t150))))) (wrap64 ((wrap64 (x18_3 + (rd l0_3 x70_3))) + (rd l1 x70_3))) x19_3 (y156.length : Int) (wrap64 (x70_3 + 1)) a0_0 l0_1 l0_2 l0_3 a3 x154000_2 (wrap64 (a2 - t150))) else (none)) else (none)) else (if a3 = 5 then ((fixed_Div.f (wrap64 (a2 - t150)) 2).bind fun t163 => (if x70_3 < (x17_3.length : Int) then (if x70_3 < (l1.length : Int) then (content_Starts.l1 k3 l1 (x17_3.set (x70_3 : Int).toNat (wrap64 ((wrap64 (x18_3 + (rd l0_3 x70_3))) + t163))) (wrap64 ((wrap64 (x18_3 + (rd l0_3 x70_3))) + (rd l1 x70_3))) x19_3 (y156.length : Int) (wrap64 (x70_3 + 1)) a0_0 l0_1 l0_2 l0_3 a3 x154000_2 (wrap64 (a2 - t150))) else (none)) else (none))) else (if (wrap64 (a2 - t150)) ≤ 0 then (if x70_3 < (x17_3.length : Int) then (if x70_3 < (l1.length : Int) then (content_Starts.l1 k3 l1 (x17_3.set (x70_3 : Int).toNat (wrap64 ((wrap64 (x18_3 + (rd l0_3 x70_3))) + 0))) (wrap64 ((wrap64 (x18_3 + (rd l0_3 x70_3))) + (rd l1 x70_3))) x19_3 (y156.length : Int) (wrap64 (x70_3 + 1)) a0_0 l0_1 l0_2 l0_3 a3 x154000_2 (wrap64 (a2 - t150))) else (none)) else (none)) else (if x154000_2 = 0 then (if x70_3 < (x17_3.length : Int) then (if x70_3 < (l1.length : Int) then (content_Starts.l1 k3 l1 (x17_3.set (x70_3 : Int).toNat (wrap64 ((wrap64 (x18_3 + (rd l0_3 x70_3))) + 0))) (wrap64 ((wrap64 (x18_3 + (rd l0_3 x70_3))) + (rd l1 x70_3))) x19_3 (y156.length : Int) (wrap64 (x70_3 + 1)) a0_0 l0_1 l0_2 l0_3 a3 x154000_2 (wrap64 (a2 - t150))) else (none)) else (none)) else ((content_ratio.f a3 (mx x19_3 0) x154000_2).bind fun bt170 => ((fixed_MulDiv.f k3 (wrap64 (a2 - t150)) bt170.1 bt170.2).bind fun bt173 => (if x70_3 < (x17_3.length : Int) then (if x70_3 < (l1.length : Int) then (content_Starts.l1 k3 l1 (x17_3.set (x70_3 : Int).toNat (wrap64 ((wrap64 (x18_3 + (rd l0_3 x70_3))) + bt173.1))) (wrap64 ((wrap64 (x18_3 + (rd l0_3 x70_3))) + (rd l1 x70_3))) x19_3 (y156.length : Int) (wrap64 (x70_3 + 1)) a0_0 l0_1 l0_2 l0_3 a3 x154000_2 (wrap64 (a2 - t150))) else (none)) else (none)))))))) else (none)) else (if x70_3 < (l0_3.length : Int) then (if a3 = 4 then (if x70_3 < (x17_3.length : Int) then (if x70_3 < (l1.length : Int) then (content_Starts.l1 k3 l1 (x17_3.set (x70_3 : Int).toNat (wrap64 ((wrap64 (x18_3 + (rd l0_3 x70_3))) + (wrap64 (a2 - t150))))) (wrap64 ((wrap64 (x18_3 + (rd l0_3 x70_3))) + (rd l1 x70_3))) (wrap64 (x19_3 + 1)) (y156.length : Int) (wrap64 (x70_3 + 1)) a0_0 l0_1 l0_2 l0_3 a3 x154000_2 (wrap64 (a2 - t150))) else (none)) else (none)) else (if a3 = 5 then ((fixed_Div.f (wrap64 (a2 - t150)) 2).bind fun t180 => (if x70_3 < (x17_3.length : Int) then (if x70_3 < (l1.length : Int) then (content_Starts.l1 k3 l1 (x17_3.set (x70_3 : Int).toNat (wrap64 ((wrap64 (x18_3 + (rd l0_3 x70_3))) + t180))) (wrap64 ((wrap64 (x18_3 + (rd l0_3 x70_3))) + (rd l1 x70_3))) (wrap64 (x19_3 + 1)) (y156.length : Int) (wrap64 (x70_3 + 1)) a0_0 l0_1 l0_2 l0_3 a3 x154000_2 (wrap64 (a2 - t150))) else (none)) else (none))) else (if (wrap64 (a2 - t150)) ≤ 0 then (if x70_3 < (x17_3.length : Int) then (if x70_3 < (l1.length : Int) then (content_Starts.l1 k3 l1 (x17_3.set (x70_3 : Int).toNat (wrap64 ((wrap64 (x18_3 + (rd l0_3 x70_3))) + 0))) (wrap64 ((wrap64 (x18_3 + (rd l0_3 x70_3))) + (rd l1 x70_3))) (wrap64 (x19_3 + 1)) (y156.length : Int) (wrap64 (x70_3 + 1)) a0_0 l0_1 l0_2 l0_3 a3 x154000_2 (wrap64 (a2 - t150))) else (none)) else (none)) else (if x154000_2 = 0 then (if x70_3 < (x17_3.length : Int) then (if x70_3 < (l1.length : Int) then (content_Starts.l1 k3 l1 (x17_3.set (x70_3 : Int).toNat (wrap64 ((wrap64 (x18_3 + (rd l0_3 x70_3))) + 0))) (wrap64 ((wrap64 (x18_3 + (rd l0_3 x70_3))) + (rd l1 x70_3))) (wrap64 (x19_3 + 1)) (y156.length : Int) (wrap64 (x70_3 + 1)) a0_0 l0_1 l0_2 l0_3 a3 x154000_2 (wrap64 (a2 - t150))) else (none)) else (none)) else ((content_ratio.f a3 (mx (wrap64 (x19_3 + 1)) 0) x154000_2).bind fun bt187 => ((fixed_MulDiv.f k3 (wrap64 (a2 - t150)) bt187.1 bt187.2).bind fun bt190 => (if x70_3 < (x17_3.length : Int) then (if x70_3 < (l1.length : Int) then (content_Starts.l1 k3 l1 (x17_3.set (x70_3 : Int).toNat (wrap64 ((wrap64 (x18_3 + (rd l0_3 x70_3))) + bt190.1))) (wrap64 ((wrap64 (x18_3 + (rd l0_3 x70_3))) + (rd l1 x70_3))) (wrap64 (x19_3 + 1)) (y156.length : Int) (wrap64 (x70_3 + 1)) a0_0 l0_1 l0_2 l0_3 a3 x154000_2 (wrap64 (a2 - t150))) else (none)) else (none)))))))) else (none))) = some (r1, r2) := by rw [← hbq50] at H; exact H
              have Nbq50 := Aside0.mk hbq50
              clear hbq50
              by_cases c51 : bq50 = true
              · subst c51
                have H1 : (if x70_3 < (l0_3.length : Int) then (if a3 = 4 then (if x70_3 < (x17_3.length : Int) then (if x70_3 < (l1.length : Int) then (content_Starts.l1 k3 l1 (x17_3.set (x70_3 : Int).toNat (wrap64 ((wrap64 (x18_3 + (rd l0_3 x70_3))) + (wrap64 (a2 - t150))))) (wrap64 ((wrap64 (x18_3 + (rd l0_3 x70_3))) + (rd l1 x70_3))) x19_3 (y156.length : Int) (wrap64 (x70_3 + 1)) a0_0 l0_1 l0_2 l0_3 a3 x154000_2 (wrap64 (a2 - t150))) else (none)) else (none)) else (if a3 = 5 then ((fixed_Div.f (wrap64 (a2 - t150)) 2).bind fun t163 => (if x70_3 < (x17_3.length : Int) then (if x70_3 < (l1.length : Int) then (content_Starts.l1 k3 l1 (x17_3.set (x70_3 : Int).toNat (wrap64 ((wrap64 (x18_3 + (rd l0_3 x70_3))) + t163))) (wrap64 ((wrap64 (x18_3 + (rd l0_3 x70_3))) + (rd l1 x70_3))) x19_3 (y156.length : Int) (wrap64 (x70_3 + 1)) a0_0 l0_1 l0_2 l0_3 a3 x154000_2 (wrap64 (a2 - t150))) else (none)) else (none))) else (if (wrap64 (a2 - t150)) ≤ 0 then (if x70_3 < (x17_3.length : Int) then (if x70_3 < (l1.length : Int) then (content_Starts.l1 k3 l1 (x17_3.set (x70_3 : Int).toNat (wrap64 ((wrap64 (x18_3 + (rd l0_3 x70_3))) + 0))) (wrap64 ((wrap64 (x18_3 + (rd l0_3 x70_3))) + (rd l1 x70_3))) x19_3 (y156.length : Int) (wrap64 (x70_3 + 1)) a0_0 l0_1 l0_2 l0_3 a3 x154000_2 (wrap64 (a2 - t150))) else (none)) else (none)) else (if x154000_2 = 0 then (if x70_3 < (x17_3.length : Int) then (if x70_3 < (l1.length : Int) then (content_Starts.l1 k3 l1 (x17_3.set (x70_3 : Int).toNat (wrap64 ((wrap64 (x18_3 + (rd l0_3 x70_3))) + 0))) (wrap64 ((wrap64 (x18_3 + (rd l0_3 x70_3))) + (rd l1 x70_3))) x19_3 (y156.length : Int) (wrap64 (x70_3 + 1)) a0_0 l0_1 l0_2 l0_3 a3 x154000_2 (wrap64 (a2 - t150))) else (none)) else (none)) else ((content_ratio.f a3 (mx x19_3 0) x154000_2).bind fun bt170 => ((fixed_MulDiv.f k3 (wrap64 (a2 - t150)) bt170.1 bt170.2).bind fun bt173 => (if x70_3 < (x17_3.length : Int) then (if x70_3 < (l1.length : Int) then (content_Starts.l1 k3 l1 (x17_3.set (x70_3 : Int).toNat (wrap64 ((wrap64 (x18_3 + (rd l0_3 x70_3))) + bt173.1))) (wrap64 ((wrap64 (x18_3 + (rd l0_3 x70_3))) + (rd l1 x70_3))) x19_3 (y156.length : Int) (wrap64 (x70_3 + 1)) a0_0 l0_1 l0_2 l0_3 a3 x154000_2 (wrap64 (a2 - t150))) else (none)) else (none)))))))) else (none)) = some (r1, r2) := by rw [if_pos rfl] at H; exact H
                clear H
                have H := H1
                clear H1
                by_cases c52 : x70_3 < (l0_3.length : Int)
                rotate_left
                · rw [if_neg c52] at H
                  exact absurd H (by simp)
                rw [if_pos c52] at H
                have c52b0 : decide (x70_3 < (l0_3.length : Int)) = true := decide_eq_true c52
                (try (have c52b0h0 := c52b0; simp only [hl17_3] at c52b0h0))
                clear c52
                by_cases c53 : a3 = 4
                · rw [if_pos c53] at H
                  have c53b0 : (a3 == 4) = true := beq_iff_eq.mpr c53
                  have c53b1 : (a3 != 4) = false := bne_eq_false_iff_eq.mpr c53
                  (try (have c53b0h0 := c53b0; simp only [hl17_3] at c53b0h0))
                  (try (have c53b1h0 := c53b1; simp only [hl17_3] at c53b1h0))
                  clear c53
                  by_cases c54 : x70_3 < (x17_3.length : Int)
                  rotate_left
                  · rw [if_neg c54] at H
                    exact absurd H (by simp)
                  rw [if_pos c54] at H
                  have c54b0 : decide (x70_3 < (x17_3.length : Int)) = true := decide_eq_true c54
                  (try (have c54b0h0 := c54b0; simp only [hl17_3] at c54b0h0))
                  clear c54
                  obtain ⟨y161, hy161⟩ : ∃ y_ : List Int, y_ = (x17_3.set (x70_3 : Int).toNat (wrap64 ((wrap64 (x18_3 + (rd l0_3 x70_3))) + (wrap64 (a2 - t150))))) := ⟨_, rfl⟩
                  replace H : (if x70_3 < (l1.length : Int) then (content_Starts.l1 k3 l1 y161 (wrap64 ((wrap64 (x18_3 + (rd l0_3 x70_3))) + (rd l1 x70_3))) x19_3 (y156.length : Int) (wrap64 (x70_3 + 1)) a0_0 l0_1 l0_2 l0_3 a3 x154000_2 (wrap64 (a2 - t150))) else (none)) = some (r1, r2) := by first | (rw [hy161]; with_reducible exact H) | (have H2_ := (Option.bind_some _ _).symm.trans H; rw [hy161]; with_reducible exact H2_) | (have H2_ := (Option.bind_some _ _).symm.trans H; with_reducible exact H2_) | with_reducible exact H | (rw [hy161]; exact H) | exact H
                  have Ny161 := Aside0.mk hy161
                  clear hy161
                  by_cases c56 : x70_3 < (l1.length : Int)
                  rotate_left
                  · rw [if_neg c56] at H
                    exact absurd H (by simp)
                  rw [if_pos c56] at H
                  have c56b0 : decide (x70_3 < (l1.length : Int)) = true := decide_eq_true c56
                  (try (have c56b0h0 := c56b0; simp only [hl17_3] at c56b0h0))
                  clear c56
                  have H' := Aside0.mk H
                  clear H
                  have hnb57 := NB148_149.out
                  have hnc57 := NB149_148.out
                  have hnb58 := NB148_153.out
                  have hnc58 := NB153_148.out
                  have hnb59 := NB148_155.out
                  have hnc59 := NB155_148.out
                  have hcz60_0 : wr.cell? ⟨gb148, 0, none⟩ = some (.int .i64 a0_0) := (blk_cell BK148.out 0).trans rfl
                  have hcz60_1 : wr.cell? ⟨gb148, 1, none⟩ = some (.slice A0_1 l0_1.length c0_1) := (blk_cell BK148.out 1).trans rfl
                  have hcz60_2 : wr.cell? ⟨gb148, 2, none⟩ = some (.slice A0_2 l0_2.length c0_2) := (blk_cell BK148.out 2).trans rfl
                  have hcz60_3 : wr.cell? ⟨gb148, 3, none⟩ = some (.slice A0_3 l0_3.length c0_3) := (blk_cell BK148.out 3).trans rfl
                  have hfz60_0 := blk_frozen BK148.out 0
                  have hfz60_1 := blk_frozen BK148.out 1
                  have hfz60_2 := blk_frozen BK148.out 2
                  have hfz60_3 := blk_frozen BK148.out 3
                  have p159 : 0 ≤ (x70_3 : Int) := of_decide_eq_true pmAx9_1_
                  have q159 : x70_3 < (l0_2.length : Int) := of_decide_eq_true pmAx9_1_
                  obtain ⟨ad159, e159, hx159_0⟩ := Kd.at_bool HR0_2.out x70_3 p159 q159
                  (try rw [← Nbq50.out] at hx159_0)
                  cases e159
                  replace hx159_0 := (HB.out.cell (World.block_lt_of_cell? w _ hx159_0)).trans hx159_0
                  replace p159 := eq_true p159
                  replace q159 := eq_true q159
                  have p160 : 0 ≤ (x70_3 : Int) := of_decide_eq_true pmAx9_1_
                  have q160 : x70_3 < (l0_3.length : Int) := of_decide_eq_true pmAx9_1_
                  obtain ⟨ad160, e160, hx160_0⟩ := Kd.at_int HR0_3.out x70_3 p160 q160
                  cases e160
                  replace hx160_0 := (HB.out.cell (World.block_lt_of_cell? w _ hx160_0)).trans hx160_0
                  replace p160 := eq_true p160
                  replace q160 := eq_true q160
                  have hnb61 := NB149_153.out
                  have hnc61 := NB153_149.out
                  have hnb62 := NB149_155.out
                  have hnc62 := NB155_149.out
                  have hcz63_0 : wr.cell? ⟨gb149, 0, none⟩ = some (.int .i64 a3) := (blk_cell BK149.out 0).trans rfl
                  have hfz63_0 := blk_frozen BK149.out 0
                  have hnb64 := NB155_153.out
                  have hnc64 := NB153_155.out
                  have hcz65_0 : wr.cell? ⟨gb155, 0, none⟩ = some (.int .i64 (wrap64 (a2 - t150))) := (blk_cell BK155.out 0).trans rfl
                  have hfz65_0 := blk_frozen BK155.out 0
                  have p55 : 0 ≤ (x70_3 : Int) := of_decide_eq_true pmAx9_1_
                  have q55 : (x70_3 : Int) < ((x17_3.length : Int) : Int) := of_decide_eq_true pmAx9_1_
                  obtain ⟨go55, co55, eo55, gb55, gl55, cl55, HG55⟩ := Kd.R_form HO_17.out (by omega)
                  (first | cases eo55 | (injection eo55 with ea_ en_ ec_; (first | subst ea_ | (injection ea_ with ea_; subst ea_)); subst ec_; clear en_))
                  have GB55 := Aside0.mk gb55
                  have GG55 := Aside0.mk HG55
                  clear gb55 gl55 HG55
                  obtain ⟨hx55_0, hf55_0⟩ := Kd.R_celln 0 HO_17.out (x70_3 : Int) p55 q55
                  replace p55 := eq_true p55
                  replace q55 := eq_true q55
                  have HP66 := Kd.R_putg HO_17.out (x70_3 : Int) (wrap64 ((wrap64 (x18_3 + (rd l0_3 x70_3))) + (wrap64 (a2 - t150))))
                  go_wp2_with (first | ((with_reducible refine gate_store (t := 3) (p := 95) rfl ?_); refine store_event (t := 3) (p := 95) (v := ?vo_w67) (w1 := (wr.setCell ⟨go55, (x70_3 : Int).toNat, none⟩ (.int .i64 (wrap64 ((wrap64 (x18_3 + (rd l0_3 x70_3))) + (wrap64 (a2 - t150))))))) ?hg ?ho ?hn ?hr ?_; (case ho => rfl); (case hg => rfl); (case hn => rfl); (case hr => first | (go_simp; done) | (go_simp; rfl)); intro w67 hw; have hg : wr.grownBy w67 (some go55) := (by rw [hw]; exact HP66.2); have hp_ : Kd.R (Kd.int .i64) 3 w67 w.heap.size (fun k_ => k_ ≠ gb149 ∧ k_ ≠ gb153 ∧ k_ ≠ gb155) (.slice (some ⟨go55, 0, none⟩) x17_3.length co46) y161 := (by rw [hw, Ny161.out]; exact HP66.1); clear HP66; have n0_ := Aside0.mk (hp_); have n1_ := Aside0.mk (blk_grown (g := gb148) (o := .cells #[.int .i64 a0_0, .slice A0_1 l0_1.length c0_1, .slice (some ad159) l0_2.length c0_2, .slice (some ad160) l0_3.length c0_3] 26 (0, 0)) pmAx9_2_ hg (Kd.R_ne HO_17.out BK148.out (by decide))); have n2_ := Aside0.mk (blk_grown (g := gb149) (o := .cells #[.int .i64 a3] 3 (0, 0)) pmAx9_3_ hg (Kd.R_away HO_17.out (fun _ hk => hk.1))); have n3_ := Aside0.mk (blk_grown (g := gb153) (o := .cells #[.int .i64 x154000_2] 3 (0, 0)) pmAx9_4_ hg (Kd.R_away HO_17.out (fun _ hk => hk.2.1))); have n4_ := Aside0.mk (blk_grown (g := gb155) (o := .cells #[.int .i64 (wrap64 (a2 - t150))] 3 (0, 0)) pmAx9_5_ hg (Kd.R_away HO_17.out (fun _ hk => hk.2.2))); have n5_ := Aside0.mk ((by rw [hw]; exact below_set (HB.out) GB55.out : Below w.heap.size w w67)); clear HO_17; clear BK148; clear BK149; clear BK153; clear BK155; clear HB; have HO_17 := n0_; have BK148 := n1_; have BK149 := n2_; have BK153 := n3_; have BK155 := n4_; have HB := n5_; clear n0_ n1_ n2_ n3_ n4_ n5_; clear hg hw hp_; have p162 : 0 ≤ (x70_3 : Int) := of_decide_eq_true pmAx9_1_; have q162 : x70_3 < (l1.length : Int) := of_decide_eq_true pmAx9_1_; obtain ⟨ad162, e162, hx162_0⟩ := Kd.at_int HR1.out x70_3 p162 q162; cases e162; replace hx162_0 := (HB.out.cell (World.block_lt_of_cell? w _ hx162_0)).trans hx162_0; replace p162 := eq_true p162; replace q162 := eq_true q162) | go_in)
                  repeat ((first | refine bodyPost_end (results_none rfl _ _ _) rfl ?_ | refine bodyPost_ret (results_none rfl _ _ _) rfl ?_ | refine bodyPost_ret (results_tmp rfl _ _ _) rfl ?_); try go_wp2)
                  (try simp only [← hl17_3])
                  go_roundg k3
                  case measure => have := HJ5.out; have := HK2.out; have := HK3.out; omega
                  case rel => exact ⟨(y161), (wrap64 ((wrap64 (x18_3 + (rd l0_3 x70_3))) + (rd l1 x70_3))), (x19_3), (wrap64 (x70_3 + 1)), pmAx9_6_, pmAx9_6_, pmAx9_6_, H', ⟨pmAx9_18_⟩, ⟨pmAx9_12_⟩, ⟨pmAx9_8_⟩, ⟨pmAx9_9_⟩, ⟨pmAx9_10_⟩, ⟨pmAx9_11_⟩, ⟨pmAx9_0_⟩⟩
                rw [if_neg c53] at H
                have c53b0 : (a3 == 4) = false := beq_eq_false_iff_ne.mpr c53
                have c53b1 : (a3 != 4) = true := bne_iff_ne.mpr c53
                (try (have c53b0h0 := c53b0; simp only [hl17_3] at c53b0h0))
                (try (have c53b1h0 := c53b1; simp only [hl17_3] at c53b1h0))
                by_cases c68 : a3 = 5
                · rw [if_pos c68] at H
                  have c68b0 : (a3 == 5) = true := beq_iff_eq.mpr c68
                  have c68b1 : (a3 != 5) = false := bne_eq_false_iff_eq.mpr c68
                  (try (have c68b0h0 := c68b0; simp only [hl17_3] at c68b0h0))
                  (try (have c68b1h0 := c68b1; simp only [hl17_3] at c68b1h0))
                  clear c68
                  replace H := Option.bind_eq_some_iff.mp H
                  obtain ⟨t163, A690, H⟩ := H
                  replace H : (if x70_3 < (x17_3.length : Int) then (if x70_3 < (l1.length : Int) then (content_Starts.l1 k3 l1 (x17_3.set (x70_3 : Int).toNat (wrap64 ((wrap64 (x18_3 + (rd l0_3 x70_3))) + t163))) (wrap64 ((wrap64 (x18_3 + (rd l0_3 x70_3))) + (rd l1 x70_3))) x19_3 (y156.length : Int) (wrap64 (x70_3 + 1)) a0_0 l0_1 l0_2 l0_3 a3 x154000_2 (wrap64 (a2 - t150))) else (none)) else (none)) = some (r1, r2) := H
                  have A69 := Aside0.mk A690
                  clear A690
                  by_cases c70 : x70_3 < (x17_3.length : Int)
                  rotate_left
                  · rw [if_neg c70] at H
                    exact absurd H (by simp)
                  rw [if_pos c70] at H
                  have c70b0 : decide (x70_3 < (x17_3.length : Int)) = true := decide_eq_true c70
                  (try (have c70b0h0 := c70b0; simp only [hl17_3] at c70b0h0))
                  clear c70
                  obtain ⟨y164, hy164⟩ : ∃ y_ : List Int, y_ = (x17_3.set (x70_3 : Int).toNat (wrap64 ((wrap64 (x18_3 + (rd l0_3 x70_3))) + t163))) := ⟨_, rfl⟩
                  replace H : (if x70_3 < (l1.length : Int) then (content_Starts.l1 k3 l1 y164 (wrap64 ((wrap64 (x18_3 + (rd l0_3 x70_3))) + (rd l1 x70_3))) x19_3 (y156.length : Int) (wrap64 (x70_3 + 1)) a0_0 l0_1 l0_2 l0_3 a3 x154000_2 (wrap64 (a2 - t150))) else (none)) = some (r1, r2) := by first | (rw [hy164]; with_reducible exact H) | (have H2_ := (Option.bind_some _ _).symm.trans H; rw [hy164]; with_reducible exact H2_) | (have H2_ := (Option.bind_some _ _).symm.trans H; with_reducible exact H2_) | with_reducible exact H | (rw [hy164]; exact H) | exact H
                  have Ny164 := Aside0.mk hy164
                  clear hy164
                  by_cases c72 : x70_3 < (l1.length : Int)
                  rotate_left
                  · rw [if_neg c72] at H
                    exact absurd H (by simp)
                  rw [if_pos c72] at H
                  have c72b0 : decide (x70_3 < (l1.length : Int)) = true := decide_eq_true c72
                  (try (have c72b0h0 := c72b0; simp only [hl17_3] at c72b0h0))
                  clear c72
                  have H' := Aside0.mk H
                  clear H
                  have hnb73 := NB148_149.out
                  have hnc73 := NB149_148.out
                  have hnb74 := NB148_153.out
                  have hnc74 := NB153_148.out
                  have hnb75 := NB148_155.out
                  have hnc75 := NB155_148.out
                  have hcz76_0 : wr.cell? ⟨gb148, 0, none⟩ = some (.int .i64 a0_0) := (blk_cell BK148.out 0).trans rfl
                  have hcz76_1 : wr.cell? ⟨gb148, 1, none⟩ = some (.slice A0_1 l0_1.length c0_1) := (blk_cell BK148.out 1).trans rfl
                  have hcz76_2 : wr.cell? ⟨gb148, 2, none⟩ = some (.slice A0_2 l0_2.length c0_2) := (blk_cell BK148.out 2).trans rfl
                  have hcz76_3 : wr.cell? ⟨gb148, 3, none⟩ = some (.slice A0_3 l0_3.length c0_3) := (blk_cell BK148.out 3).trans rfl
                  have hfz76_0 := blk_frozen BK148.out 0
                  have hfz76_1 := blk_frozen BK148.out 1
                  have hfz76_2 := blk_frozen BK148.out 2
                  have hfz76_3 := blk_frozen BK148.out 3
                  have p159 : 0 ≤ (x70_3 : Int) := of_decide_eq_true pmAx9_1_
                  have q159 : x70_3 < (l0_2.length : Int) := of_decide_eq_true pmAx9_1_
                  obtain ⟨ad159, e159, hx159_0⟩ := Kd.at_bool HR0_2.out x70_3 p159 q159
                  (try rw [← Nbq50.out] at hx159_0)
                  cases e159
                  replace hx159_0 := (HB.out.cell (World.block_lt_of_cell? w _ hx159_0)).trans hx159_0
                  replace p159 := eq_true p159
                  replace q159 := eq_true q159
                  have p160 : 0 ≤ (x70_3 : Int) := of_decide_eq_true pmAx9_1_
                  have q160 : x70_3 < (l0_3.length : Int) := of_decide_eq_true pmAx9_1_
                  obtain ⟨ad160, e160, hx160_0⟩ := Kd.at_int HR0_3.out x70_3 p160 q160
                  cases e160
                  replace hx160_0 := (HB.out.cell (World.block_lt_of_cell? w _ hx160_0)).trans hx160_0
                  replace p160 := eq_true p160
                  replace q160 := eq_true q160
                  have hnb77 := NB149_153.out
                  have hnc77 := NB153_149.out
                  have hnb78 := NB149_155.out
                  have hnc78 := NB155_149.out
                  have hcz79_0 : wr.cell? ⟨gb149, 0, none⟩ = some (.int .i64 a3) := (blk_cell BK149.out 0).trans rfl
                  have hfz79_0 := blk_frozen BK149.out 0
                  have hnb80 := NB155_153.out
                  have hnc80 := NB153_155.out
                  have hcz81_0 : wr.cell? ⟨gb155, 0, none⟩ = some (.int .i64 (wrap64 (a2 - t150))) := (blk_cell BK155.out 0).trans rfl
                  have hfz81_0 := blk_frozen BK155.out 0
                  go_wp2_with (first | ((with_reducible refine gate_callee (f := 17) rfl ?_); refine goesL_ (some 16) rfl rfl Try.func17 (by kernel_rfl) rfl #[.int .i64 (wrap64 (a2 - t150)), .int .i64 2] rfl pmAx9_17_ ?_; (with_reducible refine (fixed_Div.calls (wrap64 (a2 - t150)) 2 t163 _ A69.out).mono ?_); rintro e w' ⟨rfl, ⟨nd, rfl⟩⟩; refine ⟨_, rfl, ?_⟩; (try (rw [drewN_self wr]; generalize hq_ : World.drewN wr _ = wr; have n0_ : Aside0 (Kd.R (Kd.int .i64) 3 wr w.heap.size (fun k_ => k_ ≠ gb149 ∧ k_ ≠ gb153 ∧ k_ ≠ gb155) (.slice Ao46 x17_3.length co46) x17_3) := ⟨by rw [← hq_]; exact pmAx9_14_⟩; have n1_ : Aside0 (wr.heap[gb148]? = some (.cells #[.int .i64 a0_0, .slice A0_1 l0_1.length c0_1, .slice (some ad159) l0_2.length c0_2, .slice (some ad160) l0_3.length c0_3] 26 (0, 0))) := ⟨by rw [← hq_]; exact pmAx9_2_⟩; have n2_ : Aside0 (wr.heap[gb149]? = some (.cells #[.int .i64 a3] 3 (0, 0))) := ⟨by rw [← hq_]; exact pmAx9_3_⟩; have n3_ : Aside0 (wr.heap[gb153]? = some (.cells #[.int .i64 x154000_2] 3 (0, 0))) := ⟨by rw [← hq_]; exact pmAx9_4_⟩; have n4_ : Aside0 (wr.heap[gb155]? = some (.cells #[.int .i64 (wrap64 (a2 - t150))] 3 (0, 0))) := ⟨by rw [← hq_]; exact pmAx9_5_⟩; have n5_ : Aside0 (Below w.heap.size w wr) := ⟨by rw [← hq_]; exact pmAx9_0_⟩; clear HO_17 BK148 BK149 BK153 BK155 HB hq_; have HO_17 := n0_; have BK148 := n1_; have BK149 := n2_; have BK153 := n3_; have BK155 := n4_; have HB := n5_; clear n0_ n1_ n2_ n3_ n4_ n5_)); have p71 : 0 ≤ (x70_3 : Int) := of_decide_eq_true pmAx9_1_; have q71 : (x70_3 : Int) < ((x17_3.length : Int) : Int) := of_decide_eq_true pmAx9_1_; obtain ⟨go71, co71, eo71, gb71, gl71, cl71, HG71⟩ := Kd.R_form HO_17.out (by omega); (first | cases eo71 | (injection eo71 with ea_ en_ ec_; (first | subst ea_ | (injection ea_ with ea_; subst ea_)); subst ec_; clear en_)); have GB71 := Aside0.mk gb71; have GG71 := Aside0.mk HG71; clear gb71 gl71 HG71; obtain ⟨hx71_0, hf71_0⟩ := Kd.R_celln 0 HO_17.out (x70_3 : Int) p71 q71; replace p71 := eq_true p71; replace q71 := eq_true q71; obtain ⟨hy82_, hz82_⟩ := Kd.R_celln 0 HO_17.out (x70_3 : Int) (of_decide_eq_true pmAx9_1_) (of_decide_eq_true pmAx9_1_); have HP82 := Kd.R_putg HO_17.out (x70_3 : Int) (wrap64 ((wrap64 (x18_3 + (rd l0_3 x70_3))) + t163))) | ((with_reducible refine gate_store (t := 3) (p := 95) rfl ?_); refine store_event (t := 3) (p := 95) (v := ?vo_w83) (w1 := (wr.setCell ⟨go71, (x70_3 : Int).toNat, none⟩ (.int .i64 (wrap64 ((wrap64 (x18_3 + (rd l0_3 x70_3))) + t163))))) ?hg ?ho ?hn ?hr ?_; (case ho => rfl); (case hg => rfl); (case hn => rfl); (case hr => first | (go_simp; done) | (go_simp; rfl)); intro w83 hw; have hg : wr.grownBy w83 (some go71) := (by rw [hw]; exact HP82.2); have hp_ : Kd.R (Kd.int .i64) 3 w83 w.heap.size (fun k_ => k_ ≠ gb149 ∧ k_ ≠ gb153 ∧ k_ ≠ gb155) (.slice (some ⟨go71, 0, none⟩) x17_3.length co46) y164 := (by rw [hw, Ny164.out]; exact HP82.1); clear HP82; have n0_ := Aside0.mk (hp_); have n1_ := Aside0.mk (blk_grown (g := gb148) (o := .cells #[.int .i64 a0_0, .slice A0_1 l0_1.length c0_1, .slice (some ad159) l0_2.length c0_2, .slice (some ad160) l0_3.length c0_3] 26 (0, 0)) pmAx9_2_ hg (Kd.R_ne HO_17.out BK148.out (by decide))); have n2_ := Aside0.mk (blk_grown (g := gb149) (o := .cells #[.int .i64 a3] 3 (0, 0)) pmAx9_3_ hg (Kd.R_away HO_17.out (fun _ hk => hk.1))); have n3_ := Aside0.mk (blk_grown (g := gb153) (o := .cells #[.int .i64 x154000_2] 3 (0, 0)) pmAx9_4_ hg (Kd.R_away HO_17.out (fun _ hk => hk.2.1))); have n4_ := Aside0.mk (blk_grown (g := gb155) (o := .cells #[.int .i64 (wrap64 (a2 - t150))] 3 (0, 0)) pmAx9_5_ hg (Kd.R_away HO_17.out (fun _ hk => hk.2.2))); have n5_ := Aside0.mk ((by rw [hw]; exact below_set (HB.out) GB71.out : Below w.heap.size w w83)); clear HO_17; clear BK148; clear BK149; clear BK153; clear BK155; clear HB; have HO_17 := n0_; have BK148 := n1_; have BK149 := n2_; have BK153 := n3_; have BK155 := n4_; have HB := n5_; clear n0_ n1_ n2_ n3_ n4_ n5_; clear hg hw hp_; have p165 : 0 ≤ (x70_3 : Int) := of_decide_eq_true pmAx9_1_; have q165 : x70_3 < (l1.length : Int) := of_decide_eq_true pmAx9_1_; obtain ⟨ad165, e165, hx165_0⟩ := Kd.at_int HR1.out x70_3 p165 q165; cases e165; replace hx165_0 := (HB.out.cell (World.block_lt_of_cell? w _ hx165_0)).trans hx165_0; replace p165 := eq_true p165; replace q165 := eq_true q165) | go_in)
                  repeat ((first | refine bodyPost_end (results_none rfl _ _ _) rfl ?_ | refine bodyPost_ret (results_none rfl _ _ _) rfl ?_ | refine bodyPost_ret (results_tmp rfl _ _ _) rfl ?_); try go_wp2)
                  (try simp only [← hl17_3])
                  go_roundg k3
                  case measure => have := HJ5.out; have := HK2.out; have := HK3.out; omega
                  case rel => exact ⟨(y164), (wrap64 ((wrap64 (x18_3 + (rd l0_3 x70_3))) + (rd l1 x70_3))), (x19_3), (wrap64 (x70_3 + 1)), pmAx9_6_, pmAx9_6_, pmAx9_6_, H', ⟨pmAx9_18_⟩, ⟨pmAx9_12_⟩, ⟨pmAx9_8_⟩, ⟨pmAx9_9_⟩, ⟨pmAx9_10_⟩, ⟨pmAx9_11_⟩, ⟨pmAx9_0_⟩⟩
                rw [if_neg c68] at H
                have c68b0 : (a3 == 5) = false := beq_eq_false_iff_ne.mpr c68
                have c68b1 : (a3 != 5) = true := bne_iff_ne.mpr c68
                (try (have c68b0h0 := c68b0; simp only [hl17_3] at c68b0h0))
                (try (have c68b1h0 := c68b1; simp only [hl17_3] at c68b1h0))
                by_cases c84 : (wrap64 (a2 - t150)) ≤ 0
                · rw [if_pos c84] at H
                  have c84b0 : decide ((wrap64 (a2 - t150)) ≤ 0) = true := decide_eq_true c84
                  (try (have c84b0h0 := c84b0; simp only [hl17_3] at c84b0h0))
                  clear c84
                  by_cases c85 : x70_3 < (x17_3.length : Int)
                  rotate_left
                  · rw [if_neg c85] at H
                    exact absurd H (by simp)
                  rw [if_pos c85] at H
                  have c85b0 : decide (x70_3 < (x17_3.length : Int)) = true := decide_eq_true c85
                  (try (have c85b0h0 := c85b0; simp only [hl17_3] at c85b0h0))
                  clear c85
                  obtain ⟨y166, hy166⟩ : ∃ y_ : List Int, y_ = (x17_3.set (x70_3 : Int).toNat (wrap64 ((wrap64 (x18_3 + (rd l0_3 x70_3))) + 0))) := ⟨_, rfl⟩
                  replace H : (if x70_3 < (l1.length : Int) then (content_Starts.l1 k3 l1 y166 (wrap64 ((wrap64 (x18_3 + (rd l0_3 x70_3))) + (rd l1 x70_3))) x19_3 (y156.length : Int) (wrap64 (x70_3 + 1)) a0_0 l0_1 l0_2 l0_3 a3 x154000_2 (wrap64 (a2 - t150))) else (none)) = some (r1, r2) := by first | (rw [hy166]; with_reducible exact H) | (have H2_ := (Option.bind_some _ _).symm.trans H; rw [hy166]; with_reducible exact H2_) | (have H2_ := (Option.bind_some _ _).symm.trans H; with_reducible exact H2_) | with_reducible exact H | (rw [hy166]; exact H) | exact H
                  have Ny166 := Aside0.mk hy166
                  clear hy166
                  by_cases c87 : x70_3 < (l1.length : Int)
                  rotate_left
                  · rw [if_neg c87] at H
                    exact absurd H (by simp)
                  rw [if_pos c87] at H
                  have c87b0 : decide (x70_3 < (l1.length : Int)) = true := decide_eq_true c87
                  (try (have c87b0h0 := c87b0; simp only [hl17_3] at c87b0h0))
                  clear c87
                  have H' := Aside0.mk H
                  clear H
                  have hnb88 := NB148_149.out
                  have hnc88 := NB149_148.out
                  have hnb89 := NB148_153.out
                  have hnc89 := NB153_148.out
                  have hnb90 := NB148_155.out
                  have hnc90 := NB155_148.out
                  have hcz91_0 : wr.cell? ⟨gb148, 0, none⟩ = some (.int .i64 a0_0) := (blk_cell BK148.out 0).trans rfl
                  have hcz91_1 : wr.cell? ⟨gb148, 1, none⟩ = some (.slice A0_1 l0_1.length c0_1) := (blk_cell BK148.out 1).trans rfl
                  have hcz91_2 : wr.cell? ⟨gb148, 2, none⟩ = some (.slice A0_2 l0_2.length c0_2) := (blk_cell BK148.out 2).trans rfl
                  have hcz91_3 : wr.cell? ⟨gb148, 3, none⟩ = some (.slice A0_3 l0_3.length c0_3) := (blk_cell BK148.out 3).trans rfl
                  have hfz91_0 := blk_frozen BK148.out 0
                  have hfz91_1 := blk_frozen BK148.out 1
                  have hfz91_2 := blk_frozen BK148.out 2
                  have hfz91_3 := blk_frozen BK148.out 3
                  have p159 : 0 ≤ (x70_3 : Int) := of_decide_eq_true pmAx9_1_
                  have q159 : x70_3 < (l0_2.length : Int) := of_decide_eq_true pmAx9_1_
                  obtain ⟨ad159, e159, hx159_0⟩ := Kd.at_bool HR0_2.out x70_3 p159 q159
                  (try rw [← Nbq50.out] at hx159_0)
                  cases e159
                  replace hx159_0 := (HB.out.cell (World.block_lt_of_cell? w _ hx159_0)).trans hx159_0
                  replace p159 := eq_true p159
                  replace q159 := eq_true q159
                  have p160 : 0 ≤ (x70_3 : Int) := of_decide_eq_true pmAx9_1_
                  have q160 : x70_3 < (l0_3.length : Int) := of_decide_eq_true pmAx9_1_
                  obtain ⟨ad160, e160, hx160_0⟩ := Kd.at_int HR0_3.out x70_3 p160 q160
                  cases e160
                  replace hx160_0 := (HB.out.cell (World.block_lt_of_cell? w _ hx160_0)).trans hx160_0
                  replace p160 := eq_true p160
                  replace q160 := eq_true q160
                  have hnb92 := NB149_153.out
                  have hnc92 := NB153_149.out
                  have hnb93 := NB149_155.out
                  have hnc93 := NB155_149.out
                  have hcz94_0 : wr.cell? ⟨gb149, 0, none⟩ = some (.int .i64 a3) := (blk_cell BK149.out 0).trans rfl
                  have hfz94_0 := blk_frozen BK149.out 0
                  have hnb95 := NB155_153.out
                  have hnc95 := NB153_155.out
                  have hcz96_0 : wr.cell? ⟨gb155, 0, none⟩ = some (.int .i64 (wrap64 (a2 - t150))) := (blk_cell BK155.out 0).trans rfl
                  have hfz96_0 := blk_frozen BK155.out 0
                  have p86 : 0 ≤ (x70_3 : Int) := of_decide_eq_true pmAx9_1_
                  have q86 : (x70_3 : Int) < ((x17_3.length : Int) : Int) := of_decide_eq_true pmAx9_1_
                  obtain ⟨go86, co86, eo86, gb86, gl86, cl86, HG86⟩ := Kd.R_form HO_17.out (by omega)
                  (first | cases eo86 | (injection eo86 with ea_ en_ ec_; (first | subst ea_ | (injection ea_ with ea_; subst ea_)); subst ec_; clear en_))
                  have GB86 := Aside0.mk gb86
                  have GG86 := Aside0.mk HG86
                  clear gb86 gl86 HG86
                  obtain ⟨hx86_0, hf86_0⟩ := Kd.R_celln 0 HO_17.out (x70_3 : Int) p86 q86
                  replace p86 := eq_true p86
                  replace q86 := eq_true q86
                  have HP97 := Kd.R_putg HO_17.out (x70_3 : Int) (wrap64 ((wrap64 (x18_3 + (rd l0_3 x70_3))) + 0))
                  go_wp2_with (first | ((with_reducible refine gate_store (t := 3) (p := 95) rfl ?_); refine store_event (t := 3) (p := 95) (v := ?vo_w98) (w1 := (wr.setCell ⟨go86, (x70_3 : Int).toNat, none⟩ (.int .i64 (wrap64 ((wrap64 (x18_3 + (rd l0_3 x70_3))) + 0))))) ?hg ?ho ?hn ?hr ?_; (case ho => rfl); (case hg => rfl); (case hn => rfl); (case hr => first | (go_simp; done) | (go_simp; rfl)); intro w98 hw; have hg : wr.grownBy w98 (some go86) := (by rw [hw]; exact HP97.2); have hp_ : Kd.R (Kd.int .i64) 3 w98 w.heap.size (fun k_ => k_ ≠ gb149 ∧ k_ ≠ gb153 ∧ k_ ≠ gb155) (.slice (some ⟨go86, 0, none⟩) x17_3.length co46) y166 := (by rw [hw, Ny166.out]; exact HP97.1); clear HP97; have n0_ := Aside0.mk (hp_); have n1_ := Aside0.mk (blk_grown (g := gb148) (o := .cells #[.int .i64 a0_0, .slice A0_1 l0_1.length c0_1, .slice (some ad159) l0_2.length c0_2, .slice (some ad160) l0_3.length c0_3] 26 (0, 0)) pmAx9_2_ hg (Kd.R_ne HO_17.out BK148.out (by decide))); have n2_ := Aside0.mk (blk_grown (g := gb149) (o := .cells #[.int .i64 a3] 3 (0, 0)) pmAx9_3_ hg (Kd.R_away HO_17.out (fun _ hk => hk.1))); have n3_ := Aside0.mk (blk_grown (g := gb153) (o := .cells #[.int .i64 x154000_2] 3 (0, 0)) pmAx9_4_ hg (Kd.R_away HO_17.out (fun _ hk => hk.2.1))); have n4_ := Aside0.mk (blk_grown (g := gb155) (o := .cells #[.int .i64 (wrap64 (a2 - t150))] 3 (0, 0)) pmAx9_5_ hg (Kd.R_away HO_17.out (fun _ hk => hk.2.2))); have n5_ := Aside0.mk ((by rw [hw]; exact below_set (HB.out) GB86.out : Below w.heap.size w w98)); clear HO_17; clear BK148; clear BK149; clear BK153; clear BK155; clear HB; have HO_17 := n0_; have BK148 := n1_; have BK149 := n2_; have BK153 := n3_; have BK155 := n4_; have HB := n5_; clear n0_ n1_ n2_ n3_ n4_ n5_; clear hg hw hp_; have p167 : 0 ≤ (x70_3 : Int) := of_decide_eq_true pmAx9_1_; have q167 : x70_3 < (l1.length : Int) := of_decide_eq_true pmAx9_1_; obtain ⟨ad167, e167, hx167_0⟩ := Kd.at_int HR1.out x70_3 p167 q167; cases e167; replace hx167_0 := (HB.out.cell (World.block_lt_of_cell? w _ hx167_0)).trans hx167_0; replace p167 := eq_true p167; replace q167 := eq_true q167) | go_in)
                  repeat ((first | refine bodyPost_end (results_none rfl _ _ _) rfl ?_ | refine bodyPost_ret (results_none rfl _ _ _) rfl ?_ | refine bodyPost_ret (results_tmp rfl _ _ _) rfl ?_); try go_wp2)
                  (try simp only [← hl17_3])
                  go_roundg k3
                  case measure => have := HJ5.out; have := HK2.out; have := HK3.out; omega
                  case rel => exact ⟨(y166), (wrap64 ((wrap64 (x18_3 + (rd l0_3 x70_3))) + (rd l1 x70_3))), (x19_3), (wrap64 (x70_3 + 1)), pmAx9_6_, pmAx9_6_, pmAx9_6_, H', ⟨pmAx9_18_⟩, ⟨pmAx9_12_⟩, ⟨pmAx9_8_⟩, ⟨pmAx9_9_⟩, ⟨pmAx9_10_⟩, ⟨pmAx9_11_⟩, ⟨pmAx9_0_⟩⟩
                rw [if_neg c84] at H
                have c84b0 : decide ((wrap64 (a2 - t150)) ≤ 0) = false := decide_eq_false c84
                (try (have c84b0h0 := c84b0; simp only [hl17_3] at c84b0h0))
                clear c84
                by_cases c99 : x154000_2 = 0
                · rw [if_pos c99] at H
                  have c99b0 : (x154000_2 == 0) = true := beq_iff_eq.mpr c99
                  have c99b1 : (x154000_2 != 0) = false := bne_eq_false_iff_eq.mpr c99
                  (try (have c99b0h0 := c99b0; simp only [hl17_3] at c99b0h0))
                  (try (have c99b1h0 := c99b1; simp only [hl17_3] at c99b1h0))
                  clear c99
                  by_cases c100 : x70_3 < (x17_3.length : Int)
                  rotate_left
                  · rw [if_neg c100] at H
                    exact absurd H (by simp)
                  rw [if_pos c100] at H
                  have c100b0 : decide (x70_3 < (x17_3.length : Int)) = true := decide_eq_true c100
                  (try (have c100b0h0 := c100b0; simp only [hl17_3] at c100b0h0))
                  clear c100
                  obtain ⟨y168, hy168⟩ : ∃ y_ : List Int, y_ = (x17_3.set (x70_3 : Int).toNat (wrap64 ((wrap64 (x18_3 + (rd l0_3 x70_3))) + 0))) := ⟨_, rfl⟩
                  replace H : (if x70_3 < (l1.length : Int) then (content_Starts.l1 k3 l1 y168 (wrap64 ((wrap64 (x18_3 + (rd l0_3 x70_3))) + (rd l1 x70_3))) x19_3 (y156.length : Int) (wrap64 (x70_3 + 1)) a0_0 l0_1 l0_2 l0_3 a3 x154000_2 (wrap64 (a2 - t150))) else (none)) = some (r1, r2) := by first | (rw [hy168]; with_reducible exact H) | (have H2_ := (Option.bind_some _ _).symm.trans H; rw [hy168]; with_reducible exact H2_) | (have H2_ := (Option.bind_some _ _).symm.trans H; with_reducible exact H2_) | with_reducible exact H | (rw [hy168]; exact H) | exact H
                  have Ny168 := Aside0.mk hy168
                  clear hy168
                  by_cases c102 : x70_3 < (l1.length : Int)
                  rotate_left
                  · rw [if_neg c102] at H
                    exact absurd H (by simp)
                  rw [if_pos c102] at H
                  have c102b0 : decide (x70_3 < (l1.length : Int)) = true := decide_eq_true c102
                  (try (have c102b0h0 := c102b0; simp only [hl17_3] at c102b0h0))
                  clear c102
                  have H' := Aside0.mk H
                  clear H
                  have hnb103 := NB148_149.out
                  have hnc103 := NB149_148.out
                  have hnb104 := NB148_153.out
                  have hnc104 := NB153_148.out
                  have hnb105 := NB148_155.out
                  have hnc105 := NB155_148.out
                  have hcz106_0 : wr.cell? ⟨gb148, 0, none⟩ = some (.int .i64 a0_0) := (blk_cell BK148.out 0).trans rfl
                  have hcz106_1 : wr.cell? ⟨gb148, 1, none⟩ = some (.slice A0_1 l0_1.length c0_1) := (blk_cell BK148.out 1).trans rfl
                  have hcz106_2 : wr.cell? ⟨gb148, 2, none⟩ = some (.slice A0_2 l0_2.length c0_2) := (blk_cell BK148.out 2).trans rfl
                  have hcz106_3 : wr.cell? ⟨gb148, 3, none⟩ = some (.slice A0_3 l0_3.length c0_3) := (blk_cell BK148.out 3).trans rfl
                  have hfz106_0 := blk_frozen BK148.out 0
                  have hfz106_1 := blk_frozen BK148.out 1
                  have hfz106_2 := blk_frozen BK148.out 2
                  have hfz106_3 := blk_frozen BK148.out 3
                  have p159 : 0 ≤ (x70_3 : Int) := of_decide_eq_true pmAx9_1_
                  have q159 : x70_3 < (l0_2.length : Int) := of_decide_eq_true pmAx9_1_
                  obtain ⟨ad159, e159, hx159_0⟩ := Kd.at_bool HR0_2.out x70_3 p159 q159
                  (try rw [← Nbq50.out] at hx159_0)
                  cases e159
                  replace hx159_0 := (HB.out.cell (World.block_lt_of_cell? w _ hx159_0)).trans hx159_0
                  replace p159 := eq_true p159
                  replace q159 := eq_true q159
                  have p160 : 0 ≤ (x70_3 : Int) := of_decide_eq_true pmAx9_1_
                  have q160 : x70_3 < (l0_3.length : Int) := of_decide_eq_true pmAx9_1_
                  obtain ⟨ad160, e160, hx160_0⟩ := Kd.at_int HR0_3.out x70_3 p160 q160
                  cases e160
                  replace hx160_0 := (HB.out.cell (World.block_lt_of_cell? w _ hx160_0)).trans hx160_0
                  replace p160 := eq_true p160
                  replace q160 := eq_true q160
                  have hnb107 := NB149_153.out
                  have hnc107 := NB153_149.out
                  have hnb108 := NB149_155.out
                  have hnc108 := NB155_149.out
                  have hcz109_0 : wr.cell? ⟨gb149, 0, none⟩ = some (.int .i64 a3) := (blk_cell BK149.out 0).trans rfl
                  have hfz109_0 := blk_frozen BK149.out 0
                  have hnb110 := NB155_153.out
                  have hnc110 := NB153_155.out
                  have hcz111_0 : wr.cell? ⟨gb155, 0, none⟩ = some (.int .i64 (wrap64 (a2 - t150))) := (blk_cell BK155.out 0).trans rfl
                  have hfz111_0 := blk_frozen BK155.out 0
                  have hcz112_0 : wr.cell? ⟨gb153, 0, none⟩ = some (.int .i64 x154000_2) := (blk_cell BK153.out 0).trans rfl
                  have hfz112_0 := blk_frozen BK153.out 0
                  have p101 : 0 ≤ (x70_3 : Int) := of_decide_eq_true pmAx9_1_
                  have q101 : (x70_3 : Int) < ((x17_3.length : Int) : Int) := of_decide_eq_true pmAx9_1_
                  obtain ⟨go101, co101, eo101, gb101, gl101, cl101, HG101⟩ := Kd.R_form HO_17.out (by omega)
                  (first | cases eo101 | (injection eo101 with ea_ en_ ec_; (first | subst ea_ | (injection ea_ with ea_; subst ea_)); subst ec_; clear en_))
                  have GB101 := Aside0.mk gb101
                  have GG101 := Aside0.mk HG101
                  clear gb101 gl101 HG101
                  obtain ⟨hx101_0, hf101_0⟩ := Kd.R_celln 0 HO_17.out (x70_3 : Int) p101 q101
                  replace p101 := eq_true p101
                  replace q101 := eq_true q101
                  have HP113 := Kd.R_putg HO_17.out (x70_3 : Int) (wrap64 ((wrap64 (x18_3 + (rd l0_3 x70_3))) + 0))
                  go_wp2_with (first | ((with_reducible refine gate_store (t := 3) (p := 95) rfl ?_); refine store_event (t := 3) (p := 95) (v := ?vo_w114) (w1 := (wr.setCell ⟨go101, (x70_3 : Int).toNat, none⟩ (.int .i64 (wrap64 ((wrap64 (x18_3 + (rd l0_3 x70_3))) + 0))))) ?hg ?ho ?hn ?hr ?_; (case ho => rfl); (case hg => rfl); (case hn => rfl); (case hr => first | (go_simp; done) | (go_simp; rfl)); intro w114 hw; have hg : wr.grownBy w114 (some go101) := (by rw [hw]; exact HP113.2); have hp_ : Kd.R (Kd.int .i64) 3 w114 w.heap.size (fun k_ => k_ ≠ gb149 ∧ k_ ≠ gb153 ∧ k_ ≠ gb155) (.slice (some ⟨go101, 0, none⟩) x17_3.length co46) y168 := (by rw [hw, Ny168.out]; exact HP113.1); clear HP113; have n0_ := Aside0.mk (hp_); have n1_ := Aside0.mk (blk_grown (g := gb148) (o := .cells #[.int .i64 a0_0, .slice A0_1 l0_1.length c0_1, .slice (some ad159) l0_2.length c0_2, .slice (some ad160) l0_3.length c0_3] 26 (0, 0)) pmAx9_2_ hg (Kd.R_ne HO_17.out BK148.out (by decide))); have n2_ := Aside0.mk (blk_grown (g := gb149) (o := .cells #[.int .i64 a3] 3 (0, 0)) pmAx9_3_ hg (Kd.R_away HO_17.out (fun _ hk => hk.1))); have n3_ := Aside0.mk (blk_grown (g := gb153) (o := .cells #[.int .i64 x154000_2] 3 (0, 0)) pmAx9_4_ hg (Kd.R_away HO_17.out (fun _ hk => hk.2.1))); have n4_ := Aside0.mk (blk_grown (g := gb155) (o := .cells #[.int .i64 (wrap64 (a2 - t150))] 3 (0, 0)) pmAx9_5_ hg (Kd.R_away HO_17.out (fun _ hk => hk.2.2))); have n5_ := Aside0.mk ((by rw [hw]; exact below_set (HB.out) GB101.out : Below w.heap.size w w114)); clear HO_17; clear BK148; clear BK149; clear BK153; clear BK155; clear HB; have HO_17 := n0_; have BK148 := n1_; have BK149 := n2_; have BK153 := n3_; have BK155 := n4_; have HB := n5_; clear n0_ n1_ n2_ n3_ n4_ n5_; clear hg hw hp_; have p169 : 0 ≤ (x70_3 : Int) := of_decide_eq_true pmAx9_1_; have q169 : x70_3 < (l1.length : Int) := of_decide_eq_true pmAx9_1_; obtain ⟨ad169, e169, hx169_0⟩ := Kd.at_int HR1.out x70_3 p169 q169; cases e169; replace hx169_0 := (HB.out.cell (World.block_lt_of_cell? w _ hx169_0)).trans hx169_0; replace p169 := eq_true p169; replace q169 := eq_true q169) | go_in)
                  repeat ((first | refine bodyPost_end (results_none rfl _ _ _) rfl ?_ | refine bodyPost_ret (results_none rfl _ _ _) rfl ?_ | refine bodyPost_ret (results_tmp rfl _ _ _) rfl ?_); try go_wp2)
                  (try simp only [← hl17_3])
                  go_roundg k3
                  case measure => have := HJ5.out; have := HK2.out; have := HK3.out; omega
                  case rel => exact ⟨(y168), (wrap64 ((wrap64 (x18_3 + (rd l0_3 x70_3))) + (rd l1 x70_3))), (x19_3), (wrap64 (x70_3 + 1)), pmAx9_6_, pmAx9_6_, pmAx9_6_, H', ⟨pmAx9_18_⟩, ⟨pmAx9_12_⟩, ⟨pmAx9_8_⟩, ⟨pmAx9_9_⟩, ⟨pmAx9_10_⟩, ⟨pmAx9_11_⟩, ⟨pmAx9_0_⟩⟩
                rw [if_neg c99] at H
                have c99b0 : (x154000_2 == 0) = false := beq_eq_false_iff_ne.mpr c99
                have c99b1 : (x154000_2 != 0) = true := bne_iff_ne.mpr c99
                (try (have c99b0h0 := c99b0; simp only [hl17_3] at c99b0h0))
                (try (have c99b1h0 := c99b1; simp only [hl17_3] at c99b1h0))
                obtain ⟨ji115, hji115⟩ : ∃ j_ : Int, (mx x19_3 0) = j_ := ⟨_, rfl⟩
                replace H : ((content_ratio.f a3 (ji115) x154000_2).bind fun bt170 => ((fixed_MulDiv.f k3 (wrap64 (a2 - t150)) bt170.1 bt170.2).bind fun bt173 => (if x70_3 < (x17_3.length : Int) then (if x70_3 < (l1.length : Int) then (content_Starts.l1 k3 l1 (x17_3.set (x70_3 : Int).toNat (wrap64 ((wrap64 (x18_3 + (rd l0_3 x70_3))) + bt173.1))) (wrap64 ((wrap64 (x18_3 + (rd l0_3 x70_3))) + (rd l1 x70_3))) x19_3 (y156.length : Int) (wrap64 (x70_3 + 1)) a0_0 l0_1 l0_2 l0_3 a3 x154000_2 (wrap64 (a2 - t150))) else (none)) else (none)))) = some (r1, r2) := by first | (rw [hji115] at H; exact H) | (simp only [hji115] at H ⊢; exact H)
                have hji115_ : (if x19_3 < 0 then 0 else x19_3) = ji115 := hji115
                replace H := Option.bind_eq_some_iff.mp H
                obtain ⟨⟨t170, t171⟩, A1160, H⟩ := H
                replace H : ((fixed_MulDiv.f k3 (wrap64 (a2 - t150)) t170 t171).bind fun bt173 => (if x70_3 < (x17_3.length : Int) then (if x70_3 < (l1.length : Int) then (content_Starts.l1 k3 l1 (x17_3.set (x70_3 : Int).toNat (wrap64 ((wrap64 (x18_3 + (rd l0_3 x70_3))) + bt173.1))) (wrap64 ((wrap64 (x18_3 + (rd l0_3 x70_3))) + (rd l1 x70_3))) x19_3 (y156.length : Int) (wrap64 (x70_3 + 1)) a0_0 l0_1 l0_2 l0_3 a3 x154000_2 (wrap64 (a2 - t150))) else (none)) else (none))) = some (r1, r2) := H
                have A116 := Aside0.mk A1160
                clear A1160
                replace H := Option.bind_eq_some_iff.mp H
                obtain ⟨⟨t173, t174⟩, A1170, H⟩ := H
                replace H : (if x70_3 < (x17_3.length : Int) then (if x70_3 < (l1.length : Int) then (content_Starts.l1 k3 l1 (x17_3.set (x70_3 : Int).toNat (wrap64 ((wrap64 (x18_3 + (rd l0_3 x70_3))) + t173))) (wrap64 ((wrap64 (x18_3 + (rd l0_3 x70_3))) + (rd l1 x70_3))) x19_3 (y156.length : Int) (wrap64 (x70_3 + 1)) a0_0 l0_1 l0_2 l0_3 a3 x154000_2 (wrap64 (a2 - t150))) else (none)) else (none)) = some (r1, r2) := H
                have A117 := Aside0.mk A1170
                clear A1170
                by_cases c118 : x70_3 < (x17_3.length : Int)
                rotate_left
                · rw [if_neg c118] at H
                  exact absurd H (by simp)
                rw [if_pos c118] at H
                have c118b0 : decide (x70_3 < (x17_3.length : Int)) = true := decide_eq_true c118
                (try (have c118b0h0 := c118b0; simp only [hl17_3] at c118b0h0))
                clear c118
                obtain ⟨y175, hy175⟩ : ∃ y_ : List Int, y_ = (x17_3.set (x70_3 : Int).toNat (wrap64 ((wrap64 (x18_3 + (rd l0_3 x70_3))) + t173))) := ⟨_, rfl⟩
                replace H : (if x70_3 < (l1.length : Int) then (content_Starts.l1 k3 l1 y175 (wrap64 ((wrap64 (x18_3 + (rd l0_3 x70_3))) + (rd l1 x70_3))) x19_3 (y156.length : Int) (wrap64 (x70_3 + 1)) a0_0 l0_1 l0_2 l0_3 a3 x154000_2 (wrap64 (a2 - t150))) else (none)) = some (r1, r2) := by first | (rw [hy175]; with_reducible exact H) | (have H2_ := (Option.bind_some _ _).symm.trans H; rw [hy175]; with_reducible exact H2_) | (have H2_ := (Option.bind_some _ _).symm.trans H; with_reducible exact H2_) | with_reducible exact H | (rw [hy175]; exact H) | exact H
                have Ny175 := Aside0.mk hy175
                clear hy175
                by_cases c120 : x70_3 < (l1.length : Int)
                rotate_left
                · rw [if_neg c120] at H
                  exact absurd H (by simp)
                rw [if_pos c120] at H
                have c120b0 : decide (x70_3 < (l1.length : Int)) = true := decide_eq_true c120
                (try (have c120b0h0 := c120b0; simp only [hl17_3] at c120b0h0))
                clear c120
                have H' := Aside0.mk H
                clear H
                have hnb121 := NB148_149.out
                have hnc121 := NB149_148.out
                have hnb122 := NB148_153.out
                have hnc122 := NB153_148.out
                have hnb123 := NB148_155.out
                have hnc123 := NB155_148.out
                have hcz124_0 : wr.cell? ⟨gb148, 0, none⟩ = some (.int .i64 a0_0) := (blk_cell BK148.out 0).trans rfl
                have hcz124_1 : wr.cell? ⟨gb148, 1, none⟩ = some (.slice A0_1 l0_1.length c0_1) := (blk_cell BK148.out 1).trans rfl
                have hcz124_2 : wr.cell? ⟨gb148, 2, none⟩ = some (.slice A0_2 l0_2.length c0_2) := (blk_cell BK148.out 2).trans rfl
                have hcz124_3 : wr.cell? ⟨gb148, 3, none⟩ = some (.slice A0_3 l0_3.length c0_3) := (blk_cell BK148.out 3).trans rfl
                have hfz124_0 := blk_frozen BK148.out 0
                have hfz124_1 := blk_frozen BK148.out 1
                have hfz124_2 := blk_frozen BK148.out 2
                have hfz124_3 := blk_frozen BK148.out 3
                have p159 : 0 ≤ (x70_3 : Int) := of_decide_eq_true pmAx9_1_
                have q159 : x70_3 < (l0_2.length : Int) := of_decide_eq_true pmAx9_1_
                obtain ⟨ad159, e159, hx159_0⟩ := Kd.at_bool HR0_2.out x70_3 p159 q159
                (try rw [← Nbq50.out] at hx159_0)
                cases e159
                replace hx159_0 := (HB.out.cell (World.block_lt_of_cell? w _ hx159_0)).trans hx159_0
                replace p159 := eq_true p159
                replace q159 := eq_true q159
                have p160 : 0 ≤ (x70_3 : Int) := of_decide_eq_true pmAx9_1_
                have q160 : x70_3 < (l0_3.length : Int) := of_decide_eq_true pmAx9_1_
                obtain ⟨ad160, e160, hx160_0⟩ := Kd.at_int HR0_3.out x70_3 p160 q160
                cases e160
                replace hx160_0 := (HB.out.cell (World.block_lt_of_cell? w _ hx160_0)).trans hx160_0
                replace p160 := eq_true p160
                replace q160 := eq_true q160
                have hnb125 := NB149_153.out
                have hnc125 := NB153_149.out
                have hnb126 := NB149_155.out
                have hnc126 := NB155_149.out
                have hcz127_0 : wr.cell? ⟨gb149, 0, none⟩ = some (.int .i64 a3) := (blk_cell BK149.out 0).trans rfl
                have hfz127_0 := blk_frozen BK149.out 0
                have hnb128 := NB155_153.out
                have hnc128 := NB153_155.out
                have hcz129_0 : wr.cell? ⟨gb155, 0, none⟩ = some (.int .i64 (wrap64 (a2 - t150))) := (blk_cell BK155.out 0).trans rfl
                have hfz129_0 := blk_frozen BK155.out 0
                have hcz130_0 : wr.cell? ⟨gb153, 0, none⟩ = some (.int .i64 x154000_2) := (blk_cell BK153.out 0).trans rfl
                have hfz130_0 := blk_frozen BK153.out 0
                go_wp2_with (first | ((with_reducible refine gate_callee (f := 18) rfl ?_); refine goesL_ (some 27) rfl rfl Try.func18 (by kernel_rfl) rfl #[.int .i64 a3, .int .i64 ji115, .int .i64 x154000_2] rfl (by (try simp only [List.map_toArray, List.map_cons, List.map_nil]); first | done | (simp only [hji115]; rfl) | rfl | (simp only [List.length_drop, List.length_take]; rfl)) ?_; (with_reducible refine (content_ratio.calls a3 ji115 x154000_2 t170 t171 _ A116.out).mono ?_); rintro e w131 ⟨rfl, hb⟩; refine ⟨_, rfl, ?_⟩; have n0_ := Aside0.mk (Kd.R_below pmAx9_14_ hb); have n1_ := Aside0.mk (blk_below (g := gb148) (o := .cells #[.int .i64 a0_0, .slice A0_1 l0_1.length c0_1, .slice (some ad159) l0_2.length c0_2, .slice (some ad160) l0_3.length c0_3] 26 (0, 0)) pmAx9_2_ hb); have n2_ := Aside0.mk (blk_below (g := gb149) (o := .cells #[.int .i64 a3] 3 (0, 0)) pmAx9_3_ hb); have n3_ := Aside0.mk (blk_below (g := gb153) (o := .cells #[.int .i64 x154000_2] 3 (0, 0)) pmAx9_4_ hb); have n4_ := Aside0.mk (blk_below (g := gb155) (o := .cells #[.int .i64 (wrap64 (a2 - t150))] 3 (0, 0)) pmAx9_5_ hb); have n5_ := Aside0.mk (below_step pmAx9_0_ hb); clear HO_17; clear BK148; clear BK149; clear BK153; clear BK155; clear HB; have HO_17 := n0_; have BK148 := n1_; have BK149 := n2_; have BK153 := n3_; have BK155 := n4_; have HB := n5_; clear n0_ n1_ n2_ n3_ n4_ n5_; (try clear hb); (try clear hb2); (try clear hk); (try clear hi)) | ((with_reducible refine gate_dst (N := 6) rfl ?_); refine box_event ?hg (N := 6) ?hd (cs := #[.int .i64 0, .int .i64 0]) (t := 46) ?hr ?_; (case hd => rfl); (case hg => rfl); (case hr => first | (go_simp; done) | (go_simp; rfl)); intro gb172 hg w132 hbox hb; have n0_ := Aside0.mk (Kd.R_below pmAx9_14_ hb); have n1_ := Aside0.mk (blk_below (g := gb148) (o := .cells #[.int .i64 a0_0, .slice A0_1 l0_1.length c0_1, .slice (some ad159) l0_2.length c0_2, .slice (some ad160) l0_3.length c0_3] 26 (0, 0)) pmAx9_2_ hb); have n2_ := Aside0.mk (blk_below (g := gb149) (o := .cells #[.int .i64 a3] 3 (0, 0)) pmAx9_3_ hb); have n3_ := Aside0.mk (blk_below (g := gb153) (o := .cells #[.int .i64 x154000_2] 3 (0, 0)) pmAx9_4_ hb); have n4_ := Aside0.mk (blk_below (g := gb155) (o := .cells #[.int .i64 (wrap64 (a2 - t150))] 3 (0, 0)) pmAx9_5_ hb); have n5_ := Aside0.mk (below_step pmAx9_0_ hb); have n6_ := Aside0.mk (hbox); have n7_ := Aside0.mk ((by rw [hg]; exact (below_size pmAx9_0_) : w.heap.size ≤ gb172)); have n8_ := Aside0.mk ((by rw [hg]; exact (below_size pmAx9_0_) : w.heap.size ≤ gb172)); have n9_ := Aside0.mk ((by rw [hg]; exact Nat.ne_of_lt (blk_lt (g := gb148) (o := .cells #[.int .i64 a0_0, .slice A0_1 l0_1.length c0_1, .slice (some ad159) l0_2.length c0_2, .slice (some ad160) l0_3.length c0_3] 26 (0, 0)) pmAx9_2_) : gb148 ≠ gb172)); have n10_ := Aside0.mk ((by rw [hg]; exact Nat.ne_of_gt (blk_lt (g := gb148) (o := .cells #[.int .i64 a0_0, .slice A0_1 l0_1.length c0_1, .slice (some ad159) l0_2.length c0_2, .slice (some ad160) l0_3.length c0_3] 26 (0, 0)) pmAx9_2_) : gb172 ≠ gb148)); have n11_ := Aside0.mk ((pmAx9_22_ : gb149 ≠ gb172)); have n12_ := Aside0.mk ((pmAx9_23_ : gb172 ≠ gb149)); have n13_ := Aside0.mk ((by rw [hg]; exact Nat.ne_of_lt (blk_lt (g := gb153) (o := .cells #[.int .i64 x154000_2] 3 (0, 0)) pmAx9_4_) : gb153 ≠ gb172)); have n14_ := Aside0.mk ((by rw [hg]; exact Nat.ne_of_gt (blk_lt (g := gb153) (o := .cells #[.int .i64 x154000_2] 3 (0, 0)) pmAx9_4_) : gb172 ≠ gb153)); have n15_ := Aside0.mk ((by rw [hg]; exact Nat.ne_of_lt (blk_lt (g := gb155) (o := .cells #[.int .i64 (wrap64 (a2 - t150))] 3 (0, 0)) pmAx9_5_) : gb155 ≠ gb172)); have n16_ := Aside0.mk ((by rw [hg]; exact Nat.ne_of_gt (blk_lt (g := gb155) (o := .cells #[.int .i64 (wrap64 (a2 - t150))] 3 (0, 0)) pmAx9_5_) : gb172 ≠ gb155)); clear HO_17; clear BK148; clear BK149; clear BK153; clear BK155; clear HB; have HO_17 := n0_; have BK148 := n1_; have BK149 := n2_; have BK153 := n3_; have BK155 := n4_; have HB := n5_; have BK172 := n6_; have GW172 := n7_; have GE172 := n8_; have NB148_172 := n9_; have NB172_148 := n10_; have NB149_172 := n11_; have NB172_149 := n12_; have NB153_172 := n13_; have NB172_153 := n14_; have NB155_172 := n15_; have NB172_155 := n16_; clear n0_ n1_ n2_ n3_ n4_ n5_ n6_ n7_ n8_ n9_ n10_ n11_ n12_ n13_ n14_ n15_ n16_; clear hb hbox hg; have hnb133 := NB172_148.out; have hnc133 := NB148_172.out; have hnb134 := NB172_149.out; have hnc134 := NB149_172.out; have hnb135 := NB172_153.out; have hnc135 := NB153_172.out; have hnb136 := NB172_155.out; have hnc136 := NB155_172.out; have hcz137_0 : w132.cell? ⟨gb172, 0, none⟩ = some (.int .i64 0) := (blk_cell BK172.out 0).trans rfl; have hcz137_1 : w132.cell? ⟨gb172, 1, none⟩ = some (.int .i64 0) := (blk_cell BK172.out 1).trans rfl; have hfz137_0 := blk_frozen BK172.out 0; have hfz137_1 := blk_frozen BK172.out 1) | ((with_reducible refine gate_store (t := 46) (p := 6) rfl ?_); refine store_event (t := 46) (p := 6) (v := ?vo_w138) (w1 := ((w132.setCell ⟨gb172, 0, none⟩ (.int .i64 t170)).setCell ⟨gb172, 1, none⟩ (.int .i64 t171))) ?hg ?ho ?hn ?hr ?_; (case ho => rfl); (case hg => rfl); (case hn => rfl); (case hr => first | (go_simp; done) | (go_simp; rfl)); intro w138 hw; have n0_ : Aside0 (Kd.R (Kd.int .i64) 3 w138 w.heap.size (fun k_ => k_ ≠ gb149 ∧ k_ ≠ gb153 ∧ k_ ≠ gb155) (.slice Ao46 x17_3.length co46) x17_3) := ⟨(by rw [hw]; exact (by (with_reducible repeat (first | apply Kd.R_alloc | apply Kd.R_drewN | apply Kd.R_drew)); exact Kd.R_mono (Kd.R_far (p := ⟨gb172, 1, none⟩) (Kd.R_far (p := ⟨gb172, 0, none⟩) (Kd.R_types HO_17.out BK172.out (by decide)) (fun _ hk => hk.2) (.int .i64 t170)) (fun _ hk => hk.2) (.int .i64 t171)) (fun _ hk => ⟨hk.1.1, ⟨hk.1.2.1, hk.1.2.2⟩⟩)))⟩; have n1_ : Aside0 (w138.heap[gb148]? = some (.cells #[.int .i64 a0_0, .slice A0_1 l0_1.length c0_1, .slice (some ad159) l0_2.length c0_2, .slice (some ad160) l0_3.length c0_3] 26 (0, 0))) := ⟨(by rw [hw]; exact (by (with_reducible repeat (first | refine blk_drewN ?_ _ | refine blk_drew ?_ | refine blk_alloc ?_ _)); refine blk_far ?_ NB148_172.out _; (with_reducible repeat (first | refine blk_drewN ?_ _ | refine blk_drew ?_ | refine blk_alloc ?_ _)); refine blk_far ?_ NB148_172.out _; (with_reducible repeat (first | refine blk_drewN ?_ _ | refine blk_drew ?_ | refine blk_alloc ?_ _)); exact BK148.out))⟩; have n2_ : Aside0 (w138.heap[gb149]? = some (.cells #[.int .i64 a3] 3 (0, 0))) := ⟨(by rw [hw]; exact (by (with_reducible repeat (first | refine blk_drewN ?_ _ | refine blk_drew ?_ | refine blk_alloc ?_ _)); refine blk_far ?_ NB149_172.out _; (with_reducible repeat (first | refine blk_drewN ?_ _ | refine blk_drew ?_ | refine blk_alloc ?_ _)); refine blk_far ?_ NB149_172.out _; (with_reducible repeat (first | refine blk_drewN ?_ _ | refine blk_drew ?_ | refine blk_alloc ?_ _)); exact BK149.out))⟩; have n3_ : Aside0 (w138.heap[gb153]? = some (.cells #[.int .i64 x154000_2] 3 (0, 0))) := ⟨(by rw [hw]; exact (by (with_reducible repeat (first | refine blk_drewN ?_ _ | refine blk_drew ?_ | refine blk_alloc ?_ _)); refine blk_far ?_ NB153_172.out _; (with_reducible repeat (first | refine blk_drewN ?_ _ | refine blk_drew ?_ | refine blk_alloc ?_ _)); refine blk_far ?_ NB153_172.out _; (with_reducible repeat (first | refine blk_drewN ?_ _ | refine blk_drew ?_ | refine blk_alloc ?_ _)); exact BK153.out))⟩; have n4_ : Aside0 (w138.heap[gb155]? = some (.cells #[.int .i64 (wrap64 (a2 - t150))] 3 (0, 0))) := ⟨(by rw [hw]; exact (by (with_reducible repeat (first | refine blk_drewN ?_ _ | refine blk_drew ?_ | refine blk_alloc ?_ _)); refine blk_far ?_ NB155_172.out _; (with_reducible repeat (first | refine blk_drewN ?_ _ | refine blk_drew ?_ | refine blk_alloc ?_ _)); refine blk_far ?_ NB155_172.out _; (with_reducible repeat (first | refine blk_drewN ?_ _ | refine blk_drew ?_ | refine blk_alloc ?_ _)); exact BK155.out))⟩; have n5_ : Aside0 (w138.heap[gb172]? = some (.cells #[.int .i64 t170, .int .i64 t171] 46 (0, 0))) := ⟨(by rw [hw]; exact (by (with_reducible repeat (first | refine blk_drewN ?_ _ | refine blk_drew ?_ | refine blk_alloc ?_ _)); refine blk_put (cs := #[.int .i64 t170, .int .i64 0]) ?_ 1 _ rfl; (with_reducible repeat (first | refine blk_drewN ?_ _ | refine blk_drew ?_ | refine blk_alloc ?_ _)); refine blk_put (cs := #[.int .i64 0, .int .i64 0]) ?_ 0 _ rfl; (with_reducible repeat (first | refine blk_drewN ?_ _ | refine blk_drew ?_ | refine blk_alloc ?_ _)); exact BK172.out))⟩; have n6_ : Aside0 (Below w.heap.size w w138) := ⟨(by rw [hw]; exact pmAx9_15_)⟩; clear hw; clear HO_17; clear BK148; clear BK149; clear BK153; clear BK155; clear BK172; clear HB; have HO_17 := n0_; have BK148 := n1_; have BK149 := n2_; have BK153 := n3_; have BK155 := n4_; have BK172 := n5_; have HB := n6_; clear n0_ n1_ n2_ n3_ n4_ n5_ n6_; have hcz139_0 : w138.cell? ⟨gb155, 0, none⟩ = some (.int .i64 (wrap64 (a2 - t150))) := (blk_cell BK155.out 0).trans rfl; have hfz139_0 := blk_frozen BK155.out 0; have hcz140_0 : w138.cell? ⟨gb172, 0, none⟩ = some (.int .i64 t170) := (blk_cell BK172.out 0).trans rfl; have hcz140_1 : w138.cell? ⟨gb172, 1, none⟩ = some (.int .i64 t171) := (blk_cell BK172.out 1).trans rfl; have hfz140_0 := blk_frozen BK172.out 0; have hfz140_1 := blk_frozen BK172.out 1) | ((with_reducible refine gate_callee (f := 19) rfl ?_); refine goesL_ (some 34) rfl rfl Try.func19 (by kernel_rfl) rfl #[.int .i64 (wrap64 (a2 - t150)), .int .i64 t170, .int .i64 t171] rfl pmAx9_17_ ?_; (with_reducible refine (fixed_MulDiv.calls k3 (wrap64 (a2 - t150)) t170 t171 t173 t174 _ A117.out).mono ?_); rintro e w' ⟨rfl, ⟨nd, rfl⟩⟩; refine ⟨_, rfl, ?_⟩; (try (rw [drewN_self w138]; generalize hq_ : World.drewN w138 _ = w138; have n0_ : Aside0 (Kd.R (Kd.int .i64) 3 w138 w.heap.size (fun k_ => k_ ≠ gb149 ∧ k_ ≠ gb153 ∧ k_ ≠ gb155) (.slice Ao46 x17_3.length co46) x17_3) := ⟨by rw [← hq_]; exact pmAx9_14_⟩; have n1_ : Aside0 (w138.heap[gb148]? = some (.cells #[.int .i64 a0_0, .slice A0_1 l0_1.length c0_1, .slice (some ad159) l0_2.length c0_2, .slice (some ad160) l0_3.length c0_3] 26 (0, 0))) := ⟨by rw [← hq_]; exact pmAx9_2_⟩; have n2_ : Aside0 (w138.heap[gb149]? = some (.cells #[.int .i64 a3] 3 (0, 0))) := ⟨by rw [← hq_]; exact pmAx9_3_⟩; have n3_ : Aside0 (w138.heap[gb153]? = some (.cells #[.int .i64 x154000_2] 3 (0, 0))) := ⟨by rw [← hq_]; exact pmAx9_4_⟩; have n4_ : Aside0 (w138.heap[gb155]? = some (.cells #[.int .i64 (wrap64 (a2 - t150))] 3 (0, 0))) := ⟨by rw [← hq_]; exact pmAx9_5_⟩; have n5_ : Aside0 (w138.heap[gb172]? = some (.cells #[.int .i64 t170, .int .i64 t171] 46 (0, 0))) := ⟨by rw [← hq_]; exact (by (with_reducible repeat (first | refine blk_drewN ?_ _ | refine blk_drew ?_ | refine blk_alloc ?_ _)); exact BK172.out)⟩; have n6_ : Aside0 (Below w.heap.size w w138) := ⟨by rw [← hq_]; exact pmAx9_15_⟩; clear HO_17 BK148 BK149 BK153 BK155 BK172 HB hq_; have HO_17 := n0_; have BK148 := n1_; have BK149 := n2_; have BK153 := n3_; have BK155 := n4_; have BK172 := n5_; have HB := n6_; clear n0_ n1_ n2_ n3_ n4_ n5_ n6_)); have p119 : 0 ≤ (x70_3 : Int) := of_decide_eq_true pmAx9_1_; have q119 : (x70_3 : Int) < ((x17_3.length : Int) : Int) := of_decide_eq_true pmAx9_1_; obtain ⟨go119, co119, eo119, gb119, gl119, cl119, HG119⟩ := Kd.R_form HO_17.out (by omega); (first | cases eo119 | (injection eo119 with ea_ en_ ec_; (first | subst ea_ | (injection ea_ with ea_; subst ea_)); subst ec_; clear en_)); have GB119 := Aside0.mk gb119; have GG119 := Aside0.mk HG119; clear gb119 gl119 HG119; obtain ⟨hx119_0, hf119_0⟩ := Kd.R_celln 0 HO_17.out (x70_3 : Int) p119 q119; replace p119 := eq_true p119; replace q119 := eq_true q119; obtain ⟨hy141_, hz141_⟩ := Kd.R_celln 0 HO_17.out (x70_3 : Int) (of_decide_eq_true pmAx9_1_) (of_decide_eq_true pmAx9_1_); have HP141 := Kd.R_putg HO_17.out (x70_3 : Int) (wrap64 ((wrap64 (x18_3 + (rd l0_3 x70_3))) + t173))) | ((with_reducible refine gate_store (t := 3) (p := 95) rfl ?_); refine store_event (t := 3) (p := 95) (v := ?vo_w142) (w1 := (w138.setCell ⟨go119, (x70_3 : Int).toNat, none⟩ (.int .i64 (wrap64 ((wrap64 (x18_3 + (rd l0_3 x70_3))) + t173))))) ?hg ?ho ?hn ?hr ?_; (case ho => rfl); (case hg => rfl); (case hn => rfl); (case hr => first | (go_simp; done) | (go_simp; rfl)); intro w142 hw; have hg : w138.grownBy w142 (some go119) := (by rw [hw]; exact HP141.2); have hp_ : Kd.R (Kd.int .i64) 3 w142 w.heap.size (fun k_ => k_ ≠ gb149 ∧ k_ ≠ gb153 ∧ k_ ≠ gb155) (.slice (some ⟨go119, 0, none⟩) x17_3.length co46) y175 := (by rw [hw, Ny175.out]; exact HP141.1); clear HP141; have n0_ := Aside0.mk (hp_); have n1_ := Aside0.mk (blk_grown (g := gb148) (o := .cells #[.int .i64 a0_0, .slice A0_1 l0_1.length c0_1, .slice (some ad159) l0_2.length c0_2, .slice (some ad160) l0_3.length c0_3] 26 (0, 0)) pmAx9_2_ hg (Kd.R_ne HO_17.out BK148.out (by decide))); have n2_ := Aside0.mk (blk_grown (g := gb149) (o := .cells #[.int .i64 a3] 3 (0, 0)) pmAx9_3_ hg (Kd.R_away HO_17.out (fun _ hk => hk.1))); have n3_ := Aside0.mk (blk_grown (g := gb153) (o := .cells #[.int .i64 x154000_2] 3 (0, 0)) pmAx9_4_ hg (Kd.R_away HO_17.out (fun _ hk => hk.2.1))); have n4_ := Aside0.mk (blk_grown (g := gb155) (o := .cells #[.int .i64 (wrap64 (a2 - t150))] 3 (0, 0)) pmAx9_5_ hg (Kd.R_away HO_17.out (fun _ hk => hk.2.2))); have n5_ := Aside0.mk (blk_grown (g := gb172) (o := poAx9_0 t170 t171) (by (with_reducible repeat (first | refine blk_drewN ?_ _ | refine blk_drew ?_ | refine blk_alloc ?_ _)); exact BK172.out) hg (Kd.R_ne HO_17.out BK172.out (by decide))); have n6_ := Aside0.mk ((by rw [hw]; exact below_set (HB.out) GB119.out : Below w.heap.size w w142)); clear HO_17; clear BK148; clear BK149; clear BK153; clear BK155; clear BK172; clear HB; have HO_17 := n0_; have BK148 := n1_; have BK149 := n2_; have BK153 := n3_; have BK155 := n4_; have BK172 := n5_; have HB := n6_; clear n0_ n1_ n2_ n3_ n4_ n5_ n6_; clear hg hw hp_; have p176 : 0 ≤ (x70_3 : Int) := of_decide_eq_true pmAx9_1_; have q176 : x70_3 < (l1.length : Int) := of_decide_eq_true pmAx9_1_; obtain ⟨ad176, e176, hx176_0⟩ := Kd.at_int HR1.out x70_3 p176 q176; cases e176; replace hx176_0 := (HB.out.cell (World.block_lt_of_cell? w _ hx176_0)).trans hx176_0; replace p176 := eq_true p176; replace q176 := eq_true q176) | go_in)
                repeat ((first | refine bodyPost_end (results_none rfl _ _ _) rfl ?_ | refine bodyPost_ret (results_none rfl _ _ _) rfl ?_ | refine bodyPost_ret (results_tmp rfl _ _ _) rfl ?_); try go_wp2)
                (try simp only [← hl17_3])
                go_roundg k3
                case measure => have := HJ5.out; have := HK2.out; have := HK3.out; omega
                case rel => exact ⟨(y175), (wrap64 ((wrap64 (x18_3 + (rd l0_3 x70_3))) + (rd l1 x70_3))), (x19_3), (wrap64 (x70_3 + 1)), pmAx9_6_, pmAx9_6_, pmAx9_6_, H', ⟨pmAx9_18_⟩, ⟨pmAx9_12_⟩, ⟨pmAx9_8_⟩, ⟨pmAx9_9_⟩, ⟨pmAx9_10_⟩, ⟨pmAx9_11_⟩, ⟨pmAx9_15_⟩⟩
              replace c51 := Bool.eq_false_iff.mpr c51
              subst c51
              have H1 : (if x70_3 < (l0_3.length : Int) then (if a3 = 4 then (if x70_3 < (x17_3.length : Int) then (if x70_3 < (l1.length : Int) then (content_Starts.l1 k3 l1 (x17_3.set (x70_3 : Int).toNat (wrap64 ((wrap64 (x18_3 + (rd l0_3 x70_3))) + (wrap64 (a2 - t150))))) (wrap64 ((wrap64 (x18_3 + (rd l0_3 x70_3))) + (rd l1 x70_3))) (wrap64 (x19_3 + 1)) (y156.length : Int) (wrap64 (x70_3 + 1)) a0_0 l0_1 l0_2 l0_3 a3 x154000_2 (wrap64 (a2 - t150))) else (none)) else (none)) else (if a3 = 5 then ((fixed_Div.f (wrap64 (a2 - t150)) 2).bind fun t180 => (if x70_3 < (x17_3.length : Int) then (if x70_3 < (l1.length : Int) then (content_Starts.l1 k3 l1 (x17_3.set (x70_3 : Int).toNat (wrap64 ((wrap64 (x18_3 + (rd l0_3 x70_3))) + t180))) (wrap64 ((wrap64 (x18_3 + (rd l0_3 x70_3))) + (rd l1 x70_3))) (wrap64 (x19_3 + 1)) (y156.length : Int) (wrap64 (x70_3 + 1)) a0_0 l0_1 l0_2 l0_3 a3 x154000_2 (wrap64 (a2 - t150))) else (none)) else (none))) else (if (wrap64 (a2 - t150)) ≤ 0 then (if x70_3 < (x17_3.length : Int) then (if x70_3 < (l1.length : Int) then (content_Starts.l1 k3 l1 (x17_3.set (x70_3 : Int).toNat (wrap64 ((wrap64 (x18_3 + (rd l0_3 x70_3))) + 0))) (wrap64 ((wrap64 (x18_3 + (rd l0_3 x70_3))) + (rd l1 x70_3))) (wrap64 (x19_3 + 1)) (y156.length : Int) (wrap64 (x70_3 + 1)) a0_0 l0_1 l0_2 l0_3 a3 x154000_2 (wrap64 (a2 - t150))) else (none)) else (none)) else (if x154000_2 = 0 then (if x70_3 < (x17_3.length : Int) then (if x70_3 < (l1.length : Int) then (content_Starts.l1 k3 l1 (x17_3.set (x70_3 : Int).toNat (wrap64 ((wrap64 (x18_3 + (rd l0_3 x70_3))) + 0))) (wrap64 ((wrap64 (x18_3 + (rd l0_3 x70_3))) + (rd l1 x70_3))) (wrap64 (x19_3 + 1)) (y156.length : Int) (wrap64 (x70_3 + 1)) a0_0 l0_1 l0_2 l0_3 a3 x154000_2 (wrap64 (a2 - t150))) else (none)) else (none)) else ((content_ratio.f a3 (mx (wrap64 (x19_3 + 1)) 0) x154000_2).bind fun bt187 => ((fixed_MulDiv.f k3 (wrap64 (a2 - t150)) bt187.1 bt187.2).bind fun bt190 => (if x70_3 < (x17_3.length : Int) then (if x70_3 < (l1.length : Int) then (content_Starts.l1 k3 l1 (x17_3.set (x70_3 : Int).toNat (wrap64 ((wrap64 (x18_3 + (rd l0_3 x70_3))) + bt190.1))) (wrap64 ((wrap64 (x18_3 + (rd l0_3 x70_3))) + (rd l1 x70_3))) (wrap64 (x19_3 + 1)) (y156.length : Int) (wrap64 (x70_3 + 1)) a0_0 l0_1 l0_2 l0_3 a3 x154000_2 (wrap64 (a2 - t150))) else (none)) else (none)))))))) else (none)) = some (r1, r2) := by rw [if_neg (show ¬ (false = true) by decide)] at H; exact H
              clear H
              have H := H1
              clear H1
              by_cases c143 : x70_3 < (l0_3.length : Int)
              rotate_left
              · rw [if_neg c143] at H
                exact absurd H (by simp)
              rw [if_pos c143] at H
              have c143b0 : decide (x70_3 < (l0_3.length : Int)) = true := decide_eq_true c143
              (try (have c143b0h0 := c143b0; simp only [hl17_3] at c143b0h0))
              clear c143
              by_cases c144 : a3 = 4
              · rw [if_pos c144] at H
                have c144b0 : (a3 == 4) = true := beq_iff_eq.mpr c144
                have c144b1 : (a3 != 4) = false := bne_eq_false_iff_eq.mpr c144
                (try (have c144b0h0 := c144b0; simp only [hl17_3] at c144b0h0))
                (try (have c144b1h0 := c144b1; simp only [hl17_3] at c144b1h0))
                clear c144
                by_cases c145 : x70_3 < (x17_3.length : Int)
                rotate_left
                · rw [if_neg c145] at H
                  exact absurd H (by simp)
                rw [if_pos c145] at H
                have c145b0 : decide (x70_3 < (x17_3.length : Int)) = true := decide_eq_true c145
                (try (have c145b0h0 := c145b0; simp only [hl17_3] at c145b0h0))
                clear c145
                obtain ⟨y178, hy178⟩ : ∃ y_ : List Int, y_ = (x17_3.set (x70_3 : Int).toNat (wrap64 ((wrap64 (x18_3 + (rd l0_3 x70_3))) + (wrap64 (a2 - t150))))) := ⟨_, rfl⟩
                replace H : (if x70_3 < (l1.length : Int) then (content_Starts.l1 k3 l1 y178 (wrap64 ((wrap64 (x18_3 + (rd l0_3 x70_3))) + (rd l1 x70_3))) (wrap64 (x19_3 + 1)) (y156.length : Int) (wrap64 (x70_3 + 1)) a0_0 l0_1 l0_2 l0_3 a3 x154000_2 (wrap64 (a2 - t150))) else (none)) = some (r1, r2) := by first | (rw [hy178]; with_reducible exact H) | (have H2_ := (Option.bind_some _ _).symm.trans H; rw [hy178]; with_reducible exact H2_) | (have H2_ := (Option.bind_some _ _).symm.trans H; with_reducible exact H2_) | with_reducible exact H | (rw [hy178]; exact H) | exact H
                have Ny178 := Aside0.mk hy178
                clear hy178
                by_cases c147 : x70_3 < (l1.length : Int)
                rotate_left
                · rw [if_neg c147] at H
                  exact absurd H (by simp)
                rw [if_pos c147] at H
                have c147b0 : decide (x70_3 < (l1.length : Int)) = true := decide_eq_true c147
                (try (have c147b0h0 := c147b0; simp only [hl17_3] at c147b0h0))
                clear c147
                have H' := Aside0.mk H
                clear H
                have hnb148 := NB148_149.out
                have hnc148 := NB149_148.out
                have hnb149 := NB148_153.out
                have hnc149 := NB153_148.out
                have hnb150 := NB148_155.out
                have hnc150 := NB155_148.out
                have hcz151_0 : wr.cell? ⟨gb148, 0, none⟩ = some (.int .i64 a0_0) := (blk_cell BK148.out 0).trans rfl
                have hcz151_1 : wr.cell? ⟨gb148, 1, none⟩ = some (.slice A0_1 l0_1.length c0_1) := (blk_cell BK148.out 1).trans rfl
                have hcz151_2 : wr.cell? ⟨gb148, 2, none⟩ = some (.slice A0_2 l0_2.length c0_2) := (blk_cell BK148.out 2).trans rfl
                have hcz151_3 : wr.cell? ⟨gb148, 3, none⟩ = some (.slice A0_3 l0_3.length c0_3) := (blk_cell BK148.out 3).trans rfl
                have hfz151_0 := blk_frozen BK148.out 0
                have hfz151_1 := blk_frozen BK148.out 1
                have hfz151_2 := blk_frozen BK148.out 2
                have hfz151_3 := blk_frozen BK148.out 3
                have p159 : 0 ≤ (x70_3 : Int) := of_decide_eq_true pmAx9_1_
                have q159 : x70_3 < (l0_2.length : Int) := of_decide_eq_true pmAx9_1_
                obtain ⟨ad159, e159, hx159_0⟩ := Kd.at_bool HR0_2.out x70_3 p159 q159
                (try rw [← Nbq50.out] at hx159_0)
                cases e159
                replace hx159_0 := (HB.out.cell (World.block_lt_of_cell? w _ hx159_0)).trans hx159_0
                replace p159 := eq_true p159
                replace q159 := eq_true q159
                have p177 : 0 ≤ (x70_3 : Int) := of_decide_eq_true pmAx9_1_
                have q177 : x70_3 < (l0_3.length : Int) := of_decide_eq_true pmAx9_1_
                obtain ⟨ad177, e177, hx177_0⟩ := Kd.at_int HR0_3.out x70_3 p177 q177
                cases e177
                replace hx177_0 := (HB.out.cell (World.block_lt_of_cell? w _ hx177_0)).trans hx177_0
                replace p177 := eq_true p177
                replace q177 := eq_true q177
                have hnb152 := NB149_153.out
                have hnc152 := NB153_149.out
                have hnb153 := NB149_155.out
                have hnc153 := NB155_149.out
                have hcz154_0 : wr.cell? ⟨gb149, 0, none⟩ = some (.int .i64 a3) := (blk_cell BK149.out 0).trans rfl
                have hfz154_0 := blk_frozen BK149.out 0
                have hnb155 := NB155_153.out
                have hnc155 := NB153_155.out
                have hcz156_0 : wr.cell? ⟨gb155, 0, none⟩ = some (.int .i64 (wrap64 (a2 - t150))) := (blk_cell BK155.out 0).trans rfl
                have hfz156_0 := blk_frozen BK155.out 0
                have p146 : 0 ≤ (x70_3 : Int) := of_decide_eq_true pmAx9_1_
                have q146 : (x70_3 : Int) < ((x17_3.length : Int) : Int) := of_decide_eq_true pmAx9_1_
                obtain ⟨go146, co146, eo146, gb146, gl146, cl146, HG146⟩ := Kd.R_form HO_17.out (by omega)
                (first | cases eo146 | (injection eo146 with ea_ en_ ec_; (first | subst ea_ | (injection ea_ with ea_; subst ea_)); subst ec_; clear en_))
                have GB146 := Aside0.mk gb146
                have GG146 := Aside0.mk HG146
                clear gb146 gl146 HG146
                obtain ⟨hx146_0, hf146_0⟩ := Kd.R_celln 0 HO_17.out (x70_3 : Int) p146 q146
                replace p146 := eq_true p146
                replace q146 := eq_true q146
                have HP157 := Kd.R_putg HO_17.out (x70_3 : Int) (wrap64 ((wrap64 (x18_3 + (rd l0_3 x70_3))) + (wrap64 (a2 - t150))))
                go_wp2_with (first | ((with_reducible refine gate_store (t := 3) (p := 95) rfl ?_); refine store_event (t := 3) (p := 95) (v := ?vo_w158) (w1 := (wr.setCell ⟨go146, (x70_3 : Int).toNat, none⟩ (.int .i64 (wrap64 ((wrap64 (x18_3 + (rd l0_3 x70_3))) + (wrap64 (a2 - t150))))))) ?hg ?ho ?hn ?hr ?_; (case ho => rfl); (case hg => rfl); (case hn => rfl); (case hr => first | (go_simp; done) | (go_simp; rfl)); intro w158 hw; have hg : wr.grownBy w158 (some go146) := (by rw [hw]; exact HP157.2); have hp_ : Kd.R (Kd.int .i64) 3 w158 w.heap.size (fun k_ => k_ ≠ gb149 ∧ k_ ≠ gb153 ∧ k_ ≠ gb155) (.slice (some ⟨go146, 0, none⟩) x17_3.length co46) y178 := (by rw [hw, Ny178.out]; exact HP157.1); clear HP157; have n0_ := Aside0.mk (hp_); have n1_ := Aside0.mk (blk_grown (g := gb148) (o := .cells #[.int .i64 a0_0, .slice A0_1 l0_1.length c0_1, .slice (some ad159) l0_2.length c0_2, .slice (some ad177) l0_3.length c0_3] 26 (0, 0)) pmAx9_2_ hg (Kd.R_ne HO_17.out BK148.out (by decide))); have n2_ := Aside0.mk (blk_grown (g := gb149) (o := .cells #[.int .i64 a3] 3 (0, 0)) pmAx9_3_ hg (Kd.R_away HO_17.out (fun _ hk => hk.1))); have n3_ := Aside0.mk (blk_grown (g := gb153) (o := .cells #[.int .i64 x154000_2] 3 (0, 0)) pmAx9_4_ hg (Kd.R_away HO_17.out (fun _ hk => hk.2.1))); have n4_ := Aside0.mk (blk_grown (g := gb155) (o := .cells #[.int .i64 (wrap64 (a2 - t150))] 3 (0, 0)) pmAx9_5_ hg (Kd.R_away HO_17.out (fun _ hk => hk.2.2))); have n5_ := Aside0.mk ((by rw [hw]; exact below_set (HB.out) GB146.out : Below w.heap.size w w158)); clear HO_17; clear BK148; clear BK149; clear BK153; clear BK155; clear HB; have HO_17 := n0_; have BK148 := n1_; have BK149 := n2_; have BK153 := n3_; have BK155 := n4_; have HB := n5_; clear n0_ n1_ n2_ n3_ n4_ n5_; clear hg hw hp_; have p179 : 0 ≤ (x70_3 : Int) := of_decide_eq_true pmAx9_1_; have q179 : x70_3 < (l1.length : Int) := of_decide_eq_true pmAx9_1_; obtain ⟨ad179, e179, hx179_0⟩ := Kd.at_int HR1.out x70_3 p179 q179; cases e179; replace hx179_0 := (HB.out.cell (World.block_lt_of_cell? w _ hx179_0)).trans hx179_0; replace p179 := eq_true p179; replace q179 := eq_true q179) | go_in)
                repeat ((first | refine bodyPost_end (results_none rfl _ _ _) rfl ?_ | refine bodyPost_ret (results_none rfl _ _ _) rfl ?_ | refine bodyPost_ret (results_tmp rfl _ _ _) rfl ?_); try go_wp2)
                (try simp only [← hl17_3])
                go_roundg k3
                case measure => have := HJ5.out; have := HK2.out; have := HK3.out; omega
                case rel => exact ⟨(y178), (wrap64 ((wrap64 (x18_3 + (rd l0_3 x70_3))) + (rd l1 x70_3))), (wrap64 (x19_3 + 1)), (wrap64 (x70_3 + 1)), pmAx9_6_, pmAx9_6_, pmAx9_6_, H', ⟨pmAx9_18_⟩, ⟨pmAx9_12_⟩, ⟨pmAx9_8_⟩, ⟨pmAx9_9_⟩, ⟨pmAx9_10_⟩, ⟨pmAx9_11_⟩, ⟨pmAx9_0_⟩⟩
              rw [if_neg c144] at H
              have c144b0 : (a3 == 4) = false := beq_eq_false_iff_ne.mpr c144
              have c144b1 : (a3 != 4) = true := bne_iff_ne.mpr c144
              (try (have c144b0h0 := c144b0; simp only [hl17_3] at c144b0h0))
              (try (have c144b1h0 := c144b1; simp only [hl17_3] at c144b1h0))
              by_cases c159 : a3 = 5
              · rw [if_pos c159] at H
                have c159b0 : (a3 == 5) = true := beq_iff_eq.mpr c159
                have c159b1 : (a3 != 5) = false := bne_eq_false_iff_eq.mpr c159
                (try (have c159b0h0 := c159b0; simp only [hl17_3] at c159b0h0))
                (try (have c159b1h0 := c159b1; simp only [hl17_3] at c159b1h0))
                clear c159
                replace H := Option.bind_eq_some_iff.mp H
                obtain ⟨t180, A1600, H⟩ := H
                replace H : (if x70_3 < (x17_3.length : Int) then (if x70_3 < (l1.length : Int) then (content_Starts.l1 k3 l1 (x17_3.set (x70_3 : Int).toNat (wrap64 ((wrap64 (x18_3 + (rd l0_3 x70_3))) + t180))) (wrap64 ((wrap64 (x18_3 + (rd l0_3 x70_3))) + (rd l1 x70_3))) (wrap64 (x19_3 + 1)) (y156.length : Int) (wrap64 (x70_3 + 1)) a0_0 l0_1 l0_2 l0_3 a3 x154000_2 (wrap64 (a2 - t150))) else (none)) else (none)) = some (r1, r2) := H
                have A160 := Aside0.mk A1600
                clear A1600
                by_cases c161 : x70_3 < (x17_3.length : Int)
                rotate_left
                · rw [if_neg c161] at H
                  exact absurd H (by simp)
                rw [if_pos c161] at H
                have c161b0 : decide (x70_3 < (x17_3.length : Int)) = true := decide_eq_true c161
                (try (have c161b0h0 := c161b0; simp only [hl17_3] at c161b0h0))
                clear c161
                obtain ⟨y181, hy181⟩ : ∃ y_ : List Int, y_ = (x17_3.set (x70_3 : Int).toNat (wrap64 ((wrap64 (x18_3 + (rd l0_3 x70_3))) + t180))) := ⟨_, rfl⟩
                replace H : (if x70_3 < (l1.length : Int) then (content_Starts.l1 k3 l1 y181 (wrap64 ((wrap64 (x18_3 + (rd l0_3 x70_3))) + (rd l1 x70_3))) (wrap64 (x19_3 + 1)) (y156.length : Int) (wrap64 (x70_3 + 1)) a0_0 l0_1 l0_2 l0_3 a3 x154000_2 (wrap64 (a2 - t150))) else (none)) = some (r1, r2) := by first | (rw [hy181]; with_reducible exact H) | (have H2_ := (Option.bind_some _ _).symm.trans H; rw [hy181]; with_reducible exact H2_) | (have H2_ := (Option.bind_some _ _).symm.trans H; with_reducible exact H2_) | with_reducible exact H | (rw [hy181]; exact H) | exact H
                have Ny181 := Aside0.mk hy181
                clear hy181
                by_cases c163 : x70_3 < (l1.length : Int)
                rotate_left
                · rw [if_neg c163] at H
                  exact absurd H (by simp)
                rw [if_pos c163] at H
                have c163b0 : decide (x70_3 < (l1.length : Int)) = true := decide_eq_true c163
                (try (have c163b0h0 := c163b0; simp only [hl17_3] at c163b0h0))
                clear c163
                have H' := Aside0.mk H
                clear H
                have hnb164 := NB148_149.out
                have hnc164 := NB149_148.out
                have hnb165 := NB148_153.out
                have hnc165 := NB153_148.out
                have hnb166 := NB148_155.out
                have hnc166 := NB155_148.out
                have hcz167_0 : wr.cell? ⟨gb148, 0, none⟩ = some (.int .i64 a0_0) := (blk_cell BK148.out 0).trans rfl
                have hcz167_1 : wr.cell? ⟨gb148, 1, none⟩ = some (.slice A0_1 l0_1.length c0_1) := (blk_cell BK148.out 1).trans rfl
                have hcz167_2 : wr.cell? ⟨gb148, 2, none⟩ = some (.slice A0_2 l0_2.length c0_2) := (blk_cell BK148.out 2).trans rfl
                have hcz167_3 : wr.cell? ⟨gb148, 3, none⟩ = some (.slice A0_3 l0_3.length c0_3) := (blk_cell BK148.out 3).trans rfl
                have hfz167_0 := blk_frozen BK148.out 0
                have hfz167_1 := blk_frozen BK148.out 1
                have hfz167_2 := blk_frozen BK148.out 2
                have hfz167_3 := blk_frozen BK148.out 3
                have p159 : 0 ≤ (x70_3 : Int) := of_decide_eq_true pmAx9_1_
                have q159 : x70_3 < (l0_2.length : Int) := of_decide_eq_true pmAx9_1_
                obtain ⟨ad159, e159, hx159_0⟩ := Kd.at_bool HR0_2.out x70_3 p159 q159
                (try rw [← Nbq50.out] at hx159_0)
                cases e159
                replace hx159_0 := (HB.out.cell (World.block_lt_of_cell? w _ hx159_0)).trans hx159_0
                replace p159 := eq_true p159
                replace q159 := eq_true q159
                have p177 : 0 ≤ (x70_3 : Int) := of_decide_eq_true pmAx9_1_
                have q177 : x70_3 < (l0_3.length : Int) := of_decide_eq_true pmAx9_1_
                obtain ⟨ad177, e177, hx177_0⟩ := Kd.at_int HR0_3.out x70_3 p177 q177
                cases e177
                replace hx177_0 := (HB.out.cell (World.block_lt_of_cell? w _ hx177_0)).trans hx177_0
                replace p177 := eq_true p177
                replace q177 := eq_true q177
                have hnb168 := NB149_153.out
                have hnc168 := NB153_149.out
                have hnb169 := NB149_155.out
                have hnc169 := NB155_149.out
                have hcz170_0 : wr.cell? ⟨gb149, 0, none⟩ = some (.int .i64 a3) := (blk_cell BK149.out 0).trans rfl
                have hfz170_0 := blk_frozen BK149.out 0
                have hnb171 := NB155_153.out
                have hnc171 := NB153_155.out
                have hcz172_0 : wr.cell? ⟨gb155, 0, none⟩ = some (.int .i64 (wrap64 (a2 - t150))) := (blk_cell BK155.out 0).trans rfl
                have hfz172_0 := blk_frozen BK155.out 0
                go_wp2_with (first | ((with_reducible refine gate_callee (f := 17) rfl ?_); refine goesL_ (some 16) rfl rfl Try.func17 (by kernel_rfl) rfl #[.int .i64 (wrap64 (a2 - t150)), .int .i64 2] rfl pmAx9_17_ ?_; (with_reducible refine (fixed_Div.calls (wrap64 (a2 - t150)) 2 t180 _ A160.out).mono ?_); rintro e w' ⟨rfl, ⟨nd, rfl⟩⟩; refine ⟨_, rfl, ?_⟩; (try (rw [drewN_self wr]; generalize hq_ : World.drewN wr _ = wr; have n0_ : Aside0 (Kd.R (Kd.int .i64) 3 wr w.heap.size (fun k_ => k_ ≠ gb149 ∧ k_ ≠ gb153 ∧ k_ ≠ gb155) (.slice Ao46 x17_3.length co46) x17_3) := ⟨by rw [← hq_]; exact pmAx9_14_⟩; have n1_ : Aside0 (wr.heap[gb148]? = some (.cells #[.int .i64 a0_0, .slice A0_1 l0_1.length c0_1, .slice (some ad159) l0_2.length c0_2, .slice (some ad177) l0_3.length c0_3] 26 (0, 0))) := ⟨by rw [← hq_]; exact pmAx9_2_⟩; have n2_ : Aside0 (wr.heap[gb149]? = some (.cells #[.int .i64 a3] 3 (0, 0))) := ⟨by rw [← hq_]; exact pmAx9_3_⟩; have n3_ : Aside0 (wr.heap[gb153]? = some (.cells #[.int .i64 x154000_2] 3 (0, 0))) := ⟨by rw [← hq_]; exact pmAx9_4_⟩; have n4_ : Aside0 (wr.heap[gb155]? = some (.cells #[.int .i64 (wrap64 (a2 - t150))] 3 (0, 0))) := ⟨by rw [← hq_]; exact pmAx9_5_⟩; have n5_ : Aside0 (Below w.heap.size w wr) := ⟨by rw [← hq_]; exact pmAx9_0_⟩; clear HO_17 BK148 BK149 BK153 BK155 HB hq_; have HO_17 := n0_; have BK148 := n1_; have BK149 := n2_; have BK153 := n3_; have BK155 := n4_; have HB := n5_; clear n0_ n1_ n2_ n3_ n4_ n5_)); have p162 : 0 ≤ (x70_3 : Int) := of_decide_eq_true pmAx9_1_; have q162 : (x70_3 : Int) < ((x17_3.length : Int) : Int) := of_decide_eq_true pmAx9_1_; obtain ⟨go162, co162, eo162, gb162, gl162, cl162, HG162⟩ := Kd.R_form HO_17.out (by omega); (first | cases eo162 | (injection eo162 with ea_ en_ ec_; (first | subst ea_ | (injection ea_ with ea_; subst ea_)); subst ec_; clear en_)); have GB162 := Aside0.mk gb162; have GG162 := Aside0.mk HG162; clear gb162 gl162 HG162; obtain ⟨hx162_0, hf162_0⟩ := Kd.R_celln 0 HO_17.out (x70_3 : Int) p162 q162; replace p162 := eq_true p162; replace q162 := eq_true q162; obtain ⟨hy173_, hz173_⟩ := Kd.R_celln 0 HO_17.out (x70_3 : Int) (of_decide_eq_true pmAx9_1_) (of_decide_eq_true pmAx9_1_); have HP173 := Kd.R_putg HO_17.out (x70_3 : Int) (wrap64 ((wrap64 (x18_3 + (rd l0_3 x70_3))) + t180))) | ((with_reducible refine gate_store (t := 3) (p := 95) rfl ?_); refine store_event (t := 3) (p := 95) (v := ?vo_w174) (w1 := (wr.setCell ⟨go162, (x70_3 : Int).toNat, none⟩ (.int .i64 (wrap64 ((wrap64 (x18_3 + (rd l0_3 x70_3))) + t180))))) ?hg ?ho ?hn ?hr ?_; (case ho => rfl); (case hg => rfl); (case hn => rfl); (case hr => first | (go_simp; done) | (go_simp; rfl)); intro w174 hw; have hg : wr.grownBy w174 (some go162) := (by rw [hw]; exact HP173.2); have hp_ : Kd.R (Kd.int .i64) 3 w174 w.heap.size (fun k_ => k_ ≠ gb149 ∧ k_ ≠ gb153 ∧ k_ ≠ gb155) (.slice (some ⟨go162, 0, none⟩) x17_3.length co46) y181 := (by rw [hw, Ny181.out]; exact HP173.1); clear HP173; have n0_ := Aside0.mk (hp_); have n1_ := Aside0.mk (blk_grown (g := gb148) (o := .cells #[.int .i64 a0_0, .slice A0_1 l0_1.length c0_1, .slice (some ad159) l0_2.length c0_2, .slice (some ad177) l0_3.length c0_3] 26 (0, 0)) pmAx9_2_ hg (Kd.R_ne HO_17.out BK148.out (by decide))); have n2_ := Aside0.mk (blk_grown (g := gb149) (o := .cells #[.int .i64 a3] 3 (0, 0)) pmAx9_3_ hg (Kd.R_away HO_17.out (fun _ hk => hk.1))); have n3_ := Aside0.mk (blk_grown (g := gb153) (o := .cells #[.int .i64 x154000_2] 3 (0, 0)) pmAx9_4_ hg (Kd.R_away HO_17.out (fun _ hk => hk.2.1))); have n4_ := Aside0.mk (blk_grown (g := gb155) (o := .cells #[.int .i64 (wrap64 (a2 - t150))] 3 (0, 0)) pmAx9_5_ hg (Kd.R_away HO_17.out (fun _ hk => hk.2.2))); have n5_ := Aside0.mk ((by rw [hw]; exact below_set (HB.out) GB162.out : Below w.heap.size w w174)); clear HO_17; clear BK148; clear BK149; clear BK153; clear BK155; clear HB; have HO_17 := n0_; have BK148 := n1_; have BK149 := n2_; have BK153 := n3_; have BK155 := n4_; have HB := n5_; clear n0_ n1_ n2_ n3_ n4_ n5_; clear hg hw hp_; have p182 : 0 ≤ (x70_3 : Int) := of_decide_eq_true pmAx9_1_; have q182 : x70_3 < (l1.length : Int) := of_decide_eq_true pmAx9_1_; obtain ⟨ad182, e182, hx182_0⟩ := Kd.at_int HR1.out x70_3 p182 q182; cases e182; replace hx182_0 := (HB.out.cell (World.block_lt_of_cell? w _ hx182_0)).trans hx182_0; replace p182 := eq_true p182; replace q182 := eq_true q182) | go_in)
                repeat ((first | refine bodyPost_end (results_none rfl _ _ _) rfl ?_ | refine bodyPost_ret (results_none rfl _ _ _) rfl ?_ | refine bodyPost_ret (results_tmp rfl _ _ _) rfl ?_); try go_wp2)
                (try simp only [← hl17_3])
                go_roundg k3
                case measure => have := HJ5.out; have := HK2.out; have := HK3.out; omega
                case rel => exact ⟨(y181), (wrap64 ((wrap64 (x18_3 + (rd l0_3 x70_3))) + (rd l1 x70_3))), (wrap64 (x19_3 + 1)), (wrap64 (x70_3 + 1)), pmAx9_6_, pmAx9_6_, pmAx9_6_, H', ⟨pmAx9_18_⟩, ⟨pmAx9_12_⟩, ⟨pmAx9_8_⟩, ⟨pmAx9_9_⟩, ⟨pmAx9_10_⟩, ⟨pmAx9_11_⟩, ⟨pmAx9_0_⟩⟩
              rw [if_neg c159] at H
              have c159b0 : (a3 == 5) = false := beq_eq_false_iff_ne.mpr c159
              have c159b1 : (a3 != 5) = true := bne_iff_ne.mpr c159
              (try (have c159b0h0 := c159b0; simp only [hl17_3] at c159b0h0))
              (try (have c159b1h0 := c159b1; simp only [hl17_3] at c159b1h0))
              by_cases c175 : (wrap64 (a2 - t150)) ≤ 0
              · rw [if_pos c175] at H
                have c175b0 : decide ((wrap64 (a2 - t150)) ≤ 0) = true := decide_eq_true c175
                (try (have c175b0h0 := c175b0; simp only [hl17_3] at c175b0h0))
                clear c175
                by_cases c176 : x70_3 < (x17_3.length : Int)
                rotate_left
                · rw [if_neg c176] at H
                  exact absurd H (by simp)
                rw [if_pos c176] at H
                have c176b0 : decide (x70_3 < (x17_3.length : Int)) = true := decide_eq_true c176
                (try (have c176b0h0 := c176b0; simp only [hl17_3] at c176b0h0))
                clear c176
                obtain ⟨y183, hy183⟩ : ∃ y_ : List Int, y_ = (x17_3.set (x70_3 : Int).toNat (wrap64 ((wrap64 (x18_3 + (rd l0_3 x70_3))) + 0))) := ⟨_, rfl⟩
                replace H : (if x70_3 < (l1.length : Int) then (content_Starts.l1 k3 l1 y183 (wrap64 ((wrap64 (x18_3 + (rd l0_3 x70_3))) + (rd l1 x70_3))) (wrap64 (x19_3 + 1)) (y156.length : Int) (wrap64 (x70_3 + 1)) a0_0 l0_1 l0_2 l0_3 a3 x154000_2 (wrap64 (a2 - t150))) else (none)) = some (r1, r2) := by first | (rw [hy183]; with_reducible exact H) | (have H2_ := (Option.bind_some _ _).symm.trans H; rw [hy183]; with_reducible exact H2_) | (have H2_ := (Option.bind_some _ _).symm.trans H; with_reducible exact H2_) | with_reducible exact H | (rw [hy183]; exact H) | exact H
                have Ny183 := Aside0.mk hy183
                clear hy183
                by_cases c178 : x70_3 < (l1.length : Int)
                rotate_left
                · rw [if_neg c178] at H
                  exact absurd H (by simp)
                rw [if_pos c178] at H
                have c178b0 : decide (x70_3 < (l1.length : Int)) = true := decide_eq_true c178
                (try (have c178b0h0 := c178b0; simp only [hl17_3] at c178b0h0))
                clear c178
                have H' := Aside0.mk H
                clear H
                have hnb179 := NB148_149.out
                have hnc179 := NB149_148.out
                have hnb180 := NB148_153.out
                have hnc180 := NB153_148.out
                have hnb181 := NB148_155.out
                have hnc181 := NB155_148.out
                have hcz182_0 : wr.cell? ⟨gb148, 0, none⟩ = some (.int .i64 a0_0) := (blk_cell BK148.out 0).trans rfl
                have hcz182_1 : wr.cell? ⟨gb148, 1, none⟩ = some (.slice A0_1 l0_1.length c0_1) := (blk_cell BK148.out 1).trans rfl
                have hcz182_2 : wr.cell? ⟨gb148, 2, none⟩ = some (.slice A0_2 l0_2.length c0_2) := (blk_cell BK148.out 2).trans rfl
                have hcz182_3 : wr.cell? ⟨gb148, 3, none⟩ = some (.slice A0_3 l0_3.length c0_3) := (blk_cell BK148.out 3).trans rfl
                have hfz182_0 := blk_frozen BK148.out 0
                have hfz182_1 := blk_frozen BK148.out 1
                have hfz182_2 := blk_frozen BK148.out 2
                have hfz182_3 := blk_frozen BK148.out 3
                have p159 : 0 ≤ (x70_3 : Int) := of_decide_eq_true pmAx9_1_
                have q159 : x70_3 < (l0_2.length : Int) := of_decide_eq_true pmAx9_1_
                obtain ⟨ad159, e159, hx159_0⟩ := Kd.at_bool HR0_2.out x70_3 p159 q159
                (try rw [← Nbq50.out] at hx159_0)
                cases e159
                replace hx159_0 := (HB.out.cell (World.block_lt_of_cell? w _ hx159_0)).trans hx159_0
                replace p159 := eq_true p159
                replace q159 := eq_true q159
                have p177 : 0 ≤ (x70_3 : Int) := of_decide_eq_true pmAx9_1_
                have q177 : x70_3 < (l0_3.length : Int) := of_decide_eq_true pmAx9_1_
                obtain ⟨ad177, e177, hx177_0⟩ := Kd.at_int HR0_3.out x70_3 p177 q177
                cases e177
                replace hx177_0 := (HB.out.cell (World.block_lt_of_cell? w _ hx177_0)).trans hx177_0
                replace p177 := eq_true p177
                replace q177 := eq_true q177
                have hnb183 := NB149_153.out
                have hnc183 := NB153_149.out
                have hnb184 := NB149_155.out
                have hnc184 := NB155_149.out
                have hcz185_0 : wr.cell? ⟨gb149, 0, none⟩ = some (.int .i64 a3) := (blk_cell BK149.out 0).trans rfl
                have hfz185_0 := blk_frozen BK149.out 0
                have hnb186 := NB155_153.out
                have hnc186 := NB153_155.out
                have hcz187_0 : wr.cell? ⟨gb155, 0, none⟩ = some (.int .i64 (wrap64 (a2 - t150))) := (blk_cell BK155.out 0).trans rfl
                have hfz187_0 := blk_frozen BK155.out 0
                have p177 : 0 ≤ (x70_3 : Int) := of_decide_eq_true pmAx9_1_
                have q177 : (x70_3 : Int) < ((x17_3.length : Int) : Int) := of_decide_eq_true pmAx9_1_
                obtain ⟨go177, co177, eo177, gb177, gl177, cl177, HG177⟩ := Kd.R_form HO_17.out (by omega)
                (first | cases eo177 | (injection eo177 with ea_ en_ ec_; (first | subst ea_ | (injection ea_ with ea_; subst ea_)); subst ec_; clear en_))
                have GB177 := Aside0.mk gb177
                have GG177 := Aside0.mk HG177
                clear gb177 gl177 HG177
                obtain ⟨hx177_0, hf177_0⟩ := Kd.R_celln 0 HO_17.out (x70_3 : Int) p177 q177
                replace p177 := eq_true p177
                replace q177 := eq_true q177
                have HP188 := Kd.R_putg HO_17.out (x70_3 : Int) (wrap64 ((wrap64 (x18_3 + (rd l0_3 x70_3))) + 0))
                go_wp2_with (first | ((with_reducible refine gate_store (t := 3) (p := 95) rfl ?_); refine store_event (t := 3) (p := 95) (v := ?vo_w189) (w1 := (wr.setCell ⟨go177, (x70_3 : Int).toNat, none⟩ (.int .i64 (wrap64 ((wrap64 (x18_3 + (rd l0_3 x70_3))) + 0))))) ?hg ?ho ?hn ?hr ?_; (case ho => rfl); (case hg => rfl); (case hn => rfl); (case hr => first | (go_simp; done) | (go_simp; rfl)); intro w189 hw; have hg : wr.grownBy w189 (some go177) := (by rw [hw]; exact HP188.2); have hp_ : Kd.R (Kd.int .i64) 3 w189 w.heap.size (fun k_ => k_ ≠ gb149 ∧ k_ ≠ gb153 ∧ k_ ≠ gb155) (.slice (some ⟨go177, 0, none⟩) x17_3.length co46) y183 := (by rw [hw, Ny183.out]; exact HP188.1); clear HP188; have n0_ := Aside0.mk (hp_); have n1_ := Aside0.mk (blk_grown (g := gb148) (o := .cells #[.int .i64 a0_0, .slice A0_1 l0_1.length c0_1, .slice (some ad159) l0_2.length c0_2, .slice (some ad177) l0_3.length c0_3] 26 (0, 0)) pmAx9_2_ hg (Kd.R_ne HO_17.out BK148.out (by decide))); have n2_ := Aside0.mk (blk_grown (g := gb149) (o := .cells #[.int .i64 a3] 3 (0, 0)) pmAx9_3_ hg (Kd.R_away HO_17.out (fun _ hk => hk.1))); have n3_ := Aside0.mk (blk_grown (g := gb153) (o := .cells #[.int .i64 x154000_2] 3 (0, 0)) pmAx9_4_ hg (Kd.R_away HO_17.out (fun _ hk => hk.2.1))); have n4_ := Aside0.mk (blk_grown (g := gb155) (o := .cells #[.int .i64 (wrap64 (a2 - t150))] 3 (0, 0)) pmAx9_5_ hg (Kd.R_away HO_17.out (fun _ hk => hk.2.2))); have n5_ := Aside0.mk ((by rw [hw]; exact below_set (HB.out) GB177.out : Below w.heap.size w w189)); clear HO_17; clear BK148; clear BK149; clear BK153; clear BK155; clear HB; have HO_17 := n0_; have BK148 := n1_; have BK149 := n2_; have BK153 := n3_; have BK155 := n4_; have HB := n5_; clear n0_ n1_ n2_ n3_ n4_ n5_; clear hg hw hp_; have p184 : 0 ≤ (x70_3 : Int) := of_decide_eq_true pmAx9_1_; have q184 : x70_3 < (l1.length : Int) := of_decide_eq_true pmAx9_1_; obtain ⟨ad184, e184, hx184_0⟩ := Kd.at_int HR1.out x70_3 p184 q184; cases e184; replace hx184_0 := (HB.out.cell (World.block_lt_of_cell? w _ hx184_0)).trans hx184_0; replace p184 := eq_true p184; replace q184 := eq_true q184) | go_in)
                repeat ((first | refine bodyPost_end (results_none rfl _ _ _) rfl ?_ | refine bodyPost_ret (results_none rfl _ _ _) rfl ?_ | refine bodyPost_ret (results_tmp rfl _ _ _) rfl ?_); try go_wp2)
                (try simp only [← hl17_3])
                go_roundg k3
                case measure => have := HJ5.out; have := HK2.out; have := HK3.out; omega
                case rel => exact ⟨(y183), (wrap64 ((wrap64 (x18_3 + (rd l0_3 x70_3))) + (rd l1 x70_3))), (wrap64 (x19_3 + 1)), (wrap64 (x70_3 + 1)), pmAx9_6_, pmAx9_6_, pmAx9_6_, H', ⟨pmAx9_18_⟩, ⟨pmAx9_12_⟩, ⟨pmAx9_8_⟩, ⟨pmAx9_9_⟩, ⟨pmAx9_10_⟩, ⟨pmAx9_11_⟩, ⟨pmAx9_0_⟩⟩
              rw [if_neg c175] at H
              have c175b0 : decide ((wrap64 (a2 - t150)) ≤ 0) = false := decide_eq_false c175
              (try (have c175b0h0 := c175b0; simp only [hl17_3] at c175b0h0))
              clear c175
              by_cases c190 : x154000_2 = 0
              · rw [if_pos c190] at H
                have c190b0 : (x154000_2 == 0) = true := beq_iff_eq.mpr c190
                have c190b1 : (x154000_2 != 0) = false := bne_eq_false_iff_eq.mpr c190
                (try (have c190b0h0 := c190b0; simp only [hl17_3] at c190b0h0))
                (try (have c190b1h0 := c190b1; simp only [hl17_3] at c190b1h0))
                clear c190
                by_cases c191 : x70_3 < (x17_3.length : Int)
                rotate_left
                · rw [if_neg c191] at H
                  exact absurd H (by simp)
                rw [if_pos c191] at H
                have c191b0 : decide (x70_3 < (x17_3.length : Int)) = true := decide_eq_true c191
                (try (have c191b0h0 := c191b0; simp only [hl17_3] at c191b0h0))
                clear c191
                obtain ⟨y185, hy185⟩ : ∃ y_ : List Int, y_ = (x17_3.set (x70_3 : Int).toNat (wrap64 ((wrap64 (x18_3 + (rd l0_3 x70_3))) + 0))) := ⟨_, rfl⟩
                replace H : (if x70_3 < (l1.length : Int) then (content_Starts.l1 k3 l1 y185 (wrap64 ((wrap64 (x18_3 + (rd l0_3 x70_3))) + (rd l1 x70_3))) (wrap64 (x19_3 + 1)) (y156.length : Int) (wrap64 (x70_3 + 1)) a0_0 l0_1 l0_2 l0_3 a3 x154000_2 (wrap64 (a2 - t150))) else (none)) = some (r1, r2) := by first | (rw [hy185]; with_reducible exact H) | (have H2_ := (Option.bind_some _ _).symm.trans H; rw [hy185]; with_reducible exact H2_) | (have H2_ := (Option.bind_some _ _).symm.trans H; with_reducible exact H2_) | with_reducible exact H | (rw [hy185]; exact H) | exact H
                have Ny185 := Aside0.mk hy185
                clear hy185
                by_cases c193 : x70_3 < (l1.length : Int)
                rotate_left
                · rw [if_neg c193] at H
                  exact absurd H (by simp)
                rw [if_pos c193] at H
                have c193b0 : decide (x70_3 < (l1.length : Int)) = true := decide_eq_true c193
                (try (have c193b0h0 := c193b0; simp only [hl17_3] at c193b0h0))
                clear c193
                have H' := Aside0.mk H
                clear H
                have hnb194 := NB148_149.out
                have hnc194 := NB149_148.out
                have hnb195 := NB148_153.out
                have hnc195 := NB153_148.out
                have hnb196 := NB148_155.out
                have hnc196 := NB155_148.out
                have hcz197_0 : wr.cell? ⟨gb148, 0, none⟩ = some (.int .i64 a0_0) := (blk_cell BK148.out 0).trans rfl
                have hcz197_1 : wr.cell? ⟨gb148, 1, none⟩ = some (.slice A0_1 l0_1.length c0_1) := (blk_cell BK148.out 1).trans rfl
                have hcz197_2 : wr.cell? ⟨gb148, 2, none⟩ = some (.slice A0_2 l0_2.length c0_2) := (blk_cell BK148.out 2).trans rfl
                have hcz197_3 : wr.cell? ⟨gb148, 3, none⟩ = some (.slice A0_3 l0_3.length c0_3) := (blk_cell BK148.out 3).trans rfl
                have hfz197_0 := blk_frozen BK148.out 0
                have hfz197_1 := blk_frozen BK148.out 1
                have hfz197_2 := blk_frozen BK148.out 2
                have hfz197_3 := blk_frozen BK148.out 3
                have p159 : 0 ≤ (x70_3 : Int) := of_decide_eq_true pmAx9_1_
                have q159 : x70_3 < (l0_2.length : Int) := of_decide_eq_true pmAx9_1_
                obtain ⟨ad159, e159, hx159_0⟩ := Kd.at_bool HR0_2.out x70_3 p159 q159
                (try rw [← Nbq50.out] at hx159_0)
                cases e159
                replace hx159_0 := (HB.out.cell (World.block_lt_of_cell? w _ hx159_0)).trans hx159_0
                replace p159 := eq_true p159
                replace q159 := eq_true q159
                have p177 : 0 ≤ (x70_3 : Int) := of_decide_eq_true pmAx9_1_
                have q177 : x70_3 < (l0_3.length : Int) := of_decide_eq_true pmAx9_1_
                obtain ⟨ad177, e177, hx177_0⟩ := Kd.at_int HR0_3.out x70_3 p177 q177
                cases e177
                replace hx177_0 := (HB.out.cell (World.block_lt_of_cell? w _ hx177_0)).trans hx177_0
                replace p177 := eq_true p177
                replace q177 := eq_true q177
                have hnb198 := NB149_153.out
                have hnc198 := NB153_149.out
                have hnb199 := NB149_155.out
                have hnc199 := NB155_149.out
                have hcz200_0 : wr.cell? ⟨gb149, 0, none⟩ = some (.int .i64 a3) := (blk_cell BK149.out 0).trans rfl
                have hfz200_0 := blk_frozen BK149.out 0
                have hnb201 := NB155_153.out
                have hnc201 := NB153_155.out
                have hcz202_0 : wr.cell? ⟨gb155, 0, none⟩ = some (.int .i64 (wrap64 (a2 - t150))) := (blk_cell BK155.out 0).trans rfl
                have hfz202_0 := blk_frozen BK155.out 0
                have hcz203_0 : wr.cell? ⟨gb153, 0, none⟩ = some (.int .i64 x154000_2) := (blk_cell BK153.out 0).trans rfl
                have hfz203_0 := blk_frozen BK153.out 0
                have p192 : 0 ≤ (x70_3 : Int) := of_decide_eq_true pmAx9_1_
                have q192 : (x70_3 : Int) < ((x17_3.length : Int) : Int) := of_decide_eq_true pmAx9_1_
                obtain ⟨go192, co192, eo192, gb192, gl192, cl192, HG192⟩ := Kd.R_form HO_17.out (by omega)
                (first | cases eo192 | (injection eo192 with ea_ en_ ec_; (first | subst ea_ | (injection ea_ with ea_; subst ea_)); subst ec_; clear en_))
                have GB192 := Aside0.mk gb192
                have GG192 := Aside0.mk HG192
                clear gb192 gl192 HG192
                obtain ⟨hx192_0, hf192_0⟩ := Kd.R_celln 0 HO_17.out (x70_3 : Int) p192 q192
                replace p192 := eq_true p192
                replace q192 := eq_true q192
                have HP204 := Kd.R_putg HO_17.out (x70_3 : Int) (wrap64 ((wrap64 (x18_3 + (rd l0_3 x70_3))) + 0))
                go_wp2_with (first | ((with_reducible refine gate_store (t := 3) (p := 95) rfl ?_); refine store_event (t := 3) (p := 95) (v := ?vo_w205) (w1 := (wr.setCell ⟨go192, (x70_3 : Int).toNat, none⟩ (.int .i64 (wrap64 ((wrap64 (x18_3 + (rd l0_3 x70_3))) + 0))))) ?hg ?ho ?hn ?hr ?_; (case ho => rfl); (case hg => rfl); (case hn => rfl); (case hr => first | (go_simp; done) | (go_simp; rfl)); intro w205 hw; have hg : wr.grownBy w205 (some go192) := (by rw [hw]; exact HP204.2); have hp_ : Kd.R (Kd.int .i64) 3 w205 w.heap.size (fun k_ => k_ ≠ gb149 ∧ k_ ≠ gb153 ∧ k_ ≠ gb155) (.slice (some ⟨go192, 0, none⟩) x17_3.length co46) y185 := (by rw [hw, Ny185.out]; exact HP204.1); clear HP204; have n0_ := Aside0.mk (hp_); have n1_ := Aside0.mk (blk_grown (g := gb148) (o := .cells #[.int .i64 a0_0, .slice A0_1 l0_1.length c0_1, .slice (some ad159) l0_2.length c0_2, .slice (some ad177) l0_3.length c0_3] 26 (0, 0)) pmAx9_2_ hg (Kd.R_ne HO_17.out BK148.out (by decide))); have n2_ := Aside0.mk (blk_grown (g := gb149) (o := .cells #[.int .i64 a3] 3 (0, 0)) pmAx9_3_ hg (Kd.R_away HO_17.out (fun _ hk => hk.1))); have n3_ := Aside0.mk (blk_grown (g := gb153) (o := .cells #[.int .i64 x154000_2] 3 (0, 0)) pmAx9_4_ hg (Kd.R_away HO_17.out (fun _ hk => hk.2.1))); have n4_ := Aside0.mk (blk_grown (g := gb155) (o := .cells #[.int .i64 (wrap64 (a2 - t150))] 3 (0, 0)) pmAx9_5_ hg (Kd.R_away HO_17.out (fun _ hk => hk.2.2))); have n5_ := Aside0.mk ((by rw [hw]; exact below_set (HB.out) GB192.out : Below w.heap.size w w205)); clear HO_17; clear BK148; clear BK149; clear BK153; clear BK155; clear HB; have HO_17 := n0_; have BK148 := n1_; have BK149 := n2_; have BK153 := n3_; have BK155 := n4_; have HB := n5_; clear n0_ n1_ n2_ n3_ n4_ n5_; clear hg hw hp_; have p186 : 0 ≤ (x70_3 : Int) := of_decide_eq_true pmAx9_1_; have q186 : x70_3 < (l1.length : Int) := of_decide_eq_true pmAx9_1_; obtain ⟨ad186, e186, hx186_0⟩ := Kd.at_int HR1.out x70_3 p186 q186; cases e186; replace hx186_0 := (HB.out.cell (World.block_lt_of_cell? w _ hx186_0)).trans hx186_0; replace p186 := eq_true p186; replace q186 := eq_true q186) | go_in)
                repeat ((first | refine bodyPost_end (results_none rfl _ _ _) rfl ?_ | refine bodyPost_ret (results_none rfl _ _ _) rfl ?_ | refine bodyPost_ret (results_tmp rfl _ _ _) rfl ?_); try go_wp2)
                (try simp only [← hl17_3])
                go_roundg k3
                case measure => have := HJ5.out; have := HK2.out; have := HK3.out; omega
                case rel => exact ⟨(y185), (wrap64 ((wrap64 (x18_3 + (rd l0_3 x70_3))) + (rd l1 x70_3))), (wrap64 (x19_3 + 1)), (wrap64 (x70_3 + 1)), pmAx9_6_, pmAx9_6_, pmAx9_6_, H', ⟨pmAx9_18_⟩, ⟨pmAx9_12_⟩, ⟨pmAx9_8_⟩, ⟨pmAx9_9_⟩, ⟨pmAx9_10_⟩, ⟨pmAx9_11_⟩, ⟨pmAx9_0_⟩⟩
              rw [if_neg c190] at H
              have c190b0 : (x154000_2 == 0) = false := beq_eq_false_iff_ne.mpr c190
              have c190b1 : (x154000_2 != 0) = true := bne_iff_ne.mpr c190
              (try (have c190b0h0 := c190b0; simp only [hl17_3] at c190b0h0))
              (try (have c190b1h0 := c190b1; simp only [hl17_3] at c190b1h0))
              obtain ⟨ji206, hji206⟩ : ∃ j_ : Int, (mx (wrap64 (x19_3 + 1)) 0) = j_ := ⟨_, rfl⟩
              replace H : ((content_ratio.f a3 (ji206) x154000_2).bind fun bt187 => ((fixed_MulDiv.f k3 (wrap64 (a2 - t150)) bt187.1 bt187.2).bind fun bt190 => (if x70_3 < (x17_3.length : Int) then (if x70_3 < (l1.length : Int) then (content_Starts.l1 k3 l1 (x17_3.set (x70_3 : Int).toNat (wrap64 ((wrap64 (x18_3 + (rd l0_3 x70_3))) + bt190.1))) (wrap64 ((wrap64 (x18_3 + (rd l0_3 x70_3))) + (rd l1 x70_3))) (wrap64 (x19_3 + 1)) (y156.length : Int) (wrap64 (x70_3 + 1)) a0_0 l0_1 l0_2 l0_3 a3 x154000_2 (wrap64 (a2 - t150))) else (none)) else (none)))) = some (r1, r2) := by first | (rw [hji206] at H; exact H) | (simp only [hji206] at H ⊢; exact H)
              have hji206_ : (if (wrap64 (x19_3 + 1)) < 0 then 0 else (wrap64 (x19_3 + 1))) = ji206 := hji206
              replace H := Option.bind_eq_some_iff.mp H
              obtain ⟨⟨t187, t188⟩, A2070, H⟩ := H
              replace H : ((fixed_MulDiv.f k3 (wrap64 (a2 - t150)) t187 t188).bind fun bt190 => (if x70_3 < (x17_3.length : Int) then (if x70_3 < (l1.length : Int) then (content_Starts.l1 k3 l1 (x17_3.set (x70_3 : Int).toNat (wrap64 ((wrap64 (x18_3 + (rd l0_3 x70_3))) + bt190.1))) (wrap64 ((wrap64 (x18_3 + (rd l0_3 x70_3))) + (rd l1 x70_3))) (wrap64 (x19_3 + 1)) (y156.length : Int) (wrap64 (x70_3 + 1)) a0_0 l0_1 l0_2 l0_3 a3 x154000_2 (wrap64 (a2 - t150))) else (none)) else (none))) = some (r1, r2) := H
              have A207 := Aside0.mk A2070
              clear A2070
              replace H := Option.bind_eq_some_iff.mp H
              obtain ⟨⟨t190, t191⟩, A2080, H⟩ := H
              replace H : (if x70_3 < (x17_3.length : Int) then (if x70_3 < (l1.length : Int) then (content_Starts.l1 k3 l1 (x17_3.set (x70_3 : Int).toNat (wrap64 ((wrap64 (x18_3 + (rd l0_3 x70_3))) + t190))) (wrap64 ((wrap64 (x18_3 + (rd l0_3 x70_3))) + (rd l1 x70_3))) (wrap64 (x19_3 + 1)) (y156.length : Int) (wrap64 (x70_3 + 1)) a0_0 l0_1 l0_2 l0_3 a3 x154000_2 (wrap64 (a2 - t150))) else (none)) else (none)) = some (r1, r2) := H
              have A208 := Aside0.mk A2080
              clear A2080
              by_cases c209 : x70_3 < (x17_3.length : Int)
              rotate_left
              · rw [if_neg c209] at H
                exact absurd H (by simp)
              rw [if_pos c209] at H
              have c209b0 : decide (x70_3 < (x17_3.length : Int)) = true := decide_eq_true c209
              (try (have c209b0h0 := c209b0; simp only [hl17_3] at c209b0h0))
              clear c209
              obtain ⟨y192, hy192⟩ : ∃ y_ : List Int, y_ = (x17_3.set (x70_3 : Int).toNat (wrap64 ((wrap64 (x18_3 + (rd l0_3 x70_3))) + t190))) := ⟨_, rfl⟩
              replace H : (if x70_3 < (l1.length : Int) then (content_Starts.l1 k3 l1 y192 (wrap64 ((wrap64 (x18_3 + (rd l0_3 x70_3))) + (rd l1 x70_3))) (wrap64 (x19_3 + 1)) (y156.length : Int) (wrap64 (x70_3 + 1)) a0_0 l0_1 l0_2 l0_3 a3 x154000_2 (wrap64 (a2 - t150))) else (none)) = some (r1, r2) := by first | (rw [hy192]; with_reducible exact H) | (have H2_ := (Option.bind_some _ _).symm.trans H; rw [hy192]; with_reducible exact H2_) | (have H2_ := (Option.bind_some _ _).symm.trans H; with_reducible exact H2_) | with_reducible exact H | (rw [hy192]; exact H) | exact H
              have Ny192 := Aside0.mk hy192
              clear hy192
              by_cases c211 : x70_3 < (l1.length : Int)
              rotate_left
              · rw [if_neg c211] at H
                exact absurd H (by simp)
              rw [if_pos c211] at H
              have c211b0 : decide (x70_3 < (l1.length : Int)) = true := decide_eq_true c211
              (try (have c211b0h0 := c211b0; simp only [hl17_3] at c211b0h0))
              clear c211
              have H' := Aside0.mk H
              clear H
              have hnb212 := NB148_149.out
              have hnc212 := NB149_148.out
              have hnb213 := NB148_153.out
              have hnc213 := NB153_148.out
              have hnb214 := NB148_155.out
              have hnc214 := NB155_148.out
              have hcz215_0 : wr.cell? ⟨gb148, 0, none⟩ = some (.int .i64 a0_0) := (blk_cell BK148.out 0).trans rfl
              have hcz215_1 : wr.cell? ⟨gb148, 1, none⟩ = some (.slice A0_1 l0_1.length c0_1) := (blk_cell BK148.out 1).trans rfl
              have hcz215_2 : wr.cell? ⟨gb148, 2, none⟩ = some (.slice A0_2 l0_2.length c0_2) := (blk_cell BK148.out 2).trans rfl
              have hcz215_3 : wr.cell? ⟨gb148, 3, none⟩ = some (.slice A0_3 l0_3.length c0_3) := (blk_cell BK148.out 3).trans rfl
              have hfz215_0 := blk_frozen BK148.out 0
              have hfz215_1 := blk_frozen BK148.out 1
              have hfz215_2 := blk_frozen BK148.out 2
              have hfz215_3 := blk_frozen BK148.out 3
              have p159 : 0 ≤ (x70_3 : Int) := of_decide_eq_true pmAx9_1_
              have q159 : x70_3 < (l0_2.length : Int) := of_decide_eq_true pmAx9_1_
              obtain ⟨ad159, e159, hx159_0⟩ := Kd.at_bool HR0_2.out x70_3 p159 q159
              (try rw [← Nbq50.out] at hx159_0)
              cases e159
              replace hx159_0 := (HB.out.cell (World.block_lt_of_cell? w _ hx159_0)).trans hx159_0
              replace p159 := eq_true p159
              replace q159 := eq_true q159
              have p177 : 0 ≤ (x70_3 : Int) := of_decide_eq_true pmAx9_1_
              have q177 : x70_3 < (l0_3.length : Int) := of_decide_eq_true pmAx9_1_
              obtain ⟨ad177, e177, hx177_0⟩ := Kd.at_int HR0_3.out x70_3 p177 q177
              cases e177
              replace hx177_0 := (HB.out.cell (World.block_lt_of_cell? w _ hx177_0)).trans hx177_0
              replace p177 := eq_true p177
              replace q177 := eq_true q177
              have hnb216 := NB149_153.out
              have hnc216 := NB153_149.out
              have hnb217 := NB149_155.out
              have hnc217 := NB155_149.out
              have hcz218_0 : wr.cell? ⟨gb149, 0, none⟩ = some (.int .i64 a3) := (blk_cell BK149.out 0).trans rfl
              have hfz218_0 := blk_frozen BK149.out 0
              have hnb219 := NB155_153.out
              have hnc219 := NB153_155.out
              have hcz220_0 : wr.cell? ⟨gb155, 0, none⟩ = some (.int .i64 (wrap64 (a2 - t150))) := (blk_cell BK155.out 0).trans rfl
              have hfz220_0 := blk_frozen BK155.out 0
              have hcz221_0 : wr.cell? ⟨gb153, 0, none⟩ = some (.int .i64 x154000_2) := (blk_cell BK153.out 0).trans rfl
              have hfz221_0 := blk_frozen BK153.out 0
              go_wp2_with (first | ((with_reducible refine gate_callee (f := 18) rfl ?_); refine goesL_ (some 27) rfl rfl Try.func18 (by kernel_rfl) rfl #[.int .i64 a3, .int .i64 ji206, .int .i64 x154000_2] rfl (by (try simp only [List.map_toArray, List.map_cons, List.map_nil]); first | done | (simp only [hji206]; rfl) | rfl | (simp only [List.length_drop, List.length_take]; rfl)) ?_; (with_reducible refine (content_ratio.calls a3 ji206 x154000_2 t187 t188 _ A207.out).mono ?_); rintro e w222 ⟨rfl, hb⟩; refine ⟨_, rfl, ?_⟩; have n0_ := Aside0.mk (Kd.R_below pmAx9_14_ hb); have n1_ := Aside0.mk (blk_below (g := gb148) (o := .cells #[.int .i64 a0_0, .slice A0_1 l0_1.length c0_1, .slice (some ad159) l0_2.length c0_2, .slice (some ad177) l0_3.length c0_3] 26 (0, 0)) pmAx9_2_ hb); have n2_ := Aside0.mk (blk_below (g := gb149) (o := .cells #[.int .i64 a3] 3 (0, 0)) pmAx9_3_ hb); have n3_ := Aside0.mk (blk_below (g := gb153) (o := .cells #[.int .i64 x154000_2] 3 (0, 0)) pmAx9_4_ hb); have n4_ := Aside0.mk (blk_below (g := gb155) (o := .cells #[.int .i64 (wrap64 (a2 - t150))] 3 (0, 0)) pmAx9_5_ hb); have n5_ := Aside0.mk (below_step pmAx9_0_ hb); clear HO_17; clear BK148; clear BK149; clear BK153; clear BK155; clear HB; have HO_17 := n0_; have BK148 := n1_; have BK149 := n2_; have BK153 := n3_; have BK155 := n4_; have HB := n5_; clear n0_ n1_ n2_ n3_ n4_ n5_; (try clear hb); (try clear hb2); (try clear hk); (try clear hi)) | ((with_reducible refine gate_dst (N := 6) rfl ?_); refine box_event ?hg (N := 6) ?hd (cs := #[.int .i64 0, .int .i64 0]) (t := 46) ?hr ?_; (case hd => rfl); (case hg => rfl); (case hr => first | (go_simp; done) | (go_simp; rfl)); intro gb189 hg w223 hbox hb; have n0_ := Aside0.mk (Kd.R_below pmAx9_14_ hb); have n1_ := Aside0.mk (blk_below (g := gb148) (o := .cells #[.int .i64 a0_0, .slice A0_1 l0_1.length c0_1, .slice (some ad159) l0_2.length c0_2, .slice (some ad177) l0_3.length c0_3] 26 (0, 0)) pmAx9_2_ hb); have n2_ := Aside0.mk (blk_below (g := gb149) (o := .cells #[.int .i64 a3] 3 (0, 0)) pmAx9_3_ hb); have n3_ := Aside0.mk (blk_below (g := gb153) (o := .cells #[.int .i64 x154000_2] 3 (0, 0)) pmAx9_4_ hb); have n4_ := Aside0.mk (blk_below (g := gb155) (o := .cells #[.int .i64 (wrap64 (a2 - t150))] 3 (0, 0)) pmAx9_5_ hb); have n5_ := Aside0.mk (below_step pmAx9_0_ hb); have n6_ := Aside0.mk (hbox); have n7_ := Aside0.mk ((by rw [hg]; exact (below_size pmAx9_0_) : w.heap.size ≤ gb189)); have n8_ := Aside0.mk ((by rw [hg]; exact (below_size pmAx9_0_) : w.heap.size ≤ gb189)); have n9_ := Aside0.mk ((by rw [hg]; exact Nat.ne_of_lt (blk_lt (g := gb148) (o := .cells #[.int .i64 a0_0, .slice A0_1 l0_1.length c0_1, .slice (some ad159) l0_2.length c0_2, .slice (some ad177) l0_3.length c0_3] 26 (0, 0)) pmAx9_2_) : gb148 ≠ gb189)); have n10_ := Aside0.mk ((by rw [hg]; exact Nat.ne_of_gt (blk_lt (g := gb148) (o := .cells #[.int .i64 a0_0, .slice A0_1 l0_1.length c0_1, .slice (some ad159) l0_2.length c0_2, .slice (some ad177) l0_3.length c0_3] 26 (0, 0)) pmAx9_2_) : gb189 ≠ gb148)); have n11_ := Aside0.mk ((pmAx9_22_ : gb149 ≠ gb189)); have n12_ := Aside0.mk ((pmAx9_23_ : gb189 ≠ gb149)); have n13_ := Aside0.mk ((by rw [hg]; exact Nat.ne_of_lt (blk_lt (g := gb153) (o := .cells #[.int .i64 x154000_2] 3 (0, 0)) pmAx9_4_) : gb153 ≠ gb189)); have n14_ := Aside0.mk ((by rw [hg]; exact Nat.ne_of_gt (blk_lt (g := gb153) (o := .cells #[.int .i64 x154000_2] 3 (0, 0)) pmAx9_4_) : gb189 ≠ gb153)); have n15_ := Aside0.mk ((by rw [hg]; exact Nat.ne_of_lt (blk_lt (g := gb155) (o := .cells #[.int .i64 (wrap64 (a2 - t150))] 3 (0, 0)) pmAx9_5_) : gb155 ≠ gb189)); have n16_ := Aside0.mk ((by rw [hg]; exact Nat.ne_of_gt (blk_lt (g := gb155) (o := .cells #[.int .i64 (wrap64 (a2 - t150))] 3 (0, 0)) pmAx9_5_) : gb189 ≠ gb155)); clear HO_17; clear BK148; clear BK149; clear BK153; clear BK155; clear HB; have HO_17 := n0_; have BK148 := n1_; have BK149 := n2_; have BK153 := n3_; have BK155 := n4_; have HB := n5_; have BK189 := n6_; have GW189 := n7_; have GE189 := n8_; have NB148_189 := n9_; have NB189_148 := n10_; have NB149_189 := n11_; have NB189_149 := n12_; have NB153_189 := n13_; have NB189_153 := n14_; have NB155_189 := n15_; have NB189_155 := n16_; clear n0_ n1_ n2_ n3_ n4_ n5_ n6_ n7_ n8_ n9_ n10_ n11_ n12_ n13_ n14_ n15_ n16_; clear hb hbox hg; have hnb224 := NB189_148.out; have hnc224 := NB148_189.out; have hnb225 := NB189_149.out; have hnc225 := NB149_189.out; have hnb226 := NB189_153.out; have hnc226 := NB153_189.out; have hnb227 := NB189_155.out; have hnc227 := NB155_189.out; have hcz228_0 : w223.cell? ⟨gb189, 0, none⟩ = some (.int .i64 0) := (blk_cell BK189.out 0).trans rfl; have hcz228_1 : w223.cell? ⟨gb189, 1, none⟩ = some (.int .i64 0) := (blk_cell BK189.out 1).trans rfl; have hfz228_0 := blk_frozen BK189.out 0; have hfz228_1 := blk_frozen BK189.out 1) | ((with_reducible refine gate_store (t := 46) (p := 6) rfl ?_); refine store_event (t := 46) (p := 6) (v := ?vo_w229) (w1 := ((w223.setCell ⟨gb189, 0, none⟩ (.int .i64 t187)).setCell ⟨gb189, 1, none⟩ (.int .i64 t188))) ?hg ?ho ?hn ?hr ?_; (case ho => rfl); (case hg => rfl); (case hn => rfl); (case hr => first | (go_simp; done) | (go_simp; rfl)); intro w229 hw; have n0_ : Aside0 (Kd.R (Kd.int .i64) 3 w229 w.heap.size (fun k_ => k_ ≠ gb149 ∧ k_ ≠ gb153 ∧ k_ ≠ gb155) (.slice Ao46 x17_3.length co46) x17_3) := ⟨(by rw [hw]; exact (by (with_reducible repeat (first | apply Kd.R_alloc | apply Kd.R_drewN | apply Kd.R_drew)); exact Kd.R_mono (Kd.R_far (p := ⟨gb189, 1, none⟩) (Kd.R_far (p := ⟨gb189, 0, none⟩) (Kd.R_types HO_17.out BK189.out (by decide)) (fun _ hk => hk.2) (.int .i64 t187)) (fun _ hk => hk.2) (.int .i64 t188)) (fun _ hk => ⟨hk.1.1, ⟨hk.1.2.1, hk.1.2.2⟩⟩)))⟩; have n1_ : Aside0 (w229.heap[gb148]? = some (.cells #[.int .i64 a0_0, .slice A0_1 l0_1.length c0_1, .slice (some ad159) l0_2.length c0_2, .slice (some ad177) l0_3.length c0_3] 26 (0, 0))) := ⟨(by rw [hw]; exact (by (with_reducible repeat (first | refine blk_drewN ?_ _ | refine blk_drew ?_ | refine blk_alloc ?_ _)); refine blk_far ?_ NB148_189.out _; (with_reducible repeat (first | refine blk_drewN ?_ _ | refine blk_drew ?_ | refine blk_alloc ?_ _)); refine blk_far ?_ NB148_189.out _; (with_reducible repeat (first | refine blk_drewN ?_ _ | refine blk_drew ?_ | refine blk_alloc ?_ _)); exact BK148.out))⟩; have n2_ : Aside0 (w229.heap[gb149]? = some (.cells #[.int .i64 a3] 3 (0, 0))) := ⟨(by rw [hw]; exact (by (with_reducible repeat (first | refine blk_drewN ?_ _ | refine blk_drew ?_ | refine blk_alloc ?_ _)); refine blk_far ?_ NB149_189.out _; (with_reducible repeat (first | refine blk_drewN ?_ _ | refine blk_drew ?_ | refine blk_alloc ?_ _)); refine blk_far ?_ NB149_189.out _; (with_reducible repeat (first | refine blk_drewN ?_ _ | refine blk_drew ?_ | refine blk_alloc ?_ _)); exact BK149.out))⟩; have n3_ : Aside0 (w229.heap[gb153]? = some (.cells #[.int .i64 x154000_2] 3 (0, 0))) := ⟨(by rw [hw]; exact (by (with_reducible repeat (first | refine blk_drewN ?_ _ | refine blk_drew ?_ | refine blk_alloc ?_ _)); refine blk_far ?_ NB153_189.out _; (with_reducible repeat (first | refine blk_drewN ?_ _ | refine blk_drew ?_ | refine blk_alloc ?_ _)); refine blk_far ?_ NB153_189.out _; (with_reducible repeat (first | refine blk_drewN ?_ _ | refine blk_drew ?_ | refine blk_alloc ?_ _)); exact BK153.out))⟩; have n4_ : Aside0 (w229.heap[gb155]? = some (.cells #[.int .i64 (wrap64 (a2 - t150))] 3 (0, 0))) := ⟨(by rw [hw]; exact (by (with_reducible repeat (first | refine blk_drewN ?_ _ | refine blk_drew ?_ | refine blk_alloc ?_ _)); refine blk_far ?_ NB155_189.out _; (with_reducible repeat (first | refine blk_drewN ?_ _ | refine blk_drew ?_ | refine blk_alloc ?_ _)); refine blk_far ?_ NB155_189.out _; (with_reducible repeat (first | refine blk_drewN ?_ _ | refine blk_drew ?_ | refine blk_alloc ?_ _)); exact BK155.out))⟩; have n5_ : Aside0 (w229.heap[gb189]? = some (.cells #[.int .i64 t187, .int .i64 t188] 46 (0, 0))) := ⟨(by rw [hw]; exact (by (with_reducible repeat (first | refine blk_drewN ?_ _ | refine blk_drew ?_ | refine blk_alloc ?_ _)); refine blk_put (cs := #[.int .i64 t187, .int .i64 0]) ?_ 1 _ rfl; (with_reducible repeat (first | refine blk_drewN ?_ _ | refine blk_drew ?_ | refine blk_alloc ?_ _)); refine blk_put (cs := #[.int .i64 0, .int .i64 0]) ?_ 0 _ rfl; (with_reducible repeat (first | refine blk_drewN ?_ _ | refine blk_drew ?_ | refine blk_alloc ?_ _)); exact BK189.out))⟩; have n6_ : Aside0 (Below w.heap.size w w229) := ⟨(by rw [hw]; exact pmAx9_16_)⟩; clear hw; clear HO_17; clear BK148; clear BK149; clear BK153; clear BK155; clear BK189; clear HB; have HO_17 := n0_; have BK148 := n1_; have BK149 := n2_; have BK153 := n3_; have BK155 := n4_; have BK189 := n5_; have HB := n6_; clear n0_ n1_ n2_ n3_ n4_ n5_ n6_; have hcz230_0 : w229.cell? ⟨gb155, 0, none⟩ = some (.int .i64 (wrap64 (a2 - t150))) := (blk_cell BK155.out 0).trans rfl; have hfz230_0 := blk_frozen BK155.out 0; have hcz231_0 : w229.cell? ⟨gb189, 0, none⟩ = some (.int .i64 t187) := (blk_cell BK189.out 0).trans rfl; have hcz231_1 : w229.cell? ⟨gb189, 1, none⟩ = some (.int .i64 t188) := (blk_cell BK189.out 1).trans rfl; have hfz231_0 := blk_frozen BK189.out 0; have hfz231_1 := blk_frozen BK189.out 1) | ((with_reducible refine gate_callee (f := 19) rfl ?_); refine goesL_ (some 34) rfl rfl Try.func19 (by kernel_rfl) rfl #[.int .i64 (wrap64 (a2 - t150)), .int .i64 t187, .int .i64 t188] rfl pmAx9_17_ ?_; (with_reducible refine (fixed_MulDiv.calls k3 (wrap64 (a2 - t150)) t187 t188 t190 t191 _ A208.out).mono ?_); rintro e w' ⟨rfl, ⟨nd, rfl⟩⟩; refine ⟨_, rfl, ?_⟩; (try (rw [drewN_self w229]; generalize hq_ : World.drewN w229 _ = w229; have n0_ : Aside0 (Kd.R (Kd.int .i64) 3 w229 w.heap.size (fun k_ => k_ ≠ gb149 ∧ k_ ≠ gb153 ∧ k_ ≠ gb155) (.slice Ao46 x17_3.length co46) x17_3) := ⟨by rw [← hq_]; exact pmAx9_14_⟩; have n1_ : Aside0 (w229.heap[gb148]? = some (.cells #[.int .i64 a0_0, .slice A0_1 l0_1.length c0_1, .slice (some ad159) l0_2.length c0_2, .slice (some ad177) l0_3.length c0_3] 26 (0, 0))) := ⟨by rw [← hq_]; exact pmAx9_2_⟩; have n2_ : Aside0 (w229.heap[gb149]? = some (.cells #[.int .i64 a3] 3 (0, 0))) := ⟨by rw [← hq_]; exact pmAx9_3_⟩; have n3_ : Aside0 (w229.heap[gb153]? = some (.cells #[.int .i64 x154000_2] 3 (0, 0))) := ⟨by rw [← hq_]; exact pmAx9_4_⟩; have n4_ : Aside0 (w229.heap[gb155]? = some (.cells #[.int .i64 (wrap64 (a2 - t150))] 3 (0, 0))) := ⟨by rw [← hq_]; exact pmAx9_5_⟩; have n5_ : Aside0 (w229.heap[gb189]? = some (.cells #[.int .i64 t187, .int .i64 t188] 46 (0, 0))) := ⟨by rw [← hq_]; exact (by (with_reducible repeat (first | refine blk_drewN ?_ _ | refine blk_drew ?_ | refine blk_alloc ?_ _)); exact BK189.out)⟩; have n6_ : Aside0 (Below w.heap.size w w229) := ⟨by rw [← hq_]; exact pmAx9_16_⟩; clear HO_17 BK148 BK149 BK153 BK155 BK189 HB hq_; have HO_17 := n0_; have BK148 := n1_; have BK149 := n2_; have BK153 := n3_; have BK155 := n4_; have BK189 := n5_; have HB := n6_; clear n0_ n1_ n2_ n3_ n4_ n5_ n6_)); have p210 : 0 ≤ (x70_3 : Int) := of_decide_eq_true pmAx9_1_; have q210 : (x70_3 : Int) < ((x17_3.length : Int) : Int) := of_decide_eq_true pmAx9_1_; obtain ⟨go210, co210, eo210, gb210, gl210, cl210, HG210⟩ := Kd.R_form HO_17.out (by omega); (first | cases eo210 | (injection eo210 with ea_ en_ ec_; (first | subst ea_ | (injection ea_ with ea_; subst ea_)); subst ec_; clear en_)); have GB210 := Aside0.mk gb210; have GG210 := Aside0.mk HG210; clear gb210 gl210 HG210; obtain ⟨hx210_0, hf210_0⟩ := Kd.R_celln 0 HO_17.out (x70_3 : Int) p210 q210; replace p210 := eq_true p210; replace q210 := eq_true q210; obtain ⟨hy232_, hz232_⟩ := Kd.R_celln 0 HO_17.out (x70_3 : Int) (of_decide_eq_true pmAx9_1_) (of_decide_eq_true pmAx9_1_); have HP232 := Kd.R_putg HO_17.out (x70_3 : Int) (wrap64 ((wrap64 (x18_3 + (rd l0_3 x70_3))) + t190))) | ((with_reducible refine gate_store (t := 3) (p := 95) rfl ?_); refine store_event (t := 3) (p := 95) (v := ?vo_w233) (w1 := (w229.setCell ⟨go210, (x70_3 : Int).toNat, none⟩ (.int .i64 (wrap64 ((wrap64 (x18_3 + (rd l0_3 x70_3))) + t190))))) ?hg ?ho ?hn ?hr ?_; (case ho => rfl); (case hg => rfl); (case hn => rfl); (case hr => first | (go_simp; done) | (go_simp; rfl)); intro w233 hw; have hg : w229.grownBy w233 (some go210) := (by rw [hw]; exact HP232.2); have hp_ : Kd.R (Kd.int .i64) 3 w233 w.heap.size (fun k_ => k_ ≠ gb149 ∧ k_ ≠ gb153 ∧ k_ ≠ gb155) (.slice (some ⟨go210, 0, none⟩) x17_3.length co46) y192 := (by rw [hw, Ny192.out]; exact HP232.1); clear HP232; have n0_ := Aside0.mk (hp_); have n1_ := Aside0.mk (blk_grown (g := gb148) (o := .cells #[.int .i64 a0_0, .slice A0_1 l0_1.length c0_1, .slice (some ad159) l0_2.length c0_2, .slice (some ad177) l0_3.length c0_3] 26 (0, 0)) pmAx9_2_ hg (Kd.R_ne HO_17.out BK148.out (by decide))); have n2_ := Aside0.mk (blk_grown (g := gb149) (o := .cells #[.int .i64 a3] 3 (0, 0)) pmAx9_3_ hg (Kd.R_away HO_17.out (fun _ hk => hk.1))); have n3_ := Aside0.mk (blk_grown (g := gb153) (o := .cells #[.int .i64 x154000_2] 3 (0, 0)) pmAx9_4_ hg (Kd.R_away HO_17.out (fun _ hk => hk.2.1))); have n4_ := Aside0.mk (blk_grown (g := gb155) (o := .cells #[.int .i64 (wrap64 (a2 - t150))] 3 (0, 0)) pmAx9_5_ hg (Kd.R_away HO_17.out (fun _ hk => hk.2.2))); have n5_ := Aside0.mk (blk_grown (g := gb189) (o := poAx9_0 t187 t188) (by (with_reducible repeat (first | refine blk_drewN ?_ _ | refine blk_drew ?_ | refine blk_alloc ?_ _)); exact BK189.out) hg (Kd.R_ne HO_17.out BK189.out (by decide))); have n6_ := Aside0.mk ((by rw [hw]; exact below_set (HB.out) GB210.out : Below w.heap.size w w233)); clear HO_17; clear BK148; clear BK149; clear BK153; clear BK155; clear BK189; clear HB; have HO_17 := n0_; have BK148 := n1_; have BK149 := n2_; have BK153 := n3_; have BK155 := n4_; have BK189 := n5_; have HB := n6_; clear n0_ n1_ n2_ n3_ n4_ n5_ n6_; clear hg hw hp_; have p193 : 0 ≤ (x70_3 : Int) := of_decide_eq_true pmAx9_1_; have q193 : x70_3 < (l1.length : Int) := of_decide_eq_true pmAx9_1_; obtain ⟨ad193, e193, hx193_0⟩ := Kd.at_int HR1.out x70_3 p193 q193; cases e193; replace hx193_0 := (HB.out.cell (World.block_lt_of_cell? w _ hx193_0)).trans hx193_0; replace p193 := eq_true p193; replace q193 := eq_true q193) | go_in)
              repeat ((first | refine bodyPost_end (results_none rfl _ _ _) rfl ?_ | refine bodyPost_ret (results_none rfl _ _ _) rfl ?_ | refine bodyPost_ret (results_tmp rfl _ _ _) rfl ?_); try go_wp2)
              (try simp only [← hl17_3])
              go_roundg k3
              case measure => have := HJ5.out; have := HK2.out; have := HK3.out; omega
              case rel => exact ⟨(y192), (wrap64 ((wrap64 (x18_3 + (rd l0_3 x70_3))) + (rd l1 x70_3))), (wrap64 (x19_3 + 1)), (wrap64 (x70_3 + 1)), pmAx9_6_, pmAx9_6_, pmAx9_6_, H', ⟨pmAx9_18_⟩, ⟨pmAx9_12_⟩, ⟨pmAx9_8_⟩, ⟨pmAx9_9_⟩, ⟨pmAx9_10_⟩, ⟨pmAx9_11_⟩, ⟨pmAx9_16_⟩⟩
end Go.Proofs.Ytbkohlhonhmhmaa.PA
