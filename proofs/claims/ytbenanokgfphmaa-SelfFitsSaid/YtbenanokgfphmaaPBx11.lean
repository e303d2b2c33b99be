-- written by a program of this session (a print of the translation with changes of its own)
import Derived.Test.YtbenanokgfphmaaPBx0
import Derived.Test.YtbenanokgfphmaaPBx5
import Derived.Test.YtbenanokgfphmaaPBx7
import Derived.Test.YtbenanokgfphmaaPBx10
namespace Go.Proofs.Ytbenanokgfphmaa.PB
open Go.RowKit Go.Proofs.YtbenanokgfphmaaW.PrintWords Go.Proofs.YtbenanokgfphmaaW.PrintLast Go.Proofs.YtbenanokgfphmaaW.PrintMore
theorem pmBx11_0_ {P : Prop} (h : P := by repeat (first | (with_reducible first | exact HB.out | apply below_alloc | apply pw_below_drewN | apply below_drew1 | refine below_set ?_ GE224.out | refine below_set ?_ GE225.out | refine below_set ?_ GE226.out) | exact HB.out)) : P := h
theorem pmBx11_1_ {P : Prop} (h : P := by (with_reducible repeat (first | refine blk_drewN ?_ _ | refine blk_drew ?_ | refine blk_alloc ?_ _)); exact BK224.out) : P := h
theorem pmBx11_2_ {P : Prop} (h : P := by (with_reducible repeat (first | refine blk_drewN ?_ _ | refine blk_drew ?_ | refine blk_alloc ?_ _)); exact BK238.out) : P := h
theorem pmBx11_3_ {P : Prop} (h : P := by repeat (first | (with_reducible first | exact HB.out | apply below_alloc | apply pw_below_drewN | apply below_drew1) | exact HB.out)) : P := h
theorem pmBx11_4_ {P : Prop} (h : P := by repeat (first | (with_reducible first | exact HB.out | apply below_alloc | apply pw_below_drewN | apply below_drew1 | refine below_set ?_ GE238.out) | exact HB.out)) : P := h
theorem pmBx11_5_ {P : Prop} (h : P := by (try simp only [List.map_toArray, List.map_cons, List.map_nil]); first | done | rfl | (simp only [List.length_drop, List.length_take]; rfl)) : P := h
theorem pmBx11_6_ {P : Prop} (h : P := by (with_reducible repeat (first | refine blk_drewN ?_ _ | refine blk_drew ?_ | refine blk_alloc ?_ _)); exact BK225.out) : P := h
theorem pmBx11_7_ {P : Prop} (h : P := by (with_reducible repeat (first | refine blk_drewN ?_ _ | refine blk_drew ?_ | refine blk_alloc ?_ _)); exact BK226.out) : P := h
theorem pmBx11_8_ {P : Prop} (h : P := by repeat (first | (with_reducible first | exact HB.out | apply below_alloc | apply pw_below_drewN | apply below_drew1 | refine below_set ?_ GE238.out | refine below_set ?_ GE239.out) | exact HB.out)) : P := h
theorem pmBx11_9_ {P : Prop} (h : P := by (with_reducible repeat (first | refine blk_drewN ?_ _ | refine blk_drew ?_ | refine blk_alloc ?_ _)); exact BK239.out) : P := h
theorem pmBx11_10_ {P : Prop} (h : P := by repeat (first | (with_reducible first | exact HB.out | apply below_alloc | apply pw_below_drewN | apply below_drew1 | refine below_set ?_ GE224.out | refine below_set ?_ GE225.out) | exact HB.out)) : P := h
theorem pmBx11_11_ {P : Prop} (h : P := by rw [hg]; exact Nat.ne_of_lt (blk_lt (g := gb238) (o := .cells #[.bool a1_0, .int .i64 a1_1] 23 (0, 0)) pmBx11_2_)) : P := h
theorem pmBx11_12_ {P : Prop} (h : P := by rw [hg]; exact Nat.ne_of_gt (blk_lt (g := gb238) (o := .cells #[.bool a1_0, .int .i64 a1_1] 23 (0, 0)) pmBx11_2_)) : P := h
theorem pmBx11_13_ {P : Prop} (h : P := by rw [hg]; exact (below_size pmBx11_3_)) : P := h
theorem pmBx11_14_ {P : Prop} (h : P := by repeat (first | (with_reducible first | exact HB.out | apply below_alloc | apply pw_below_drewN | apply below_drew1 | refine below_set ?_ GE224.out) | exact HB.out)) : P := h
theorem pmBx11_15_ {P : Prop} (h : P := by rw [hg]; exact (below_size pmBx11_4_)) : P := h
attribute [local go_sem] max2_int min2_int max_two min_two max_three min_three max_four min_four   -- for this text's walks alone
set_option linter.unusedVariables false
set_option linter.unusedSimpArgs false

/-! ### parterrelaw29_SelfLimits: function 5 -/
def parterrelaw29_SelfLimits.j0 : Nat → Int → Int → Bool → Bool → Int → Int → Int → Int → Int → Int → Option (Bool)
  | 0, _, _, _, _, _, _, _, _, _, _ => none
  | k + 1, x0, x3, x4, x51, x225000, x225001, x226000, x226001, x227000, x227001 => if x51 = true then (some false) else ((self_Clamp.f k x0 x225000 x225001 x226000 x226001 x3 x4 x227000 x227001).bind fun bt233 => ((parterreref29_Clamp.f k x0 x225000 x225001 x226000 x226001 x3 x4 x227000 x227001).bind fun bt235 => (if bt233.1 = bt235.1 then (if bt233.2 = bt235.2 then ((parterrelaw29_lives.f k).bind fun t237 => (some t237)) else (some false)) else (some false))))
def parterrelaw29_SelfLimits.f (k : Nat) (a0 : Int) (a1_0 : Int) (a1_1 : Int) (a2_0 : Int) (a2_1 : Int) (a3 : Int) (a4 : Bool) (a5_0 : Int) (a5_1 : Int) : Option (Bool) := (self_Limit.f k a1_0 a1_1 a3 a4 a5_0 a5_1).bind fun bt227 => ((parterreref29_Limit.f k a1_0 a1_1 a3 a4 a5_0 a5_1).bind fun bt230 => (if bt227.1 = bt230.1 then (if (bt227.2.1 != bt230.2.1) = true then (parterrelaw29_SelfLimits.j0 k a0 a3 a4 true a1_0 a1_1 a2_0 a2_1 a5_0 a5_1) else (parterrelaw29_SelfLimits.j0 k a0 a3 a4 (bt227.2.2 != bt230.2.2) a1_0 a1_1 a2_0 a2_1 a5_0 a5_1)) else (parterrelaw29_SelfLimits.j0 k a0 a3 a4 true a1_0 a1_1 a2_0 a2_1 a5_0 a5_1)))
theorem parterrelaw29_SelfLimits.mono_l : ∀ k, (∀ y0 y1 y2 y3 y4 y5 y6 y7 y8 y9, LeO (parterrelaw29_SelfLimits.j0 k y0 y1 y2 y3 y4 y5 y6 y7 y8 y9) (parterrelaw29_SelfLimits.j0 (k + 1) y0 y1 y2 y3 y4 y5 y6 y7 y8 y9))
  | 0 => fun _ _ _ _ _ _ _ _ _ _ r h => by simp [parterrelaw29_SelfLimits.j0] at h
  | k + 1 => by
    have ih0 := parterrelaw29_SelfLimits.mono_l k
    · intro y0 y1 y2 y3 y4 y5 y6 y7 y8 y9
      unfold parterrelaw29_SelfLimits.j0
      repeat' first
      | (with_reducible exact ih0 _ _ _ _ _ _ _ _ _ _)
      | (with_reducible exact parterrelaw29_lives.mono _)
      | (with_reducible exact parterreref29_Clamp.mono _ _ _ _ _ _ _ _ _ _)
      | (with_reducible exact parterreref29_Limit.mono _ _ _ _ _ _ _)
      | (with_reducible exact self_Clamp.mono _ _ _ _ _ _ _ _ _ _)
      | (with_reducible exact self_Limit.mono _ _ _ _ _ _ _)
      | (with_reducible exact LeO.refl _)
      | (with_reducible exact LeO.none _)
      | (with_reducible refine LeO.ite ?_ ?_)
      | (with_reducible refine LeO.bind ?_ (fun _ => ?_))
      | exact ih0 _ _ _ _ _ _ _ _ _ _
      | exact parterrelaw29_lives.mono _
      | exact parterreref29_Clamp.mono _ _ _ _ _ _ _ _ _ _
      | exact parterreref29_Limit.mono _ _ _ _ _ _ _
      | exact self_Clamp.mono _ _ _ _ _ _ _ _ _ _
      | exact self_Limit.mono _ _ _ _ _ _ _
      | exact LeO.none _
      | refine LeO.ite ?_ ?_
      | refine LeO.bind ?_ (fun _ => ?_)
theorem parterrelaw29_SelfLimits.mono : ∀ a0 a1 a2 a3 a4 a5 a6 a7 a8 k, LeO (parterrelaw29_SelfLimits.f k a0 a1 a2 a3 a4 a5 a6 a7 a8) (parterrelaw29_SelfLimits.f (k + 1) a0 a1 a2 a3 a4 a5 a6 a7 a8) := by
  intro a0 a1 a2 a3 a4 a5 a6 a7 a8 k
  have ih0 := parterrelaw29_SelfLimits.mono_l k
  unfold parterrelaw29_SelfLimits.f
  repeat' first
      | (with_reducible exact ih0 _ _ _ _ _ _ _ _ _ _)
      | (with_reducible exact parterrelaw29_lives.mono _)
      | (with_reducible exact parterreref29_Clamp.mono _ _ _ _ _ _ _ _ _ _)
      | (with_reducible exact parterreref29_Limit.mono _ _ _ _ _ _ _)
      | (with_reducible exact self_Clamp.mono _ _ _ _ _ _ _ _ _ _)
      | (with_reducible exact self_Limit.mono _ _ _ _ _ _ _)
      | (with_reducible exact LeO.refl _)
      | (with_reducible exact LeO.none _)
      | (with_reducible refine LeO.ite ?_ ?_)
      | (with_reducible refine LeO.bind ?_ (fun _ => ?_))
      | exact ih0 _ _ _ _ _ _ _ _ _ _
      | exact parterrelaw29_lives.mono _
      | exact parterreref29_Clamp.mono _ _ _ _ _ _ _ _ _ _
      | exact parterreref29_Limit.mono _ _ _ _ _ _ _
      | exact self_Clamp.mono _ _ _ _ _ _ _ _ _ _
      | exact self_Limit.mono _ _ _ _ _ _ _
      | exact LeO.none _
      | refine LeO.ite ?_ ?_
      | refine LeO.bind ?_ (fun _ => ?_)
set_option maxHeartbeats 8000000 in
set_option maxRecDepth 100000 in
theorem parterrelaw29_SelfLimits.calls (k : Nat) (a0 : Int) (a1_0 : Int) (a1_1 : Int) (a2_0 : Int) (a2_1 : Int) (a3 : Int) (a4 : Bool) (a5_0 : Int) (a5_1 : Int) (r : Bool) (w : World) (h : parterrelaw29_SelfLimits.f k a0 a1_0 a1_1 a2_0 a2_1 a3 a4 a5_0 a5_1 = some r) :
    Calls Try.prog 5 #[.int .i64 a0, .agg #[.int .i64 a1_0, .int .i64 a1_1], .agg #[.int .i64 a2_0, .int .i64 a2_1], .int .i64 a3, .bool a4, .agg #[.int .i64 a5_0, .int .i64 a5_1]] w fun e w' => e = .returned (.bool r) ∧ Below w.heap.size w w' := by
  have hu31 := Try.underlying31
  have hu46 := Try.underlying46
  have HB := Aside0.mk (Below.refl w.heap.size w)
  have H : ((self_Limit.f k a1_0 a1_1 a3 a4 a5_0 a5_1).bind fun bt227 => ((parterreref29_Limit.f k a1_0 a1_1 a3 a4 a5_0 a5_1).bind fun bt230 => (if bt227.1 = bt230.1 then (if (bt227.2.1 != bt230.2.1) = true then (parterrelaw29_SelfLimits.j0 k a0 a3 a4 true a1_0 a1_1 a2_0 a2_1 a5_0 a5_1) else (parterrelaw29_SelfLimits.j0 k a0 a3 a4 (bt227.2.2 != bt230.2.2) a1_0 a1_1 a2_0 a2_1 a5_0 a5_1)) else (parterrelaw29_SelfLimits.j0 k a0 a3 a4 true a1_0 a1_1 a2_0 a2_1 a5_0 a5_1)))) = some r := h
  clear h
  replace H := Option.bind_eq_some_iff.mp H
  obtain ⟨⟨t227, t228, t229⟩, A70, H⟩ := H
  replace H : ((parterreref29_Limit.f k a1_0 a1_1 a3 a4 a5_0 a5_1).bind fun bt230 => (if t227 = bt230.1 then (if (t228 != bt230.2.1) = true then (parterrelaw29_SelfLimits.j0 k a0 a3 a4 true a1_0 a1_1 a2_0 a2_1 a5_0 a5_1) else (parterrelaw29_SelfLimits.j0 k a0 a3 a4 (t229 != bt230.2.2) a1_0 a1_1 a2_0 a2_1 a5_0 a5_1)) else (parterrelaw29_SelfLimits.j0 k a0 a3 a4 true a1_0 a1_1 a2_0 a2_1 a5_0 a5_1))) = some r := H
  have A7 := Aside0.mk A70
  clear A70
  replace H := Option.bind_eq_some_iff.mp H
  obtain ⟨⟨t230, t231, t232⟩, A80, H⟩ := H
  replace H : (if t227 = t230 then (if (t228 != t231) = true then (parterrelaw29_SelfLimits.j0 k a0 a3 a4 true a1_0 a1_1 a2_0 a2_1 a5_0 a5_1) else (parterrelaw29_SelfLimits.j0 k a0 a3 a4 (t229 != t232) a1_0 a1_1 a2_0 a2_1 a5_0 a5_1)) else (parterrelaw29_SelfLimits.j0 k a0 a3 a4 true a1_0 a1_1 a2_0 a2_1 a5_0 a5_1)) = some r := H
  have A8 := Aside0.mk A80
  clear A80
  have HC9 := Aside0.mk H
  clear H
  go_enter Try.func5, Try.ntmps5
  go_upto_region 3 with (first | ((with_reducible refine gate_dst (N := 7) rfl ?_); refine box_event ?hg (N := 7) ?hd (cs := #[.int .i64 a1_0, .int .i64 a1_1]) (t := 31) ?hr ?_; (case hd => rfl); (case hg => rfl); (case hr => first | (go_simp; done) | (go_simp; rfl)); intro gb224 hg w10 hbox hb; have n0_ := Aside0.mk (below_step pmBx11_3_ hb); have n1_ := Aside0.mk (hbox); have n2_ := Aside0.mk ((pmBx11_13_ : w.heap.size ≤ gb224)); have n3_ := Aside0.mk ((pmBx11_13_ : w.heap.size ≤ gb224)); clear HB; have HB := n0_; have BK224 := n1_; have GW224 := n2_; have GE224 := n3_; clear n0_ n1_ n2_ n3_; clear hb hbox hg) | ((with_reducible refine gate_dst (N := 8) rfl ?_); refine box_event ?hg (N := 8) ?hd (cs := #[.int .i64 a2_0, .int .i64 a2_1]) (t := 31) ?hr ?_; (case hd => rfl); (case hg => rfl); (case hr => first | (go_simp; done) | (go_simp; rfl)); intro gb225 hg w11 hbox hb; have n0_ := Aside0.mk (blk_below (g := gb224) (o := .cells #[.int .i64 a1_0, .int .i64 a1_1] 31 (0, 0)) pmBx11_1_ hb); have n1_ := Aside0.mk (below_step pmBx11_14_ hb); have n2_ := Aside0.mk (hbox); have n3_ := Aside0.mk ((by rw [hg]; exact (below_size pmBx11_14_) : w.heap.size ≤ gb225)); have n4_ := Aside0.mk ((by rw [hg]; exact (below_size pmBx11_14_) : w.heap.size ≤ gb225)); have n5_ := Aside0.mk ((by rw [hg]; exact Nat.ne_of_lt (blk_lt (g := gb224) (o := .cells #[.int .i64 a1_0, .int .i64 a1_1] 31 (0, 0)) pmBx11_1_) : gb224 ≠ gb225)); have n6_ := Aside0.mk ((by rw [hg]; exact Nat.ne_of_gt (blk_lt (g := gb224) (o := .cells #[.int .i64 a1_0, .int .i64 a1_1] 31 (0, 0)) pmBx11_1_) : gb225 ≠ gb224)); clear BK224; clear HB; have BK224 := n0_; have HB := n1_; have BK225 := n2_; have GW225 := n3_; have GE225 := n4_; have NB224_225 := n5_; have NB225_224 := n6_; clear n0_ n1_ n2_ n3_ n4_ n5_ n6_; clear hb hbox hg) | ((with_reducible refine gate_dst (N := 11) rfl ?_); refine box_event ?hg (N := 11) ?hd (cs := #[.int .i64 a5_0, .int .i64 a5_1]) (t := 46) ?hr ?_; (case hd => rfl); (case hg => rfl); (case hr => first | (go_simp; done) | (go_simp; rfl)); intro gb226 hg w12 hbox hb; have n0_ := Aside0.mk (blk_below (g := gb224) (o := .cells #[.int .i64 a1_0, .int .i64 a1_1] 31 (0, 0)) pmBx11_1_ hb); have n1_ := Aside0.mk (blk_below (g := gb225) (o := .cells #[.int .i64 a2_0, .int .i64 a2_1] 31 (0, 0)) pmBx11_6_ hb); have n2_ := Aside0.mk (below_step pmBx11_10_ hb); have n3_ := Aside0.mk (hbox); have n4_ := Aside0.mk ((by rw [hg]; exact (below_size pmBx11_10_) : w.heap.size ≤ gb226)); have n5_ := Aside0.mk ((by rw [hg]; exact (below_size pmBx11_10_) : w.heap.size ≤ gb226)); have n6_ := Aside0.mk ((by rw [hg]; exact Nat.ne_of_lt (blk_lt (g := gb224) (o := .cells #[.int .i64 a1_0, .int .i64 a1_1] 31 (0, 0)) pmBx11_1_) : gb224 ≠ gb226)); have n7_ := Aside0.mk ((by rw [hg]; exact Nat.ne_of_gt (blk_lt (g := gb224) (o := .cells #[.int .i64 a1_0, .int .i64 a1_1] 31 (0, 0)) pmBx11_1_) : gb226 ≠ gb224)); have n8_ := Aside0.mk ((by rw [hg]; exact Nat.ne_of_lt (blk_lt (g := gb225) (o := .cells #[.int .i64 a2_0, .int .i64 a2_1] 31 (0, 0)) pmBx11_6_) : gb225 ≠ gb226)); have n9_ := Aside0.mk ((by rw [hg]; exact Nat.ne_of_gt (blk_lt (g := gb225) (o := .cells #[.int .i64 a2_0, .int .i64 a2_1] 31 (0, 0)) pmBx11_6_) : gb226 ≠ gb225)); clear BK224; clear BK225; clear HB; have BK224 := n0_; have BK225 := n1_; have HB := n2_; have BK226 := n3_; have GW226 := n4_; have GE226 := n5_; have NB224_226 := n6_; have NB226_224 := n7_; have NB225_226 := n8_; have NB226_225 := n9_; clear n0_ n1_ n2_ n3_ n4_ n5_ n6_ n7_ n8_ n9_; clear hb hbox hg; have hnb13 := NB224_225.out; have hnc13 := NB225_224.out; have hnb14 := NB224_226.out; have hnc14 := NB226_224.out; have hcz15_0 : w12.cell? ⟨gb224, 0, none⟩ = some (.int .i64 a1_0) := (blk_cell BK224.out 0).trans rfl; have hcz15_1 : w12.cell? ⟨gb224, 1, none⟩ = some (.int .i64 a1_1) := (blk_cell BK224.out 1).trans rfl; have hfz15_0 := blk_frozen BK224.out 0; have hfz15_1 := blk_frozen BK224.out 1; have hnb16 := NB226_225.out; have hnc16 := NB225_226.out; have hcz17_0 : w12.cell? ⟨gb226, 0, none⟩ = some (.int .i64 a5_0) := (blk_cell BK226.out 0).trans rfl; have hcz17_1 : w12.cell? ⟨gb226, 1, none⟩ = some (.int .i64 a5_1) := (blk_cell BK226.out 1).trans rfl; have hfz17_0 := blk_frozen BK226.out 0; have hfz17_1 := blk_frozen BK226.out 1) | ((with_reducible refine gate_callee (f := 13) rfl ?_); refine goesL_ (some 26) rfl rfl Try.func13 (by kernel_rfl) rfl #[.agg #[.int .i64 a1_0, .int .i64 a1_1], .int .i64 a3, .bool a4, .agg #[.int .i64 a5_0, .int .i64 a5_1]] rfl pmBx11_5_ ?_; (with_reducible refine (self_Limit.calls k a1_0 a1_1 a3 a4 a5_0 a5_1 t227 t228 t229 _ A7.out).mono ?_); rintro e w18 ⟨rfl, hb⟩; refine ⟨_, rfl, ?_⟩; have n0_ := Aside0.mk (blk_below (g := gb224) (o := .cells #[.int .i64 a1_0, .int .i64 a1_1] 31 (0, 0)) pmBx11_1_ hb); have n1_ := Aside0.mk (blk_below (g := gb225) (o := .cells #[.int .i64 a2_0, .int .i64 a2_1] 31 (0, 0)) pmBx11_6_ hb); have n2_ := Aside0.mk (blk_below (g := gb226) (o := .cells #[.int .i64 a5_0, .int .i64 a5_1] 46 (0, 0)) pmBx11_7_ hb); have n3_ := Aside0.mk (below_step pmBx11_0_ hb); clear BK224; clear BK225; clear BK226; clear HB; have BK224 := n0_; have BK225 := n1_; have BK226 := n2_; have HB := n3_; clear n0_ n1_ n2_ n3_; (try clear hb); (try clear hb2); (try clear hk); (try clear hi); have hcz19_0 : w18.cell? ⟨gb224, 0, none⟩ = some (.int .i64 a1_0) := (blk_cell BK224.out 0).trans rfl; have hcz19_1 : w18.cell? ⟨gb224, 1, none⟩ = some (.int .i64 a1_1) := (blk_cell BK224.out 1).trans rfl; have hfz19_0 := blk_frozen BK224.out 0; have hfz19_1 := blk_frozen BK224.out 1; have hcz20_0 : w18.cell? ⟨gb226, 0, none⟩ = some (.int .i64 a5_0) := (blk_cell BK226.out 0).trans rfl; have hcz20_1 : w18.cell? ⟨gb226, 1, none⟩ = some (.int .i64 a5_1) := (blk_cell BK226.out 1).trans rfl; have hfz20_0 := blk_frozen BK226.out 0; have hfz20_1 := blk_frozen BK226.out 1) | ((with_reducible refine gate_callee (f := 14) rfl ?_); refine goesL_ (some 35) rfl rfl Try.func14 (by kernel_rfl) rfl #[.agg #[.int .i64 a1_0, .int .i64 a1_1], .int .i64 a3, .bool a4, .agg #[.int .i64 a5_0, .int .i64 a5_1]] rfl pmBx11_5_ ?_; (with_reducible refine (parterreref29_Limit.calls k a1_0 a1_1 a3 a4 a5_0 a5_1 t230 t231 t232 _ A8.out).mono ?_); rintro e w21 ⟨rfl, hb⟩; refine ⟨_, rfl, ?_⟩; have n0_ := Aside0.mk (blk_below (g := gb224) (o := .cells #[.int .i64 a1_0, .int .i64 a1_1] 31 (0, 0)) pmBx11_1_ hb); have n1_ := Aside0.mk (blk_below (g := gb225) (o := .cells #[.int .i64 a2_0, .int .i64 a2_1] 31 (0, 0)) pmBx11_6_ hb); have n2_ := Aside0.mk (blk_below (g := gb226) (o := .cells #[.int .i64 a5_0, .int .i64 a5_1] 46 (0, 0)) pmBx11_7_ hb); have n3_ := Aside0.mk (below_step pmBx11_0_ hb); clear BK224; clear BK225; clear BK226; clear HB; have BK224 := n0_; have BK225 := n1_; have BK226 := n2_; have HB := n3_; clear n0_ n1_ n2_ n3_; (try clear hb); (try clear hb2); (try clear hk); (try clear hi)))
  (try simp only [Act.put, List.setIfInBounds_toArray, List.set_cons_zero, List.set_cons_succ])
  go_cut [51] (fun v51 wc => ∃ (kq : Nat) (x51_8 : Bool), v51 = .bool x51_8 ∧ Aside0 (parterrelaw29_SelfLimits.j0 kq a0 a3 a4 x51_8 a1_0 a1_1 a2_0 a2_1 a5_0 a5_1 = some r) ∧ Aside0 (kq ≤ k) ∧ Aside0 (wc.heap[gb224]? = some (.cells #[.int .i64 a1_0, .int .i64 a1_1] 31 (0, 0))) ∧ Aside0 (wc.heap[gb225]? = some (.cells #[.int .i64 a2_0, .int .i64 a2_1] 31 (0, 0))) ∧ Aside0 (wc.heap[gb226]? = some (.cells #[.int .i64 a5_0, .int .i64 a5_1] 46 (0, 0))) ∧ Aside0 (Below w.heap.size w wc))
  case first =>
    have H := HC9.out
    clear HC9
    by_cases c22 : t227 = t230
    · rw [if_pos c22] at H
      have c22b0 : (t227 == t230) = true := beq_iff_eq.mpr c22
      have c22b1 : (t227 != t230) = false := bne_eq_false_iff_eq.mpr c22
      clear c22
      (first | rw [c22b0] | (simp only [i64_w, i32_w]; rw [c22b0]) | skip)
      by_cases c23 : (t228 != t231) = true
      · rw [if_pos c23] at H
        have c23b0 : (t228 != t231) = true := c23
        (try (have c23b1 : decide (t228 = t231) = false := by simpa using c23))
        (try (have c23b2 : (t228 == t231) = false := by simpa using c23))
        (try (have c23b3 : ¬ (t228 = t231) := by simpa using c23))
        clear c23
        have H' := Aside0.mk H
        clear H
        go_wp2
        go_meet
        case rel => exact ⟨_, (true), (by first | rfl | (simp; done) | (simp [*]; done)), H', ⟨by first | omega | exact Nat.le_refl _⟩, ⟨pmBx11_1_⟩, ⟨pmBx11_6_⟩, ⟨pmBx11_7_⟩, ⟨pmBx11_0_⟩⟩
      · rw [if_neg c23] at H
        have c23b0 : (t228 != t231) = false := by simpa using c23
        (try (have c23b1 : decide (t228 = t231) = true := by simpa using c23))
        (try (have c23b2 : (t228 == t231) = true := by simpa using c23))
        clear c23
        have H' := Aside0.mk H
        clear H
        go_wp2
        go_meet
        case rel => exact ⟨_, ((t229 != t232)), (by first | rfl | (simp; done) | (simp [*]; done)), H', ⟨by first | omega | exact Nat.le_refl _⟩, ⟨pmBx11_1_⟩, ⟨pmBx11_6_⟩, ⟨pmBx11_7_⟩, ⟨pmBx11_0_⟩⟩
    · rw [if_neg c22] at H
      have c22b0 : (t227 == t230) = false := beq_eq_false_iff_ne.mpr c22
      have c22b1 : (t227 != t230) = true := bne_iff_ne.mpr c22
      (first | rw [c22b0] | (simp only [i64_w, i32_w]; rw [c22b0]) | skip)
      have H' := Aside0.mk H
      clear H
      go_wp2
      go_meet
      case rel => exact ⟨_, (true), (by first | rfl | (simp; done) | (simp [*]; done)), H', ⟨by first | omega | exact Nat.le_refl _⟩, ⟨pmBx11_1_⟩, ⟨pmBx11_6_⟩, ⟨pmBx11_7_⟩, ⟨pmBx11_0_⟩⟩
  case rest =>
    clear HC9
    try clear c1
    try clear c2
    try clear p2
    try clear c5
    try clear c13
    try clear c14
    try clear c16
    try clear c22
    try clear c22b0
    try clear c22b1
    try clear c23
    try clear c23b0
    try clear c23b1
    try clear c23b2
    try clear hcz15_0
    try clear hcz15_1
    try clear hcz17_0
    try clear hcz17_1
    try clear hcz19_0
    try clear hcz19_1
    try clear hcz20_0
    try clear hcz20_1
    try clear hfz15_0
    try clear hfz15_1
    try clear hfz17_0
    try clear hfz17_1
    try clear hfz19_0
    try clear hfz19_1
    try clear hfz20_0
    try clear hfz20_1
    obtain ⟨kq, x51_8, rfl, HA, HJ8, BK224, BK225, BK226, HB⟩ := hcut
    cases kq with
    | zero => exact absurd HA.out (by simp [parterrelaw29_SelfLimits.j0])
    | succ kj8 =>
      have H := HA.out
      clear HA
      simp only [parterrelaw29_SelfLimits.j0] at H
      by_cases c24 : x51_8 = true
      · subst c24
        have H1 : (some false) = some r := by rw [if_pos rfl] at H; exact H
        clear H
        have H := H1
        clear H1
        obtain rfl := Option.some.inj H
        go_wp2
        go_ret
        exact ⟨by first | rfl | (simp [errW_none, errW_some] <;> rfl) | (simp [*, errW_none, errW_some] <;> rfl), by repeat (first | (with_reducible first | exact HB.out | apply below_alloc | apply pw_below_drewN | apply below_drew1 | refine below_set ?_ GE224.out | refine below_set ?_ GE225.out | refine below_set ?_ GE226.out) | exact HB.out)⟩
      · replace c24 := Bool.eq_false_iff.mpr c24
        subst c24
        have H1 : ((self_Clamp.f kj8 a0 a1_0 a1_1 a2_0 a2_1 a3 a4 a5_0 a5_1).bind fun bt233 => ((parterreref29_Clamp.f kj8 a0 a1_0 a1_1 a2_0 a2_1 a3 a4 a5_0 a5_1).bind fun bt235 => (if bt233.1 = bt235.1 then (if bt233.2 = bt235.2 then ((parterrelaw29_lives.f kj8).bind fun t237 => (some t237)) else (some false)) else (some false)))) = some r := by rw [if_neg (show ¬ (false = true) by decide)] at H; exact H
        clear H
        have H := H1
        clear H1
        replace H := Option.bind_eq_some_iff.mp H
        obtain ⟨⟨t233, t234⟩, A250, H⟩ := H
        replace H : ((parterreref29_Clamp.f kj8 a0 a1_0 a1_1 a2_0 a2_1 a3 a4 a5_0 a5_1).bind fun bt235 => (if t233 = bt235.1 then (if t234 = bt235.2 then ((parterrelaw29_lives.f kj8).bind fun t237 => (some t237)) else (some false)) else (some false))) = some r := H
        have A25 := Aside0.mk A250
        clear A250
        replace H := Option.bind_eq_some_iff.mp H
        obtain ⟨⟨t235, t236⟩, A260, H⟩ := H
        replace H : (if t233 = t235 then (if t234 = t236 then ((parterrelaw29_lives.f kj8).bind fun t237 => (some t237)) else (some false)) else (some false)) = some r := H
        have A26 := Aside0.mk A260
        clear A260
        by_cases c27 : t233 = t235
        · rw [if_pos c27] at H
          have c27b0 : (t233 == t235) = true := beq_iff_eq.mpr c27
          have c27b1 : (t233 != t235) = false := bne_eq_false_iff_eq.mpr c27
          clear c27
          by_cases c28 : t234 = t236
          · rw [if_pos c28] at H
            have c28b0 : (t234 == t236) = true := beq_iff_eq.mpr c28
            have c28b1 : (t234 != t236) = false := bne_eq_false_iff_eq.mpr c28
            clear c28
            replace H := Option.bind_eq_some_iff.mp H
            obtain ⟨t237, A290, H⟩ := H
            replace H : (some t237) = some r := H
            have A29 := Aside0.mk A290
            clear A290
            obtain rfl := Option.some.inj H
            have hnb30 := NB224_225.out
            have hnc30 := NB225_224.out
            have hnb31 := NB224_226.out
            have hnc31 := NB226_224.out
            have hcz32_0 : wc.cell? ⟨gb224, 0, none⟩ = some (.int .i64 a1_0) := (blk_cell BK224.out 0).trans rfl
            have hcz32_1 : wc.cell? ⟨gb224, 1, none⟩ = some (.int .i64 a1_1) := (blk_cell BK224.out 1).trans rfl
            have hfz32_0 := blk_frozen BK224.out 0
            have hfz32_1 := blk_frozen BK224.out 1
            have hnb33 := NB225_226.out
            have hnc33 := NB226_225.out
            have hcz34_0 : wc.cell? ⟨gb225, 0, none⟩ = some (.int .i64 a2_0) := (blk_cell BK225.out 0).trans rfl
            have hcz34_1 : wc.cell? ⟨gb225, 1, none⟩ = some (.int .i64 a2_1) := (blk_cell BK225.out 1).trans rfl
            have hfz34_0 := blk_frozen BK225.out 0
            have hfz34_1 := blk_frozen BK225.out 1
            have hcz35_0 : wc.cell? ⟨gb226, 0, none⟩ = some (.int .i64 a5_0) := (blk_cell BK226.out 0).trans rfl
            have hcz35_1 : wc.cell? ⟨gb226, 1, none⟩ = some (.int .i64 a5_1) := (blk_cell BK226.out 1).trans rfl
            have hfz35_0 := blk_frozen BK226.out 0
            have hfz35_1 := blk_frozen BK226.out 1
            go_wp2_with (first | ((with_reducible refine gate_callee (f := 15) rfl ?_); refine goesL_ (some 59) rfl rfl Try.func15 (by kernel_rfl) rfl #[.int .i64 a0, .agg #[.int .i64 a1_0, .int .i64 a1_1], .agg #[.int .i64 a2_0, .int .i64 a2_1], .int .i64 a3, .bool a4, .agg #[.int .i64 a5_0, .int .i64 a5_1]] rfl pmBx11_5_ ?_; (with_reducible refine (self_Clamp.calls kj8 a0 a1_0 a1_1 a2_0 a2_1 a3 a4 a5_0 a5_1 t233 t234 _ A25.out).mono ?_); rintro e w36 ⟨rfl, hb⟩; refine ⟨_, rfl, ?_⟩; have n0_ := Aside0.mk (blk_below (g := gb224) (o := .cells #[.int .i64 a1_0, .int .i64 a1_1] 31 (0, 0)) pmBx11_1_ hb); have n1_ := Aside0.mk (blk_below (g := gb225) (o := .cells #[.int .i64 a2_0, .int .i64 a2_1] 31 (0, 0)) pmBx11_6_ hb); have n2_ := Aside0.mk (blk_below (g := gb226) (o := .cells #[.int .i64 a5_0, .int .i64 a5_1] 46 (0, 0)) pmBx11_7_ hb); have n3_ := Aside0.mk (below_step pmBx11_0_ hb); clear BK224; clear BK225; clear BK226; clear HB; have BK224 := n0_; have BK225 := n1_; have BK226 := n2_; have HB := n3_; clear n0_ n1_ n2_ n3_; (try clear hb); (try clear hb2); (try clear hk); (try clear hi); have hcz37_0 : w36.cell? ⟨gb224, 0, none⟩ = some (.int .i64 a1_0) := (blk_cell BK224.out 0).trans rfl; have hcz37_1 : w36.cell? ⟨gb224, 1, none⟩ = some (.int .i64 a1_1) := (blk_cell BK224.out 1).trans rfl; have hfz37_0 := blk_frozen BK224.out 0; have hfz37_1 := blk_frozen BK224.out 1; have hcz38_0 : w36.cell? ⟨gb225, 0, none⟩ = some (.int .i64 a2_0) := (blk_cell BK225.out 0).trans rfl; have hcz38_1 : w36.cell? ⟨gb225, 1, none⟩ = some (.int .i64 a2_1) := (blk_cell BK225.out 1).trans rfl; have hfz38_0 := blk_frozen BK225.out 0; have hfz38_1 := blk_frozen BK225.out 1; have hcz39_0 : w36.cell? ⟨gb226, 0, none⟩ = some (.int .i64 a5_0) := (blk_cell BK226.out 0).trans rfl; have hcz39_1 : w36.cell? ⟨gb226, 1, none⟩ = some (.int .i64 a5_1) := (blk_cell BK226.out 1).trans rfl; have hfz39_0 := blk_frozen BK226.out 0; have hfz39_1 := blk_frozen BK226.out 1) | ((with_reducible refine gate_callee (f := 16) rfl ?_); refine goesL_ (some 69) rfl rfl Try.func16 (by kernel_rfl) rfl #[.int .i64 a0, .agg #[.int .i64 a1_0, .int .i64 a1_1], .agg #[.int .i64 a2_0, .int .i64 a2_1], .int .i64 a3, .bool a4, .agg #[.int .i64 a5_0, .int .i64 a5_1]] rfl pmBx11_5_ ?_; (with_reducible refine (parterreref29_Clamp.calls kj8 a0 a1_0 a1_1 a2_0 a2_1 a3 a4 a5_0 a5_1 t235 t236 _ A26.out).mono ?_); rintro e w40 ⟨rfl, hb⟩; refine ⟨_, rfl, ?_⟩; have n0_ := Aside0.mk (blk_below (g := gb224) (o := .cells #[.int .i64 a1_0, .int .i64 a1_1] 31 (0, 0)) pmBx11_1_ hb); have n1_ := Aside0.mk (blk_below (g := gb225) (o := .cells #[.int .i64 a2_0, .int .i64 a2_1] 31 (0, 0)) pmBx11_6_ hb); have n2_ := Aside0.mk (blk_below (g := gb226) (o := .cells #[.int .i64 a5_0, .int .i64 a5_1] 46 (0, 0)) pmBx11_7_ hb); have n3_ := Aside0.mk (below_step pmBx11_0_ hb); clear BK224; clear BK225; clear BK226; clear HB; have BK224 := n0_; have BK225 := n1_; have BK226 := n2_; have HB := n3_; clear n0_ n1_ n2_ n3_; (try clear hb); (try clear hb2); (try clear hk); (try clear hi)) | (go_at_call 10; (with_reducible refine (parterrelaw29_lives.calls kj8  t237 _ A29.out).mono ?_); rintro e w41 ⟨rfl, hb⟩; have n0_ := Aside0.mk (blk_below (g := gb224) (o := .cells #[.int .i64 a1_0, .int .i64 a1_1] 31 (0, 0)) pmBx11_1_ hb); have n1_ := Aside0.mk (blk_below (g := gb225) (o := .cells #[.int .i64 a2_0, .int .i64 a2_1] 31 (0, 0)) pmBx11_6_ hb); have n2_ := Aside0.mk (blk_below (g := gb226) (o := .cells #[.int .i64 a5_0, .int .i64 a5_1] 46 (0, 0)) pmBx11_7_ hb); have n3_ := Aside0.mk (below_step pmBx11_0_ hb); clear BK224; clear BK225; clear BK226; clear HB; have BK224 := n0_; have BK225 := n1_; have BK226 := n2_; have HB := n3_; clear n0_ n1_ n2_ n3_; (try clear hb); (try clear hb2); (try clear hk); (try clear hi)))
            go_ret
            exact ⟨by first | rfl | (simp [errW_none, errW_some] <;> rfl) | (simp [*, errW_none, errW_some] <;> rfl), by repeat (first | (with_reducible first | exact HB.out | apply below_alloc | apply pw_below_drewN | apply below_drew1 | refine below_set ?_ GE224.out | refine below_set ?_ GE225.out | refine below_set ?_ GE226.out) | exact HB.out)⟩
          · rw [if_neg c28] at H
            have c28b0 : (t234 == t236) = false := beq_eq_false_iff_ne.mpr c28
            have c28b1 : (t234 != t236) = true := bne_iff_ne.mpr c28
            obtain rfl := Option.some.inj H
            have hnb42 := NB224_225.out
            have hnc42 := NB225_224.out
            have hnb43 := NB224_226.out
            have hnc43 := NB226_224.out
            have hcz44_0 : wc.cell? ⟨gb224, 0, none⟩ = some (.int .i64 a1_0) := (blk_cell BK224.out 0).trans rfl
            have hcz44_1 : wc.cell? ⟨gb224, 1, none⟩ = some (.int .i64 a1_1) := (blk_cell BK224.out 1).trans rfl
            have hfz44_0 := blk_frozen BK224.out 0
            have hfz44_1 := blk_frozen BK224.out 1
            have hnb45 := NB225_226.out
            have hnc45 := NB226_225.out
            have hcz46_0 : wc.cell? ⟨gb225, 0, none⟩ = some (.int .i64 a2_0) := (blk_cell BK225.out 0).trans rfl
            have hcz46_1 : wc.cell? ⟨gb225, 1, none⟩ = some (.int .i64 a2_1) := (blk_cell BK225.out 1).trans rfl
            have hfz46_0 := blk_frozen BK225.out 0
            have hfz46_1 := blk_frozen BK225.out 1
            have hcz47_0 : wc.cell? ⟨gb226, 0, none⟩ = some (.int .i64 a5_0) := (blk_cell BK226.out 0).trans rfl
            have hcz47_1 : wc.cell? ⟨gb226, 1, none⟩ = some (.int .i64 a5_1) := (blk_cell BK226.out 1).trans rfl
            have hfz47_0 := blk_frozen BK226.out 0
            have hfz47_1 := blk_frozen BK226.out 1
            go_wp2_with (first | ((with_reducible refine gate_callee (f := 15) rfl ?_); refine goesL_ (some 59) rfl rfl Try.func15 (by kernel_rfl) rfl #[.int .i64 a0, .agg #[.int .i64 a1_0, .int .i64 a1_1], .agg #[.int .i64 a2_0, .int .i64 a2_1], .int .i64 a3, .bool a4, .agg #[.int .i64 a5_0, .int .i64 a5_1]] rfl pmBx11_5_ ?_; (with_reducible refine (self_Clamp.calls kj8 a0 a1_0 a1_1 a2_0 a2_1 a3 a4 a5_0 a5_1 t233 t234 _ A25.out).mono ?_); rintro e w48 ⟨rfl, hb⟩; refine ⟨_, rfl, ?_⟩; have n0_ := Aside0.mk (blk_below (g := gb224) (o := .cells #[.int .i64 a1_0, .int .i64 a1_1] 31 (0, 0)) pmBx11_1_ hb); have n1_ := Aside0.mk (blk_below (g := gb225) (o := .cells #[.int .i64 a2_0, .int .i64 a2_1] 31 (0, 0)) pmBx11_6_ hb); have n2_ := Aside0.mk (blk_below (g := gb226) (o := .cells #[.int .i64 a5_0, .int .i64 a5_1] 46 (0, 0)) pmBx11_7_ hb); have n3_ := Aside0.mk (below_step pmBx11_0_ hb); clear BK224; clear BK225; clear BK226; clear HB; have BK224 := n0_; have BK225 := n1_; have BK226 := n2_; have HB := n3_; clear n0_ n1_ n2_ n3_; (try clear hb); (try clear hb2); (try clear hk); (try clear hi); have hcz49_0 : w48.cell? ⟨gb224, 0, none⟩ = some (.int .i64 a1_0) := (blk_cell BK224.out 0).trans rfl; have hcz49_1 : w48.cell? ⟨gb224, 1, none⟩ = some (.int .i64 a1_1) := (blk_cell BK224.out 1).trans rfl; have hfz49_0 := blk_frozen BK224.out 0; have hfz49_1 := blk_frozen BK224.out 1; have hcz50_0 : w48.cell? ⟨gb225, 0, none⟩ = some (.int .i64 a2_0) := (blk_cell BK225.out 0).trans rfl; have hcz50_1 : w48.cell? ⟨gb225, 1, none⟩ = some (.int .i64 a2_1) := (blk_cell BK225.out 1).trans rfl; have hfz50_0 := blk_frozen BK225.out 0; have hfz50_1 := blk_frozen BK225.out 1; have hcz51_0 : w48.cell? ⟨gb226, 0, none⟩ = some (.int .i64 a5_0) := (blk_cell BK226.out 0).trans rfl; have hcz51_1 : w48.cell? ⟨gb226, 1, none⟩ = some (.int .i64 a5_1) := (blk_cell BK226.out 1).trans rfl; have hfz51_0 := blk_frozen BK226.out 0; have hfz51_1 := blk_frozen BK226.out 1) | ((with_reducible refine gate_callee (f := 16) rfl ?_); refine goesL_ (some 69) rfl rfl Try.func16 (by kernel_rfl) rfl #[.int .i64 a0, .agg #[.int .i64 a1_0, .int .i64 a1_1], .agg #[.int .i64 a2_0, .int .i64 a2_1], .int .i64 a3, .bool a4, .agg #[.int .i64 a5_0, .int .i64 a5_1]] rfl pmBx11_5_ ?_; (with_reducible refine (parterreref29_Clamp.calls kj8 a0 a1_0 a1_1 a2_0 a2_1 a3 a4 a5_0 a5_1 t235 t236 _ A26.out).mono ?_); rintro e w52 ⟨rfl, hb⟩; refine ⟨_, rfl, ?_⟩; have n0_ := Aside0.mk (blk_below (g := gb224) (o := .cells #[.int .i64 a1_0, .int .i64 a1_1] 31 (0, 0)) pmBx11_1_ hb); have n1_ := Aside0.mk (blk_below (g := gb225) (o := .cells #[.int .i64 a2_0, .int .i64 a2_1] 31 (0, 0)) pmBx11_6_ hb); have n2_ := Aside0.mk (blk_below (g := gb226) (o := .cells #[.int .i64 a5_0, .int .i64 a5_1] 46 (0, 0)) pmBx11_7_ hb); have n3_ := Aside0.mk (below_step pmBx11_0_ hb); clear BK224; clear BK225; clear BK226; clear HB; have BK224 := n0_; have BK225 := n1_; have BK226 := n2_; have HB := n3_; clear n0_ n1_ n2_ n3_; (try clear hb); (try clear hb2); (try clear hk); (try clear hi)))
            go_ret
            exact ⟨by first | rfl | (simp [errW_none, errW_some] <;> rfl) | (simp [*, errW_none, errW_some] <;> rfl), by repeat (first | (with_reducible first | exact HB.out | apply below_alloc | apply pw_below_drewN | apply below_drew1 | refine below_set ?_ GE224.out | refine below_set ?_ GE225.out | refine below_set ?_ GE226.out) | exact HB.out)⟩
        · rw [if_neg c27] at H
          have c27b0 : (t233 == t235) = false := beq_eq_false_iff_ne.mpr c27
          have c27b1 : (t233 != t235) = true := bne_iff_ne.mpr c27
          obtain rfl := Option.some.inj H
          have hnb53 := NB224_225.out
          have hnc53 := NB225_224.out
          have hnb54 := NB224_226.out
          have hnc54 := NB226_224.out
          have hcz55_0 : wc.cell? ⟨gb224, 0, none⟩ = some (.int .i64 a1_0) := (blk_cell BK224.out 0).trans rfl
          have hcz55_1 : wc.cell? ⟨gb224, 1, none⟩ = some (.int .i64 a1_1) := (blk_cell BK224.out 1).trans rfl
          have hfz55_0 := blk_frozen BK224.out 0
          have hfz55_1 := blk_frozen BK224.out 1
          have hnb56 := NB225_226.out
          have hnc56 := NB226_225.out
          have hcz57_0 : wc.cell? ⟨gb225, 0, none⟩ = some (.int .i64 a2_0) := (blk_cell BK225.out 0).trans rfl
          have hcz57_1 : wc.cell? ⟨gb225, 1, none⟩ = some (.int .i64 a2_1) := (blk_cell BK225.out 1).trans rfl
          have hfz57_0 := blk_frozen BK225.out 0
          have hfz57_1 := blk_frozen BK225.out 1
          have hcz58_0 : wc.cell? ⟨gb226, 0, none⟩ = some (.int .i64 a5_0) := (blk_cell BK226.out 0).trans rfl
          have hcz58_1 : wc.cell? ⟨gb226, 1, none⟩ = some (.int .i64 a5_1) := (blk_cell BK226.out 1).trans rfl
          have hfz58_0 := blk_frozen BK226.out 0
          have hfz58_1 := blk_frozen BK226.out 1
          go_wp2_with (first | ((with_reducible refine gate_callee (f := 15) rfl ?_); refine goesL_ (some 59) rfl rfl Try.func15 (by kernel_rfl) rfl #[.int .i64 a0, .agg #[.int .i64 a1_0, .int .i64 a1_1], .agg #[.int .i64 a2_0, .int .i64 a2_1], .int .i64 a3, .bool a4, .agg #[.int .i64 a5_0, .int .i64 a5_1]] rfl pmBx11_5_ ?_; (with_reducible refine (self_Clamp.calls kj8 a0 a1_0 a1_1 a2_0 a2_1 a3 a4 a5_0 a5_1 t233 t234 _ A25.out).mono ?_); rintro e w59 ⟨rfl, hb⟩; refine ⟨_, rfl, ?_⟩; have n0_ := Aside0.mk (blk_below (g := gb224) (o := .cells #[.int .i64 a1_0, .int .i64 a1_1] 31 (0, 0)) pmBx11_1_ hb); have n1_ := Aside0.mk (blk_below (g := gb225) (o := .cells #[.int .i64 a2_0, .int .i64 a2_1] 31 (0, 0)) pmBx11_6_ hb); have n2_ := Aside0.mk (blk_below (g := gb226) (o := .cells #[.int .i64 a5_0, .int .i64 a5_1] 46 (0, 0)) pmBx11_7_ hb); have n3_ := Aside0.mk (below_step pmBx11_0_ hb); clear BK224; clear BK225; clear BK226; clear HB; have BK224 := n0_; have BK225 := n1_; have BK226 := n2_; have HB := n3_; clear n0_ n1_ n2_ n3_; (try clear hb); (try clear hb2); (try clear hk); (try clear hi); have hcz60_0 : w59.cell? ⟨gb224, 0, none⟩ = some (.int .i64 a1_0) := (blk_cell BK224.out 0).trans rfl; have hcz60_1 : w59.cell? ⟨gb224, 1, none⟩ = some (.int .i64 a1_1) := (blk_cell BK224.out 1).trans rfl; have hfz60_0 := blk_frozen BK224.out 0; have hfz60_1 := blk_frozen BK224.out 1; have hcz61_0 : w59.cell? ⟨gb225, 0, none⟩ = some (.int .i64 a2_0) := (blk_cell BK225.out 0).trans rfl; have hcz61_1 : w59.cell? ⟨gb225, 1, none⟩ = some (.int .i64 a2_1) := (blk_cell BK225.out 1).trans rfl; have hfz61_0 := blk_frozen BK225.out 0; have hfz61_1 := blk_frozen BK225.out 1; have hcz62_0 : w59.cell? ⟨gb226, 0, none⟩ = some (.int .i64 a5_0) := (blk_cell BK226.out 0).trans rfl; have hcz62_1 : w59.cell? ⟨gb226, 1, none⟩ = some (.int .i64 a5_1) := (blk_cell BK226.out 1).trans rfl; have hfz62_0 := blk_frozen BK226.out 0; have hfz62_1 := blk_frozen BK226.out 1) | ((with_reducible refine gate_callee (f := 16) rfl ?_); refine goesL_ (some 69) rfl rfl Try.func16 (by kernel_rfl) rfl #[.int .i64 a0, .agg #[.int .i64 a1_0, .int .i64 a1_1], .agg #[.int .i64 a2_0, .int .i64 a2_1], .int .i64 a3, .bool a4, .agg #[.int .i64 a5_0, .int .i64 a5_1]] rfl pmBx11_5_ ?_; (with_reducible refine (parterreref29_Clamp.calls kj8 a0 a1_0 a1_1 a2_0 a2_1 a3 a4 a5_0 a5_1 t235 t236 _ A26.out).mono ?_); rintro e w63 ⟨rfl, hb⟩; refine ⟨_, rfl, ?_⟩; have n0_ := Aside0.mk (blk_below (g := gb224) (o := .cells #[.int .i64 a1_0, .int .i64 a1_1] 31 (0, 0)) pmBx11_1_ hb); have n1_ := Aside0.mk (blk_below (g := gb225) (o := .cells #[.int .i64 a2_0, .int .i64 a2_1] 31 (0, 0)) pmBx11_6_ hb); have n2_ := Aside0.mk (blk_below (g := gb226) (o := .cells #[.int .i64 a5_0, .int .i64 a5_1] 46 (0, 0)) pmBx11_7_ hb); have n3_ := Aside0.mk (below_step pmBx11_0_ hb); clear BK224; clear BK225; clear BK226; clear HB; have BK224 := n0_; have BK225 := n1_; have BK226 := n2_; have HB := n3_; clear n0_ n1_ n2_ n3_; (try clear hb); (try clear hb2); (try clear hk); (try clear hi)))
          go_ret
          exact ⟨by first | rfl | (simp [errW_none, errW_some] <;> rfl) | (simp [*, errW_none, errW_some] <;> rfl), by repeat (first | (with_reducible first | exact HB.out | apply below_alloc | apply pw_below_drewN | apply below_drew1 | refine below_set ?_ GE224.out | refine below_set ?_ GE225.out | refine below_set ?_ GE226.out) | exact HB.out)⟩
/-- Well formed, field by field. -/
def wf31 (x : S31) : Prop := (Lit.int .i64 x.f0).wf = true ∧ ((Lit.int .i64 x.f1).wf = true)
/-- Well formed, field by field. -/
def wf46 (x : S46) : Prop := (Lit.int .i64 x.f0).wf = true ∧ ((Lit.int .i64 x.f1).wf = true)
/-- THE ONE PURE STATEMENT of parterrelaw29_SelfLimits. -/
def parterrelaw29_SelfLimits.Pure : Prop := ∀ (a0 : Int) (a1_0 : Int) (a1_1 : Int) (a2_0 : Int) (a2_1 : Int) (a3 : Int) (a4 : Bool) (a5_0 : Int) (a5_1 : Int), (Lit.int .i64 a0).wf = true → (Lit.int .i64 a1_0).wf = true → (Lit.int .i64 a1_1).wf = true → (Lit.int .i64 a2_0).wf = true → (Lit.int .i64 a2_1).wf = true → (Lit.int .i64 a3).wf = true → (Lit.int .i64 a5_0).wf = true → (Lit.int .i64 a5_1).wf = true → ∃ k, parterrelaw29_SelfLimits.f k a0 a1_0 a1_1 a2_0 a2_1 a3 a4 a5_0 a5_1 = some true

/-! ### fixed_Clamp: function 34 -/
def fixed_Clamp.f (a0 : Int) (a1 : Int) (a2 : Int) : Option (Int) := some (mx a1 (mn a0 a2))
set_option maxHeartbeats 8000000 in
set_option maxRecDepth 100000 in
theorem fixed_Clamp.calls (a0 : Int) (a1 : Int) (a2 : Int) (r : Int) (w : World) (h : fixed_Clamp.f a0 a1 a2 = some r) :
    Calls Try.prog 34 #[.int .i64 a0, .int .i64 a1, .int .i64 a2] w fun e w' => e = .returned (.int .i64 r) ∧ Below w.heap.size w w' := by
  have HB := Aside0.mk (Below.refl w.heap.size w)
  have H : (some (mx a1 (mn a0 a2))) = some r := h
  clear h
  obtain ⟨ji4, hji4⟩ : ∃ j_ : Int, (mn a0 a2) = j_ := ⟨_, rfl⟩
  replace H : (some (mx a1 (ji4))) = some r := by first | (rw [hji4] at H; exact H) | (simp only [hji4] at H ⊢; exact H)
  have hji4_ : (if a2 < a0 then a2 else a0) = ji4 := hji4
  obtain ⟨ji5, hji5⟩ : ∃ j_ : Int, (mx a1 (ji4)) = j_ := ⟨_, rfl⟩
  replace H : (some ji5) = some r := by first | (rw [hji5] at H; exact H) | (simp only [hji5] at H ⊢; exact H)
  have hji5_ : (if a1 < (ji4) then (ji4) else a1) = ji5 := hji5
  obtain rfl := Option.some.inj H
  go_enter Try.func34, Try.ntmps34
  go_wp2
  go_ret
  exact ⟨by first | rfl | (simp [errW_none, errW_some] <;> rfl) | (simp only [← hji4, ← hji5]; first | rfl | (simp [errW_none, errW_some] <;> rfl)) | (simp [*, errW_none, errW_some] <;> rfl), by repeat (first | (with_reducible first | exact HB.out | apply below_alloc | apply pw_below_drewN | apply below_drew1) | exact HB.out)⟩

/-! ### self_Inner: function 19 -/
def self_Inner.f (a0 : Int) (a1_0 : Bool) (a1_1 : Int) (a2_0 : Bool) (a2_1 : Int) : Option (Int) := (self_isSize.f a0).bind fun t240 => (if t240 = true then ((self_isMargin.f a1_0 a1_1).bind fun t241 => (if t241 = true then ((self_isMargin.f a2_0 a2_1).bind fun t242 => (if t242 = true then ((fixed_Clamp.f (wrap64 ((wrap64 (a0 - a1_1)) - a2_1)) 0 68719476736).bind fun t243 => (some t243)) else (some 0))) else (some 0))) else (some 0))
set_option maxHeartbeats 8000000 in
set_option maxRecDepth 100000 in
theorem self_Inner.calls (a0 : Int) (a1_0 : Bool) (a1_1 : Int) (a2_0 : Bool) (a2_1 : Int) (r : Int) (w : World) (h : self_Inner.f a0 a1_0 a1_1 a2_0 a2_1 = some r) :
    Calls Try.prog 19 #[.int .i64 a0, .agg #[.bool a1_0, .int .i64 a1_1], .agg #[.bool a2_0, .int .i64 a2_1]] w fun e w' => e = .returned (.int .i64 r) ∧ Below w.heap.size w w' := by
  have hu23 := Try.underlying23
  have HB := Aside0.mk (Below.refl w.heap.size w)
  have H : ((self_isSize.f a0).bind fun t240 => (if t240 = true then ((self_isMargin.f a1_0 a1_1).bind fun t241 => (if t241 = true then ((self_isMargin.f a2_0 a2_1).bind fun t242 => (if t242 = true then ((fixed_Clamp.f (wrap64 ((wrap64 (a0 - a1_1)) - a2_1)) 0 68719476736).bind fun t243 => (some t243)) else (some 0))) else (some 0))) else (some 0))) = some r := h
  clear h
  replace H := Option.bind_eq_some_iff.mp H
  obtain ⟨t240, A40, H⟩ := H
  replace H : (if t240 = true then ((self_isMargin.f a1_0 a1_1).bind fun t241 => (if t241 = true then ((self_isMargin.f a2_0 a2_1).bind fun t242 => (if t242 = true then ((fixed_Clamp.f (wrap64 ((wrap64 (a0 - a1_1)) - a2_1)) 0 68719476736).bind fun t243 => (some t243)) else (some 0))) else (some 0))) else (some 0)) = some r := H
  have A4 := Aside0.mk A40
  clear A40
  by_cases c5 : t240 = true
  · subst c5
    have H1 : ((self_isMargin.f a1_0 a1_1).bind fun t241 => (if t241 = true then ((self_isMargin.f a2_0 a2_1).bind fun t242 => (if t242 = true then ((fixed_Clamp.f (wrap64 ((wrap64 (a0 - a1_1)) - a2_1)) 0 68719476736).bind fun t243 => (some t243)) else (some 0))) else (some 0))) = some r := by rw [if_pos rfl] at H; exact H
    clear H
    have H := H1
    clear H1
    replace H := Option.bind_eq_some_iff.mp H
    obtain ⟨t241, A60, H⟩ := H
    replace H : (if t241 = true then ((self_isMargin.f a2_0 a2_1).bind fun t242 => (if t242 = true then ((fixed_Clamp.f (wrap64 ((wrap64 (a0 - a1_1)) - a2_1)) 0 68719476736).bind fun t243 => (some t243)) else (some 0))) else (some 0)) = some r := H
    have A6 := Aside0.mk A60
    clear A60
    by_cases c7 : t241 = true
    · subst c7
      have H1 : ((self_isMargin.f a2_0 a2_1).bind fun t242 => (if t242 = true then ((fixed_Clamp.f (wrap64 ((wrap64 (a0 - a1_1)) - a2_1)) 0 68719476736).bind fun t243 => (some t243)) else (some 0))) = some r := by rw [if_pos rfl] at H; exact H
      clear H
      have H := H1
      clear H1
      replace H := Option.bind_eq_some_iff.mp H
      obtain ⟨t242, A80, H⟩ := H
      replace H : (if t242 = true then ((fixed_Clamp.f (wrap64 ((wrap64 (a0 - a1_1)) - a2_1)) 0 68719476736).bind fun t243 => (some t243)) else (some 0)) = some r := H
      have A8 := Aside0.mk A80
      clear A80
      by_cases c9 : t242 = true
      · subst c9
        have H1 : ((fixed_Clamp.f (wrap64 ((wrap64 (a0 - a1_1)) - a2_1)) 0 68719476736).bind fun t243 => (some t243)) = some r := by rw [if_pos rfl] at H; exact H
        clear H
        have H := H1
        clear H1
        replace H := Option.bind_eq_some_iff.mp H
        obtain ⟨t243, A100, H⟩ := H
        replace H : (some t243) = some r := H
        have A10 := Aside0.mk A100
        clear A100
        obtain rfl := Option.some.inj H
        go_enter Try.func19, Try.ntmps19
        go_wp2_with (first | ((with_reducible refine gate_dst (N := 4) rfl ?_); refine box_event ?hg (N := 4) ?hd (cs := #[.bool a1_0, .int .i64 a1_1]) (t := 23) ?hr ?_; (case hd => rfl); (case hg => rfl); (case hr => first | (go_simp; done) | (go_simp; rfl)); intro gb238 hg w11 hbox hb; have n0_ := Aside0.mk (below_step pmBx11_3_ hb); have n1_ := Aside0.mk (hbox); have n2_ := Aside0.mk ((pmBx11_13_ : w.heap.size ≤ gb238)); have n3_ := Aside0.mk ((pmBx11_13_ : w.heap.size ≤ gb238)); clear HB; have HB := n0_; have BK238 := n1_; have GW238 := n2_; have GE238 := n3_; clear n0_ n1_ n2_ n3_; clear hb hbox hg) | ((with_reducible refine gate_dst (N := 5) rfl ?_); refine box_event ?hg (N := 5) ?hd (cs := #[.bool a2_0, .int .i64 a2_1]) (t := 23) ?hr ?_; (case hd => rfl); (case hg => rfl); (case hr => first | (go_simp; done) | (go_simp; rfl)); intro gb239 hg w12 hbox hb; have n0_ := Aside0.mk (blk_below (g := gb238) (o := .cells #[.bool a1_0, .int .i64 a1_1] 23 (0, 0)) pmBx11_2_ hb); have n1_ := Aside0.mk (below_step pmBx11_4_ hb); have n2_ := Aside0.mk (hbox); have n3_ := Aside0.mk ((pmBx11_15_ : w.heap.size ≤ gb239)); have n4_ := Aside0.mk ((pmBx11_15_ : w.heap.size ≤ gb239)); have n5_ := Aside0.mk ((pmBx11_11_ : gb238 ≠ gb239)); have n6_ := Aside0.mk ((pmBx11_12_ : gb239 ≠ gb238)); clear BK238; clear HB; have BK238 := n0_; have HB := n1_; have BK239 := n2_; have GW239 := n3_; have GE239 := n4_; have NB238_239 := n5_; have NB239_238 := n6_; clear n0_ n1_ n2_ n3_ n4_ n5_ n6_; clear hb hbox hg) | ((with_reducible refine gate_callee (f := 22) rfl ?_); refine goesL_ (some 8) rfl rfl Try.func22 (by kernel_rfl) rfl #[.int .i64 a0] rfl pmBx11_5_ ?_; (with_reducible refine (self_isSize.calls a0 true _ A4.out).mono ?_); rintro e w' ⟨rfl, ⟨nd, rfl⟩⟩; refine ⟨_, rfl, ?_⟩; have hnb13 := NB238_239.out; have hnc13 := NB239_238.out; have hcz14_0 : w12.cell? ⟨gb238, 0, none⟩ = some (.bool a1_0) := (blk_cell BK238.out 0).trans rfl; have hcz14_1 : w12.cell? ⟨gb238, 1, none⟩ = some (.int .i64 a1_1) := (blk_cell BK238.out 1).trans rfl; have hfz14_0 := blk_frozen BK238.out 0; have hfz14_1 := blk_frozen BK238.out 1) | (go_at_call 23; (with_reducible refine (self_isMargin.calls a1_0 a1_1 true _ A6.out).mono ?_); rintro e w15 ⟨rfl, hb⟩; have n0_ := Aside0.mk (blk_below (g := gb238) (o := .cells #[.bool a1_0, .int .i64 a1_1] 23 (0, 0)) pmBx11_2_ hb); have n1_ := Aside0.mk (blk_below (g := gb239) (o := .cells #[.bool a2_0, .int .i64 a2_1] 23 (0, 0)) pmBx11_9_ hb); have n2_ := Aside0.mk (below_step pmBx11_8_ hb); clear BK238; clear BK239; clear HB; have BK238 := n0_; have BK239 := n1_; have HB := n2_; clear n0_ n1_ n2_; (try clear hb); (try clear hb2); (try clear hk); (try clear hi); have hcz16_0 : w15.cell? ⟨gb239, 0, none⟩ = some (.bool a2_0) := (blk_cell BK239.out 0).trans rfl; have hcz16_1 : w15.cell? ⟨gb239, 1, none⟩ = some (.int .i64 a2_1) := (blk_cell BK239.out 1).trans rfl; have hfz16_0 := blk_frozen BK239.out 0; have hfz16_1 := blk_frozen BK239.out 1) | (go_at_call 23; (with_reducible refine (self_isMargin.calls a2_0 a2_1 true _ A8.out).mono ?_); rintro e w17 ⟨rfl, hb⟩; have n0_ := Aside0.mk (blk_below (g := gb238) (o := .cells #[.bool a1_0, .int .i64 a1_1] 23 (0, 0)) pmBx11_2_ hb); have n1_ := Aside0.mk (blk_below (g := gb239) (o := .cells #[.bool a2_0, .int .i64 a2_1] 23 (0, 0)) pmBx11_9_ hb); have n2_ := Aside0.mk (below_step pmBx11_8_ hb); clear BK238; clear BK239; clear HB; have BK238 := n0_; have BK239 := n1_; have HB := n2_; clear n0_ n1_ n2_; (try clear hb); (try clear hb2); (try clear hk); (try clear hi); have hcz18_0 : w17.cell? ⟨gb238, 0, none⟩ = some (.bool a1_0) := (blk_cell BK238.out 0).trans rfl; have hcz18_1 : w17.cell? ⟨gb238, 1, none⟩ = some (.int .i64 a1_1) := (blk_cell BK238.out 1).trans rfl; have hfz18_0 := blk_frozen BK238.out 0; have hfz18_1 := blk_frozen BK238.out 1; have hcz19_0 : w17.cell? ⟨gb239, 0, none⟩ = some (.bool a2_0) := (blk_cell BK239.out 0).trans rfl; have hcz19_1 : w17.cell? ⟨gb239, 1, none⟩ = some (.int .i64 a2_1) := (blk_cell BK239.out 1).trans rfl; have hfz19_0 := blk_frozen BK239.out 0; have hfz19_1 := blk_frozen BK239.out 1) | ((with_reducible refine gate_callee (f := 34) rfl ?_); refine goesL_ (some 27) rfl rfl Try.func34 (by kernel_rfl) rfl #[.int .i64 (wrap64 ((wrap64 (a0 - a1_1)) - a2_1)), .int .i64 0, .int .i64 68719476736] rfl pmBx11_5_ ?_; (with_reducible refine (fixed_Clamp.calls (wrap64 ((wrap64 (a0 - a1_1)) - a2_1)) 0 68719476736 t243 _ A10.out).mono ?_); rintro e w20 ⟨rfl, hb⟩; refine ⟨_, rfl, ?_⟩; have n0_ := Aside0.mk (blk_below (g := gb238) (o := .cells #[.bool a1_0, .int .i64 a1_1] 23 (0, 0)) pmBx11_2_ hb); have n1_ := Aside0.mk (blk_below (g := gb239) (o := .cells #[.bool a2_0, .int .i64 a2_1] 23 (0, 0)) pmBx11_9_ hb); have n2_ := Aside0.mk (below_step pmBx11_8_ hb); clear BK238; clear BK239; clear HB; have BK238 := n0_; have BK239 := n1_; have HB := n2_; clear n0_ n1_ n2_; (try clear hb); (try clear hb2); (try clear hk); (try clear hi)))
        go_ret
        exact ⟨by first | rfl | (simp [errW_none, errW_some] <;> rfl) | (simp [*, errW_none, errW_some] <;> rfl), by repeat (first | (with_reducible first | exact HB.out | apply below_alloc | apply pw_below_drewN | apply below_drew1 | refine below_set ?_ GE238.out | refine below_set ?_ GE239.out) | exact HB.out)⟩
      · replace c9 := Bool.eq_false_iff.mpr c9
        subst c9
        have H1 : (some 0) = some r := by rw [if_neg (show ¬ (false = true) by decide)] at H; exact H
        clear H
        have H := H1
        clear H1
        obtain rfl := Option.some.inj H
        go_enter Try.func19, Try.ntmps19
        go_wp2_with (first | ((with_reducible refine gate_dst (N := 4) rfl ?_); refine box_event ?hg (N := 4) ?hd (cs := #[.bool a1_0, .int .i64 a1_1]) (t := 23) ?hr ?_; (case hd => rfl); (case hg => rfl); (case hr => first | (go_simp; done) | (go_simp; rfl)); intro gb238 hg w21 hbox hb; have n0_ := Aside0.mk (below_step pmBx11_3_ hb); have n1_ := Aside0.mk (hbox); have n2_ := Aside0.mk ((pmBx11_13_ : w.heap.size ≤ gb238)); have n3_ := Aside0.mk ((pmBx11_13_ : w.heap.size ≤ gb238)); clear HB; have HB := n0_; have BK238 := n1_; have GW238 := n2_; have GE238 := n3_; clear n0_ n1_ n2_ n3_; clear hb hbox hg) | ((with_reducible refine gate_dst (N := 5) rfl ?_); refine box_event ?hg (N := 5) ?hd (cs := #[.bool a2_0, .int .i64 a2_1]) (t := 23) ?hr ?_; (case hd => rfl); (case hg => rfl); (case hr => first | (go_simp; done) | (go_simp; rfl)); intro gb239 hg w22 hbox hb; have n0_ := Aside0.mk (blk_below (g := gb238) (o := .cells #[.bool a1_0, .int .i64 a1_1] 23 (0, 0)) pmBx11_2_ hb); have n1_ := Aside0.mk (below_step pmBx11_4_ hb); have n2_ := Aside0.mk (hbox); have n3_ := Aside0.mk ((pmBx11_15_ : w.heap.size ≤ gb239)); have n4_ := Aside0.mk ((pmBx11_15_ : w.heap.size ≤ gb239)); have n5_ := Aside0.mk ((pmBx11_11_ : gb238 ≠ gb239)); have n6_ := Aside0.mk ((pmBx11_12_ : gb239 ≠ gb238)); clear BK238; clear HB; have BK238 := n0_; have HB := n1_; have BK239 := n2_; have GW239 := n3_; have GE239 := n4_; have NB238_239 := n5_; have NB239_238 := n6_; clear n0_ n1_ n2_ n3_ n4_ n5_ n6_; clear hb hbox hg) | ((with_reducible refine gate_callee (f := 22) rfl ?_); refine goesL_ (some 8) rfl rfl Try.func22 (by kernel_rfl) rfl #[.int .i64 a0] rfl pmBx11_5_ ?_; (with_reducible refine (self_isSize.calls a0 true _ A4.out).mono ?_); rintro e w' ⟨rfl, ⟨nd, rfl⟩⟩; refine ⟨_, rfl, ?_⟩; have hnb23 := NB238_239.out; have hnc23 := NB239_238.out; have hcz24_0 : w22.cell? ⟨gb238, 0, none⟩ = some (.bool a1_0) := (blk_cell BK238.out 0).trans rfl; have hcz24_1 : w22.cell? ⟨gb238, 1, none⟩ = some (.int .i64 a1_1) := (blk_cell BK238.out 1).trans rfl; have hfz24_0 := blk_frozen BK238.out 0; have hfz24_1 := blk_frozen BK238.out 1) | (go_at_call 23; (with_reducible refine (self_isMargin.calls a1_0 a1_1 true _ A6.out).mono ?_); rintro e w25 ⟨rfl, hb⟩; have n0_ := Aside0.mk (blk_below (g := gb238) (o := .cells #[.bool a1_0, .int .i64 a1_1] 23 (0, 0)) pmBx11_2_ hb); have n1_ := Aside0.mk (blk_below (g := gb239) (o := .cells #[.bool a2_0, .int .i64 a2_1] 23 (0, 0)) pmBx11_9_ hb); have n2_ := Aside0.mk (below_step pmBx11_8_ hb); clear BK238; clear BK239; clear HB; have BK238 := n0_; have BK239 := n1_; have HB := n2_; clear n0_ n1_ n2_; (try clear hb); (try clear hb2); (try clear hk); (try clear hi); have hcz26_0 : w25.cell? ⟨gb239, 0, none⟩ = some (.bool a2_0) := (blk_cell BK239.out 0).trans rfl; have hcz26_1 : w25.cell? ⟨gb239, 1, none⟩ = some (.int .i64 a2_1) := (blk_cell BK239.out 1).trans rfl; have hfz26_0 := blk_frozen BK239.out 0; have hfz26_1 := blk_frozen BK239.out 1) | (go_at_call 23; (with_reducible refine (self_isMargin.calls a2_0 a2_1 false _ A8.out).mono ?_); rintro e w27 ⟨rfl, hb⟩; have n0_ := Aside0.mk (blk_below (g := gb238) (o := .cells #[.bool a1_0, .int .i64 a1_1] 23 (0, 0)) pmBx11_2_ hb); have n1_ := Aside0.mk (blk_below (g := gb239) (o := .cells #[.bool a2_0, .int .i64 a2_1] 23 (0, 0)) pmBx11_9_ hb); have n2_ := Aside0.mk (below_step pmBx11_8_ hb); clear BK238; clear BK239; clear HB; have BK238 := n0_; have BK239 := n1_; have HB := n2_; clear n0_ n1_ n2_; (try clear hb); (try clear hb2); (try clear hk); (try clear hi)))
        go_ret
        exact ⟨by first | rfl | (simp [errW_none, errW_some] <;> rfl) | (simp [*, errW_none, errW_some] <;> rfl), by repeat (first | (with_reducible first | exact HB.out | apply below_alloc | apply pw_below_drewN | apply below_drew1 | refine below_set ?_ GE238.out | refine below_set ?_ GE239.out) | exact HB.out)⟩
    · replace c7 := Bool.eq_false_iff.mpr c7
      subst c7
      have H1 : (some 0) = some r := by rw [if_neg (show ¬ (false = true) by decide)] at H; exact H
      clear H
      have H := H1
      clear H1
      obtain rfl := Option.some.inj H
      go_enter Try.func19, Try.ntmps19
      go_wp2_with (first | ((with_reducible refine gate_dst (N := 4) rfl ?_); refine box_event ?hg (N := 4) ?hd (cs := #[.bool a1_0, .int .i64 a1_1]) (t := 23) ?hr ?_; (case hd => rfl); (case hg => rfl); (case hr => first | (go_simp; done) | (go_simp; rfl)); intro gb238 hg w28 hbox hb; have n0_ := Aside0.mk (below_step pmBx11_3_ hb); have n1_ := Aside0.mk (hbox); have n2_ := Aside0.mk ((pmBx11_13_ : w.heap.size ≤ gb238)); have n3_ := Aside0.mk ((pmBx11_13_ : w.heap.size ≤ gb238)); clear HB; have HB := n0_; have BK238 := n1_; have GW238 := n2_; have GE238 := n3_; clear n0_ n1_ n2_ n3_; clear hb hbox hg) | ((with_reducible refine gate_dst (N := 5) rfl ?_); refine box_event ?hg (N := 5) ?hd (cs := #[.bool a2_0, .int .i64 a2_1]) (t := 23) ?hr ?_; (case hd => rfl); (case hg => rfl); (case hr => first | (go_simp; done) | (go_simp; rfl)); intro gb239 hg w29 hbox hb; have n0_ := Aside0.mk (blk_below (g := gb238) (o := .cells #[.bool a1_0, .int .i64 a1_1] 23 (0, 0)) pmBx11_2_ hb); have n1_ := Aside0.mk (below_step pmBx11_4_ hb); have n2_ := Aside0.mk (hbox); have n3_ := Aside0.mk ((pmBx11_15_ : w.heap.size ≤ gb239)); have n4_ := Aside0.mk ((pmBx11_15_ : w.heap.size ≤ gb239)); have n5_ := Aside0.mk ((pmBx11_11_ : gb238 ≠ gb239)); have n6_ := Aside0.mk ((pmBx11_12_ : gb239 ≠ gb238)); clear BK238; clear HB; have BK238 := n0_; have HB := n1_; have BK239 := n2_; have GW239 := n3_; have GE239 := n4_; have NB238_239 := n5_; have NB239_238 := n6_; clear n0_ n1_ n2_ n3_ n4_ n5_ n6_; clear hb hbox hg) | ((with_reducible refine gate_callee (f := 22) rfl ?_); refine goesL_ (some 8) rfl rfl Try.func22 (by kernel_rfl) rfl #[.int .i64 a0] rfl pmBx11_5_ ?_; (with_reducible refine (self_isSize.calls a0 true _ A4.out).mono ?_); rintro e w' ⟨rfl, ⟨nd, rfl⟩⟩; refine ⟨_, rfl, ?_⟩; have hnb30 := NB238_239.out; have hnc30 := NB239_238.out; have hcz31_0 : w29.cell? ⟨gb238, 0, none⟩ = some (.bool a1_0) := (blk_cell BK238.out 0).trans rfl; have hcz31_1 : w29.cell? ⟨gb238, 1, none⟩ = some (.int .i64 a1_1) := (blk_cell BK238.out 1).trans rfl; have hfz31_0 := blk_frozen BK238.out 0; have hfz31_1 := blk_frozen BK238.out 1) | (go_at_call 23; (with_reducible refine (self_isMargin.calls a1_0 a1_1 false _ A6.out).mono ?_); rintro e w32 ⟨rfl, hb⟩; have n0_ := Aside0.mk (blk_below (g := gb238) (o := .cells #[.bool a1_0, .int .i64 a1_1] 23 (0, 0)) pmBx11_2_ hb); have n1_ := Aside0.mk (blk_below (g := gb239) (o := .cells #[.bool a2_0, .int .i64 a2_1] 23 (0, 0)) pmBx11_9_ hb); have n2_ := Aside0.mk (below_step pmBx11_8_ hb); clear BK238; clear BK239; clear HB; have BK238 := n0_; have BK239 := n1_; have HB := n2_; clear n0_ n1_ n2_; (try clear hb); (try clear hb2); (try clear hk); (try clear hi)))
      go_ret
      exact ⟨by first | rfl | (simp [errW_none, errW_some] <;> rfl) | (simp [*, errW_none, errW_some] <;> rfl), by repeat (first | (with_reducible first | exact HB.out | apply below_alloc | apply pw_below_drewN | apply below_drew1 | refine below_set ?_ GE238.out | refine below_set ?_ GE239.out) | exact HB.out)⟩
  · replace c5 := Bool.eq_false_iff.mpr c5
    subst c5
    have H1 : (some 0) = some r := by rw [if_neg (show ¬ (false = true) by decide)] at H; exact H
    clear H
    have H := H1
    clear H1
    obtain rfl := Option.some.inj H
    go_enter Try.func19, Try.ntmps19
    go_wp2_with (first | ((with_reducible refine gate_dst (N := 4) rfl ?_); refine box_event ?hg (N := 4) ?hd (cs := #[.bool a1_0, .int .i64 a1_1]) (t := 23) ?hr ?_; (case hd => rfl); (case hg => rfl); (case hr => first | (go_simp; done) | (go_simp; rfl)); intro gb238 hg w33 hbox hb; have n0_ := Aside0.mk (below_step pmBx11_3_ hb); have n1_ := Aside0.mk (hbox); have n2_ := Aside0.mk ((pmBx11_13_ : w.heap.size ≤ gb238)); have n3_ := Aside0.mk ((pmBx11_13_ : w.heap.size ≤ gb238)); clear HB; have HB := n0_; have BK238 := n1_; have GW238 := n2_; have GE238 := n3_; clear n0_ n1_ n2_ n3_; clear hb hbox hg) | ((with_reducible refine gate_dst (N := 5) rfl ?_); refine box_event ?hg (N := 5) ?hd (cs := #[.bool a2_0, .int .i64 a2_1]) (t := 23) ?hr ?_; (case hd => rfl); (case hg => rfl); (case hr => first | (go_simp; done) | (go_simp; rfl)); intro gb239 hg w34 hbox hb; have n0_ := Aside0.mk (blk_below (g := gb238) (o := .cells #[.bool a1_0, .int .i64 a1_1] 23 (0, 0)) pmBx11_2_ hb); have n1_ := Aside0.mk (below_step pmBx11_4_ hb); have n2_ := Aside0.mk (hbox); have n3_ := Aside0.mk ((pmBx11_15_ : w.heap.size ≤ gb239)); have n4_ := Aside0.mk ((pmBx11_15_ : w.heap.size ≤ gb239)); have n5_ := Aside0.mk ((pmBx11_11_ : gb238 ≠ gb239)); have n6_ := Aside0.mk ((pmBx11_12_ : gb239 ≠ gb238)); clear BK238; clear HB; have BK238 := n0_; have HB := n1_; have BK239 := n2_; have GW239 := n3_; have GE239 := n4_; have NB238_239 := n5_; have NB239_238 := n6_; clear n0_ n1_ n2_ n3_ n4_ n5_ n6_; clear hb hbox hg) | ((with_reducible refine gate_callee (f := 22) rfl ?_); refine goesL_ (some 8) rfl rfl Try.func22 (by kernel_rfl) rfl #[.int .i64 a0] rfl pmBx11_5_ ?_; (with_reducible refine (self_isSize.calls a0 false _ A4.out).mono ?_); rintro e w' ⟨rfl, ⟨nd, rfl⟩⟩; refine ⟨_, rfl, ?_⟩))
    go_ret
    exact ⟨by first | rfl | (simp [errW_none, errW_some] <;> rfl) | (simp [*, errW_none, errW_some] <;> rfl), by repeat (first | (with_reducible first | exact HB.out | apply below_alloc | apply pw_below_drewN | apply below_drew1 | refine below_set ?_ GE238.out | refine below_set ?_ GE239.out) | exact HB.out)⟩

end Go.Proofs.Ytbenanokgfphmaa.PB
