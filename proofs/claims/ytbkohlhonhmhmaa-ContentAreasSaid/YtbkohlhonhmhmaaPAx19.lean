-- written by a program of this session (a print of the translation with changes of its own)
import Derived.Test.YtbkohlhonhmhmaaPAx0
import Derived.Test.YtbkohlhonhmhmaaPAx12
import Derived.Test.YtbkohlhonhmhmaaPAx14
import Derived.Test.YtbkohlhonhmhmaaPAx22
namespace Go.Proofs.Ytbkohlhonhmhmaa.PA
open Go.RowKit Go.Proofs.YtbkohlhonhmhmaaW.PrintWords Go.Proofs.YtbkohlhonhmhmaaW.PrintLast Go.Proofs.YtbkohlhonhmhmaaW.PrintMore
theorem pmAx19_0_ {P : Prop} (h : P := by repeat (first | (with_reducible first | exact HB.out | apply below_alloc | apply pw_below_drewN | apply below_drew1 | refine below_set ?_ GE370.out) | exact HB.out)) : P := h
theorem pmAx19_1_ {P : Prop} (h : P := by (with_reducible repeat (first | refine blk_drewN ?_ _ | refine blk_drew ?_ | refine blk_alloc ?_ _)); exact BK370.out) : P := h
theorem pmAx19_2_ {P : Prop} (h : P := by repeat (first | (with_reducible first | exact HB.out | apply below_alloc | apply pw_below_drewN | apply below_drew1) | exact HB.out)) : P := h
theorem pmAx19_3_ {P : Prop} (h : P := by (try simp only [List.map_toArray, List.map_cons, List.map_nil]); first | done | rfl | (simp only [List.length_drop, List.length_take]; rfl)) : P := h
theorem pmAx19_4_ {P : Prop} (h : P := by repeat (first | (with_reducible first | exact HB.out | apply below_alloc | apply pw_below_drewN | apply below_drew1 | refine below_set ?_ GE363.out) | exact HB.out)) : P := h
theorem pmAx19_5_ {P : Prop} (h : P := by (with_reducible repeat (first | refine blk_drewN ?_ _ | refine blk_drew ?_ | refine blk_alloc ?_ _)); exact BK363.out) : P := h
theorem pmAx19_6_ {P : Prop} (h : P := by first | (with_reducible assumption) | assumption) : P := h
theorem pmAx19_7_ {P : Prop} (h : P := by first | rfl | (simp; done) | (simp [*]; done)) : P := h
theorem pmAx19_8_ {P : Prop} (h : P := by rw [hg]; exact (below_size pmAx19_2_)) : P := h
theorem pmAx19_9_ {P : Prop} (h : P := by first | omega | exact Nat.le_refl _) : P := h
attribute [local go_sem] run_index_arr max2_int min2_int max_two min_two max_three min_three max_four min_four   -- for this text's walks alone
set_option linter.unusedVariables false
set_option linter.unusedSimpArgs false

/-! ### parterreref28_Area: function 13 -/
def parterreref28_Area.j0 : Nat → List Int → List Int → Int → Int → Bool → Int → List (S57) → List Bool → List Int → Option (Int × Int × Int)
  | 0, _, _, _, _, _, _, _, _, _ => none
  | k + 1, x1, x2, x3, x4, x51, x364000, x364001, x364002, x364003 => if x51 = true then (some (0, 0, 2)) else (if 0 ≤ (wrap64 (x3 - x364000)) then (if (wrap64 (x3 - x364000)) < (x1.length : Int) then (if 0 ≤ (wrap64 ((wrap64 (x4 - 1)) - x364000)) then (if (wrap64 ((wrap64 (x4 - 1)) - x364000)) < (x1.length : Int) then (if (wrap64 ((wrap64 (x4 - 1)) - x364000)) < (x2.length : Int) then ((parterreref01_Is.f (wrap64 ((wrap64 ((rd x1 (wrap64 ((wrap64 (x4 - 1)) - x364000))) + (rd x2 (wrap64 ((wrap64 (x4 - 1)) - x364000))))) - (rd x1 (wrap64 (x3 - x364000)))))).bind fun t369 => (if t369 = true then (some (rd x1 (wrap64 (x3 - x364000)), wrap64 ((wrap64 ((rd x1 (wrap64 ((wrap64 (x4 - 1)) - x364000))) + (rd x2 (wrap64 ((wrap64 (x4 - 1)) - x364000))))) - (rd x1 (wrap64 (x3 - x364000)))), 0)) else (some (0, 0, 10)))) else (none)) else (none)) else (none)) else (none)) else (none))
def parterreref28_Area.f (k : Nat) (a0_0 : Int) (l0_1 : List (S57)) (l0_2 : List Bool) (l0_3 : List Int) (l1 : List Int) (l2 : List Int) (a3 : Int) (a4 : Int) : Option (Int × Int × Int) := (parterreref27_Sum.f k a0_0 l0_1 l0_2 l0_3 l2).bind fun bt364 => (if bt364.2 = 2 then (parterreref28_Area.j0 k l1 l2 a3 a4 true a0_0 l0_1 l0_2 l0_3) else (if (l1.length : Int) = (l2.length : Int) then (if a3 ≥ a4 then (parterreref28_Area.j0 k l1 l2 a3 a4 true a0_0 l0_1 l0_2 l0_3) else (if a3 < a0_0 then (parterreref28_Area.j0 k l1 l2 a3 a4 true a0_0 l0_1 l0_2 l0_3) else (parterreref28_Area.j0 k l1 l2 a3 a4 (decide (a4 > (wrap64 (a0_0 + (l2.length : Int))))) a0_0 l0_1 l0_2 l0_3))) else (parterreref28_Area.j0 k l1 l2 a3 a4 true a0_0 l0_1 l0_2 l0_3)))
theorem parterreref28_Area.mono_l : ∀ k, (∀ y0 y1 y2 y3 y4 y5 y6 y7 y8, LeO (parterreref28_Area.j0 k y0 y1 y2 y3 y4 y5 y6 y7 y8) (parterreref28_Area.j0 (k + 1) y0 y1 y2 y3 y4 y5 y6 y7 y8))
  | 0 => fun _ _ _ _ _ _ _ _ _ r h => by simp [parterreref28_Area.j0] at h
  | k + 1 => by
    have ih0 := parterreref28_Area.mono_l k
    · intro y0 y1 y2 y3 y4 y5 y6 y7 y8
      unfold parterreref28_Area.j0
      repeat' first
      | (with_reducible exact ih0 _ _ _ _ _ _ _ _ _)
      | (with_reducible exact parterreref27_Sum.mono _ _ _ _ _ _)
      | (with_reducible exact LeO.refl _)
      | (with_reducible exact LeO.none _)
      | (with_reducible refine LeO.ite ?_ ?_)
      | (with_reducible refine LeO.bind ?_ (fun _ => ?_))
      | exact ih0 _ _ _ _ _ _ _ _ _
      | exact parterreref27_Sum.mono _ _ _ _ _ _
      | exact LeO.none _
      | refine LeO.ite ?_ ?_
      | refine LeO.bind ?_ (fun _ => ?_)
theorem parterreref28_Area.mono : ∀ a0 a1 a2 a3 a4 a5 a6 a7 k, LeO (parterreref28_Area.f k a0 a1 a2 a3 a4 a5 a6 a7) (parterreref28_Area.f (k + 1) a0 a1 a2 a3 a4 a5 a6 a7) := by
  intro a0 a1 a2 a3 a4 a5 a6 a7 k
  have ih0 := parterreref28_Area.mono_l k
  unfold parterreref28_Area.f
  repeat' first
      | (with_reducible exact ih0 _ _ _ _ _ _ _ _ _)
      | (with_reducible exact parterreref27_Sum.mono _ _ _ _ _ _)
      | (with_reducible exact LeO.refl _)
      | (with_reducible exact LeO.none _)
      | (with_reducible refine LeO.ite ?_ ?_)
      | (with_reducible refine LeO.bind ?_ (fun _ => ?_))
      | exact ih0 _ _ _ _ _ _ _ _ _
      | exact parterreref27_Sum.mono _ _ _ _ _ _
      | exact LeO.none _
      | refine LeO.ite ?_ ?_
      | refine LeO.bind ?_ (fun _ => ?_)
set_option maxHeartbeats 8000000 in
set_option maxRecDepth 100000 in
theorem parterreref28_Area.calls (k : Nat) (a0_0 : Int) (A0_1 : Option Addr) (c0_1 : Nat) (l0_1 : List (S57)) (A0_2 : Option Addr) (c0_2 : Nat) (l0_2 : List Bool) (A0_3 : Option Addr) (c0_3 : Nat) (l0_3 : List Int) (A1 : Option Addr) (c1 : Nat) (l1 : List Int) (A2 : Option Addr) (c2 : Nat) (l2 : List Int) (a3 : Int) (a4 : Int) (r1 : Int) (r2 : Int) (r3 : Int) (w : World) (hr0_1 : Kd.C k57 w A0_1 l0_1.length l0_1) (hc0_1 : l0_1.length ≤ c0_1) (hr0_2 : Kd.C Kd.bool w A0_2 l0_2.length l0_2) (hc0_2 : l0_2.length ≤ c0_2) (hr0_3 : Kd.C (Kd.int .i64) w A0_3 l0_3.length l0_3) (hc0_3 : l0_3.length ≤ c0_3) (hr1 : Kd.C (Kd.int .i64) w A1 l1.length l1) (hc1 : l1.length ≤ c1) (hr2 : Kd.C (Kd.int .i64) w A2 l2.length l2) (hc2 : l2.length ≤ c2) (h : parterreref28_Area.f k a0_0 l0_1 l0_2 l0_3 l1 l2 a3 a4 = some (r1, r2, r3)) :
    Calls Try.prog 13 #[.agg #[.int .i64 a0_0, .slice A0_1 l0_1.length c0_1, .slice A0_2 l0_2.length c0_2, .slice A0_3 l0_3.length c0_3], .slice A1 l1.length c1, .slice A2 l2.length c2, .int .i64 a3, .int .i64 a4] w fun e w' => e = .returned (.tuple #[.int .i64 r1, .int .i64 r2, .int .i64 r3]) ∧ Below w.heap.size w w' := by
  have hu26 := Try.underlying26
  have HR0_1 := Aside0.mk hr0_1
  have HC0_1 := Aside0.mk hc0_1
  clear hr0_1 hc0_1
  have HR0_2 := Aside0.mk hr0_2
  have HC0_2 := Aside0.mk hc0_2
  clear hr0_2 hc0_2
  have HR0_3 := Aside0.mk hr0_3
  have HC0_3 := Aside0.mk hc0_3
  clear hr0_3 hc0_3
  have HR1 := Aside0.mk hr1
  have HC1 := Aside0.mk hc1
  clear hr1 hc1
  have HR2 := Aside0.mk hr2
  have HC2 := Aside0.mk hc2
  clear hr2 hc2
  have HB := Aside0.mk (Below.refl w.heap.size w)
  have H : ((parterreref27_Sum.f k a0_0 l0_1 l0_2 l0_3 l2).bind fun bt364 => (if bt364.2 = 2 then (parterreref28_Area.j0 k l1 l2 a3 a4 true a0_0 l0_1 l0_2 l0_3) else (if (l1.length : Int) = (l2.length : Int) then (if a3 ≥ a4 then (parterreref28_Area.j0 k l1 l2 a3 a4 true a0_0 l0_1 l0_2 l0_3) else (if a3 < a0_0 then (parterreref28_Area.j0 k l1 l2 a3 a4 true a0_0 l0_1 l0_2 l0_3) else (parterreref28_Area.j0 k l1 l2 a3 a4 (decide (a4 > (wrap64 (a0_0 + (l2.length : Int))))) a0_0 l0_1 l0_2 l0_3))) else (parterreref28_Area.j0 k l1 l2 a3 a4 true a0_0 l0_1 l0_2 l0_3)))) = some (r1, r2, r3) := h
  clear h
  replace H := Option.bind_eq_some_iff.mp H
  obtain ⟨⟨t364, t365⟩, A60, H⟩ := H
  replace H : (if t365 = 2 then (parterreref28_Area.j0 k l1 l2 a3 a4 true a0_0 l0_1 l0_2 l0_3) else (if (l1.length : Int) = (l2.length : Int) then (if a3 ≥ a4 then (parterreref28_Area.j0 k l1 l2 a3 a4 true a0_0 l0_1 l0_2 l0_3) else (if a3 < a0_0 then (parterreref28_Area.j0 k l1 l2 a3 a4 true a0_0 l0_1 l0_2 l0_3) else (parterreref28_Area.j0 k l1 l2 a3 a4 (decide (a4 > (wrap64 (a0_0 + (l2.length : Int))))) a0_0 l0_1 l0_2 l0_3))) else (parterreref28_Area.j0 k l1 l2 a3 a4 true a0_0 l0_1 l0_2 l0_3))) = some (r1, r2, r3) := H
  have A6 := Aside0.mk A60
  clear A60
  have HC7 := Aside0.mk H
  clear H
  go_enter Try.func13, Try.ntmps13
  go_upto_region 2 with (first | ((with_reducible refine gate_dst (N := 5) rfl ?_); (try (refine gate_guard (by rfl) ?_; dsimp only)); refine box_event ?hg (N := 5) ?hd (cs := #[.int .i64 a0_0, .slice A0_1 l0_1.length c0_1, .slice A0_2 l0_2.length c0_2, .slice A0_3 l0_3.length c0_3]) (t := 26) ?hr ?_; (case hd => rfl); (case hg => rfl); (case hr => first | (go_simp; done) | (go_simp; rfl)); intro gb363 hg w8 hbox hb; have n0_ := Aside0.mk (below_step pmAx19_2_ hb); have n1_ := Aside0.mk (hbox); have n2_ := Aside0.mk ((pmAx19_8_ : w.heap.size ≤ gb363)); have n3_ := Aside0.mk ((pmAx19_8_ : w.heap.size ≤ gb363)); clear HB; have HB := n0_; have BK363 := n1_; have GW363 := n2_; have GE363 := n3_; clear n0_ n1_ n2_ n3_; clear hb hbox hg; have hcz9_0 : w8.cell? ⟨gb363, 0, none⟩ = some (.int .i64 a0_0) := (blk_cell BK363.out 0).trans rfl; have hcz9_1 : w8.cell? ⟨gb363, 1, none⟩ = some (.slice A0_1 l0_1.length c0_1) := (blk_cell BK363.out 1).trans rfl; have hcz9_2 : w8.cell? ⟨gb363, 2, none⟩ = some (.slice A0_2 l0_2.length c0_2) := (blk_cell BK363.out 2).trans rfl; have hcz9_3 : w8.cell? ⟨gb363, 3, none⟩ = some (.slice A0_3 l0_3.length c0_3) := (blk_cell BK363.out 3).trans rfl; have hfz9_0 := blk_frozen BK363.out 0; have hfz9_1 := blk_frozen BK363.out 1; have hfz9_2 := blk_frozen BK363.out 2; have hfz9_3 := blk_frozen BK363.out 3) | (go_at_call 20; (with_reducible refine (parterreref27_Sum.calls k a0_0 _ _ l0_1 _ _ l0_2 _ _ l0_3 _ _ l2 t364 t365 _ ?side1 ?side2 ?side3 ?side4 ?side5 ?side6 ?side7 ?side8 A6.out).mono ?_); (case side1 => repeat (first | exact (Kd.C_below HR0_1.out HB.out) | (with_reducible refine Kd.C_alloc ?_ _) | (with_reducible refine Kd.C_drewN ?_ _) | (with_reducible refine Kd.C_drew ?_))); (case side2 => exact HC0_1.out); (case side3 => repeat (first | exact (Kd.C_below HR0_2.out HB.out) | (with_reducible refine Kd.C_alloc ?_ _) | (with_reducible refine Kd.C_drewN ?_ _) | (with_reducible refine Kd.C_drew ?_))); (case side4 => exact HC0_2.out); (case side5 => repeat (first | exact (Kd.C_below HR0_3.out HB.out) | (with_reducible refine Kd.C_alloc ?_ _) | (with_reducible refine Kd.C_drewN ?_ _) | (with_reducible refine Kd.C_drew ?_))); (case side6 => exact HC0_3.out); (case side7 => repeat (first | exact (Kd.C_below HR2.out HB.out) | (with_reducible refine Kd.C_alloc ?_ _) | (with_reducible refine Kd.C_drewN ?_ _) | (with_reducible refine Kd.C_drew ?_))); (case side8 => exact HC2.out); rintro e w10 ⟨rfl, hb⟩; have n0_ := Aside0.mk (blk_below (g := gb363) (o := .cells #[.int .i64 a0_0, .slice A0_1 l0_1.length c0_1, .slice A0_2 l0_2.length c0_2, .slice A0_3 l0_3.length c0_3] 26 (0, 0)) pmAx19_5_ hb); have n1_ := Aside0.mk (below_step pmAx19_4_ hb); clear BK363; clear HB; have BK363 := n0_; have HB := n1_; clear n0_ n1_; (try clear hb); (try clear hb2); (try clear hk); (try clear hi)))
  repeat (go_quiet (first | ((with_reducible refine gate_dst (N := 5) rfl ?_); (try (refine gate_guard (by rfl) ?_; dsimp only)); refine box_event ?hg (N := 5) ?hd (cs := #[.int .i64 a0_0, .slice A0_1 l0_1.length c0_1, .slice A0_2 l0_2.length c0_2, .slice A0_3 l0_3.length c0_3]) (t := 26) ?hr ?_; (case hd => rfl); (case hg => rfl); (case hr => first | (go_simp; done) | (go_simp; rfl)); intro gb363 hg w8 hbox hb; have n0_ := Aside0.mk (below_step pmAx19_2_ hb); have n1_ := Aside0.mk (hbox); have n2_ := Aside0.mk ((pmAx19_8_ : w.heap.size ≤ gb363)); have n3_ := Aside0.mk ((pmAx19_8_ : w.heap.size ≤ gb363)); clear HB; have HB := n0_; have BK363 := n1_; have GW363 := n2_; have GE363 := n3_; clear n0_ n1_ n2_ n3_; clear hb hbox hg; have hcz9_0 : w8.cell? ⟨gb363, 0, none⟩ = some (.int .i64 a0_0) := (blk_cell BK363.out 0).trans rfl; have hcz9_1 : w8.cell? ⟨gb363, 1, none⟩ = some (.slice A0_1 l0_1.length c0_1) := (blk_cell BK363.out 1).trans rfl; have hcz9_2 : w8.cell? ⟨gb363, 2, none⟩ = some (.slice A0_2 l0_2.length c0_2) := (blk_cell BK363.out 2).trans rfl; have hcz9_3 : w8.cell? ⟨gb363, 3, none⟩ = some (.slice A0_3 l0_3.length c0_3) := (blk_cell BK363.out 3).trans rfl; have hfz9_0 := blk_frozen BK363.out 0; have hfz9_1 := blk_frozen BK363.out 1; have hfz9_2 := blk_frozen BK363.out 2; have hfz9_3 := blk_frozen BK363.out 3) | (go_at_call 20; (with_reducible refine (parterreref27_Sum.calls k a0_0 _ _ l0_1 _ _ l0_2 _ _ l0_3 _ _ l2 t364 t365 _ ?side1 ?side2 ?side3 ?side4 ?side5 ?side6 ?side7 ?side8 A6.out).mono ?_); (case side1 => repeat (first | exact (Kd.C_below HR0_1.out HB.out) | (with_reducible refine Kd.C_alloc ?_ _) | (with_reducible refine Kd.C_drewN ?_ _) | (with_reducible refine Kd.C_drew ?_))); (case side2 => exact HC0_1.out); (case side3 => repeat (first | exact (Kd.C_below HR0_2.out HB.out) | (with_reducible refine Kd.C_alloc ?_ _) | (with_reducible refine Kd.C_drewN ?_ _) | (with_reducible refine Kd.C_drew ?_))); (case side4 => exact HC0_2.out); (case side5 => repeat (first | exact (Kd.C_below HR0_3.out HB.out) | (with_reducible refine Kd.C_alloc ?_ _) | (with_reducible refine Kd.C_drewN ?_ _) | (with_reducible refine Kd.C_drew ?_))); (case side6 => exact HC0_3.out); (case side7 => repeat (first | exact (Kd.C_below HR2.out HB.out) | (with_reducible refine Kd.C_alloc ?_ _) | (with_reducible refine Kd.C_drewN ?_ _) | (with_reducible refine Kd.C_drew ?_))); (case side8 => exact HC2.out); rintro e w10 ⟨rfl, hb⟩; have n0_ := Aside0.mk (blk_below (g := gb363) (o := .cells #[.int .i64 a0_0, .slice A0_1 l0_1.length c0_1, .slice A0_2 l0_2.length c0_2, .slice A0_3 l0_3.length c0_3] 26 (0, 0)) pmAx19_5_ hb); have n1_ := Aside0.mk (below_step pmAx19_4_ hb); clear BK363; clear HB; have BK363 := n0_; have HB := n1_; clear n0_ n1_; (try clear hb); (try clear hb2); (try clear hk); (try clear hi))); go_upto_region 2 with (first | ((with_reducible refine gate_dst (N := 5) rfl ?_); (try (refine gate_guard (by rfl) ?_; dsimp only)); refine box_event ?hg (N := 5) ?hd (cs := #[.int .i64 a0_0, .slice A0_1 l0_1.length c0_1, .slice A0_2 l0_2.length c0_2, .slice A0_3 l0_3.length c0_3]) (t := 26) ?hr ?_; (case hd => rfl); (case hg => rfl); (case hr => first | (go_simp; done) | (go_simp; rfl)); intro gb363 hg w8 hbox hb; have n0_ := Aside0.mk (below_step pmAx19_2_ hb); have n1_ := Aside0.mk (hbox); have n2_ := Aside0.mk ((pmAx19_8_ : w.heap.size ≤ gb363)); have n3_ := Aside0.mk ((pmAx19_8_ : w.heap.size ≤ gb363)); clear HB; have HB := n0_; have BK363 := n1_; have GW363 := n2_; have GE363 := n3_; clear n0_ n1_ n2_ n3_; clear hb hbox hg; have hcz9_0 : w8.cell? ⟨gb363, 0, none⟩ = some (.int .i64 a0_0) := (blk_cell BK363.out 0).trans rfl; have hcz9_1 : w8.cell? ⟨gb363, 1, none⟩ = some (.slice A0_1 l0_1.length c0_1) := (blk_cell BK363.out 1).trans rfl; have hcz9_2 : w8.cell? ⟨gb363, 2, none⟩ = some (.slice A0_2 l0_2.length c0_2) := (blk_cell BK363.out 2).trans rfl; have hcz9_3 : w8.cell? ⟨gb363, 3, none⟩ = some (.slice A0_3 l0_3.length c0_3) := (blk_cell BK363.out 3).trans rfl; have hfz9_0 := blk_frozen BK363.out 0; have hfz9_1 := blk_frozen BK363.out 1; have hfz9_2 := blk_frozen BK363.out 2; have hfz9_3 := blk_frozen BK363.out 3) | (go_at_call 20; (with_reducible refine (parterreref27_Sum.calls k a0_0 _ _ l0_1 _ _ l0_2 _ _ l0_3 _ _ l2 t364 t365 _ ?side1 ?side2 ?side3 ?side4 ?side5 ?side6 ?side7 ?side8 A6.out).mono ?_); (case side1 => repeat (first | exact (Kd.C_below HR0_1.out HB.out) | (with_reducible refine Kd.C_alloc ?_ _) | (with_reducible refine Kd.C_drewN ?_ _) | (with_reducible refine Kd.C_drew ?_))); (case side2 => exact HC0_1.out); (case side3 => repeat (first | exact (Kd.C_below HR0_2.out HB.out) | (with_reducible refine Kd.C_alloc ?_ _) | (with_reducible refine Kd.C_drewN ?_ _) | (with_reducible refine Kd.C_drew ?_))); (case side4 => exact HC0_2.out); (case side5 => repeat (first | exact (Kd.C_below HR0_3.out HB.out) | (with_reducible refine Kd.C_alloc ?_ _) | (with_reducible refine Kd.C_drewN ?_ _) | (with_reducible refine Kd.C_drew ?_))); (case side6 => exact HC0_3.out); (case side7 => repeat (first | exact (Kd.C_below HR2.out HB.out) | (with_reducible refine Kd.C_alloc ?_ _) | (with_reducible refine Kd.C_drewN ?_ _) | (with_reducible refine Kd.C_drew ?_))); (case side8 => exact HC2.out); rintro e w10 ⟨rfl, hb⟩; have n0_ := Aside0.mk (blk_below (g := gb363) (o := .cells #[.int .i64 a0_0, .slice A0_1 l0_1.length c0_1, .slice A0_2 l0_2.length c0_2, .slice A0_3 l0_3.length c0_3] 26 (0, 0)) pmAx19_5_ hb); have n1_ := Aside0.mk (below_step pmAx19_4_ hb); clear BK363; clear HB; have BK363 := n0_; have HB := n1_; clear n0_ n1_; (try clear hb); (try clear hb2); (try clear hk); (try clear hi))))
  (try simp only [Act.put, List.setIfInBounds_toArray, List.set_cons_zero, List.set_cons_succ])
  go_cut [51] (fun v51 wc => ∃ (kq : Nat) (x51_6 : Bool), v51 = .bool x51_6 ∧ Aside0 (parterreref28_Area.j0 kq l1 l2 a3 a4 x51_6 a0_0 l0_1 l0_2 l0_3 = some (r1, r2, r3)) ∧ Aside0 (kq ≤ k) ∧ Aside0 (wc.heap[gb363]? = some (.cells #[.int .i64 a0_0, (.slice A0_1 l0_1.length c0_1), (.slice A0_2 l0_2.length c0_2), (.slice A0_3 l0_3.length c0_3)] 26 (0, 0))) ∧ Aside0 (Below w.heap.size w wc))
  case first =>
    have H := HC7.out
    clear HC7
    by_cases c11 : t365 = 2
    · rw [if_pos c11] at H
      have c11b0 : (t365 == 2) = true := beq_iff_eq.mpr c11
      have c11b1 : (t365 != 2) = false := bne_eq_false_iff_eq.mpr c11
      clear c11
      (first | rw [c11b0] | (simp only [i64_w, i32_w]; rw [c11b0]) | skip)
      have H' := Aside0.mk H
      clear H
      go_wp2
      repeat (go_quiet (fail); try go_wp2)
      go_meet
      case rel => exact ⟨_, (true), pmAx19_7_, H', ⟨pmAx19_9_⟩, ⟨pmAx19_5_⟩, ⟨pmAx19_4_⟩⟩
    · rw [if_neg c11] at H
      have c11b0 : (t365 == 2) = false := beq_eq_false_iff_ne.mpr c11
      have c11b1 : (t365 != 2) = true := bne_iff_ne.mpr c11
      (first | rw [c11b0] | (simp only [i64_w, i32_w]; rw [c11b0]) | skip)
      by_cases c12 : (l1.length : Int) = (l2.length : Int)
      · rw [if_pos c12] at H
        have c12b0 : ((l1.length : Int) == (l2.length : Int)) = true := beq_iff_eq.mpr c12
        have c12b1 : ((l1.length : Int) != (l2.length : Int)) = false := bne_eq_false_iff_eq.mpr c12
        have c12b2 : (l1.length == l2.length) = true := by first | simpa using c12 | (simp at c12 ⊢; omega)
        clear c12
        by_cases c13 : a3 ≥ a4
        · rw [if_pos c13] at H
          have c13b0 : decide (a4 ≤ a3) = true := decide_eq_true c13
          clear c13
          have H' := Aside0.mk H
          clear H
          go_wp2
          repeat (go_quiet (fail); try go_wp2)
          go_meet
          case rel => exact ⟨_, (true), pmAx19_7_, H', ⟨pmAx19_9_⟩, ⟨pmAx19_5_⟩, ⟨pmAx19_4_⟩⟩
        · rw [if_neg c13] at H
          have c13b0 : decide (a4 ≤ a3) = false := decide_eq_false c13
          clear c13
          by_cases c14 : a3 < a0_0
          · rw [if_pos c14] at H
            have c14b0 : decide (a3 < a0_0) = true := decide_eq_true c14
            clear c14
            have H' := Aside0.mk H
            clear H
            have hcz15_0 : w10.cell? ⟨gb363, 0, none⟩ = some (.int .i64 a0_0) := (blk_cell BK363.out 0).trans rfl
            have hcz15_1 : w10.cell? ⟨gb363, 1, none⟩ = some (.slice A0_1 l0_1.length c0_1) := (blk_cell BK363.out 1).trans rfl
            have hcz15_2 : w10.cell? ⟨gb363, 2, none⟩ = some (.slice A0_2 l0_2.length c0_2) := (blk_cell BK363.out 2).trans rfl
            have hcz15_3 : w10.cell? ⟨gb363, 3, none⟩ = some (.slice A0_3 l0_3.length c0_3) := (blk_cell BK363.out 3).trans rfl
            have hfz15_0 := blk_frozen BK363.out 0
            have hfz15_1 := blk_frozen BK363.out 1
            have hfz15_2 := blk_frozen BK363.out 2
            have hfz15_3 := blk_frozen BK363.out 3
            go_wp2
            repeat (go_quiet (fail); try go_wp2)
            go_meet
            case rel => exact ⟨_, (true), pmAx19_7_, H', ⟨pmAx19_9_⟩, ⟨pmAx19_5_⟩, ⟨pmAx19_4_⟩⟩
          · rw [if_neg c14] at H
            have c14b0 : decide (a3 < a0_0) = false := decide_eq_false c14
            clear c14
            have H' := Aside0.mk H
            clear H
            have hcz16_0 : w10.cell? ⟨gb363, 0, none⟩ = some (.int .i64 a0_0) := (blk_cell BK363.out 0).trans rfl
            have hcz16_1 : w10.cell? ⟨gb363, 1, none⟩ = some (.slice A0_1 l0_1.length c0_1) := (blk_cell BK363.out 1).trans rfl
            have hcz16_2 : w10.cell? ⟨gb363, 2, none⟩ = some (.slice A0_2 l0_2.length c0_2) := (blk_cell BK363.out 2).trans rfl
            have hcz16_3 : w10.cell? ⟨gb363, 3, none⟩ = some (.slice A0_3 l0_3.length c0_3) := (blk_cell BK363.out 3).trans rfl
            have hfz16_0 := blk_frozen BK363.out 0
            have hfz16_1 := blk_frozen BK363.out 1
            have hfz16_2 := blk_frozen BK363.out 2
            have hfz16_3 := blk_frozen BK363.out 3
            go_wp2
            repeat (go_quiet (fail); try go_wp2)
            go_meet
            case rel => exact ⟨_, (decide (a4 > (wrap64 (a0_0 + (l2.length : Int))))), pmAx19_7_, H', ⟨pmAx19_9_⟩, ⟨pmAx19_5_⟩, ⟨pmAx19_4_⟩⟩
      · rw [if_neg c12] at H
        have c12b0 : ((l1.length : Int) == (l2.length : Int)) = false := beq_eq_false_iff_ne.mpr c12
        have c12b1 : ((l1.length : Int) != (l2.length : Int)) = true := bne_iff_ne.mpr c12
        have c12b2 : (l1.length == l2.length) = false := by first | simpa using c12 | (simp at c12 ⊢; omega)
        have H' := Aside0.mk H
        clear H
        go_wp2
        repeat (go_quiet (fail); try go_wp2)
        go_meet
        case rel => exact ⟨_, (true), pmAx19_7_, H', ⟨pmAx19_9_⟩, ⟨pmAx19_5_⟩, ⟨pmAx19_4_⟩⟩
  case rest =>
    clear HC7
    try clear c1
    try clear c2
    try clear p2
    try clear p6
    try clear c11
    try clear c11b0
    try clear c11b1
    try clear c12
    try clear c12b0
    try clear c12b1
    try clear c12b2
    try clear c13
    try clear c13b0
    try clear c14
    try clear c14b0
    try clear hcz15_0
    try clear hcz15_1
    try clear hcz15_2
    try clear hcz15_3
    try clear hcz16_0
    try clear hcz16_1
    try clear hcz16_2
    try clear hcz16_3
    try clear hcz9_0
    try clear hcz9_1
    try clear hcz9_2
    try clear hcz9_3
    try clear hfz15_0
    try clear hfz15_1
    try clear hfz15_2
    try clear hfz15_3
    try clear hfz16_0
    try clear hfz16_1
    try clear hfz16_2
    try clear hfz16_3
    try clear hfz9_0
    try clear hfz9_1
    try clear hfz9_2
    try clear hfz9_3
    obtain ⟨kq, x51_6, rfl, HA, HJ6, BK363, HB⟩ := hcut
    cases kq with
    | zero => exact absurd HA.out (by simp [parterreref28_Area.j0])
    | succ kj6 =>
      have H := HA.out
      clear HA
      simp only [parterreref28_Area.j0] at H
      by_cases c17 : x51_6 = true
      · subst c17
        have H1 : (some (0, 0, 2)) = some (r1, r2, r3) := by rw [if_pos rfl] at H; exact H
        clear H
        have H := H1
        clear H1
        simp only [Option.some.injEq, Prod.mk.injEq] at H
        obtain ⟨rfl, rfl, rfl⟩ := H
        go_wp2
        repeat (go_quiet (fail); try go_wp2)
        go_ret3
        exact ⟨by first | rfl | (simp [errW_none, errW_some] <;> rfl) | (simp [*, errW_none, errW_some] <;> rfl), by repeat (first | (with_reducible first | exact HB.out | apply below_alloc | apply pw_below_drewN | apply below_drew1 | refine below_set ?_ GE363.out) | exact HB.out)⟩
      · replace c17 := Bool.eq_false_iff.mpr c17
        subst c17
        have H1 : (if 0 ≤ (wrap64 (a3 - a0_0)) then (if (wrap64 (a3 - a0_0)) < (l1.length : Int) then (if 0 ≤ (wrap64 ((wrap64 (a4 - 1)) - a0_0)) then (if (wrap64 ((wrap64 (a4 - 1)) - a0_0)) < (l1.length : Int) then (if (wrap64 ((wrap64 (a4 - 1)) - a0_0)) < (l2.length : Int) then ((parterreref01_Is.f (wrap64 ((wrap64 ((rd l1 (wrap64 ((wrap64 (a4 - 1)) - a0_0))) + (rd l2 (wrap64 ((wrap64 (a4 - 1)) - a0_0))))) - (rd l1 (wrap64 (a3 - a0_0)))))).bind fun t369 => (if t369 = true then (some (rd l1 (wrap64 (a3 - a0_0)), wrap64 ((wrap64 ((rd l1 (wrap64 ((wrap64 (a4 - 1)) - a0_0))) + (rd l2 (wrap64 ((wrap64 (a4 - 1)) - a0_0))))) - (rd l1 (wrap64 (a3 - a0_0)))), 0)) else (some (0, 0, 10)))) else (none)) else (none)) else (none)) else (none)) else (none)) = some (r1, r2, r3) := by rw [if_neg (show ¬ (false = true) by decide)] at H; exact H
        clear H
        have H := H1
        clear H1
        obtain ⟨ji18, hji18⟩ : ∃ j_ : Int, (wrap64 (a3 - a0_0)) = j_ := ⟨_, rfl⟩
        replace H : (if 0 ≤ (ji18) then (if (ji18) < (l1.length : Int) then (if 0 ≤ (wrap64 ((wrap64 (a4 - 1)) - a0_0)) then (if (wrap64 ((wrap64 (a4 - 1)) - a0_0)) < (l1.length : Int) then (if (wrap64 ((wrap64 (a4 - 1)) - a0_0)) < (l2.length : Int) then ((parterreref01_Is.f (wrap64 ((wrap64 ((rd l1 (wrap64 ((wrap64 (a4 - 1)) - a0_0))) + (rd l2 (wrap64 ((wrap64 (a4 - 1)) - a0_0))))) - (rd l1 (ji18))))).bind fun t369 => (if t369 = true then (some (rd l1 (ji18), wrap64 ((wrap64 ((rd l1 (wrap64 ((wrap64 (a4 - 1)) - a0_0))) + (rd l2 (wrap64 ((wrap64 (a4 - 1)) - a0_0))))) - (rd l1 (ji18))), 0)) else (some (0, 0, 10)))) else (none)) else (none)) else (none)) else (none)) else (none)) = some (r1, r2, r3) := by first | (rw [hji18] at H; exact H) | (simp only [hji18] at H ⊢; exact H)
        have hji18w : (IntKind.i64.wrap (a3 - a0_0)) = ji18 := (i64_w _).trans hji18
        by_cases c19 : 0 ≤ (ji18)
        · rw [if_pos c19] at H
          have c19b0 : decide (0 ≤ (ji18)) = true := decide_eq_true c19
          clear c19
          by_cases c20 : (ji18) < (l1.length : Int)
          · rw [if_pos c20] at H
            have c20b0 : decide ((ji18) < (l1.length : Int)) = true := decide_eq_true c20
            clear c20
            obtain ⟨ji21, hji21⟩ : ∃ j_ : Int, (wrap64 ((wrap64 (a4 - 1)) - a0_0)) = j_ := ⟨_, rfl⟩
            replace H : (if 0 ≤ (ji21) then (if (ji21) < (l1.length : Int) then (if (ji21) < (l2.length : Int) then ((parterreref01_Is.f (wrap64 ((wrap64 ((rd l1 (ji21)) + (rd l2 (ji21)))) - (rd l1 (ji18))))).bind fun t369 => (if t369 = true then (some (rd l1 (ji18), wrap64 ((wrap64 ((rd l1 (ji21)) + (rd l2 (ji21)))) - (rd l1 (ji18))), 0)) else (some (0, 0, 10)))) else (none)) else (none)) else (none)) = some (r1, r2, r3) := by first | (rw [hji21] at H; exact H) | (simp only [hji21] at H ⊢; exact H)
            have hji21w : (IntKind.i64.wrap ((wrap64 (a4 - 1)) - a0_0)) = ji21 := (i64_w _).trans hji21
            by_cases c22 : 0 ≤ (ji21)
            · rw [if_pos c22] at H
              have c22b0 : decide (0 ≤ (ji21)) = true := decide_eq_true c22
              clear c22
              by_cases c23 : (ji21) < (l1.length : Int)
              · rw [if_pos c23] at H
                have c23b0 : decide ((ji21) < (l1.length : Int)) = true := decide_eq_true c23
                clear c23
                by_cases c24 : (ji21) < (l2.length : Int)
                · rw [if_pos c24] at H
                  have c24b0 : decide ((ji21) < (l2.length : Int)) = true := decide_eq_true c24
                  clear c24
                  replace H := Option.bind_eq_some_iff.mp H
                  obtain ⟨t369, A250, H⟩ := H
                  replace H : (if t369 = true then (some (rd l1 (ji18), wrap64 ((wrap64 ((rd l1 (ji21)) + (rd l2 (ji21)))) - (rd l1 (ji18))), 0)) else (some (0, 0, 10))) = some (r1, r2, r3) := H
                  have A25 := Aside0.mk A250
                  clear A250
                  by_cases c26 : t369 = true
                  · subst c26
                    have H1 : (some (rd l1 (ji18), wrap64 ((wrap64 ((rd l1 (ji21)) + (rd l2 (ji21)))) - (rd l1 (ji18))), 0)) = some (r1, r2, r3) := by rw [if_pos rfl] at H; exact H
                    clear H
                    have H := H1
                    clear H1
                    simp only [Option.some.injEq, Prod.mk.injEq] at H
                    obtain ⟨rfl, rfl, rfl⟩ := H
                    have hcz27_0 : wc.cell? ⟨gb363, 0, none⟩ = some (.int .i64 a0_0) := (blk_cell BK363.out 0).trans rfl
                    have hcz27_1 : wc.cell? ⟨gb363, 1, none⟩ = some (.slice A0_1 l0_1.length c0_1) := (blk_cell BK363.out 1).trans rfl
                    have hcz27_2 : wc.cell? ⟨gb363, 2, none⟩ = some (.slice A0_2 l0_2.length c0_2) := (blk_cell BK363.out 2).trans rfl
                    have hcz27_3 : wc.cell? ⟨gb363, 3, none⟩ = some (.slice A0_3 l0_3.length c0_3) := (blk_cell BK363.out 3).trans rfl
                    have hfz27_0 := blk_frozen BK363.out 0
                    have hfz27_1 := blk_frozen BK363.out 1
                    have hfz27_2 := blk_frozen BK363.out 2
                    have hfz27_3 := blk_frozen BK363.out 3
                    have p366 : 0 ≤ ((ji18) : Int) := of_decide_eq_true pmAx19_6_
                    have q366 : (ji18) < (l1.length : Int) := of_decide_eq_true pmAx19_6_
                    obtain ⟨ad366, e366, hx366_0⟩ := Kd.at_int HR1.out (ji18) p366 q366
                    cases e366
                    replace hx366_0 := (HB.out.cell (World.block_lt_of_cell? w _ hx366_0)).trans hx366_0
                    replace p366 := eq_true p366
                    replace q366 := eq_true q366
                    have p367 : 0 ≤ ((ji21) : Int) := of_decide_eq_true pmAx19_6_
                    have q367 : (ji21) < (l1.length : Int) := of_decide_eq_true pmAx19_6_
                    obtain ⟨ad367, e367, hx367_0⟩ := Kd.at_int HR1.out (ji21) p367 q367
                    obtain rfl : ad366 = ad367 := (by injection e367)
                    replace hx367_0 := (HB.out.cell (World.block_lt_of_cell? w _ hx367_0)).trans hx367_0
                    replace p367 := eq_true p367
                    replace q367 := eq_true q367
                    have p368 : 0 ≤ ((ji21) : Int) := of_decide_eq_true pmAx19_6_
                    have q368 : (ji21) < (l2.length : Int) := of_decide_eq_true pmAx19_6_
                    obtain ⟨ad368, e368, hx368_0⟩ := Kd.at_int HR2.out (ji21) p368 q368
                    cases e368
                    replace hx368_0 := (HB.out.cell (World.block_lt_of_cell? w _ hx368_0)).trans hx368_0
                    replace p368 := eq_true p368
                    replace q368 := eq_true q368
                    go_wp2_with (first | (go_at_call 24; (with_reducible refine (parterreref01_Is.calls (wrap64 ((wrap64 ((rd l1 (ji21)) + (rd l2 (ji21)))) - (rd l1 (ji18)))) true _ A25.out).mono ?_); rintro e w' ⟨rfl, ⟨nd, rfl⟩⟩; (try first | exact ⟨rfl, _, World.drewN_drewN _ _ _⟩ | exact ⟨rfl, _, Eq.trans (World.drewN_drewN _ _ _) (congrArg (World.drewN _) (Nat.add_assoc _ _ _))⟩)))
                    repeat (go_quiet (first | (go_at_call 24; (with_reducible refine (parterreref01_Is.calls (wrap64 ((wrap64 ((rd l1 (ji21)) + (rd l2 (ji21)))) - (rd l1 (ji18)))) true _ A25.out).mono ?_); rintro e w' ⟨rfl, ⟨nd, rfl⟩⟩; (try first | exact ⟨rfl, _, World.drewN_drewN _ _ _⟩ | exact ⟨rfl, _, Eq.trans (World.drewN_drewN _ _ _) (congrArg (World.drewN _) (Nat.add_assoc _ _ _))⟩))); try go_wp2_with (first | (go_at_call 24; (with_reducible refine (parterreref01_Is.calls (wrap64 ((wrap64 ((rd l1 (ji21)) + (rd l2 (ji21)))) - (rd l1 (ji18)))) true _ A25.out).mono ?_); rintro e w' ⟨rfl, ⟨nd, rfl⟩⟩; (try first | exact ⟨rfl, _, World.drewN_drewN _ _ _⟩ | exact ⟨rfl, _, Eq.trans (World.drewN_drewN _ _ _) (congrArg (World.drewN _) (Nat.add_assoc _ _ _))⟩))))
                    go_ret3
                    exact ⟨by first | rfl | (simp [errW_none, errW_some] <;> rfl) | (simp only [← hji18, ← hji21]; first | rfl | (simp [errW_none, errW_some] <;> rfl)) | (simp [*, errW_none, errW_some] <;> rfl), by repeat (first | (with_reducible first | exact HB.out | apply below_alloc | apply pw_below_drewN | apply below_drew1 | refine below_set ?_ GE363.out) | exact HB.out)⟩
                  · replace c26 := Bool.eq_false_iff.mpr c26
                    subst c26
                    have H1 : (some (0, 0, 10)) = some (r1, r2, r3) := by rw [if_neg (show ¬ (false = true) by decide)] at H; exact H
                    clear H
                    have H := H1
                    clear H1
                    simp only [Option.some.injEq, Prod.mk.injEq] at H
                    obtain ⟨rfl, rfl, rfl⟩ := H
                    have hcz28_0 : wc.cell? ⟨gb363, 0, none⟩ = some (.int .i64 a0_0) := (blk_cell BK363.out 0).trans rfl
                    have hcz28_1 : wc.cell? ⟨gb363, 1, none⟩ = some (.slice A0_1 l0_1.length c0_1) := (blk_cell BK363.out 1).trans rfl
                    have hcz28_2 : wc.cell? ⟨gb363, 2, none⟩ = some (.slice A0_2 l0_2.length c0_2) := (blk_cell BK363.out 2).trans rfl
                    have hcz28_3 : wc.cell? ⟨gb363, 3, none⟩ = some (.slice A0_3 l0_3.length c0_3) := (blk_cell BK363.out 3).trans rfl
                    have hfz28_0 := blk_frozen BK363.out 0
                    have hfz28_1 := blk_frozen BK363.out 1
                    have hfz28_2 := blk_frozen BK363.out 2
                    have hfz28_3 := blk_frozen BK363.out 3
                    have p366 : 0 ≤ ((ji18) : Int) := of_decide_eq_true pmAx19_6_
                    have q366 : (ji18) < (l1.length : Int) := of_decide_eq_true pmAx19_6_
                    obtain ⟨ad366, e366, hx366_0⟩ := Kd.at_int HR1.out (ji18) p366 q366
                    cases e366
                    replace hx366_0 := (HB.out.cell (World.block_lt_of_cell? w _ hx366_0)).trans hx366_0
                    replace p366 := eq_true p366
                    replace q366 := eq_true q366
                    have p367 : 0 ≤ ((ji21) : Int) := of_decide_eq_true pmAx19_6_
                    have q367 : (ji21) < (l1.length : Int) := of_decide_eq_true pmAx19_6_
                    obtain ⟨ad367, e367, hx367_0⟩ := Kd.at_int HR1.out (ji21) p367 q367
                    obtain rfl : ad366 = ad367 := (by injection e367)
                    replace hx367_0 := (HB.out.cell (World.block_lt_of_cell? w _ hx367_0)).trans hx367_0
                    replace p367 := eq_true p367
                    replace q367 := eq_true q367
                    have p368 : 0 ≤ ((ji21) : Int) := of_decide_eq_true pmAx19_6_
                    have q368 : (ji21) < (l2.length : Int) := of_decide_eq_true pmAx19_6_
                    obtain ⟨ad368, e368, hx368_0⟩ := Kd.at_int HR2.out (ji21) p368 q368
                    cases e368
                    replace hx368_0 := (HB.out.cell (World.block_lt_of_cell? w _ hx368_0)).trans hx368_0
                    replace p368 := eq_true p368
                    replace q368 := eq_true q368
                    go_wp2_with (first | (go_at_call 24; (with_reducible refine (parterreref01_Is.calls (wrap64 ((wrap64 ((rd l1 (ji21)) + (rd l2 (ji21)))) - (rd l1 (ji18)))) false _ A25.out).mono ?_); rintro e w' ⟨rfl, ⟨nd, rfl⟩⟩; (try first | exact ⟨rfl, _, World.drewN_drewN _ _ _⟩ | exact ⟨rfl, _, Eq.trans (World.drewN_drewN _ _ _) (congrArg (World.drewN _) (Nat.add_assoc _ _ _))⟩)))
                    repeat (go_quiet (first | (go_at_call 24; (with_reducible refine (parterreref01_Is.calls (wrap64 ((wrap64 ((rd l1 (ji21)) + (rd l2 (ji21)))) - (rd l1 (ji18)))) false _ A25.out).mono ?_); rintro e w' ⟨rfl, ⟨nd, rfl⟩⟩; (try first | exact ⟨rfl, _, World.drewN_drewN _ _ _⟩ | exact ⟨rfl, _, Eq.trans (World.drewN_drewN _ _ _) (congrArg (World.drewN _) (Nat.add_assoc _ _ _))⟩))); try go_wp2_with (first | (go_at_call 24; (with_reducible refine (parterreref01_Is.calls (wrap64 ((wrap64 ((rd l1 (ji21)) + (rd l2 (ji21)))) - (rd l1 (ji18)))) false _ A25.out).mono ?_); rintro e w' ⟨rfl, ⟨nd, rfl⟩⟩; (try first | exact ⟨rfl, _, World.drewN_drewN _ _ _⟩ | exact ⟨rfl, _, Eq.trans (World.drewN_drewN _ _ _) (congrArg (World.drewN _) (Nat.add_assoc _ _ _))⟩))))
                    go_ret3
                    exact ⟨by first | rfl | (simp [errW_none, errW_some] <;> rfl) | (simp only [← hji18, ← hji21]; first | rfl | (simp [errW_none, errW_some] <;> rfl)) | (simp [*, errW_none, errW_some] <;> rfl), by repeat (first | (with_reducible first | exact HB.out | apply below_alloc | apply pw_below_drewN | apply below_drew1 | refine below_set ?_ GE363.out) | exact HB.out)⟩
                · rw [if_neg c24] at H
                  exact absurd H (by simp)
              · rw [if_neg c23] at H
                exact absurd H (by simp)
            · rw [if_neg c22] at H
              exact absurd H (by simp)
          · rw [if_neg c20] at H
            exact absurd H (by simp)
        · rw [if_neg c19] at H
          exact absurd H (by simp)

/-! ### parterrelaw28_ContentAreas: function 6 -/
mutual
def parterrelaw28_ContentAreas.j0 : Nat → List Int → List Int → Int → Int → Bool → Int → List (S57) → List Bool → List Int → Option (Bool)
  | 0, _, _, _, _, _, _, _, _, _ => none
  | k + 1, x1, x2, x3, x4, x32, x371000, x371001, x371002, x371003 => if x32 = true then ((parterrelaw28_lives.f k).bind fun t371 => (some t371)) else (parterrelaw28_ContentAreas.l0 k x1 x2 x3 x4 x1 (x1.length : Int) 0 x371000 x371001 x371002 x371003)
def parterrelaw28_ContentAreas.l0 : Nat → List Int → List Int → Int → Int → List Int → Int → Int → Int → List (S57) → List Bool → List Int → Option (Bool)
  | 0, _, _, _, _, _, _, _, _, _, _, _ => none
  | k + 1, x1, x2, x3, x4, x34, x35, x36, x371000, x371001, x371002, x371003 => if x36 < x35 then (if 0 ≤ x36 then (if x36 < (x34.length : Int) then (if (rd x34 x36) > 1125899906842624 then ((parterrelaw28_lives.f k).bind fun t373 => (some t373)) else (if (rd x34 x36) < (-1125899906842624) then ((parterrelaw28_lives.f k).bind fun t374 => (some t374)) else (parterrelaw28_ContentAreas.l0 k x1 x2 x3 x4 x34 x35 (wrap64 (x36 + 1)) x371000 x371001 x371002 x371003))) else (none)) else (none)) else ((content_Area.f k x371000 x371001 x371002 x371003 x1 x2 x3 x4).bind fun bt375 => ((parterreref28_Area.f k x371000 x371001 x371002 x371003 x1 x2 x3 x4).bind fun bt378 => (if bt375.1 = bt378.1 then (if bt375.2.1 = bt378.2.1 then (if bt375.2.2 = bt378.2.2 then ((parterrelaw28_lives.f k).bind fun t381 => (some t381)) else (some false)) else (some false)) else (some false))))
end
def parterrelaw28_ContentAreas.f (k : Nat) (a0_0 : Int) (l0_1 : List (S57)) (l0_2 : List Bool) (l0_3 : List Int) (l1 : List Int) (l2 : List Int) (a3 : Int) (a4 : Int) : Option (Bool) := if (l0_1.length : Int) > 300 then (parterrelaw28_ContentAreas.j0 k l1 l2 a3 a4 true a0_0 l0_1 l0_2 l0_3) else (if (l2.length : Int) > 300 then (parterrelaw28_ContentAreas.j0 k l1 l2 a3 a4 true a0_0 l0_1 l0_2 l0_3) else (parterrelaw28_ContentAreas.j0 k l1 l2 a3 a4 (decide ((l1.length : Int) > 300)) a0_0 l0_1 l0_2 l0_3))
theorem parterrelaw28_ContentAreas.mono_l : ∀ k, (∀ y0 y1 y2 y3 y4 y5 y6 y7 y8, LeO (parterrelaw28_ContentAreas.j0 k y0 y1 y2 y3 y4 y5 y6 y7 y8) (parterrelaw28_ContentAreas.j0 (k + 1) y0 y1 y2 y3 y4 y5 y6 y7 y8)) ∧ (∀ y0 y1 y2 y3 y4 y5 y6 y7 y8 y9 y10, LeO (parterrelaw28_ContentAreas.l0 k y0 y1 y2 y3 y4 y5 y6 y7 y8 y9 y10) (parterrelaw28_ContentAreas.l0 (k + 1) y0 y1 y2 y3 y4 y5 y6 y7 y8 y9 y10))
  | 0 => ⟨fun _ _ _ _ _ _ _ _ _ r h => by simp [parterrelaw28_ContentAreas.j0] at h, fun _ _ _ _ _ _ _ _ _ _ _ r h => by simp [parterrelaw28_ContentAreas.l0] at h⟩
  | k + 1 => by
    obtain ⟨ih0, ih1⟩ := parterrelaw28_ContentAreas.mono_l k
    refine ⟨?_, ?_⟩
    · intro y0 y1 y2 y3 y4 y5 y6 y7 y8
      unfold parterrelaw28_ContentAreas.j0
      repeat' first
      | (with_reducible exact ih0 _ _ _ _ _ _ _ _ _)
      | (with_reducible exact ih1 _ _ _ _ _ _ _ _ _ _ _)
      | (with_reducible exact content_Area.mono _ _ _ _ _ _ _ _ _)
      | (with_reducible exact parterrelaw28_lives.mono _)
      | (with_reducible exact parterreref28_Area.mono _ _ _ _ _ _ _ _ _)
      | (with_reducible exact LeO.refl _)
      | (with_reducible exact LeO.none _)
      | (with_reducible refine LeO.ite ?_ ?_)
      | (with_reducible refine LeO.bind ?_ (fun _ => ?_))
      | exact ih0 _ _ _ _ _ _ _ _ _
      | exact ih1 _ _ _ _ _ _ _ _ _ _ _
      | exact content_Area.mono _ _ _ _ _ _ _ _ _
      | exact parterrelaw28_lives.mono _
      | exact parterreref28_Area.mono _ _ _ _ _ _ _ _ _
      | exact LeO.none _
      | refine LeO.ite ?_ ?_
      | refine LeO.bind ?_ (fun _ => ?_)
    · intro y0 y1 y2 y3 y4 y5 y6 y7 y8 y9 y10
      unfold parterrelaw28_ContentAreas.l0
      repeat' first
      | (with_reducible exact ih0 _ _ _ _ _ _ _ _ _)
      | (with_reducible exact ih1 _ _ _ _ _ _ _ _ _ _ _)
      | (with_reducible exact content_Area.mono _ _ _ _ _ _ _ _ _)
      | (with_reducible exact parterrelaw28_lives.mono _)
      | (with_reducible exact parterreref28_Area.mono _ _ _ _ _ _ _ _ _)
      | (with_reducible exact LeO.refl _)
      | (with_reducible exact LeO.none _)
      | (with_reducible refine LeO.ite ?_ ?_)
      | (with_reducible refine LeO.bind ?_ (fun _ => ?_))
      | exact ih0 _ _ _ _ _ _ _ _ _
      | exact ih1 _ _ _ _ _ _ _ _ _ _ _
      | exact content_Area.mono _ _ _ _ _ _ _ _ _
      | exact parterrelaw28_lives.mono _
      | exact parterreref28_Area.mono _ _ _ _ _ _ _ _ _
      | exact LeO.none _
      | refine LeO.ite ?_ ?_
      | refine LeO.bind ?_ (fun _ => ?_)
theorem parterrelaw28_ContentAreas.mono : ∀ a0 a1 a2 a3 a4 a5 a6 a7 k, LeO (parterrelaw28_ContentAreas.f k a0 a1 a2 a3 a4 a5 a6 a7) (parterrelaw28_ContentAreas.f (k + 1) a0 a1 a2 a3 a4 a5 a6 a7) := by
  intro a0 a1 a2 a3 a4 a5 a6 a7 k
  obtain ⟨ih0, ih1⟩ := parterrelaw28_ContentAreas.mono_l k
  unfold parterrelaw28_ContentAreas.f
  repeat' first
      | (with_reducible exact ih0 _ _ _ _ _ _ _ _ _)
      | (with_reducible exact ih1 _ _ _ _ _ _ _ _ _ _ _)
      | (with_reducible exact content_Area.mono _ _ _ _ _ _ _ _ _)
      | (with_reducible exact parterrelaw28_lives.mono _)
      | (with_reducible exact parterreref28_Area.mono _ _ _ _ _ _ _ _ _)
      | (with_reducible exact LeO.refl _)
      | (with_reducible exact LeO.none _)
      | (with_reducible refine LeO.ite ?_ ?_)
      | (with_reducible refine LeO.bind ?_ (fun _ => ?_))
      | exact ih0 _ _ _ _ _ _ _ _ _
      | exact ih1 _ _ _ _ _ _ _ _ _ _ _
      | exact content_Area.mono _ _ _ _ _ _ _ _ _
      | exact parterrelaw28_lives.mono _
      | exact parterreref28_Area.mono _ _ _ _ _ _ _ _ _
      | exact LeO.none _
      | refine LeO.ite ?_ ?_
      | refine LeO.bind ?_ (fun _ => ?_)
set_option maxHeartbeats 8000000 in
set_option maxRecDepth 100000 in
theorem parterrelaw28_ContentAreas.calls (k : Nat) (a0_0 : Int) (A0_1 : Option Addr) (c0_1 : Nat) (l0_1 : List (S57)) (A0_2 : Option Addr) (c0_2 : Nat) (l0_2 : List Bool) (A0_3 : Option Addr) (c0_3 : Nat) (l0_3 : List Int) (A1 : Option Addr) (c1 : Nat) (l1 : List Int) (A2 : Option Addr) (c2 : Nat) (l2 : List Int) (a3 : Int) (a4 : Int) (r : Bool) (w : World) (hr0_1 : Kd.C k57 w A0_1 l0_1.length l0_1) (hc0_1 : l0_1.length ≤ c0_1) (hr0_2 : Kd.C Kd.bool w A0_2 l0_2.length l0_2) (hc0_2 : l0_2.length ≤ c0_2) (hr0_3 : Kd.C (Kd.int .i64) w A0_3 l0_3.length l0_3) (hc0_3 : l0_3.length ≤ c0_3) (hr1 : Kd.C (Kd.int .i64) w A1 l1.length l1) (hc1 : l1.length ≤ c1) (hr2 : Kd.C (Kd.int .i64) w A2 l2.length l2) (hc2 : l2.length ≤ c2) (h : parterrelaw28_ContentAreas.f k a0_0 l0_1 l0_2 l0_3 l1 l2 a3 a4 = some r) :
    Calls Try.prog 6 #[.agg #[.int .i64 a0_0, .slice A0_1 l0_1.length c0_1, .slice A0_2 l0_2.length c0_2, .slice A0_3 l0_3.length c0_3], .slice A1 l1.length c1, .slice A2 l2.length c2, .int .i64 a3, .int .i64 a4] w fun e w' => e = .returned (.bool r) ∧ Below w.heap.size w w' := by
  have hu26 := Try.underlying26
  have HR0_1 := Aside0.mk hr0_1
  have HC0_1 := Aside0.mk hc0_1
  clear hr0_1 hc0_1
  have HR0_2 := Aside0.mk hr0_2
  have HC0_2 := Aside0.mk hc0_2
  clear hr0_2 hc0_2
  have HR0_3 := Aside0.mk hr0_3
  have HC0_3 := Aside0.mk hc0_3
  clear hr0_3 hc0_3
  have HR1 := Aside0.mk hr1
  have HC1 := Aside0.mk hc1
  clear hr1 hc1
  have HR2 := Aside0.mk hr2
  have HC2 := Aside0.mk hc2
  clear hr2 hc2
  have HB := Aside0.mk (Below.refl w.heap.size w)
  have H : (if (l0_1.length : Int) > 300 then (parterrelaw28_ContentAreas.j0 k l1 l2 a3 a4 true a0_0 l0_1 l0_2 l0_3) else (if (l2.length : Int) > 300 then (parterrelaw28_ContentAreas.j0 k l1 l2 a3 a4 true a0_0 l0_1 l0_2 l0_3) else (parterrelaw28_ContentAreas.j0 k l1 l2 a3 a4 (decide ((l1.length : Int) > 300)) a0_0 l0_1 l0_2 l0_3))) = some r := h
  clear h
  have HC6 := Aside0.mk H
  clear H
  go_enter Try.func6, Try.ntmps6
  go_upto_region 1 with (first | ((with_reducible refine gate_dst (N := 5) rfl ?_); (try (refine gate_guard (by rfl) ?_; dsimp only)); refine box_event ?hg (N := 5) ?hd (cs := #[.int .i64 a0_0, .slice A0_1 l0_1.length c0_1, .slice A0_2 l0_2.length c0_2, .slice A0_3 l0_3.length c0_3]) (t := 26) ?hr ?_; (case hd => rfl); (case hg => rfl); (case hr => first | (go_simp; done) | (go_simp; rfl)); intro gb370 hg w7 hbox hb; have n0_ := Aside0.mk (below_step pmAx19_2_ hb); have n1_ := Aside0.mk (hbox); have n2_ := Aside0.mk ((pmAx19_8_ : w.heap.size ≤ gb370)); have n3_ := Aside0.mk ((pmAx19_8_ : w.heap.size ≤ gb370)); clear HB; have HB := n0_; have BK370 := n1_; have GW370 := n2_; have GE370 := n3_; clear n0_ n1_ n2_ n3_; clear hb hbox hg))
  (try simp only [Act.put, List.setIfInBounds_toArray, List.set_cons_zero, List.set_cons_succ])
  go_cut [32] (fun v32 wc => ∃ (kq : Nat) (x32_5 : Bool), v32 = .bool x32_5 ∧ Aside0 (parterrelaw28_ContentAreas.j0 kq l1 l2 a3 a4 x32_5 a0_0 l0_1 l0_2 l0_3 = some r) ∧ Aside0 (kq ≤ k) ∧ Aside0 (wc.heap[gb370]? = some (.cells #[.int .i64 a0_0, (.slice A0_1 l0_1.length c0_1), (.slice A0_2 l0_2.length c0_2), (.slice A0_3 l0_3.length c0_3)] 26 (0, 0))) ∧ Aside0 (Below w.heap.size w wc))
  case first =>
    have H := HC6.out
    clear HC6
    by_cases c8 : (l0_1.length : Int) > 300
    · rw [if_pos c8] at H
      have c8b0 : decide (300 < (l0_1.length : Int)) = true := decide_eq_true c8
      have c8b1 : decide (300 < l0_1.length) = true := decide_eq_true (by omega)
      clear c8
      (first | rw [c8b0] | (simp only [i64_w, i32_w]; rw [c8b0]) | skip)
      have H' := Aside0.mk H
      clear H
      have hcz9_0 : w7.cell? ⟨gb370, 0, none⟩ = some (.int .i64 a0_0) := (blk_cell BK370.out 0).trans rfl
      have hcz9_1 : w7.cell? ⟨gb370, 1, none⟩ = some (.slice A0_1 l0_1.length c0_1) := (blk_cell BK370.out 1).trans rfl
      have hcz9_2 : w7.cell? ⟨gb370, 2, none⟩ = some (.slice A0_2 l0_2.length c0_2) := (blk_cell BK370.out 2).trans rfl
      have hcz9_3 : w7.cell? ⟨gb370, 3, none⟩ = some (.slice A0_3 l0_3.length c0_3) := (blk_cell BK370.out 3).trans rfl
      have hfz9_0 := blk_frozen BK370.out 0
      have hfz9_1 := blk_frozen BK370.out 1
      have hfz9_2 := blk_frozen BK370.out 2
      have hfz9_3 := blk_frozen BK370.out 3
      go_wp2
      go_meet
      case rel => exact ⟨_, (true), pmAx19_7_, H', ⟨pmAx19_9_⟩, ⟨pmAx19_1_⟩, ⟨pmAx19_0_⟩⟩
    · rw [if_neg c8] at H
      have c8b0 : decide (300 < (l0_1.length : Int)) = false := decide_eq_false c8
      have c8b1 : decide (300 < l0_1.length) = false := decide_eq_false (by omega)
      clear c8
      (first | rw [c8b0] | (simp only [i64_w, i32_w]; rw [c8b0]) | skip)
      by_cases c10 : (l2.length : Int) > 300
      · rw [if_pos c10] at H
        have c10b0 : decide (300 < (l2.length : Int)) = true := decide_eq_true c10
        have c10b1 : decide (300 < l2.length) = true := decide_eq_true (by omega)
        clear c10
        have H' := Aside0.mk H
        clear H
        have hcz11_0 : w7.cell? ⟨gb370, 0, none⟩ = some (.int .i64 a0_0) := (blk_cell BK370.out 0).trans rfl
        have hcz11_1 : w7.cell? ⟨gb370, 1, none⟩ = some (.slice A0_1 l0_1.length c0_1) := (blk_cell BK370.out 1).trans rfl
        have hcz11_2 : w7.cell? ⟨gb370, 2, none⟩ = some (.slice A0_2 l0_2.length c0_2) := (blk_cell BK370.out 2).trans rfl
        have hcz11_3 : w7.cell? ⟨gb370, 3, none⟩ = some (.slice A0_3 l0_3.length c0_3) := (blk_cell BK370.out 3).trans rfl
        have hfz11_0 := blk_frozen BK370.out 0
        have hfz11_1 := blk_frozen BK370.out 1
        have hfz11_2 := blk_frozen BK370.out 2
        have hfz11_3 := blk_frozen BK370.out 3
        go_wp2
        go_meet
        case rel => exact ⟨_, (true), pmAx19_7_, H', ⟨pmAx19_9_⟩, ⟨pmAx19_1_⟩, ⟨pmAx19_0_⟩⟩
      · rw [if_neg c10] at H
        have c10b0 : decide (300 < (l2.length : Int)) = false := decide_eq_false c10
        have c10b1 : decide (300 < l2.length) = false := decide_eq_false (by omega)
        clear c10
        have H' := Aside0.mk H
        clear H
        have hcz12_0 : w7.cell? ⟨gb370, 0, none⟩ = some (.int .i64 a0_0) := (blk_cell BK370.out 0).trans rfl
        have hcz12_1 : w7.cell? ⟨gb370, 1, none⟩ = some (.slice A0_1 l0_1.length c0_1) := (blk_cell BK370.out 1).trans rfl
        have hcz12_2 : w7.cell? ⟨gb370, 2, none⟩ = some (.slice A0_2 l0_2.length c0_2) := (blk_cell BK370.out 2).trans rfl
        have hcz12_3 : w7.cell? ⟨gb370, 3, none⟩ = some (.slice A0_3 l0_3.length c0_3) := (blk_cell BK370.out 3).trans rfl
        have hfz12_0 := blk_frozen BK370.out 0
        have hfz12_1 := blk_frozen BK370.out 1
        have hfz12_2 := blk_frozen BK370.out 2
        have hfz12_3 := blk_frozen BK370.out 3
        go_wp2
        go_meet
        case rel => exact ⟨_, (decide ((l1.length : Int) > 300)), pmAx19_7_, H', ⟨pmAx19_9_⟩, ⟨pmAx19_1_⟩, ⟨pmAx19_0_⟩⟩
  case rest =>
    clear HC6
    try clear c1
    try clear c2
    try clear p2
    try clear c6
    try clear c8
    try clear c8b0
    try clear c8b1
    try clear c10
    try clear c10b0
    try clear c10b1
    try clear hcz11_0
    try clear hcz11_1
    try clear hcz11_2
    try clear hcz11_3
    try clear hcz12_0
    try clear hcz12_1
    try clear hcz12_2
    try clear hcz12_3
    try clear hcz9_0
    try clear hcz9_1
    try clear hcz9_2
    try clear hcz9_3
    try clear hfz11_0
    try clear hfz11_1
    try clear hfz11_2
    try clear hfz11_3
    try clear hfz12_0
    try clear hfz12_1
    try clear hfz12_2
    try clear hfz12_3
    try clear hfz9_0
    try clear hfz9_1
    try clear hfz9_2
    try clear hfz9_3
    obtain ⟨kq, x32_5, rfl, HA, HJ5, BK370, HB⟩ := hcut
    cases kq with
    | zero => exact absurd HA.out (by simp [parterrelaw28_ContentAreas.j0])
    | succ kj5 =>
      have H := HA.out
      clear HA
      simp only [parterrelaw28_ContentAreas.j0] at H
      by_cases c13 : x32_5 = true
      · subst c13
        have H1 : ((parterrelaw28_lives.f kj5).bind fun t371 => (some t371)) = some r := by rw [if_pos rfl] at H; exact H
        clear H
        have H := H1
        clear H1
        replace H := Option.bind_eq_some_iff.mp H
        obtain ⟨t371, A140, H⟩ := H
        replace H : (some t371) = some r := H
        have A14 := Aside0.mk A140
        clear A140
        obtain rfl := Option.some.inj H
        go_wp2_with (first | ((with_reducible refine gate_callee (f := 7) rfl ?_); refine goesL_ (some 33) rfl rfl Try.func7 (by kernel_rfl) rfl #[] rfl pmAx19_3_ ?_; (with_reducible refine (parterrelaw28_lives.calls kj5  t371 _ A14.out).mono ?_); rintro e w15 ⟨rfl, hb⟩; refine ⟨_, rfl, ?_⟩; have n0_ := Aside0.mk (blk_below (g := gb370) (o := .cells #[.int .i64 a0_0, .slice A0_1 l0_1.length c0_1, .slice A0_2 l0_2.length c0_2, .slice A0_3 l0_3.length c0_3] 26 (0, 0)) pmAx19_1_ hb); have n1_ := Aside0.mk (below_step pmAx19_0_ hb); clear BK370; clear HB; have BK370 := n0_; have HB := n1_; clear n0_ n1_; (try clear hb); (try clear hb2); (try clear hk); (try clear hi)))
        go_ret
        exact ⟨by first | rfl | (simp [errW_none, errW_some] <;> rfl) | (simp [*, errW_none, errW_some] <;> rfl), by repeat (first | (with_reducible first | exact HB.out | apply below_alloc | apply pw_below_drewN | apply below_drew1 | refine below_set ?_ GE370.out) | exact HB.out)⟩
      · replace c13 := Bool.eq_false_iff.mpr c13
        subst c13
        have H1 : (parterrelaw28_ContentAreas.l0 kj5 l1 l2 a3 a4 l1 (l1.length : Int) 0 a0_0 l0_1 l0_2 l0_3) = some r := by rw [if_neg (show ¬ (false = true) by decide)] at H; exact H
        clear H
        have H := H1
        clear H1
        have H' := Aside0.mk H
        clear H
        go_wp2
        go_loopg [36] kj5 (fun kq v36 w' => ∃ (x36_2 : Int), v36 = .int .i64 x36_2 ∧ Aside0 (parterrelaw28_ContentAreas.l0 kq l1 l2 a3 a4 l1 (l1.length : Int) x36_2 a0_0 l0_1 l0_2 l0_3 = some r) ∧ Aside0 (kq ≤ kj5) ∧ Aside0 (w'.heap[gb370]? = some (.cells #[.int .i64 a0_0, (.slice A0_1 l0_1.length c0_1), (.slice A0_2 l0_2.length c0_2), (.slice A0_3 l0_3.length c0_3)] 26 (0, 0))) ∧ Aside0 (Below w.heap.size w w'))
        case atStart => exact ⟨(0), pmAx19_7_, H', ⟨Nat.le_refl _⟩, ⟨pmAx19_1_⟩, ⟨pmAx19_0_⟩⟩
        case round =>
          clear H'
          try clear c1
          try clear c2
          try clear p2
          try clear c6
          try clear c7
          try clear c8
          try clear c8b0
          try clear c8b1
          try clear c10
          try clear c10b0
          try clear c10b1
          try clear c13
          try clear hcz11_0
          try clear hcz11_1
          try clear hcz11_2
          try clear hcz11_3
          try clear hcz12_0
          try clear hcz12_1
          try clear hcz12_2
          try clear hcz12_3
          try clear hcz9_0
          try clear hcz9_1
          try clear hcz9_2
          try clear hcz9_3
          try clear hfz11_0
          try clear hfz11_1
          try clear hfz11_2
          try clear hfz11_3
          try clear hfz12_0
          try clear hfz12_1
          try clear hfz12_2
          try clear hfz12_3
          try clear hfz9_0
          try clear hfz9_1
          try clear hfz9_2
          try clear hfz9_3
          try clear p2
          obtain ⟨x36_2, rfl, HA, HK2, BK370, HB⟩ := hrel
          cases gk with
          | zero => exact absurd HA.out (by simp [parterrelaw28_ContentAreas.l0])
          | succ k2 =>
            have H := HA.out
            clear HA
            simp only [parterrelaw28_ContentAreas.l0] at H
            by_cases c16 : x36_2 < (l1.length : Int)
            · rw [if_pos c16] at H
              have c16b0 : decide (x36_2 < (l1.length : Int)) = true := decide_eq_true c16
              clear c16
              by_cases c17 : 0 ≤ x36_2
              · rw [if_pos c17] at H
                have c17b0 : decide (0 ≤ x36_2) = true := decide_eq_true c17
                clear c17
                by_cases c18 : x36_2 < (l1.length : Int)
                · rw [if_pos c18] at H
                  have c18b0 : decide (x36_2 < (l1.length : Int)) = true := decide_eq_true c18
                  clear c18
                  by_cases c19 : (rd l1 x36_2) > 1125899906842624
                  · rw [if_pos c19] at H
                    have c19b0 : decide (1125899906842624 < (rd l1 x36_2)) = true := decide_eq_true c19
                    clear c19
                    replace H := Option.bind_eq_some_iff.mp H
                    obtain ⟨t373, A200, H⟩ := H
                    replace H : (some t373) = some r := H
                    have A20 := Aside0.mk A200
                    clear A200
                    obtain rfl := Option.some.inj H
                    have p372 : 0 ≤ (x36_2 : Int) := of_decide_eq_true pmAx19_6_
                    have q372 : x36_2 < (l1.length : Int) := of_decide_eq_true pmAx19_6_
                    obtain ⟨ad372, e372, hx372_0⟩ := Kd.at_int HR1.out x36_2 p372 q372
                    cases e372
                    replace hx372_0 := (HB.out.cell (World.block_lt_of_cell? w _ hx372_0)).trans hx372_0
                    replace p372 := eq_true p372
                    replace q372 := eq_true q372
                    go_wp2_with (first | ((with_reducible refine gate_callee (f := 7) rfl ?_); refine goesL_ (some 46) rfl rfl Try.func7 (by kernel_rfl) rfl #[] rfl pmAx19_3_ ?_; (with_reducible refine (parterrelaw28_lives.calls k2  t373 _ A20.out).mono ?_); rintro e w21 ⟨rfl, hb⟩; refine ⟨_, rfl, ?_⟩; have n0_ := Aside0.mk (blk_below (g := gb370) (o := .cells #[.int .i64 a0_0, .slice A0_1 l0_1.length c0_1, .slice A0_2 l0_2.length c0_2, .slice A0_3 l0_3.length c0_3] 26 (0, 0)) pmAx19_1_ hb); have n1_ := Aside0.mk (below_step pmAx19_0_ hb); clear BK370; clear HB; have BK370 := n0_; have HB := n1_; clear n0_ n1_; (try clear hb); (try clear hb2); (try clear hk); (try clear hi)))
                    go_ret
                    exact ⟨by first | rfl | (simp [errW_none, errW_some] <;> rfl) | (simp [*, errW_none, errW_some] <;> rfl), by repeat (first | (with_reducible first | exact HB.out | apply below_alloc | apply pw_below_drewN | apply below_drew1 | refine below_set ?_ GE370.out) | exact HB.out)⟩
                  · rw [if_neg c19] at H
                    have c19b0 : decide (1125899906842624 < (rd l1 x36_2)) = false := decide_eq_false c19
                    clear c19
                    by_cases c22 : (rd l1 x36_2) < (-1125899906842624)
                    · rw [if_pos c22] at H
                      have c22b0 : decide ((rd l1 x36_2) < (-1125899906842624)) = true := decide_eq_true c22
                      clear c22
                      replace H := Option.bind_eq_some_iff.mp H
                      obtain ⟨t374, A230, H⟩ := H
                      replace H : (some t374) = some r := H
                      have A23 := Aside0.mk A230
                      clear A230
                      obtain rfl := Option.some.inj H
                      have p372 : 0 ≤ (x36_2 : Int) := of_decide_eq_true pmAx19_6_
                      have q372 : x36_2 < (l1.length : Int) := of_decide_eq_true pmAx19_6_
                      obtain ⟨ad372, e372, hx372_0⟩ := Kd.at_int HR1.out x36_2 p372 q372
                      cases e372
                      replace hx372_0 := (HB.out.cell (World.block_lt_of_cell? w _ hx372_0)).trans hx372_0
                      replace p372 := eq_true p372
                      replace q372 := eq_true q372
                      go_wp2_with (first | ((with_reducible refine gate_callee (f := 7) rfl ?_); refine goesL_ (some 46) rfl rfl Try.func7 (by kernel_rfl) rfl #[] rfl pmAx19_3_ ?_; (with_reducible refine (parterrelaw28_lives.calls k2  t374 _ A23.out).mono ?_); rintro e w24 ⟨rfl, hb⟩; refine ⟨_, rfl, ?_⟩; have n0_ := Aside0.mk (blk_below (g := gb370) (o := .cells #[.int .i64 a0_0, .slice A0_1 l0_1.length c0_1, .slice A0_2 l0_2.length c0_2, .slice A0_3 l0_3.length c0_3] 26 (0, 0)) pmAx19_1_ hb); have n1_ := Aside0.mk (below_step pmAx19_0_ hb); clear BK370; clear HB; have BK370 := n0_; have HB := n1_; clear n0_ n1_; (try clear hb); (try clear hb2); (try clear hk); (try clear hi)))
                      go_ret
                      exact ⟨by first | rfl | (simp [errW_none, errW_some] <;> rfl) | (simp [*, errW_none, errW_some] <;> rfl), by repeat (first | (with_reducible first | exact HB.out | apply below_alloc | apply pw_below_drewN | apply below_drew1 | refine below_set ?_ GE370.out) | exact HB.out)⟩
                    · rw [if_neg c22] at H
                      have c22b0 : decide ((rd l1 x36_2) < (-1125899906842624)) = false := decide_eq_false c22
                      clear c22
                      have H' := Aside0.mk H
                      clear H
                      have p372 : 0 ≤ (x36_2 : Int) := of_decide_eq_true pmAx19_6_
                      have q372 : x36_2 < (l1.length : Int) := of_decide_eq_true pmAx19_6_
                      obtain ⟨ad372, e372, hx372_0⟩ := Kd.at_int HR1.out x36_2 p372 q372
                      cases e372
                      replace hx372_0 := (HB.out.cell (World.block_lt_of_cell? w _ hx372_0)).trans hx372_0
                      replace p372 := eq_true p372
                      replace q372 := eq_true q372
                      go_wp2
                      go_roundg k2
                      case measure => have := HJ5.out; have := HK2.out; omega
                      case rel => exact ⟨(wrap64 (x36_2 + 1)), pmAx19_7_, H', ⟨by have := HJ5.out; have := HK2.out; omega⟩, ⟨pmAx19_1_⟩, ⟨pmAx19_0_⟩⟩
                · rw [if_neg c18] at H
                  exact absurd H (by simp)
              · rw [if_neg c17] at H
                exact absurd H (by simp)
            · rw [if_neg c16] at H
              have c16b0 : decide (x36_2 < (l1.length : Int)) = false := decide_eq_false c16
              clear c16
              replace H := Option.bind_eq_some_iff.mp H
              obtain ⟨⟨t375, t376, t377⟩, A250, H⟩ := H
              replace H : ((parterreref28_Area.f k2 a0_0 l0_1 l0_2 l0_3 l1 l2 a3 a4).bind fun bt378 => (if t375 = bt378.1 then (if t376 = bt378.2.1 then (if t377 = bt378.2.2 then ((parterrelaw28_lives.f k2).bind fun t381 => (some t381)) else (some false)) else (some false)) else (some false))) = some r := H
              have A25 := Aside0.mk A250
              clear A250
              replace H := Option.bind_eq_some_iff.mp H
              obtain ⟨⟨t378, t379, t380⟩, A260, H⟩ := H
              replace H : (if t375 = t378 then (if t376 = t379 then (if t377 = t380 then ((parterrelaw28_lives.f k2).bind fun t381 => (some t381)) else (some false)) else (some false)) else (some false)) = some r := H
              have A26 := Aside0.mk A260
              clear A260
              by_cases c27 : t375 = t378
              · rw [if_pos c27] at H
                have c27b0 : (t375 == t378) = true := beq_iff_eq.mpr c27
                have c27b1 : (t375 != t378) = false := bne_eq_false_iff_eq.mpr c27
                clear c27
                by_cases c28 : t376 = t379
                · rw [if_pos c28] at H
                  have c28b0 : (t376 == t379) = true := beq_iff_eq.mpr c28
                  have c28b1 : (t376 != t379) = false := bne_eq_false_iff_eq.mpr c28
                  clear c28
                  by_cases c29 : t377 = t380
                  · rw [if_pos c29] at H
                    have c29b0 : (t377 == t380) = true := beq_iff_eq.mpr c29
                    have c29b1 : (t377 != t380) = false := bne_eq_false_iff_eq.mpr c29
                    clear c29
                    replace H := Option.bind_eq_some_iff.mp H
                    obtain ⟨t381, A300, H⟩ := H
                    replace H : (some t381) = some r := H
                    have A30 := Aside0.mk A300
                    clear A300
                    obtain rfl := Option.some.inj H
                    have hcz31_0 : wr.cell? ⟨gb370, 0, none⟩ = some (.int .i64 a0_0) := (blk_cell BK370.out 0).trans rfl
                    have hcz31_1 : wr.cell? ⟨gb370, 1, none⟩ = some (.slice A0_1 l0_1.length c0_1) := (blk_cell BK370.out 1).trans rfl
                    have hcz31_2 : wr.cell? ⟨gb370, 2, none⟩ = some (.slice A0_2 l0_2.length c0_2) := (blk_cell BK370.out 2).trans rfl
                    have hcz31_3 : wr.cell? ⟨gb370, 3, none⟩ = some (.slice A0_3 l0_3.length c0_3) := (blk_cell BK370.out 3).trans rfl
                    have hfz31_0 := blk_frozen BK370.out 0
                    have hfz31_1 := blk_frozen BK370.out 1
                    have hfz31_2 := blk_frozen BK370.out 2
                    have hfz31_3 := blk_frozen BK370.out 3
                    go_wp2_with (first | ((with_reducible refine gate_callee (f := 12) rfl ?_); refine goesL_ (some 54) rfl rfl Try.func12 (by kernel_rfl) rfl #[.agg #[.int .i64 a0_0, .slice A0_1 l0_1.length c0_1, .slice A0_2 l0_2.length c0_2, .slice A0_3 l0_3.length c0_3], .slice A1 l1.length c1, .slice A2 l2.length c2, .int .i64 a3, .int .i64 a4] rfl pmAx19_3_ ?_; (with_reducible refine (content_Area.calls k2 a0_0 _ _ l0_1 _ _ l0_2 _ _ l0_3 _ _ l1 _ _ l2 a3 a4 t375 t376 t377 _ ?side1 ?side2 ?side3 ?side4 ?side5 ?side6 ?side7 ?side8 ?side9 ?side10 A25.out).mono ?_); (case side1 => repeat (first | exact (Kd.C_below HR0_1.out HB.out) | (with_reducible refine Kd.C_alloc ?_ _) | (with_reducible refine Kd.C_drewN ?_ _) | (with_reducible refine Kd.C_drew ?_))); (case side2 => exact HC0_1.out); (case side3 => repeat (first | exact (Kd.C_below HR0_2.out HB.out) | (with_reducible refine Kd.C_alloc ?_ _) | (with_reducible refine Kd.C_drewN ?_ _) | (with_reducible refine Kd.C_drew ?_))); (case side4 => exact HC0_2.out); (case side5 => repeat (first | exact (Kd.C_below HR0_3.out HB.out) | (with_reducible refine Kd.C_alloc ?_ _) | (with_reducible refine Kd.C_drewN ?_ _) | (with_reducible refine Kd.C_drew ?_))); (case side6 => exact HC0_3.out); (case side7 => repeat (first | exact (Kd.C_below HR1.out HB.out) | (with_reducible refine Kd.C_alloc ?_ _) | (with_reducible refine Kd.C_drewN ?_ _) | (with_reducible refine Kd.C_drew ?_))); (case side8 => exact HC1.out); (case side9 => repeat (first | exact (Kd.C_below HR2.out HB.out) | (with_reducible refine Kd.C_alloc ?_ _) | (with_reducible refine Kd.C_drewN ?_ _) | (with_reducible refine Kd.C_drew ?_))); (case side10 => exact HC2.out); rintro e w32 ⟨rfl, hb⟩; refine ⟨_, rfl, ?_⟩; have n0_ := Aside0.mk (blk_below (g := gb370) (o := .cells #[.int .i64 a0_0, .slice A0_1 l0_1.length c0_1, .slice A0_2 l0_2.length c0_2, .slice A0_3 l0_3.length c0_3] 26 (0, 0)) pmAx19_1_ hb); have n1_ := Aside0.mk (below_step pmAx19_0_ hb); clear BK370; clear HB; have BK370 := n0_; have HB := n1_; clear n0_ n1_; (try clear hb); (try clear hb2); (try clear hk); (try clear hi); have hcz33_0 : w32.cell? ⟨gb370, 0, none⟩ = some (.int .i64 a0_0) := (blk_cell BK370.out 0).trans rfl; have hcz33_1 : w32.cell? ⟨gb370, 1, none⟩ = some (.slice A0_1 l0_1.length c0_1) := (blk_cell BK370.out 1).trans rfl; have hcz33_2 : w32.cell? ⟨gb370, 2, none⟩ = some (.slice A0_2 l0_2.length c0_2) := (blk_cell BK370.out 2).trans rfl; have hcz33_3 : w32.cell? ⟨gb370, 3, none⟩ = some (.slice A0_3 l0_3.length c0_3) := (blk_cell BK370.out 3).trans rfl; have hfz33_0 := blk_frozen BK370.out 0; have hfz33_1 := blk_frozen BK370.out 1; have hfz33_2 := blk_frozen BK370.out 2; have hfz33_3 := blk_frozen BK370.out 3) | ((with_reducible refine gate_callee (f := 13) rfl ?_); refine goesL_ (some 64) rfl rfl Try.func13 (by kernel_rfl) rfl #[.agg #[.int .i64 a0_0, .slice A0_1 l0_1.length c0_1, .slice A0_2 l0_2.length c0_2, .slice A0_3 l0_3.length c0_3], .slice A1 l1.length c1, .slice A2 l2.length c2, .int .i64 a3, .int .i64 a4] rfl pmAx19_3_ ?_; (with_reducible refine (parterreref28_Area.calls k2 a0_0 _ _ l0_1 _ _ l0_2 _ _ l0_3 _ _ l1 _ _ l2 a3 a4 t378 t379 t380 _ ?side1 ?side2 ?side3 ?side4 ?side5 ?side6 ?side7 ?side8 ?side9 ?side10 A26.out).mono ?_); (case side1 => repeat (first | exact (Kd.C_below HR0_1.out HB.out) | (with_reducible refine Kd.C_alloc ?_ _) | (with_reducible refine Kd.C_drewN ?_ _) | (with_reducible refine Kd.C_drew ?_))); (case side2 => exact HC0_1.out); (case side3 => repeat (first | exact (Kd.C_below HR0_2.out HB.out) | (with_reducible refine Kd.C_alloc ?_ _) | (with_reducible refine Kd.C_drewN ?_ _) | (with_reducible refine Kd.C_drew ?_))); (case side4 => exact HC0_2.out); (case side5 => repeat (first | exact (Kd.C_below HR0_3.out HB.out) | (with_reducible refine Kd.C_alloc ?_ _) | (with_reducible refine Kd.C_drewN ?_ _) | (with_reducible refine Kd.C_drew ?_))); (case side6 => exact HC0_3.out); (case side7 => repeat (first | exact (Kd.C_below HR1.out HB.out) | (with_reducible refine Kd.C_alloc ?_ _) | (with_reducible refine Kd.C_drewN ?_ _) | (with_reducible refine Kd.C_drew ?_))); (case side8 => exact HC1.out); (case side9 => repeat (first | exact (Kd.C_below HR2.out HB.out) | (with_reducible refine Kd.C_alloc ?_ _) | (with_reducible refine Kd.C_drewN ?_ _) | (with_reducible refine Kd.C_drew ?_))); (case side10 => exact HC2.out); rintro e w34 ⟨rfl, hb⟩; refine ⟨_, rfl, ?_⟩; have n0_ := Aside0.mk (blk_below (g := gb370) (o := .cells #[.int .i64 a0_0, .slice A0_1 l0_1.length c0_1, .slice A0_2 l0_2.length c0_2, .slice A0_3 l0_3.length c0_3] 26 (0, 0)) pmAx19_1_ hb); have n1_ := Aside0.mk (below_step pmAx19_0_ hb); clear BK370; clear HB; have BK370 := n0_; have HB := n1_; clear n0_ n1_; (try clear hb); (try clear hb2); (try clear hk); (try clear hi)) | (go_at_call 7; (with_reducible refine (parterrelaw28_lives.calls k2  t381 _ A30.out).mono ?_); rintro e w35 ⟨rfl, hb⟩; have n0_ := Aside0.mk (blk_below (g := gb370) (o := .cells #[.int .i64 a0_0, .slice A0_1 l0_1.length c0_1, .slice A0_2 l0_2.length c0_2, .slice A0_3 l0_3.length c0_3] 26 (0, 0)) pmAx19_1_ hb); have n1_ := Aside0.mk (below_step pmAx19_0_ hb); clear BK370; clear HB; have BK370 := n0_; have HB := n1_; clear n0_ n1_; (try clear hb); (try clear hb2); (try clear hk); (try clear hi)))
                    go_ret
                    exact ⟨by first | rfl | (simp [errW_none, errW_some] <;> rfl) | (simp [*, errW_none, errW_some] <;> rfl), by repeat (first | (with_reducible first | exact HB.out | apply below_alloc | apply pw_below_drewN | apply below_drew1 | refine below_set ?_ GE370.out) | exact HB.out)⟩
                  · rw [if_neg c29] at H
                    have c29b0 : (t377 == t380) = false := beq_eq_false_iff_ne.mpr c29
                    have c29b1 : (t377 != t380) = true := bne_iff_ne.mpr c29
                    obtain rfl := Option.some.inj H
                    have hcz36_0 : wr.cell? ⟨gb370, 0, none⟩ = some (.int .i64 a0_0) := (blk_cell BK370.out 0).trans rfl
                    have hcz36_1 : wr.cell? ⟨gb370, 1, none⟩ = some (.slice A0_1 l0_1.length c0_1) := (blk_cell BK370.out 1).trans rfl
                    have hcz36_2 : wr.cell? ⟨gb370, 2, none⟩ = some (.slice A0_2 l0_2.length c0_2) := (blk_cell BK370.out 2).trans rfl
                    have hcz36_3 : wr.cell? ⟨gb370, 3, none⟩ = some (.slice A0_3 l0_3.length c0_3) := (blk_cell BK370.out 3).trans rfl
                    have hfz36_0 := blk_frozen BK370.out 0
                    have hfz36_1 := blk_frozen BK370.out 1
                    have hfz36_2 := blk_frozen BK370.out 2
                    have hfz36_3 := blk_frozen BK370.out 3
                    go_wp2_with (first | ((with_reducible refine gate_callee (f := 12) rfl ?_); refine goesL_ (some 54) rfl rfl Try.func12 (by kernel_rfl) rfl #[.agg #[.int .i64 a0_0, .slice A0_1 l0_1.length c0_1, .slice A0_2 l0_2.length c0_2, .slice A0_3 l0_3.length c0_3], .slice A1 l1.length c1, .slice A2 l2.length c2, .int .i64 a3, .int .i64 a4] rfl pmAx19_3_ ?_; (with_reducible refine (content_Area.calls k2 a0_0 _ _ l0_1 _ _ l0_2 _ _ l0_3 _ _ l1 _ _ l2 a3 a4 t375 t376 t377 _ ?side1 ?side2 ?side3 ?side4 ?side5 ?side6 ?side7 ?side8 ?side9 ?side10 A25.out).mono ?_); (case side1 => repeat (first | exact (Kd.C_below HR0_1.out HB.out) | (with_reducible refine Kd.C_alloc ?_ _) | (with_reducible refine Kd.C_drewN ?_ _) | (with_reducible refine Kd.C_drew ?_))); (case side2 => exact HC0_1.out); (case side3 => repeat (first | exact (Kd.C_below HR0_2.out HB.out) | (with_reducible refine Kd.C_alloc ?_ _) | (with_reducible refine Kd.C_drewN ?_ _) | (with_reducible refine Kd.C_drew ?_))); (case side4 => exact HC0_2.out); (case side5 => repeat (first | exact (Kd.C_below HR0_3.out HB.out) | (with_reducible refine Kd.C_alloc ?_ _) | (with_reducible refine Kd.C_drewN ?_ _) | (with_reducible refine Kd.C_drew ?_))); (case side6 => exact HC0_3.out); (case side7 => repeat (first | exact (Kd.C_below HR1.out HB.out) | (with_reducible refine Kd.C_alloc ?_ _) | (with_reducible refine Kd.C_drewN ?_ _) | (with_reducible refine Kd.C_drew ?_))); (case side8 => exact HC1.out); (case side9 => repeat (first | exact (Kd.C_below HR2.out HB.out) | (with_reducible refine Kd.C_alloc ?_ _) | (with_reducible refine Kd.C_drewN ?_ _) | (with_reducible refine Kd.C_drew ?_))); (case side10 => exact HC2.out); rintro e w37 ⟨rfl, hb⟩; refine ⟨_, rfl, ?_⟩; have n0_ := Aside0.mk (blk_below (g := gb370) (o := .cells #[.int .i64 a0_0, .slice A0_1 l0_1.length c0_1, .slice A0_2 l0_2.length c0_2, .slice A0_3 l0_3.length c0_3] 26 (0, 0)) pmAx19_1_ hb); have n1_ := Aside0.mk (below_step pmAx19_0_ hb); clear BK370; clear HB; have BK370 := n0_; have HB := n1_; clear n0_ n1_; (try clear hb); (try clear hb2); (try clear hk); (try clear hi); have hcz38_0 : w37.cell? ⟨gb370, 0, none⟩ = some (.int .i64 a0_0) := (blk_cell BK370.out 0).trans rfl; have hcz38_1 : w37.cell? ⟨gb370, 1, none⟩ = some (.slice A0_1 l0_1.length c0_1) := (blk_cell BK370.out 1).trans rfl; have hcz38_2 : w37.cell? ⟨gb370, 2, none⟩ = some (.slice A0_2 l0_2.length c0_2) := (blk_cell BK370.out 2).trans rfl; have hcz38_3 : w37.cell? ⟨gb370, 3, none⟩ = some (.slice A0_3 l0_3.length c0_3) := (blk_cell BK370.out 3).trans rfl; have hfz38_0 := blk_frozen BK370.out 0; have hfz38_1 := blk_frozen BK370.out 1; have hfz38_2 := blk_frozen BK370.out 2; have hfz38_3 := blk_frozen BK370.out 3) | ((with_reducible refine gate_callee (f := 13) rfl ?_); refine goesL_ (some 64) rfl rfl Try.func13 (by kernel_rfl) rfl #[.agg #[.int .i64 a0_0, .slice A0_1 l0_1.length c0_1, .slice A0_2 l0_2.length c0_2, .slice A0_3 l0_3.length c0_3], .slice A1 l1.length c1, .slice A2 l2.length c2, .int .i64 a3, .int .i64 a4] rfl pmAx19_3_ ?_; (with_reducible refine (parterreref28_Area.calls k2 a0_0 _ _ l0_1 _ _ l0_2 _ _ l0_3 _ _ l1 _ _ l2 a3 a4 t378 t379 t380 _ ?side1 ?side2 ?side3 ?side4 ?side5 ?side6 ?side7 ?side8 ?side9 ?side10 A26.out).mono ?_); (case side1 => repeat (first | exact (Kd.C_below HR0_1.out HB.out) | (with_reducible refine Kd.C_alloc ?_ _) | (with_reducible refine Kd.C_drewN ?_ _) | (with_reducible refine Kd.C_drew ?_))); (case side2 => exact HC0_1.out); (case side3 => repeat (first | exact (Kd.C_below HR0_2.out HB.out) | (with_reducible refine Kd.C_alloc ?_ _) | (with_reducible refine Kd.C_drewN ?_ _) | (with_reducible refine Kd.C_drew ?_))); (case side4 => exact HC0_2.out); (case side5 => repeat (first | exact (Kd.C_below HR0_3.out HB.out) | (with_reducible refine Kd.C_alloc ?_ _) | (with_reducible refine Kd.C_drewN ?_ _) | (with_reducible refine Kd.C_drew ?_))); (case side6 => exact HC0_3.out); (case side7 => repeat (first | exact (Kd.C_below HR1.out HB.out) | (with_reducible refine Kd.C_alloc ?_ _) | (with_reducible refine Kd.C_drewN ?_ _) | (with_reducible refine Kd.C_drew ?_))); (case side8 => exact HC1.out); (case side9 => repeat (first | exact (Kd.C_below HR2.out HB.out) | (with_reducible refine Kd.C_alloc ?_ _) | (with_reducible refine Kd.C_drewN ?_ _) | (with_reducible refine Kd.C_drew ?_))); (case side10 => exact HC2.out); rintro e w39 ⟨rfl, hb⟩; refine ⟨_, rfl, ?_⟩; have n0_ := Aside0.mk (blk_below (g := gb370) (o := .cells #[.int .i64 a0_0, .slice A0_1 l0_1.length c0_1, .slice A0_2 l0_2.length c0_2, .slice A0_3 l0_3.length c0_3] 26 (0, 0)) pmAx19_1_ hb); have n1_ := Aside0.mk (below_step pmAx19_0_ hb); clear BK370; clear HB; have BK370 := n0_; have HB := n1_; clear n0_ n1_; (try clear hb); (try clear hb2); (try clear hk); (try clear hi)))
                    go_ret
                    exact ⟨by first | rfl | (simp [errW_none, errW_some] <;> rfl) | (simp [*, errW_none, errW_some] <;> rfl), by repeat (first | (with_reducible first | exact HB.out | apply below_alloc | apply pw_below_drewN | apply below_drew1 | refine below_set ?_ GE370.out) | exact HB.out)⟩
                · rw [if_neg c28] at H
                  have c28b0 : (t376 == t379) = false := beq_eq_false_iff_ne.mpr c28
                  have c28b1 : (t376 != t379) = true := bne_iff_ne.mpr c28
                  obtain rfl := Option.some.inj H
                  have hcz40_0 : wr.cell? ⟨gb370, 0, none⟩ = some (.int .i64 a0_0) := (blk_cell BK370.out 0).trans rfl
                  have hcz40_1 : wr.cell? ⟨gb370, 1, none⟩ = some (.slice A0_1 l0_1.length c0_1) := (blk_cell BK370.out 1).trans rfl
                  have hcz40_2 : wr.cell? ⟨gb370, 2, none⟩ = some (.slice A0_2 l0_2.length c0_2) := (blk_cell BK370.out 2).trans rfl
                  have hcz40_3 : wr.cell? ⟨gb370, 3, none⟩ = some (.slice A0_3 l0_3.length c0_3) := (blk_cell BK370.out 3).trans rfl
                  have hfz40_0 := blk_frozen BK370.out 0
                  have hfz40_1 := blk_frozen BK370.out 1
                  have hfz40_2 := blk_frozen BK370.out 2
                  have hfz40_3 := blk_frozen BK370.out 3
                  go_wp2_with (first | ((with_reducible refine gate_callee (f := 12) rfl ?_); refine goesL_ (some 54) rfl rfl Try.func12 (by kernel_rfl) rfl #[.agg #[.int .i64 a0_0, .slice A0_1 l0_1.length c0_1, .slice A0_2 l0_2.length c0_2, .slice A0_3 l0_3.length c0_3], .slice A1 l1.length c1, .slice A2 l2.length c2, .int .i64 a3, .int .i64 a4] rfl pmAx19_3_ ?_; (with_reducible refine (content_Area.calls k2 a0_0 _ _ l0_1 _ _ l0_2 _ _ l0_3 _ _ l1 _ _ l2 a3 a4 t375 t376 t377 _ ?side1 ?side2 ?side3 ?side4 ?side5 ?side6 ?side7 ?side8 ?side9 ?side10 A25.out).mono ?_); (case side1 => repeat (first | exact (Kd.C_below HR0_1.out HB.out) | (with_reducible refine Kd.C_alloc ?_ _) | (with_reducible refine Kd.C_drewN ?_ _) | (with_reducible refine Kd.C_drew ?_))); (case side2 => exact HC0_1.out); (case side3 => repeat (first | exact (Kd.C_below HR0_2.out HB.out) | (with_reducible refine Kd.C_alloc ?_ _) | (with_reducible refine Kd.C_drewN ?_ _) | (with_reducible refine Kd.C_drew ?_))); (case side4 => exact HC0_2.out); (case side5 => repeat (first | exact (Kd.C_below HR0_3.out HB.out) | (with_reducible refine Kd.C_alloc ?_ _) | (with_reducible refine Kd.C_drewN ?_ _) | (with_reducible refine Kd.C_drew ?_))); (case side6 => exact HC0_3.out); (case side7 => repeat (first | exact (Kd.C_below HR1.out HB.out) | (with_reducible refine Kd.C_alloc ?_ _) | (with_reducible refine Kd.C_drewN ?_ _) | (with_reducible refine Kd.C_drew ?_))); (case side8 => exact HC1.out); (case side9 => repeat (first | exact (Kd.C_below HR2.out HB.out) | (with_reducible refine Kd.C_alloc ?_ _) | (with_reducible refine Kd.C_drewN ?_ _) | (with_reducible refine Kd.C_drew ?_))); (case side10 => exact HC2.out); rintro e w41 ⟨rfl, hb⟩; refine ⟨_, rfl, ?_⟩; have n0_ := Aside0.mk (blk_below (g := gb370) (o := .cells #[.int .i64 a0_0, .slice A0_1 l0_1.length c0_1, .slice A0_2 l0_2.length c0_2, .slice A0_3 l0_3.length c0_3] 26 (0, 0)) pmAx19_1_ hb); have n1_ := Aside0.mk (below_step pmAx19_0_ hb); clear BK370; clear HB; have BK370 := n0_; have HB := n1_; clear n0_ n1_; (try clear hb); (try clear hb2); (try clear hk); (try clear hi); have hcz42_0 : w41.cell? ⟨gb370, 0, none⟩ = some (.int .i64 a0_0) := (blk_cell BK370.out 0).trans rfl; have hcz42_1 : w41.cell? ⟨gb370, 1, none⟩ = some (.slice A0_1 l0_1.length c0_1) := (blk_cell BK370.out 1).trans rfl; have hcz42_2 : w41.cell? ⟨gb370, 2, none⟩ = some (.slice A0_2 l0_2.length c0_2) := (blk_cell BK370.out 2).trans rfl; have hcz42_3 : w41.cell? ⟨gb370, 3, none⟩ = some (.slice A0_3 l0_3.length c0_3) := (blk_cell BK370.out 3).trans rfl; have hfz42_0 := blk_frozen BK370.out 0; have hfz42_1 := blk_frozen BK370.out 1; have hfz42_2 := blk_frozen BK370.out 2; have hfz42_3 := blk_frozen BK370.out 3) | ((with_reducible refine gate_callee (f := 13) rfl ?_); refine goesL_ (some 64) rfl rfl Try.func13 (by kernel_rfl) rfl #[.agg #[.int .i64 a0_0, .slice A0_1 l0_1.length c0_1, .slice A0_2 l0_2.length c0_2, .slice A0_3 l0_3.length c0_3], .slice A1 l1.length c1, .slice A2 l2.length c2, .int .i64 a3, .int .i64 a4] rfl pmAx19_3_ ?_; (with_reducible refine (parterreref28_Area.calls k2 a0_0 _ _ l0_1 _ _ l0_2 _ _ l0_3 _ _ l1 _ _ l2 a3 a4 t378 t379 t380 _ ?side1 ?side2 ?side3 ?side4 ?side5 ?side6 ?side7 ?side8 ?side9 ?side10 A26.out).mono ?_); (case side1 => repeat (first | exact (Kd.C_below HR0_1.out HB.out) | (with_reducible refine Kd.C_alloc ?_ _) | (with_reducible refine Kd.C_drewN ?_ _) | (with_reducible refine Kd.C_drew ?_))); (case side2 => exact HC0_1.out); (case side3 => repeat (first | exact (Kd.C_below HR0_2.out HB.out) | (with_reducible refine Kd.C_alloc ?_ _) | (with_reducible refine Kd.C_drewN ?_ _) | (with_reducible refine Kd.C_drew ?_))); (case side4 => exact HC0_2.out); (case side5 => repeat (first | exact (Kd.C_below HR0_3.out HB.out) | (with_reducible refine Kd.C_alloc ?_ _) | (with_reducible refine Kd.C_drewN ?_ _) | (with_reducible refine Kd.C_drew ?_))); (case side6 => exact HC0_3.out); (case side7 => repeat (first | exact (Kd.C_below HR1.out HB.out) | (with_reducible refine Kd.C_alloc ?_ _) | (with_reducible refine Kd.C_drewN ?_ _) | (with_reducible refine Kd.C_drew ?_))); (case side8 => exact HC1.out); (case side9 => repeat (first | exact (Kd.C_below HR2.out HB.out) | (with_reducible refine Kd.C_alloc ?_ _) | (with_reducible refine Kd.C_drewN ?_ _) | (with_reducible refine Kd.C_drew ?_))); (case side10 => exact HC2.out); rintro e w43 ⟨rfl, hb⟩; refine ⟨_, rfl, ?_⟩; have n0_ := Aside0.mk (blk_below (g := gb370) (o := .cells #[.int .i64 a0_0, .slice A0_1 l0_1.length c0_1, .slice A0_2 l0_2.length c0_2, .slice A0_3 l0_3.length c0_3] 26 (0, 0)) pmAx19_1_ hb); have n1_ := Aside0.mk (below_step pmAx19_0_ hb); clear BK370; clear HB; have BK370 := n0_; have HB := n1_; clear n0_ n1_; (try clear hb); (try clear hb2); (try clear hk); (try clear hi)))
                  go_ret
                  exact ⟨by first | rfl | (simp [errW_none, errW_some] <;> rfl) | (simp [*, errW_none, errW_some] <;> rfl), by repeat (first | (with_reducible first | exact HB.out | apply below_alloc | apply pw_below_drewN | apply below_drew1 | refine below_set ?_ GE370.out) | exact HB.out)⟩
              · rw [if_neg c27] at H
                have c27b0 : (t375 == t378) = false := beq_eq_false_iff_ne.mpr c27
                have c27b1 : (t375 != t378) = true := bne_iff_ne.mpr c27
                obtain rfl := Option.some.inj H
                have hcz44_0 : wr.cell? ⟨gb370, 0, none⟩ = some (.int .i64 a0_0) := (blk_cell BK370.out 0).trans rfl
                have hcz44_1 : wr.cell? ⟨gb370, 1, none⟩ = some (.slice A0_1 l0_1.length c0_1) := (blk_cell BK370.out 1).trans rfl
                have hcz44_2 : wr.cell? ⟨gb370, 2, none⟩ = some (.slice A0_2 l0_2.length c0_2) := (blk_cell BK370.out 2).trans rfl
                have hcz44_3 : wr.cell? ⟨gb370, 3, none⟩ = some (.slice A0_3 l0_3.length c0_3) := (blk_cell BK370.out 3).trans rfl
                have hfz44_0 := blk_frozen BK370.out 0
                have hfz44_1 := blk_frozen BK370.out 1
                have hfz44_2 := blk_frozen BK370.out 2
                have hfz44_3 := blk_frozen BK370.out 3
                go_wp2_with (first | ((with_reducible refine gate_callee (f := 12) rfl ?_); refine goesL_ (some 54) rfl rfl Try.func12 (by kernel_rfl) rfl #[.agg #[.int .i64 a0_0, .slice A0_1 l0_1.length c0_1, .slice A0_2 l0_2.length c0_2, .slice A0_3 l0_3.length c0_3], .slice A1 l1.length c1, .slice A2 l2.length c2, .int .i64 a3, .int .i64 a4] rfl pmAx19_3_ ?_; (with_reducible refine (content_Area.calls k2 a0_0 _ _ l0_1 _ _ l0_2 _ _ l0_3 _ _ l1 _ _ l2 a3 a4 t375 t376 t377 _ ?side1 ?side2 ?side3 ?side4 ?side5 ?side6 ?side7 ?side8 ?side9 ?side10 A25.out).mono ?_); (case side1 => repeat (first | exact (Kd.C_below HR0_1.out HB.out) | (with_reducible refine Kd.C_alloc ?_ _) | (with_reducible refine Kd.C_drewN ?_ _) | (with_reducible refine Kd.C_drew ?_))); (case side2 => exact HC0_1.out); (case side3 => repeat (first | exact (Kd.C_below HR0_2.out HB.out) | (with_reducible refine Kd.C_alloc ?_ _) | (with_reducible refine Kd.C_drewN ?_ _) | (with_reducible refine Kd.C_drew ?_))); (case side4 => exact HC0_2.out); (case side5 => repeat (first | exact (Kd.C_below HR0_3.out HB.out) | (with_reducible refine Kd.C_alloc ?_ _) | (with_reducible refine Kd.C_drewN ?_ _) | (with_reducible refine Kd.C_drew ?_))); (case side6 => exact HC0_3.out); (case side7 => repeat (first | exact (Kd.C_below HR1.out HB.out) | (with_reducible refine Kd.C_alloc ?_ _) | (with_reducible refine Kd.C_drewN ?_ _) | (with_reducible refine Kd.C_drew ?_))); (case side8 => exact HC1.out); (case side9 => repeat (first | exact (Kd.C_below HR2.out HB.out) | (with_reducible refine Kd.C_alloc ?_ _) | (with_reducible refine Kd.C_drewN ?_ _) | (with_reducible refine Kd.C_drew ?_))); (case side10 => exact HC2.out); rintro e w45 ⟨rfl, hb⟩; refine ⟨_, rfl, ?_⟩; have n0_ := Aside0.mk (blk_below (g := gb370) (o := .cells #[.int .i64 a0_0, .slice A0_1 l0_1.length c0_1, .slice A0_2 l0_2.length c0_2, .slice A0_3 l0_3.length c0_3] 26 (0, 0)) pmAx19_1_ hb); have n1_ := Aside0.mk (below_step pmAx19_0_ hb); clear BK370; clear HB; have BK370 := n0_; have HB := n1_; clear n0_ n1_; (try clear hb); (try clear hb2); (try clear hk); (try clear hi); have hcz46_0 : w45.cell? ⟨gb370, 0, none⟩ = some (.int .i64 a0_0) := (blk_cell BK370.out 0).trans rfl; have hcz46_1 : w45.cell? ⟨gb370, 1, none⟩ = some (.slice A0_1 l0_1.length c0_1) := (blk_cell BK370.out 1).trans rfl; have hcz46_2 : w45.cell? ⟨gb370, 2, none⟩ = some (.slice A0_2 l0_2.length c0_2) := (blk_cell BK370.out 2).trans rfl; have hcz46_3 : w45.cell? ⟨gb370, 3, none⟩ = some (.slice A0_3 l0_3.length c0_3) := (blk_cell BK370.out 3).trans rfl; have hfz46_0 := blk_frozen BK370.out 0; have hfz46_1 := blk_frozen BK370.out 1; have hfz46_2 := blk_frozen BK370.out 2; have hfz46_3 := blk_frozen BK370.out 3) | ((with_reducible refine gate_callee (f := 13) rfl ?_); refine goesL_ (some 64) rfl rfl Try.func13 (by kernel_rfl) rfl #[.agg #[.int .i64 a0_0, .slice A0_1 l0_1.length c0_1, .slice A0_2 l0_2.length c0_2, .slice A0_3 l0_3.length c0_3], .slice A1 l1.length c1, .slice A2 l2.length c2, .int .i64 a3, .int .i64 a4] rfl pmAx19_3_ ?_; (with_reducible refine (parterreref28_Area.calls k2 a0_0 _ _ l0_1 _ _ l0_2 _ _ l0_3 _ _ l1 _ _ l2 a3 a4 t378 t379 t380 _ ?side1 ?side2 ?side3 ?side4 ?side5 ?side6 ?side7 ?side8 ?side9 ?side10 A26.out).mono ?_); (case side1 => repeat (first | exact (Kd.C_below HR0_1.out HB.out) | (with_reducible refine Kd.C_alloc ?_ _) | (with_reducible refine Kd.C_drewN ?_ _) | (with_reducible refine Kd.C_drew ?_))); (case side2 => exact HC0_1.out); (case side3 => repeat (first | exact (Kd.C_below HR0_2.out HB.out) | (with_reducible refine Kd.C_alloc ?_ _) | (with_reducible refine Kd.C_drewN ?_ _) | (with_reducible refine Kd.C_drew ?_))); (case side4 => exact HC0_2.out); (case side5 => repeat (first | exact (Kd.C_below HR0_3.out HB.out) | (with_reducible refine Kd.C_alloc ?_ _) | (with_reducible refine Kd.C_drewN ?_ _) | (with_reducible refine Kd.C_drew ?_))); (case side6 => exact HC0_3.out); (case side7 => repeat (first | exact (Kd.C_below HR1.out HB.out) | (with_reducible refine Kd.C_alloc ?_ _) | (with_reducible refine Kd.C_drewN ?_ _) | (with_reducible refine Kd.C_drew ?_))); (case side8 => exact HC1.out); (case side9 => repeat (first | exact (Kd.C_below HR2.out HB.out) | (with_reducible refine Kd.C_alloc ?_ _) | (with_reducible refine Kd.C_drewN ?_ _) | (with_reducible refine Kd.C_drew ?_))); (case side10 => exact HC2.out); rintro e w47 ⟨rfl, hb⟩; refine ⟨_, rfl, ?_⟩; have n0_ := Aside0.mk (blk_below (g := gb370) (o := .cells #[.int .i64 a0_0, .slice A0_1 l0_1.length c0_1, .slice A0_2 l0_2.length c0_2, .slice A0_3 l0_3.length c0_3] 26 (0, 0)) pmAx19_1_ hb); have n1_ := Aside0.mk (below_step pmAx19_0_ hb); clear BK370; clear HB; have BK370 := n0_; have HB := n1_; clear n0_ n1_; (try clear hb); (try clear hb2); (try clear hk); (try clear hi)))
                go_ret
                exact ⟨by first | rfl | (simp [errW_none, errW_some] <;> rfl) | (simp [*, errW_none, errW_some] <;> rfl), by repeat (first | (with_reducible first | exact HB.out | apply below_alloc | apply pw_below_drewN | apply below_drew1 | refine below_set ?_ GE370.out) | exact HB.out)⟩
/-- THE ONE PURE STATEMENT of parterrelaw28_ContentAreas. -/
def parterrelaw28_ContentAreas.Pure : Prop := ∀ (a0_0 : Int) (l0_1 : List (S57)) (l0_2 : List Bool) (l0_3 : List Int) (l1 : List Int) (l2 : List Int) (a3 : Int) (a4 : Int), (Lit.int .i64 a0_0).wf = true → l0_1.length ≤ 9223372036854775807 → (∀ e_ ∈ l0_1, wf57 e_) → l0_2.length ≤ 9223372036854775807 → (∀ e_ ∈ l0_2, True) → l0_3.length ≤ 9223372036854775807 → (∀ e_ ∈ l0_3, (Lit.int .i64 e_).wf = true) → l1.length ≤ 9223372036854775807 → l1.length * 8 ≤ 140737488351232 → (∀ e_ ∈ l1, (Lit.int .i64 e_).wf = true) → l2.length ≤ 9223372036854775807 → l2.length * 8 ≤ 140737488351232 → (∀ e_ ∈ l2, (Lit.int .i64 e_).wf = true) → (Lit.int .i64 a3).wf = true → (Lit.int .i64 a4).wf = true → ∃ k, parterrelaw28_ContentAreas.f k a0_0 l0_1 l0_2 l0_3 l1 l2 a3 a4 = some true

end Go.Proofs.Ytbkohlhonhmhmaa.PA
