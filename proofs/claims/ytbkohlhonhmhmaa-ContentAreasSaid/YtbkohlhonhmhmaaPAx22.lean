-- written by a program of this session (a print of the translation with changes of its own)
import Derived.Test.YtbkohlhonhmhmaaPAx0
import Derived.Test.YtbkohlhonhmhmaaPAx4
import Derived.Test.YtbkohlhonhmhmaaPAx7
namespace Go.Proofs.Ytbkohlhonhmhmaa.PA
open Go.RowKit Go.Proofs.YtbkohlhonhmhmaaW.PrintWords Go.Proofs.YtbkohlhonhmhmaaW.PrintLast Go.Proofs.YtbkohlhonhmhmaaW.PrintMore
theorem pmAx18_0_ {P : Prop} (h : P := by repeat (first | (with_reducible first | exact HB.out | apply below_alloc | apply pw_below_drewN | apply below_drew1 | refine below_set ?_ GE344.out) | exact HB.out)) : P := h
theorem pmAx18_1_ {P : Prop} (h : P := by repeat (first | (with_reducible first | exact HB.out | apply below_alloc | apply pw_below_drewN | apply below_drew1) | exact HB.out)) : P := h
theorem pmAx18_2_ {P : Prop} (h : P := by (with_reducible repeat (first | refine blk_drewN ?_ _ | refine blk_drew ?_ | refine blk_alloc ?_ _)); exact BK344.out) : P := h
theorem pmAx18_3_ {P : Prop} (h : P := by (try simp only [List.map_toArray, List.map_cons, List.map_nil]); first | done | rfl | (simp only [List.length_drop, List.length_take]; rfl)) : P := h
theorem pmAx18_4_ {P : Prop} (h : P := by repeat (first | (with_reducible first | exact HB.out | apply below_alloc | apply pw_below_drewN | apply below_drew1 | refine below_set ?_ GE356.out) | exact HB.out)) : P := h
theorem pmAx18_5_ {P : Prop} (h : P := by (with_reducible repeat (first | refine blk_drewN ?_ _ | refine blk_drew ?_ | refine blk_alloc ?_ _)); exact BK356.out) : P := h
theorem pmAx18_6_ {P : Prop} (h : P := by (with_reducible repeat (first | apply Kd.R_alloc | apply Kd.R_drewN | apply Kd.R_drew)); exact HO348.out) : P := h
theorem pmAx18_7_ {P : Prop} (h : P := by first | (with_reducible assumption) | assumption) : P := h
theorem pmAx18_8_ {P : Prop} (h : P := by first | rfl | (simp; done) | (simp [*]; done)) : P := h
theorem pmAx18_9_ {P : Prop} (h : P := by first | omega | exact Nat.le_refl _) : P := h
theorem pmAx18_10_ {P : Prop} (h : P := by rw [hg]; exact (below_size pmAx18_1_)) : P := h
attribute [local go_sem] run_index_arr max2_int min2_int max_two min_two max_three min_three max_four min_four   -- for this text's walks alone
set_option linter.unusedVariables false
set_option linter.unusedSimpArgs false
def wf55 (x : S55) : Prop := (Lit.int .i64 x.f0).wf = true ∧ ((Lit.int .i64 x.f1).wf = true)
def wf57 (x : S57) : Prop := wf55 x.f0 ∧ (wf55 x.f1 ∧ (True ∧ (wf55 x.f3)))
def wf26 (x : S26) : Prop := (Lit.int .i64 x.f0).wf = true ∧ ((∀ e_ ∈ x.f1, wf57 e_) ∧ ((∀ e_ ∈ x.f2, True) ∧ ((∀ e_ ∈ x.f3, (Lit.int .i64 e_).wf = true))))
def content_Area.j0 : Nat → List Int → List Int → Int → Int → Bool → Int → List (S57) → List Bool → List Int → Option (Int × Int × Int)
  | 0, _, _, _, _, _, _, _, _, _ => none
  | k + 1, x1, x2, x3, x4, x49, x357000, x357001, x357002, x357003 => if x49 = true then (some (0, 0, 2)) else (if 0 ≤ (wrap64 (x3 - x357000)) then (if (wrap64 (x3 - x357000)) < (x1.length : Int) then (if 0 ≤ (wrap64 ((wrap64 (x4 - x357000)) - 1)) then (if (wrap64 ((wrap64 (x4 - x357000)) - 1)) < (x1.length : Int) then (if (wrap64 ((wrap64 (x4 - x357000)) - 1)) < (x2.length : Int) then ((fixed_Is.f (wrap64 ((wrap64 ((rd x1 (wrap64 ((wrap64 (x4 - x357000)) - 1))) + (rd x2 (wrap64 ((wrap64 (x4 - x357000)) - 1))))) - (rd x1 (wrap64 (x3 - x357000)))))).bind fun t362 => (if t362 = true then (some (rd x1 (wrap64 (x3 - x357000)), wrap64 ((wrap64 ((rd x1 (wrap64 ((wrap64 (x4 - x357000)) - 1))) + (rd x2 (wrap64 ((wrap64 (x4 - x357000)) - 1))))) - (rd x1 (wrap64 (x3 - x357000)))), 0)) else (some (0, 0, 10)))) else (none)) else (none)) else (none)) else (none)) else (none))
def content_Area.f (k : Nat) (a0_0 : Int) (l0_1 : List (S57)) (l0_2 : List Bool) (l0_3 : List Int) (l1 : List Int) (l2 : List Int) (a3 : Int) (a4 : Int) : Option (Int × Int × Int) := (tracks_Sum.f k a0_0 l0_1 l0_2 l0_3 l2).bind fun bt357 => (if bt357.2 = 2 then (content_Area.j0 k l1 l2 a3 a4 true a0_0 l0_1 l0_2 l0_3) else (if (l1.length : Int) = (l2.length : Int) then (if a3 ≥ a4 then (content_Area.j0 k l1 l2 a3 a4 true a0_0 l0_1 l0_2 l0_3) else (if a3 < a0_0 then (content_Area.j0 k l1 l2 a3 a4 true a0_0 l0_1 l0_2 l0_3) else (content_Area.j0 k l1 l2 a3 a4 (decide (a4 > (wrap64 (a0_0 + (l2.length : Int))))) a0_0 l0_1 l0_2 l0_3))) else (content_Area.j0 k l1 l2 a3 a4 true a0_0 l0_1 l0_2 l0_3)))
theorem content_Area.mono_l : ∀ k, (∀ y0 y1 y2 y3 y4 y5 y6 y7 y8, LeO (content_Area.j0 k y0 y1 y2 y3 y4 y5 y6 y7 y8) (content_Area.j0 (k + 1) y0 y1 y2 y3 y4 y5 y6 y7 y8))
  | 0 => fun _ _ _ _ _ _ _ _ _ r h => by simp [content_Area.j0] at h
  | k + 1 => by
    have ih0 := content_Area.mono_l k
    · intro y0 y1 y2 y3 y4 y5 y6 y7 y8
      unfold content_Area.j0
      repeat' first
      | (with_reducible exact ih0 _ _ _ _ _ _ _ _ _)
      | (with_reducible exact tracks_Sum.mono _ _ _ _ _ _)
      | (with_reducible exact LeO.refl _)
      | (with_reducible exact LeO.none _)
      | (with_reducible refine LeO.ite ?_ ?_)
      | (with_reducible refine LeO.bind ?_ (fun _ => ?_))
      | exact ih0 _ _ _ _ _ _ _ _ _
      | exact tracks_Sum.mono _ _ _ _ _ _
      | exact LeO.none _
      | refine LeO.ite ?_ ?_
      | refine LeO.bind ?_ (fun _ => ?_)
theorem content_Area.mono : ∀ a0 a1 a2 a3 a4 a5 a6 a7 k, LeO (content_Area.f k a0 a1 a2 a3 a4 a5 a6 a7) (content_Area.f (k + 1) a0 a1 a2 a3 a4 a5 a6 a7) := by
  intro a0 a1 a2 a3 a4 a5 a6 a7 k
  have ih0 := content_Area.mono_l k
  unfold content_Area.f
  repeat' first
      | (with_reducible exact ih0 _ _ _ _ _ _ _ _ _)
      | (with_reducible exact tracks_Sum.mono _ _ _ _ _ _)
      | (with_reducible exact LeO.refl _)
      | (with_reducible exact LeO.none _)
      | (with_reducible refine LeO.ite ?_ ?_)
      | (with_reducible refine LeO.bind ?_ (fun _ => ?_))
      | exact ih0 _ _ _ _ _ _ _ _ _
      | exact tracks_Sum.mono _ _ _ _ _ _
      | exact LeO.none _
      | refine LeO.ite ?_ ?_
      | refine LeO.bind ?_ (fun _ => ?_)
set_option maxHeartbeats 8000000 in
set_option maxRecDepth 100000 in
theorem content_Area.calls (k : Nat) (a0_0 : Int) (A0_1 : Option Addr) (c0_1 : Nat) (l0_1 : List (S57)) (A0_2 : Option Addr) (c0_2 : Nat) (l0_2 : List Bool) (A0_3 : Option Addr) (c0_3 : Nat) (l0_3 : List Int) (A1 : Option Addr) (c1 : Nat) (l1 : List Int) (A2 : Option Addr) (c2 : Nat) (l2 : List Int) (a3 : Int) (a4 : Int) (r1 : Int) (r2 : Int) (r3 : Int) (w : World) (hr0_1 : Kd.C k57 w A0_1 l0_1.length l0_1) (hc0_1 : l0_1.length ≤ c0_1) (hr0_2 : Kd.C Kd.bool w A0_2 l0_2.length l0_2) (hc0_2 : l0_2.length ≤ c0_2) (hr0_3 : Kd.C (Kd.int .i64) w A0_3 l0_3.length l0_3) (hc0_3 : l0_3.length ≤ c0_3) (hr1 : Kd.C (Kd.int .i64) w A1 l1.length l1) (hc1 : l1.length ≤ c1) (hr2 : Kd.C (Kd.int .i64) w A2 l2.length l2) (hc2 : l2.length ≤ c2) (h : content_Area.f k a0_0 l0_1 l0_2 l0_3 l1 l2 a3 a4 = some (r1, r2, r3)) :
    Calls Try.prog 12 #[.agg #[.int .i64 a0_0, .slice A0_1 l0_1.length c0_1, .slice A0_2 l0_2.length c0_2, .slice A0_3 l0_3.length c0_3], .slice A1 l1.length c1, .slice A2 l2.length c2, .int .i64 a3, .int .i64 a4] w fun e w' => e = .returned (.tuple #[.int .i64 r1, .int .i64 r2, .int .i64 r3]) ∧ Below w.heap.size w w' := by
  have hu26 := Try.underlying26
  have HR0_1 := Aside0.mk hr0_1
  have HC0_1 := Aside0.mk hc0_1
  clear hr0_1 hc0_1
  have HR0_2 := Aside0.mk hr0_2
  have HC0_2 := Aside0.mk hc0_2
  clear hr0_2 hc0_2
  have HR0_3 := Aside0.mk hr0_3
  have HC0_3 := Aside0.mk hc0_3
  clear hr0_3 hc0_3
  have HR1 := Aside0.mk hr1
  have HC1 := Aside0.mk hc1
  clear hr1 hc1
  have HR2 := Aside0.mk hr2
  have HC2 := Aside0.mk hc2
  clear hr2 hc2
  have HB := Aside0.mk (Below.refl w.heap.size w)
  have H : ((tracks_Sum.f k a0_0 l0_1 l0_2 l0_3 l2).bind fun bt357 => (if bt357.2 = 2 then (content_Area.j0 k l1 l2 a3 a4 true a0_0 l0_1 l0_2 l0_3) else (if (l1.length : Int) = (l2.length : Int) then (if a3 ≥ a4 then (content_Area.j0 k l1 l2 a3 a4 true a0_0 l0_1 l0_2 l0_3) else (if a3 < a0_0 then (content_Area.j0 k l1 l2 a3 a4 true a0_0 l0_1 l0_2 l0_3) else (content_Area.j0 k l1 l2 a3 a4 (decide (a4 > (wrap64 (a0_0 + (l2.length : Int))))) a0_0 l0_1 l0_2 l0_3))) else (content_Area.j0 k l1 l2 a3 a4 true a0_0 l0_1 l0_2 l0_3)))) = some (r1, r2, r3) := h
  clear h
  replace H := Option.bind_eq_some_iff.mp H
  obtain ⟨⟨t357, t358⟩, A60, H⟩ := H
  replace H : (if t358 = 2 then (content_Area.j0 k l1 l2 a3 a4 true a0_0 l0_1 l0_2 l0_3) else (if (l1.length : Int) = (l2.length : Int) then (if a3 ≥ a4 then (content_Area.j0 k l1 l2 a3 a4 true a0_0 l0_1 l0_2 l0_3) else (if a3 < a0_0 then (content_Area.j0 k l1 l2 a3 a4 true a0_0 l0_1 l0_2 l0_3) else (content_Area.j0 k l1 l2 a3 a4 (decide (a4 > (wrap64 (a0_0 + (l2.length : Int))))) a0_0 l0_1 l0_2 l0_3))) else (content_Area.j0 k l1 l2 a3 a4 true a0_0 l0_1 l0_2 l0_3))) = some (r1, r2, r3) := H
  have A6 := Aside0.mk A60
  clear A60
  have HC7 := Aside0.mk H
  clear H
  go_enter Try.func12, Try.ntmps12
  go_upto_region 2 with (first | ((with_reducible refine gate_dst (N := 5) rfl ?_); (try (refine gate_guard (by rfl) ?_; dsimp only)); refine box_event ?hg (N := 5) ?hd (cs := #[.int .i64 a0_0, .slice A0_1 l0_1.length c0_1, .slice A0_2 l0_2.length c0_2, .slice A0_3 l0_3.length c0_3]) (t := 26) ?hr ?_; (case hd => rfl); (case hg => rfl); (case hr => first | (go_simp; done) | (go_simp; rfl)); intro gb356 hg w8 hbox hb; have n0_ := Aside0.mk (below_step pmAx18_1_ hb); have n1_ := Aside0.mk (hbox); have n2_ := Aside0.mk ((pmAx18_10_ : w.heap.size ≤ gb356)); have n3_ := Aside0.mk ((pmAx18_10_ : w.heap.size ≤ gb356)); clear HB; have HB := n0_; have BK356 := n1_; have GW356 := n2_; have GE356 := n3_; clear n0_ n1_ n2_ n3_; clear hb hbox hg; have hcz9_0 : w8.cell? ⟨gb356, 0, none⟩ = some (.int .i64 a0_0) := (blk_cell BK356.out 0).trans rfl; have hcz9_1 : w8.cell? ⟨gb356, 1, none⟩ = some (.slice A0_1 l0_1.length c0_1) := (blk_cell BK356.out 1).trans rfl; have hcz9_2 : w8.cell? ⟨gb356, 2, none⟩ = some (.slice A0_2 l0_2.length c0_2) := (blk_cell BK356.out 2).trans rfl; have hcz9_3 : w8.cell? ⟨gb356, 3, none⟩ = some (.slice A0_3 l0_3.length c0_3) := (blk_cell BK356.out 3).trans rfl; have hfz9_0 := blk_frozen BK356.out 0; have hfz9_1 := blk_frozen BK356.out 1; have hfz9_2 := blk_frozen BK356.out 2; have hfz9_3 := blk_frozen BK356.out 3) | (go_at_call 11; (with_reducible refine (tracks_Sum.calls k a0_0 _ _ l0_1 _ _ l0_2 _ _ l0_3 _ _ l2 t357 t358 _ ?side1 ?side2 ?side3 ?side4 ?side5 ?side6 ?side7 ?side8 A6.out).mono ?_); (case side1 => repeat (first | exact (Kd.C_below HR0_1.out HB.out) | (with_reducible refine Kd.C_alloc ?_ _) | (with_reducible refine Kd.C_drewN ?_ _) | (with_reducible refine Kd.C_drew ?_))); (case side2 => exact HC0_1.out); (case side3 => repeat (first | exact (Kd.C_below HR0_2.out HB.out) | (with_reducible refine Kd.C_alloc ?_ _) | (with_reducible refine Kd.C_drewN ?_ _) | (with_reducible refine Kd.C_drew ?_))); (case side4 => exact HC0_2.out); (case side5 => repeat (first | exact (Kd.C_below HR0_3.out HB.out) | (with_reducible refine Kd.C_alloc ?_ _) | (with_reducible refine Kd.C_drewN ?_ _) | (with_reducible refine Kd.C_drew ?_))); (case side6 => exact HC0_3.out); (case side7 => repeat (first | exact (Kd.C_below HR2.out HB.out) | (with_reducible refine Kd.C_alloc ?_ _) | (with_reducible refine Kd.C_drewN ?_ _) | (with_reducible refine Kd.C_drew ?_))); (case side8 => exact HC2.out); rintro e w10 ⟨rfl, hb⟩; have n0_ := Aside0.mk (blk_below (g := gb356) (o := .cells #[.int .i64 a0_0, .slice A0_1 l0_1.length c0_1, .slice A0_2 l0_2.length c0_2, .slice A0_3 l0_3.length c0_3] 26 (0, 0)) pmAx18_5_ hb); have n1_ := Aside0.mk (below_step pmAx18_4_ hb); clear BK356; clear HB; have BK356 := n0_; have HB := n1_; clear n0_ n1_; (try clear hb); (try clear hb2); (try clear hk); (try clear hi)))
  repeat (go_quiet (first | ((with_reducible refine gate_dst (N := 5) rfl ?_); (try (refine gate_guard (by rfl) ?_; dsimp only)); refine box_event ?hg (N := 5) ?hd (cs := #[.int .i64 a0_0, .slice A0_1 l0_1.length c0_1, .slice A0_2 l0_2.length c0_2, .slice A0_3 l0_3.length c0_3]) (t := 26) ?hr ?_; (case hd => rfl); (case hg => rfl); (case hr => first | (go_simp; done) | (go_simp; rfl)); intro gb356 hg w8 hbox hb; have n0_ := Aside0.mk (below_step pmAx18_1_ hb); have n1_ := Aside0.mk (hbox); have n2_ := Aside0.mk ((pmAx18_10_ : w.heap.size ≤ gb356)); have n3_ := Aside0.mk ((pmAx18_10_ : w.heap.size ≤ gb356)); clear HB; have HB := n0_; have BK356 := n1_; have GW356 := n2_; have GE356 := n3_; clear n0_ n1_ n2_ n3_; clear hb hbox hg; have hcz9_0 : w8.cell? ⟨gb356, 0, none⟩ = some (.int .i64 a0_0) := (blk_cell BK356.out 0).trans rfl; have hcz9_1 : w8.cell? ⟨gb356, 1, none⟩ = some (.slice A0_1 l0_1.length c0_1) := (blk_cell BK356.out 1).trans rfl; have hcz9_2 : w8.cell? ⟨gb356, 2, none⟩ = some (.slice A0_2 l0_2.length c0_2) := (blk_cell BK356.out 2).trans rfl; have hcz9_3 : w8.cell? ⟨gb356, 3, none⟩ = some (.slice A0_3 l0_3.length c0_3) := (blk_cell BK356.out 3).trans rfl; have hfz9_0 := blk_frozen BK356.out 0; have hfz9_1 := blk_frozen BK356.out 1; have hfz9_2 := blk_frozen BK356.out 2; have hfz9_3 := blk_frozen BK356.out 3) | (go_at_call 11; (with_reducible refine (tracks_Sum.calls k a0_0 _ _ l0_1 _ _ l0_2 _ _ l0_3 _ _ l2 t357 t358 _ ?side1 ?side2 ?side3 ?side4 ?side5 ?side6 ?side7 ?side8 A6.out).mono ?_); (case side1 => repeat (first | exact (Kd.C_below HR0_1.out HB.out) | (with_reducible refine Kd.C_alloc ?_ _) | (with_reducible refine Kd.C_drewN ?_ _) | (with_reducible refine Kd.C_drew ?_))); (case side2 => exact HC0_1.out); (case side3 => repeat (first | exact (Kd.C_below HR0_2.out HB.out) | (with_reducible refine Kd.C_alloc ?_ _) | (with_reducible refine Kd.C_drewN ?_ _) | (with_reducible refine Kd.C_drew ?_))); (case side4 => exact HC0_2.out); (case side5 => repeat (first | exact (Kd.C_below HR0_3.out HB.out) | (with_reducible refine Kd.C_alloc ?_ _) | (with_reducible refine Kd.C_drewN ?_ _) | (with_reducible refine Kd.C_drew ?_))); (case side6 => exact HC0_3.out); (case side7 => repeat (first | exact (Kd.C_below HR2.out HB.out) | (with_reducible refine Kd.C_alloc ?_ _) | (with_reducible refine Kd.C_drewN ?_ _) | (with_reducible refine Kd.C_drew ?_))); (case side8 => exact HC2.out); rintro e w10 ⟨rfl, hb⟩; have n0_ := Aside0.mk (blk_below (g := gb356) (o := .cells #[.int .i64 a0_0, .slice A0_1 l0_1.length c0_1, .slice A0_2 l0_2.length c0_2, .slice A0_3 l0_3.length c0_3] 26 (0, 0)) pmAx18_5_ hb); have n1_ := Aside0.mk (below_step pmAx18_4_ hb); clear BK356; clear HB; have BK356 := n0_; have HB := n1_; clear n0_ n1_; (try clear hb); (try clear hb2); (try clear hk); (try clear hi))); go_upto_region 2 with (first | ((with_reducible refine gate_dst (N := 5) rfl ?_); (try (refine gate_guard (by rfl) ?_; dsimp only)); refine box_event ?hg (N := 5) ?hd (cs := #[.int .i64 a0_0, .slice A0_1 l0_1.length c0_1, .slice A0_2 l0_2.length c0_2, .slice A0_3 l0_3.length c0_3]) (t := 26) ?hr ?_; (case hd => rfl); (case hg => rfl); (case hr => first | (go_simp; done) | (go_simp; rfl)); intro gb356 hg w8 hbox hb; have n0_ := Aside0.mk (below_step pmAx18_1_ hb); have n1_ := Aside0.mk (hbox); have n2_ := Aside0.mk ((pmAx18_10_ : w.heap.size ≤ gb356)); have n3_ := Aside0.mk ((pmAx18_10_ : w.heap.size ≤ gb356)); clear HB; have HB := n0_; have BK356 := n1_; have GW356 := n2_; have GE356 := n3_; clear n0_ n1_ n2_ n3_; clear hb hbox hg; have hcz9_0 : w8.cell? ⟨gb356, 0, none⟩ = some (.int .i64 a0_0) := (blk_cell BK356.out 0).trans rfl; have hcz9_1 : w8.cell? ⟨gb356, 1, none⟩ = some (.slice A0_1 l0_1.length c0_1) := (blk_cell BK356.out 1).trans rfl; have hcz9_2 : w8.cell? ⟨gb356, 2, none⟩ = some (.slice A0_2 l0_2.length c0_2) := (blk_cell BK356.out 2).trans rfl; have hcz9_3 : w8.cell? ⟨gb356, 3, none⟩ = some (.slice A0_3 l0_3.length c0_3) := (blk_cell BK356.out 3).trans rfl; have hfz9_0 := blk_frozen BK356.out 0; have hfz9_1 := blk_frozen BK356.out 1; have hfz9_2 := blk_frozen BK356.out 2; have hfz9_3 := blk_frozen BK356.out 3) | (go_at_call 11; (with_reducible refine (tracks_Sum.calls k a0_0 _ _ l0_1 _ _ l0_2 _ _ l0_3 _ _ l2 t357 t358 _ ?side1 ?side2 ?side3 ?side4 ?side5 ?side6 ?side7 ?side8 A6.out).mono ?_); (case side1 => repeat (first | exact (Kd.C_below HR0_1.out HB.out) | (with_reducible refine Kd.C_alloc ?_ _) | (with_reducible refine Kd.C_drewN ?_ _) | (with_reducible refine Kd.C_drew ?_))); (case side2 => exact HC0_1.out); (case side3 => repeat (first | exact (Kd.C_below HR0_2.out HB.out) | (with_reducible refine Kd.C_alloc ?_ _) | (with_reducible refine Kd.C_drewN ?_ _) | (with_reducible refine Kd.C_drew ?_))); (case side4 => exact HC0_2.out); (case side5 => repeat (first | exact (Kd.C_below HR0_3.out HB.out) | (with_reducible refine Kd.C_alloc ?_ _) | (with_reducible refine Kd.C_drewN ?_ _) | (with_reducible refine Kd.C_drew ?_))); (case side6 => exact HC0_3.out); (case side7 => repeat (first | exact (Kd.C_below HR2.out HB.out) | (with_reducible refine Kd.C_alloc ?_ _) | (with_reducible refine Kd.C_drewN ?_ _) | (with_reducible refine Kd.C_drew ?_))); (case side8 => exact HC2.out); rintro e w10 ⟨rfl, hb⟩; have n0_ := Aside0.mk (blk_below (g := gb356) (o := .cells #[.int .i64 a0_0, .slice A0_1 l0_1.length c0_1, .slice A0_2 l0_2.length c0_2, .slice A0_3 l0_3.length c0_3] 26 (0, 0)) pmAx18_5_ hb); have n1_ := Aside0.mk (below_step pmAx18_4_ hb); clear BK356; clear HB; have BK356 := n0_; have HB := n1_; clear n0_ n1_; (try clear hb); (try clear hb2); (try clear hk); (try clear hi))))
  (try simp only [Act.put, List.setIfInBounds_toArray, List.set_cons_zero, List.set_cons_succ])
  go_cut [49] (fun v49 wc => ∃ (kq : Nat) (x49_6 : Bool), v49 = .bool x49_6 ∧ Aside0 (content_Area.j0 kq l1 l2 a3 a4 x49_6 a0_0 l0_1 l0_2 l0_3 = some (r1, r2, r3)) ∧ Aside0 (kq ≤ k) ∧ Aside0 (wc.heap[gb356]? = some (.cells #[.int .i64 a0_0, (.slice A0_1 l0_1.length c0_1), (.slice A0_2 l0_2.length c0_2), (.slice A0_3 l0_3.length c0_3)] 26 (0, 0))) ∧ Aside0 (Below w.heap.size w wc))
  case first =>
    have H := HC7.out
    clear HC7
    by_cases c11 : t358 = 2
    · rw [if_pos c11] at H
      have c11b0 : (t358 == 2) = true := beq_iff_eq.mpr c11
      have c11b1 : (t358 != 2) = false := bne_eq_false_iff_eq.mpr c11
      clear c11
      (first | rw [c11b0] | (simp only [i64_w, i32_w]; rw [c11b0]) | skip)
      have H' := Aside0.mk H
      clear H
      go_wp2
      repeat (go_quiet (fail); try go_wp2)
      go_meet
      case rel => exact ⟨_, (true), pmAx18_8_, H', ⟨pmAx18_9_⟩, ⟨pmAx18_5_⟩, ⟨pmAx18_4_⟩⟩
    · rw [if_neg c11] at H
      have c11b0 : (t358 == 2) = false := beq_eq_false_iff_ne.mpr c11
      have c11b1 : (t358 != 2) = true := bne_iff_ne.mpr c11
      (first | rw [c11b0] | (simp only [i64_w, i32_w]; rw [c11b0]) | skip)
      by_cases c12 : (l1.length : Int) = (l2.length : Int)
      · rw [if_pos c12] at H
        have c12b0 : ((l1.length : Int) == (l2.length : Int)) = true := beq_iff_eq.mpr c12
        have c12b1 : ((l1.length : Int) != (l2.length : Int)) = false := bne_eq_false_iff_eq.mpr c12
        have c12b2 : (l1.length == l2.length) = true := by first | simpa using c12 | (simp at c12 ⊢; omega)
        clear c12
        by_cases c13 : a3 ≥ a4
        · rw [if_pos c13] at H
          have c13b0 : decide (a4 ≤ a3) = true := decide_eq_true c13
          clear c13
          have H' := Aside0.mk H
          clear H
          go_wp2
          repeat (go_quiet (fail); try go_wp2)
          go_meet
          case rel => exact ⟨_, (true), pmAx18_8_, H', ⟨pmAx18_9_⟩, ⟨pmAx18_5_⟩, ⟨pmAx18_4_⟩⟩
        · rw [if_neg c13] at H
          have c13b0 : decide (a4 ≤ a3) = false := decide_eq_false c13
          clear c13
          by_cases c14 : a3 < a0_0
          · rw [if_pos c14] at H
            have c14b0 : decide (a3 < a0_0) = true := decide_eq_true c14
            clear c14
            have H' := Aside0.mk H
            clear H
            have hcz15_0 : w10.cell? ⟨gb356, 0, none⟩ = some (.int .i64 a0_0) := (blk_cell BK356.out 0).trans rfl
            have hcz15_1 : w10.cell? ⟨gb356, 1, none⟩ = some (.slice A0_1 l0_1.length c0_1) := (blk_cell BK356.out 1).trans rfl
            have hcz15_2 : w10.cell? ⟨gb356, 2, none⟩ = some (.slice A0_2 l0_2.length c0_2) := (blk_cell BK356.out 2).trans rfl
            have hcz15_3 : w10.cell? ⟨gb356, 3, none⟩ = some (.slice A0_3 l0_3.length c0_3) := (blk_cell BK356.out 3).trans rfl
            have hfz15_0 := blk_frozen BK356.out 0
            have hfz15_1 := blk_frozen BK356.out 1
            have hfz15_2 := blk_frozen BK356.out 2
            have hfz15_3 := blk_frozen BK356.out 3
            go_wp2
            repeat (go_quiet (fail); try go_wp2)
            go_meet
            case rel => exact ⟨_, (true), pmAx18_8_, H', ⟨pmAx18_9_⟩, ⟨pmAx18_5_⟩, ⟨pmAx18_4_⟩⟩
          · rw [if_neg c14] at H
            have c14b0 : decide (a3 < a0_0) = false := decide_eq_false c14
            clear c14
            have H' := Aside0.mk H
            clear H
            have hcz16_0 : w10.cell? ⟨gb356, 0, none⟩ = some (.int .i64 a0_0) := (blk_cell BK356.out 0).trans rfl
            have hcz16_1 : w10.cell? ⟨gb356, 1, none⟩ = some (.slice A0_1 l0_1.length c0_1) := (blk_cell BK356.out 1).trans rfl
            have hcz16_2 : w10.cell? ⟨gb356, 2, none⟩ = some (.slice A0_2 l0_2.length c0_2) := (blk_cell BK356.out 2).trans rfl
            have hcz16_3 : w10.cell? ⟨gb356, 3, none⟩ = some (.slice A0_3 l0_3.length c0_3) := (blk_cell BK356.out 3).trans rfl
            have hfz16_0 := blk_frozen BK356.out 0
            have hfz16_1 := blk_frozen BK356.out 1
            have hfz16_2 := blk_frozen BK356.out 2
            have hfz16_3 := blk_frozen BK356.out 3
            go_wp2
            repeat (go_quiet (fail); try go_wp2)
            go_meet
            case rel => exact ⟨_, (decide (a4 > (wrap64 (a0_0 + (l2.length : Int))))), pmAx18_8_, H', ⟨pmAx18_9_⟩, ⟨pmAx18_5_⟩, ⟨pmAx18_4_⟩⟩
      · rw [if_neg c12] at H
        have c12b0 : ((l1.length : Int) == (l2.length : Int)) = false := beq_eq_false_iff_ne.mpr c12
        have c12b1 : ((l1.length : Int) != (l2.length : Int)) = true := bne_iff_ne.mpr c12
        have c12b2 : (l1.length == l2.length) = false := by first | simpa using c12 | (simp at c12 ⊢; omega)
        have H' := Aside0.mk H
        clear H
        go_wp2
        repeat (go_quiet (fail); try go_wp2)
        go_meet
        case rel => exact ⟨_, (true), pmAx18_8_, H', ⟨pmAx18_9_⟩, ⟨pmAx18_5_⟩, ⟨pmAx18_4_⟩⟩
  case rest =>
    clear HC7
    try clear c1
    try clear c2
    try clear p2
    try clear p6
    try clear c11
    try clear c11b0
    try clear c11b1
    try clear c12
    try clear c12b0
    try clear c12b1
    try clear c12b2
    try clear c13
    try clear c13b0
    try clear c14
    try clear c14b0
    try clear hcz15_0
    try clear hcz15_1
    try clear hcz15_2
    try clear hcz15_3
    try clear hcz16_0
    try clear hcz16_1
    try clear hcz16_2
    try clear hcz16_3
    try clear hcz9_0
    try clear hcz9_1
    try clear hcz9_2
    try clear hcz9_3
    try clear hfz15_0
    try clear hfz15_1
    try clear hfz15_2
    try clear hfz15_3
    try clear hfz16_0
    try clear hfz16_1
    try clear hfz16_2
    try clear hfz16_3
    try clear hfz9_0
    try clear hfz9_1
    try clear hfz9_2
    try clear hfz9_3
    obtain ⟨kq, x49_6, rfl, HA, HJ6, BK356, HB⟩ := hcut
    cases kq with
    | zero => exact absurd HA.out (by simp [content_Area.j0])
    | succ kj6 =>
      have H := HA.out
      clear HA
      simp only [content_Area.j0] at H
      by_cases c17 : x49_6 = true
      · subst c17
        have H1 : (some (0, 0, 2)) = some (r1, r2, r3) := by rw [if_pos rfl] at H; exact H
        clear H
        have H := H1
        clear H1
        simp only [Option.some.injEq, Prod.mk.injEq] at H
        obtain ⟨rfl, rfl, rfl⟩ := H
        go_wp2
        repeat (go_quiet (fail); try go_wp2)
        go_ret3
        exact ⟨by first | rfl | (simp [errW_none, errW_some] <;> rfl) | (simp [*, errW_none, errW_some] <;> rfl), by repeat (first | (with_reducible first | exact HB.out | apply below_alloc | apply pw_below_drewN | apply below_drew1 | refine below_set ?_ GE356.out) | exact HB.out)⟩
      · replace c17 := Bool.eq_false_iff.mpr c17
        subst c17
        have H1 : (if 0 ≤ (wrap64 (a3 - a0_0)) then (if (wrap64 (a3 - a0_0)) < (l1.length : Int) then (if 0 ≤ (wrap64 ((wrap64 (a4 - a0_0)) - 1)) then (if (wrap64 ((wrap64 (a4 - a0_0)) - 1)) < (l1.length : Int) then (if (wrap64 ((wrap64 (a4 - a0_0)) - 1)) < (l2.length : Int) then ((fixed_Is.f (wrap64 ((wrap64 ((rd l1 (wrap64 ((wrap64 (a4 - a0_0)) - 1))) + (rd l2 (wrap64 ((wrap64 (a4 - a0_0)) - 1))))) - (rd l1 (wrap64 (a3 - a0_0)))))).bind fun t362 => (if t362 = true then (some (rd l1 (wrap64 (a3 - a0_0)), wrap64 ((wrap64 ((rd l1 (wrap64 ((wrap64 (a4 - a0_0)) - 1))) + (rd l2 (wrap64 ((wrap64 (a4 - a0_0)) - 1))))) - (rd l1 (wrap64 (a3 - a0_0)))), 0)) else (some (0, 0, 10)))) else (none)) else (none)) else (none)) else (none)) else (none)) = some (r1, r2, r3) := by rw [if_neg (show ¬ (false = true) by decide)] at H; exact H
        clear H
        have H := H1
        clear H1
        obtain ⟨ji18, hji18⟩ : ∃ j_ : Int, (wrap64 (a3 - a0_0)) = j_ := ⟨_, rfl⟩
        replace H : (if 0 ≤ (ji18) then (if (ji18) < (l1.length : Int) then (if 0 ≤ (wrap64 ((wrap64 (a4 - a0_0)) - 1)) then (if (wrap64 ((wrap64 (a4 - a0_0)) - 1)) < (l1.length : Int) then (if (wrap64 ((wrap64 (a4 - a0_0)) - 1)) < (l2.length : Int) then ((fixed_Is.f (wrap64 ((wrap64 ((rd l1 (wrap64 ((wrap64 (a4 - a0_0)) - 1))) + (rd l2 (wrap64 ((wrap64 (a4 - a0_0)) - 1))))) - (rd l1 (ji18))))).bind fun t362 => (if t362 = true then (some (rd l1 (ji18), wrap64 ((wrap64 ((rd l1 (wrap64 ((wrap64 (a4 - a0_0)) - 1))) + (rd l2 (wrap64 ((wrap64 (a4 - a0_0)) - 1))))) - (rd l1 (ji18))), 0)) else (some (0, 0, 10)))) else (none)) else (none)) else (none)) else (none)) else (none)) = some (r1, r2, r3) := by first | (rw [hji18] at H; exact H) | (simp only [hji18] at H ⊢; exact H)
        have hji18w : (IntKind.i64.wrap (a3 - a0_0)) = ji18 := (i64_w _).trans hji18
        by_cases c19 : 0 ≤ (ji18)
        · rw [if_pos c19] at H
          have c19b0 : decide (0 ≤ (ji18)) = true := decide_eq_true c19
          clear c19
          by_cases c20 : (ji18) < (l1.length : Int)
          · rw [if_pos c20] at H
            have c20b0 : decide ((ji18) < (l1.length : Int)) = true := decide_eq_true c20
            clear c20
            obtain ⟨ji21, hji21⟩ : ∃ j_ : Int, (wrap64 ((wrap64 (a4 - a0_0)) - 1)) = j_ := ⟨_, rfl⟩
            replace H : (if 0 ≤ (ji21) then (if (ji21) < (l1.length : Int) then (if (ji21) < (l2.length : Int) then ((fixed_Is.f (wrap64 ((wrap64 ((rd l1 (ji21)) + (rd l2 (ji21)))) - (rd l1 (ji18))))).bind fun t362 => (if t362 = true then (some (rd l1 (ji18), wrap64 ((wrap64 ((rd l1 (ji21)) + (rd l2 (ji21)))) - (rd l1 (ji18))), 0)) else (some (0, 0, 10)))) else (none)) else (none)) else (none)) = some (r1, r2, r3) := by first | (rw [hji21] at H; exact H) | (simp only [hji21] at H ⊢; exact H)
            have hji21w : (IntKind.i64.wrap ((wrap64 (a4 - a0_0)) - 1)) = ji21 := (i64_w _).trans hji21
            by_cases c22 : 0 ≤ (ji21)
            · rw [if_pos c22] at H
              have c22b0 : decide (0 ≤ (ji21)) = true := decide_eq_true c22
              clear c22
              by_cases c23 : (ji21) < (l1.length : Int)
              · rw [if_pos c23] at H
                have c23b0 : decide ((ji21) < (l1.length : Int)) = true := decide_eq_true c23
                clear c23
                by_cases c24 : (ji21) < (l2.length : Int)
                · rw [if_pos c24] at H
                  have c24b0 : decide ((ji21) < (l2.length : Int)) = true := decide_eq_true c24
                  clear c24
                  replace H := Option.bind_eq_some_iff.mp H
                  obtain ⟨t362, A250, H⟩ := H
                  replace H : (if t362 = true then (some (rd l1 (ji18), wrap64 ((wrap64 ((rd l1 (ji21)) + (rd l2 (ji21)))) - (rd l1 (ji18))), 0)) else (some (0, 0, 10))) = some (r1, r2, r3) := H
                  have A25 := Aside0.mk A250
                  clear A250
                  by_cases c26 : t362 = true
                  · subst c26
                    have H1 : (some (rd l1 (ji18), wrap64 ((wrap64 ((rd l1 (ji21)) + (rd l2 (ji21)))) - (rd l1 (ji18))), 0)) = some (r1, r2, r3) := by rw [if_pos rfl] at H; exact H
                    clear H
                    have H := H1
                    clear H1
                    simp only [Option.some.injEq, Prod.mk.injEq] at H
                    obtain ⟨rfl, rfl, rfl⟩ := H
                    have hcz27_0 : wc.cell? ⟨gb356, 0, none⟩ = some (.int .i64 a0_0) := (blk_cell BK356.out 0).trans rfl
                    have hcz27_1 : wc.cell? ⟨gb356, 1, none⟩ = some (.slice A0_1 l0_1.length c0_1) := (blk_cell BK356.out 1).trans rfl
                    have hcz27_2 : wc.cell? ⟨gb356, 2, none⟩ = some (.slice A0_2 l0_2.length c0_2) := (blk_cell BK356.out 2).trans rfl
                    have hcz27_3 : wc.cell? ⟨gb356, 3, none⟩ = some (.slice A0_3 l0_3.length c0_3) := (blk_cell BK356.out 3).trans rfl
                    have hfz27_0 := blk_frozen BK356.out 0
                    have hfz27_1 := blk_frozen BK356.out 1
                    have hfz27_2 := blk_frozen BK356.out 2
                    have hfz27_3 := blk_frozen BK356.out 3
                    have p359 : 0 ≤ ((ji18) : Int) := of_decide_eq_true pmAx18_7_
                    have q359 : (ji18) < (l1.length : Int) := of_decide_eq_true pmAx18_7_
                    obtain ⟨ad359, e359, hx359_0⟩ := Kd.at_int HR1.out (ji18) p359 q359
                    cases e359
                    replace hx359_0 := (HB.out.cell (World.block_lt_of_cell? w _ hx359_0)).trans hx359_0
                    replace p359 := eq_true p359
                    replace q359 := eq_true q359
                    have p360 : 0 ≤ ((ji21) : Int) := of_decide_eq_true pmAx18_7_
                    have q360 : (ji21) < (l1.length : Int) := of_decide_eq_true pmAx18_7_
                    obtain ⟨ad360, e360, hx360_0⟩ := Kd.at_int HR1.out (ji21) p360 q360
                    obtain rfl : ad359 = ad360 := (by injection e360)
                    replace hx360_0 := (HB.out.cell (World.block_lt_of_cell? w _ hx360_0)).trans hx360_0
                    replace p360 := eq_true p360
                    replace q360 := eq_true q360
                    have p361 : 0 ≤ ((ji21) : Int) := of_decide_eq_true pmAx18_7_
                    have q361 : (ji21) < (l2.length : Int) := of_decide_eq_true pmAx18_7_
                    obtain ⟨ad361, e361, hx361_0⟩ := Kd.at_int HR2.out (ji21) p361 q361
                    cases e361
                    replace hx361_0 := (HB.out.cell (World.block_lt_of_cell? w _ hx361_0)).trans hx361_0
                    replace p361 := eq_true p361
                    replace q361 := eq_true q361
                    go_wp2_with (first | (go_at_call 15; (with_reducible refine (fixed_Is.calls (wrap64 ((wrap64 ((rd l1 (ji21)) + (rd l2 (ji21)))) - (rd l1 (ji18)))) true _ A25.out).mono ?_); rintro e w' ⟨rfl, ⟨nd, rfl⟩⟩; (try first | exact ⟨rfl, _, World.drewN_drewN _ _ _⟩ | exact ⟨rfl, _, Eq.trans (World.drewN_drewN _ _ _) (congrArg (World.drewN _) (Nat.add_assoc _ _ _))⟩)))
                    repeat (go_quiet (first | (go_at_call 15; (with_reducible refine (fixed_Is.calls (wrap64 ((wrap64 ((rd l1 (ji21)) + (rd l2 (ji21)))) - (rd l1 (ji18)))) true _ A25.out).mono ?_); rintro e w' ⟨rfl, ⟨nd, rfl⟩⟩; (try first | exact ⟨rfl, _, World.drewN_drewN _ _ _⟩ | exact ⟨rfl, _, Eq.trans (World.drewN_drewN _ _ _) (congrArg (World.drewN _) (Nat.add_assoc _ _ _))⟩))); try go_wp2_with (first | (go_at_call 15; (with_reducible refine (fixed_Is.calls (wrap64 ((wrap64 ((rd l1 (ji21)) + (rd l2 (ji21)))) - (rd l1 (ji18)))) true _ A25.out).mono ?_); rintro e w' ⟨rfl, ⟨nd, rfl⟩⟩; (try first | exact ⟨rfl, _, World.drewN_drewN _ _ _⟩ | exact ⟨rfl, _, Eq.trans (World.drewN_drewN _ _ _) (congrArg (World.drewN _) (Nat.add_assoc _ _ _))⟩))))
                    go_ret3
                    exact ⟨by first | rfl | (simp [errW_none, errW_some] <;> rfl) | (simp only [← hji18, ← hji21]; first | rfl | (simp [errW_none, errW_some] <;> rfl)) | (simp [*, errW_none, errW_some] <;> rfl), by repeat (first | (with_reducible first | exact HB.out | apply below_alloc | apply pw_below_drewN | apply below_drew1 | refine below_set ?_ GE356.out) | exact HB.out)⟩
                  · replace c26 := Bool.eq_false_iff.mpr c26
                    subst c26
                    have H1 : (some (0, 0, 10)) = some (r1, r2, r3) := by rw [if_neg (show ¬ (false = true) by decide)] at H; exact H
                    clear H
                    have H := H1
                    clear H1
                    simp only [Option.some.injEq, Prod.mk.injEq] at H
                    obtain ⟨rfl, rfl, rfl⟩ := H
                    have hcz28_0 : wc.cell? ⟨gb356, 0, none⟩ = some (.int .i64 a0_0) := (blk_cell BK356.out 0).trans rfl
                    have hcz28_1 : wc.cell? ⟨gb356, 1, none⟩ = some (.slice A0_1 l0_1.length c0_1) := (blk_cell BK356.out 1).trans rfl
                    have hcz28_2 : wc.cell? ⟨gb356, 2, none⟩ = some (.slice A0_2 l0_2.length c0_2) := (blk_cell BK356.out 2).trans rfl
                    have hcz28_3 : wc.cell? ⟨gb356, 3, none⟩ = some (.slice A0_3 l0_3.length c0_3) := (blk_cell BK356.out 3).trans rfl
                    have hfz28_0 := blk_frozen BK356.out 0
                    have hfz28_1 := blk_frozen BK356.out 1
                    have hfz28_2 := blk_frozen BK356.out 2
                    have hfz28_3 := blk_frozen BK356.out 3
                    have p359 : 0 ≤ ((ji18) : Int) := of_decide_eq_true pmAx18_7_
                    have q359 : (ji18) < (l1.length : Int) := of_decide_eq_true pmAx18_7_
                    obtain ⟨ad359, e359, hx359_0⟩ := Kd.at_int HR1.out (ji18) p359 q359
                    cases e359
                    replace hx359_0 := (HB.out.cell (World.block_lt_of_cell? w _ hx359_0)).trans hx359_0
                    replace p359 := eq_true p359
                    replace q359 := eq_true q359
                    have p360 : 0 ≤ ((ji21) : Int) := of_decide_eq_true pmAx18_7_
                    have q360 : (ji21) < (l1.length : Int) := of_decide_eq_true pmAx18_7_
                    obtain ⟨ad360, e360, hx360_0⟩ := Kd.at_int HR1.out (ji21) p360 q360
                    obtain rfl : ad359 = ad360 := (by injection e360)
                    replace hx360_0 := (HB.out.cell (World.block_lt_of_cell? w _ hx360_0)).trans hx360_0
                    replace p360 := eq_true p360
                    replace q360 := eq_true q360
                    have p361 : 0 ≤ ((ji21) : Int) := of_decide_eq_true pmAx18_7_
                    have q361 : (ji21) < (l2.length : Int) := of_decide_eq_true pmAx18_7_
                    obtain ⟨ad361, e361, hx361_0⟩ := Kd.at_int HR2.out (ji21) p361 q361
                    cases e361
                    replace hx361_0 := (HB.out.cell (World.block_lt_of_cell? w _ hx361_0)).trans hx361_0
                    replace p361 := eq_true p361
                    replace q361 := eq_true q361
                    go_wp2_with (first | (go_at_call 15; (with_reducible refine (fixed_Is.calls (wrap64 ((wrap64 ((rd l1 (ji21)) + (rd l2 (ji21)))) - (rd l1 (ji18)))) false _ A25.out).mono ?_); rintro e w' ⟨rfl, ⟨nd, rfl⟩⟩; (try first | exact ⟨rfl, _, World.drewN_drewN _ _ _⟩ | exact ⟨rfl, _, Eq.trans (World.drewN_drewN _ _ _) (congrArg (World.drewN _) (Nat.add_assoc _ _ _))⟩)))
                    repeat (go_quiet (first | (go_at_call 15; (with_reducible refine (fixed_Is.calls (wrap64 ((wrap64 ((rd l1 (ji21)) + (rd l2 (ji21)))) - (rd l1 (ji18)))) false _ A25.out).mono ?_); rintro e w' ⟨rfl, ⟨nd, rfl⟩⟩; (try first | exact ⟨rfl, _, World.drewN_drewN _ _ _⟩ | exact ⟨rfl, _, Eq.trans (World.drewN_drewN _ _ _) (congrArg (World.drewN _) (Nat.add_assoc _ _ _))⟩))); try go_wp2_with (first | (go_at_call 15; (with_reducible refine (fixed_Is.calls (wrap64 ((wrap64 ((rd l1 (ji21)) + (rd l2 (ji21)))) - (rd l1 (ji18)))) false _ A25.out).mono ?_); rintro e w' ⟨rfl, ⟨nd, rfl⟩⟩; (try first | exact ⟨rfl, _, World.drewN_drewN _ _ _⟩ | exact ⟨rfl, _, Eq.trans (World.drewN_drewN _ _ _) (congrArg (World.drewN _) (Nat.add_assoc _ _ _))⟩))))
                    go_ret3
                    exact ⟨by first | rfl | (simp [errW_none, errW_some] <;> rfl) | (simp only [← hji18, ← hji21]; first | rfl | (simp [errW_none, errW_some] <;> rfl)) | (simp [*, errW_none, errW_some] <;> rfl), by repeat (first | (with_reducible first | exact HB.out | apply below_alloc | apply pw_below_drewN | apply below_drew1 | refine below_set ?_ GE356.out) | exact HB.out)⟩
                · rw [if_neg c24] at H
                  exact absurd H (by simp)
              · rw [if_neg c23] at H
                exact absurd H (by simp)
            · rw [if_neg c22] at H
              exact absurd H (by simp)
          · rw [if_neg c20] at H
            exact absurd H (by simp)
        · rw [if_neg c19] at H
          exact absurd H (by simp)

/-! ### parterreref01_Is: function 24 -/
def parterreref01_Is.f (a0 : Int) : Option (Bool) := if a0 ≥ (-68719476736) then (some (decide (a0 ≤ 68719476736))) else (some false)
set_option maxHeartbeats 8000000 in
set_option maxRecDepth 100000 in
theorem parterreref01_Is.calls (a0 : Int) (r : Bool) (w : World) (h : parterreref01_Is.f a0 = some r) :
    Calls Try.prog 24 #[.int .i64 a0] w fun e w' => e = .returned (.bool r) ∧ Drawn0 w w' := by
  have H : (if a0 ≥ (-68719476736) then (some (decide (a0 ≤ 68719476736))) else (some false)) = some r := h
  clear h
  by_cases c2 : a0 ≥ (-68719476736)
  · rw [if_pos c2] at H
    have c2b0 : decide ((-68719476736) ≤ a0) = true := decide_eq_true c2
    clear c2
    obtain rfl := Option.some.inj H
    go_enter Try.func24, Try.ntmps24
    go_wp2
    go_ret
    exact ⟨by first | rfl | (simp; done) | (simp [*]; done), by repeat (first | exact Drawn0.refl _ | apply Drawn0.step)⟩
  · rw [if_neg c2] at H
    have c2b0 : decide ((-68719476736) ≤ a0) = false := decide_eq_false c2
    clear c2
    obtain rfl := Option.some.inj H
    go_enter Try.func24, Try.ntmps24
    go_wp2
    go_ret
    exact ⟨by first | rfl | (simp; done) | (simp [*]; done), by repeat (first | exact Drawn0.refl _ | apply Drawn0.step)⟩

end Go.Proofs.Ytbkohlhonhmhmaa.PA
