-- written by a program of this session (a print of the translation with changes of its own)
import Derived.Test.YtbkohlhonhmhmaaPAx0
import Derived.Test.YtbkohlhonhmhmaaPAx7
import Derived.Test.YtbkohlhonhmhmaaPAx9
import Derived.Test.YtbkohlhonhmhmaaPAx12
import Derived.Test.YtbkohlhonhmhmaaPAx23
namespace Go.Proofs.Ytbkohlhonhmhmaa.PA
open Go.RowKit Go.Proofs.YtbkohlhonhmhmaaW.PrintWords Go.Proofs.YtbkohlhonhmhmaaW.PrintLast Go.Proofs.YtbkohlhonhmhmaaW.PrintMore
theorem pmAx20_0_ {P : Prop} (h : P := by repeat (first | (with_reducible first | exact HB.out | apply below_alloc | apply pw_below_drewN | apply below_drew1 | refine below_set ?_ GE382.out) | exact HB.out)) : P := h
theorem pmAx20_1_ {P : Prop} (h : P := by (with_reducible repeat (first | refine blk_drewN ?_ _ | refine blk_drew ?_ | refine blk_alloc ?_ _)); exact BK382.out) : P := h
theorem pmAx20_2_ {P : Prop} (h : P := by first | (with_reducible assumption) | assumption) : P := h
theorem pmAx20_3_ {P : Prop} (h : P := by (with_reducible repeat (first | apply Kd.R_alloc | apply Kd.R_drewN | apply Kd.R_drew)); exact HO_9.out) : P := h
theorem pmAx20_4_ {P : Prop} (h : P := by repeat (first | (with_reducible first | exact HB.out | apply below_alloc | apply pw_below_drewN | apply below_drew1) | exact HB.out)) : P := h
theorem pmAx20_5_ {P : Prop} (h : P := by (with_reducible repeat (first | apply Kd.R_alloc | apply Kd.R_drewN | apply Kd.R_drew)); exact HO386.out) : P := h
theorem pmAx20_6_ {P : Prop} (h : P := by (with_reducible repeat (first | apply Kd.R_alloc | apply Kd.R_drewN | apply Kd.R_drew)); exact HO_78.out) : P := h
theorem pmAx20_7_ {P : Prop} (h : P := by first | rfl | (simp; done) | (simp [*]; done)) : P := h
attribute [local go_sem] run_index_arr max2_int min2_int max_two min_two max_three min_three max_four min_four   -- for this text's walks alone
set_option linter.unusedVariables false
set_option linter.unusedSimpArgs false

/-! ### parterrelaw28_ContentWithin: function 4 -/
mutual
def parterrelaw28_ContentWithin.j0 : Nat → List Int → Int → Int → Bool → Int → List (S57) → List Bool → List Int → Option (Bool)
  | 0, _, _, _, _, _, _, _, _ => none
  | k + 1, x1, x2, x3, x23, x383000, x383001, x383002, x383003 => if x23 = true then ((parterrelaw28_lives.f k).bind fun t383 => (some t383)) else ((content_Starts.f k x383000 x383001 x383002 x383003 x1 x2 x3).bind fun bt384 => ((tracks_Sum.f k x383000 x383001 x383002 x383003 x1).bind fun bt388 => (if bt384.2 = 0 then (if bt388.2 = 0 then (if (bt384.1.length : Int) = (x1.length : Int) then (if (x383003.length : Int) = (bt384.1.length : Int) then (parterrelaw28_ContentWithin.j1 k x1 x2 bt384.1 bt384.2 bt388.1 ((x383002.length : Int) != (bt384.1.length : Int)) x383000 x383001 x383002 x383003) else (parterrelaw28_ContentWithin.j1 k x1 x2 bt384.1 bt384.2 bt388.1 true x383000 x383001 x383002 x383003)) else (parterrelaw28_ContentWithin.j1 k x1 x2 bt384.1 bt384.2 bt388.1 true x383000 x383001 x383002 x383003)) else (parterrelaw28_ContentWithin.j1 k x1 x2 bt384.1 bt384.2 bt388.1 true x383000 x383001 x383002 x383003)) else (parterrelaw28_ContentWithin.j1 k x1 x2 bt384.1 bt384.2 bt388.1 true x383000 x383001 x383002 x383003))))
def parterrelaw28_ContentWithin.j1 : Nat → List Int → Int → List Int → Int → Int → Bool → Int → List (S57) → List Bool → List Int → Option (Bool)
  | 0, _, _, _, _, _, _, _, _, _, _ => none
  | k + 1, x1, x2, x9, x10, x11, x67, x383000, x383001, x383002, x383003 => if x67 = true then (if x10 = 0 then (some false) else (if (x9.length : Int) = 0 then ((parterrelaw28_lives.f k).bind fun t390 => (some t390)) else (some false))) else (parterrelaw28_ContentWithin.l0 k x1 x2 x9 x11 x9 (x9.length : Int) 0 x383000 x383001 x383002 x383003)
def parterrelaw28_ContentWithin.l0 : Nat → List Int → Int → List Int → Int → List Int → Int → Int → Int → List (S57) → List Bool → List Int → Option (Bool)
  | 0, _, _, _, _, _, _, _, _, _, _, _ => none
  | k + 1, x1, x2, x9, x11, x78, x79, x80, x383000, x383001, x383002, x383003 => if x80 < x79 then (if 0 ≤ x80 then (if x80 < (x78.length : Int) then (if x11 ≤ x2 then (if (rd x78 x80) < 0 then (some false) else (if x80 < (x1.length : Int) then (if (wrap64 ((rd x78 x80) + (rd x1 x80))) > x2 then (some false) else (if x80 > 0 then (if 0 ≤ (wrap64 (x80 - 1)) then (if (wrap64 (x80 - 1)) < (x9.length : Int) then (if (wrap64 (x80 - 1)) < (x1.length : Int) then (if x80 < (x383003.length : Int) then (if (rd x78 x80) < (wrap64 ((wrap64 ((rd x9 (wrap64 (x80 - 1))) + (rd x1 (wrap64 (x80 - 1))))) + (rd x383003 x80))) then (some false) else (parterrelaw28_ContentWithin.l0 k x1 x2 x9 x11 x78 x79 (wrap64 (x80 + 1)) x383000 x383001 x383002 x383003)) else (none)) else (none)) else (none)) else (none)) else (parterrelaw28_ContentWithin.l0 k x1 x2 x9 x11 x78 x79 (wrap64 (x80 + 1)) x383000 x383001 x383002 x383003))) else (none))) else (if x80 > 0 then (if 0 ≤ (wrap64 (x80 - 1)) then (if (wrap64 (x80 - 1)) < (x9.length : Int) then (if (wrap64 (x80 - 1)) < (x1.length : Int) then (if x80 < (x383003.length : Int) then (if (rd x78 x80) < (wrap64 ((wrap64 ((rd x9 (wrap64 (x80 - 1))) + (rd x1 (wrap64 (x80 - 1))))) + (rd x383003 x80))) then (some false) else (parterrelaw28_ContentWithin.l0 k x1 x2 x9 x11 x78 x79 (wrap64 (x80 + 1)) x383000 x383001 x383002 x383003)) else (none)) else (none)) else (none)) else (none)) else (parterrelaw28_ContentWithin.l0 k x1 x2 x9 x11 x78 x79 (wrap64 (x80 + 1)) x383000 x383001 x383002 x383003))) else (none)) else (none)) else ((parterrelaw28_lives.f k).bind fun t399 => (some t399))
end
def parterrelaw28_ContentWithin.f (k : Nat) (a0_0 : Int) (l0_1 : List (S57)) (l0_2 : List Bool) (l0_3 : List Int) (l1 : List Int) (a2 : Int) (a3 : Int) : Option (Bool) := if (l0_1.length : Int) > 300 then (parterrelaw28_ContentWithin.j0 k l1 a2 a3 true a0_0 l0_1 l0_2 l0_3) else (parterrelaw28_ContentWithin.j0 k l1 a2 a3 (decide ((l1.length : Int) > 300)) a0_0 l0_1 l0_2 l0_3)
theorem parterrelaw28_ContentWithin.mono_l : ∀ k, (∀ y0 y1 y2 y3 y4 y5 y6 y7, LeO (parterrelaw28_ContentWithin.j0 k y0 y1 y2 y3 y4 y5 y6 y7) (parterrelaw28_ContentWithin.j0 (k + 1) y0 y1 y2 y3 y4 y5 y6 y7)) ∧ (∀ y0 y1 y2 y3 y4 y5 y6 y7 y8 y9, LeO (parterrelaw28_ContentWithin.j1 k y0 y1 y2 y3 y4 y5 y6 y7 y8 y9) (parterrelaw28_ContentWithin.j1 (k + 1) y0 y1 y2 y3 y4 y5 y6 y7 y8 y9)) ∧ (∀ y0 y1 y2 y3 y4 y5 y6 y7 y8 y9 y10, LeO (parterrelaw28_ContentWithin.l0 k y0 y1 y2 y3 y4 y5 y6 y7 y8 y9 y10) (parterrelaw28_ContentWithin.l0 (k + 1) y0 y1 y2 y3 y4 y5 y6 y7 y8 y9 y10))
  | 0 => ⟨fun _ _ _ _ _ _ _ _ r h => by simp [parterrelaw28_ContentWithin.j0] at h, fun _ _ _ _ _ _ _ _ _ _ r h => by simp [parterrelaw28_ContentWithin.j1] at h, fun _ _ _ _ _ _ _ _ _ _ _ r h => by simp [parterrelaw28_ContentWithin.l0] at h⟩
  | k + 1 => by
    obtain ⟨ih0, ih1, ih2⟩ := parterrelaw28_ContentWithin.mono_l k
    refine ⟨?_, ?_, ?_⟩
    · intro y0 y1 y2 y3 y4 y5 y6 y7
      unfold parterrelaw28_ContentWithin.j0
      repeat' first
      | (with_reducible exact ih0 _ _ _ _ _ _ _ _)
      | (with_reducible exact ih1 _ _ _ _ _ _ _ _ _ _)
      | (with_reducible exact ih2 _ _ _ _ _ _ _ _ _ _ _)
      | (with_reducible exact content_Starts.mono _ _ _ _ _ _ _ _)
      | (with_reducible exact parterrelaw28_lives.mono _)
      | (with_reducible exact tracks_Sum.mono _ _ _ _ _ _)
      | (with_reducible exact LeO.refl _)
      | (with_reducible exact LeO.none _)
      | (with_reducible refine LeO.ite ?_ ?_)
      | (with_reducible refine LeO.bind ?_ (fun _ => ?_))
      | exact ih0 _ _ _ _ _ _ _ _
      | exact ih1 _ _ _ _ _ _ _ _ _ _
      | exact ih2 _ _ _ _ _ _ _ _ _ _ _
      | exact content_Starts.mono _ _ _ _ _ _ _ _
      | exact parterrelaw28_lives.mono _
      | exact tracks_Sum.mono _ _ _ _ _ _
      | exact LeO.none _
      | refine LeO.ite ?_ ?_
      | refine LeO.bind ?_ (fun _ => ?_)
    · intro y0 y1 y2 y3 y4 y5 y6 y7 y8 y9
      unfold parterrelaw28_ContentWithin.j1
      repeat' first
      | (with_reducible exact ih0 _ _ _ _ _ _ _ _)
      | (with_reducible exact ih1 _ _ _ _ _ _ _ _ _ _)
      | (with_reducible exact ih2 _ _ _ _ _ _ _ _ _ _ _)
      | (with_reducible exact content_Starts.mono _ _ _ _ _ _ _ _)
      | (with_reducible exact parterrelaw28_lives.mono _)
      | (with_reducible exact tracks_Sum.mono _ _ _ _ _ _)
      | (with_reducible exact LeO.refl _)
      | (with_reducible exact LeO.none _)
      | (with_reducible refine LeO.ite ?_ ?_)
      | (with_reducible refine LeO.bind ?_ (fun _ => ?_))
      | exact ih0 _ _ _ _ _ _ _ _
      | exact ih1 _ _ _ _ _ _ _ _ _ _
      | exact ih2 _ _ _ _ _ _ _ _ _ _ _
      | exact content_Starts.mono _ _ _ _ _ _ _ _
      | exact parterrelaw28_lives.mono _
      | exact tracks_Sum.mono _ _ _ _ _ _
      | exact LeO.none _
      | refine LeO.ite ?_ ?_
      | refine LeO.bind ?_ (fun _ => ?_)
    · intro y0 y1 y2 y3 y4 y5 y6 y7 y8 y9 y10
      unfold parterrelaw28_ContentWithin.l0
      repeat' first
      | (with_reducible exact ih0 _ _ _ _ _ _ _ _)
      | (with_reducible exact ih1 _ _ _ _ _ _ _ _ _ _)
      | (with_reducible exact ih2 _ _ _ _ _ _ _ _ _ _ _)
      | (with_reducible exact content_Starts.mono _ _ _ _ _ _ _ _)
      | (with_reducible exact parterrelaw28_lives.mono _)
      | (with_reducible exact tracks_Sum.mono _ _ _ _ _ _)
      | (with_reducible exact LeO.refl _)
      | (with_reducible exact LeO.none _)
      | (with_reducible refine LeO.ite ?_ ?_)
      | (with_reducible refine LeO.bind ?_ (fun _ => ?_))
      | exact ih0 _ _ _ _ _ _ _ _
      | exact ih1 _ _ _ _ _ _ _ _ _ _
      | exact ih2 _ _ _ _ _ _ _ _ _ _ _
      | exact content_Starts.mono _ _ _ _ _ _ _ _
      | exact parterrelaw28_lives.mono _
      | exact tracks_Sum.mono _ _ _ _ _ _
      | exact LeO.none _
      | refine LeO.ite ?_ ?_
      | refine LeO.bind ?_ (fun _ => ?_)
theorem parterrelaw28_ContentWithin.mono : ∀ a0 a1 a2 a3 a4 a5 a6 k, LeO (parterrelaw28_ContentWithin.f k a0 a1 a2 a3 a4 a5 a6) (parterrelaw28_ContentWithin.f (k + 1) a0 a1 a2 a3 a4 a5 a6) := by
  intro a0 a1 a2 a3 a4 a5 a6 k
  obtain ⟨ih0, ih1, ih2⟩ := parterrelaw28_ContentWithin.mono_l k
  unfold parterrelaw28_ContentWithin.f
  repeat' first
      | (with_reducible exact ih0 _ _ _ _ _ _ _ _)
      | (with_reducible exact ih1 _ _ _ _ _ _ _ _ _ _)
      | (with_reducible exact ih2 _ _ _ _ _ _ _ _ _ _ _)
      | (with_reducible exact content_Starts.mono _ _ _ _ _ _ _ _)
      | (with_reducible exact parterrelaw28_lives.mono _)
      | (with_reducible exact tracks_Sum.mono _ _ _ _ _ _)
      | (with_reducible exact LeO.refl _)
      | (with_reducible exact LeO.none _)
      | (with_reducible refine LeO.ite ?_ ?_)
      | (with_reducible refine LeO.bind ?_ (fun _ => ?_))
      | exact ih0 _ _ _ _ _ _ _ _
      | exact ih1 _ _ _ _ _ _ _ _ _ _
      | exact ih2 _ _ _ _ _ _ _ _ _ _ _
      | exact content_Starts.mono _ _ _ _ _ _ _ _
      | exact parterrelaw28_lives.mono _
      | exact tracks_Sum.mono _ _ _ _ _ _
      | exact LeO.none _
      | refine LeO.ite ?_ ?_
      | refine LeO.bind ?_ (fun _ => ?_)
set_option maxHeartbeats 8000000 in
set_option maxRecDepth 100000 in
theorem parterrelaw28_ContentWithin.calls (k : Nat) (a0_0 : Int) (A0_1 : Option Addr) (c0_1 : Nat) (l0_1 : List (S57)) (A0_2 : Option Addr) (c0_2 : Nat) (l0_2 : List Bool) (A0_3 : Option Addr) (c0_3 : Nat) (l0_3 : List Int) (A1 : Option Addr) (c1 : Nat) (l1 : List Int) (a2 : Int) (a3 : Int) (r : Bool) (w : World) (hr0_1 : Kd.C k57 w A0_1 l0_1.length l0_1) (hc0_1 : l0_1.length ≤ c0_1) (hr0_2 : Kd.C Kd.bool w A0_2 l0_2.length l0_2) (hc0_2 : l0_2.length ≤ c0_2) (hr0_3 : Kd.C (Kd.int .i64) w A0_3 l0_3.length l0_3) (hc0_3 : l0_3.length ≤ c0_3) (hr1 : Kd.C (Kd.int .i64) w A1 l1.length l1) (hc1 : l1.length ≤ c1) (h : parterrelaw28_ContentWithin.f k a0_0 l0_1 l0_2 l0_3 l1 a2 a3 = some r) :
    Calls Try.prog 4 #[.agg #[.int .i64 a0_0, .slice A0_1 l0_1.length c0_1, .slice A0_2 l0_2.length c0_2, .slice A0_3 l0_3.length c0_3], .slice A1 l1.length c1, .int .i64 a2, .int .i64 a3] w fun e w' => e = .returned (.bool r) ∧ Below w.heap.size w w' := by
  have hu26 := Try.underlying26
  have HR0_1 := Aside0.mk hr0_1
  have HC0_1 := Aside0.mk hc0_1
  clear hr0_1 hc0_1
  have HR0_2 := Aside0.mk hr0_2
  have HC0_2 := Aside0.mk hc0_2
  clear hr0_2 hc0_2
  have HR0_3 := Aside0.mk hr0_3
  have HC0_3 := Aside0.mk hc0_3
  clear hr0_3 hc0_3
  have HR1 := Aside0.mk hr1
  have HC1 := Aside0.mk hc1
  clear hr1 hc1
  have HB := Aside0.mk (Below.refl w.heap.size w)
  have H : (if (l0_1.length : Int) > 300 then (parterrelaw28_ContentWithin.j0 k l1 a2 a3 true a0_0 l0_1 l0_2 l0_3) else (parterrelaw28_ContentWithin.j0 k l1 a2 a3 (decide ((l1.length : Int) > 300)) a0_0 l0_1 l0_2 l0_3)) = some r := h
  clear h
  have HC5 := Aside0.mk H
  clear H
  go_enter Try.func4, Try.ntmps4
  go_upto_region 1 with (first | ((with_reducible refine gate_dst (N := 4) rfl ?_); (try (refine gate_guard (by rfl) ?_; dsimp only)); refine box_event ?hg (N := 4) ?hd (cs := #[.int .i64 a0_0, .slice A0_1 l0_1.length c0_1, .slice A0_2 l0_2.length c0_2, .slice A0_3 l0_3.length c0_3]) (t := 26) ?hr ?_; (case hd => rfl); (case hg => rfl); (case hr => first | (go_simp; done) | (go_simp; rfl)); intro gb382 hg w6 hbox hb; have n0_ := Aside0.mk (below_step pmAx20_4_ hb); have n1_ := Aside0.mk (hbox); have n2_ := Aside0.mk ((by rw [hg]; exact (below_size pmAx20_4_) : w.heap.size ≤ gb382)); have n3_ := Aside0.mk ((by rw [hg]; exact (below_size pmAx20_4_) : w.heap.size ≤ gb382)); clear HB; have HB := n0_; have BK382 := n1_; have GW382 := n2_; have GE382 := n3_; clear n0_ n1_ n2_ n3_; clear hb hbox hg))
  repeat (go_quiet (first | ((with_reducible refine gate_dst (N := 4) rfl ?_); (try (refine gate_guard (by rfl) ?_; dsimp only)); refine box_event ?hg (N := 4) ?hd (cs := #[.int .i64 a0_0, .slice A0_1 l0_1.length c0_1, .slice A0_2 l0_2.length c0_2, .slice A0_3 l0_3.length c0_3]) (t := 26) ?hr ?_; (case hd => rfl); (case hg => rfl); (case hr => first | (go_simp; done) | (go_simp; rfl)); intro gb382 hg w6 hbox hb; have n0_ := Aside0.mk (below_step pmAx20_4_ hb); have n1_ := Aside0.mk (hbox); have n2_ := Aside0.mk ((by rw [hg]; exact (below_size pmAx20_4_) : w.heap.size ≤ gb382)); have n3_ := Aside0.mk ((by rw [hg]; exact (below_size pmAx20_4_) : w.heap.size ≤ gb382)); clear HB; have HB := n0_; have BK382 := n1_; have GW382 := n2_; have GE382 := n3_; clear n0_ n1_ n2_ n3_; clear hb hbox hg)); go_upto_region 1 with (first | ((with_reducible refine gate_dst (N := 4) rfl ?_); (try (refine gate_guard (by rfl) ?_; dsimp only)); refine box_event ?hg (N := 4) ?hd (cs := #[.int .i64 a0_0, .slice A0_1 l0_1.length c0_1, .slice A0_2 l0_2.length c0_2, .slice A0_3 l0_3.length c0_3]) (t := 26) ?hr ?_; (case hd => rfl); (case hg => rfl); (case hr => first | (go_simp; done) | (go_simp; rfl)); intro gb382 hg w6 hbox hb; have n0_ := Aside0.mk (below_step pmAx20_4_ hb); have n1_ := Aside0.mk (hbox); have n2_ := Aside0.mk ((by rw [hg]; exact (below_size pmAx20_4_) : w.heap.size ≤ gb382)); have n3_ := Aside0.mk ((by rw [hg]; exact (below_size pmAx20_4_) : w.heap.size ≤ gb382)); clear HB; have HB := n0_; have BK382 := n1_; have GW382 := n2_; have GE382 := n3_; clear n0_ n1_ n2_ n3_; clear hb hbox hg)))
  (try simp only [Act.put, List.setIfInBounds_toArray, List.set_cons_zero, List.set_cons_succ])
  go_cut [23] (fun v23 wc => ∃ (kq : Nat) (x23_4 : Bool), v23 = .bool x23_4 ∧ Aside0 (parterrelaw28_ContentWithin.j0 kq l1 a2 a3 x23_4 a0_0 l0_1 l0_2 l0_3 = some r) ∧ Aside0 (kq ≤ k) ∧ Aside0 (wc.heap[gb382]? = some (.cells #[.int .i64 a0_0, (.slice A0_1 l0_1.length c0_1), (.slice A0_2 l0_2.length c0_2), (.slice A0_3 l0_3.length c0_3)] 26 (0, 0))) ∧ Aside0 (Below w.heap.size w wc))
  case first =>
    have H := HC5.out
    clear HC5
    by_cases c7 : (l0_1.length : Int) > 300
    · rw [if_pos c7] at H
      have c7b0 : decide (300 < (l0_1.length : Int)) = true := decide_eq_true c7
      have c7b1 : decide (300 < l0_1.length) = true := decide_eq_true (by omega)
      clear c7
      (first | rw [c7b0] | (simp only [i64_w, i32_w]; rw [c7b0]) | skip)
      have H' := Aside0.mk H
      clear H
      have hcz8_0 : w6.cell? ⟨gb382, 0, none⟩ = some (.int .i64 a0_0) := (blk_cell BK382.out 0).trans rfl
      have hcz8_1 : w6.cell? ⟨gb382, 1, none⟩ = some (.slice A0_1 l0_1.length c0_1) := (blk_cell BK382.out 1).trans rfl
      have hcz8_2 : w6.cell? ⟨gb382, 2, none⟩ = some (.slice A0_2 l0_2.length c0_2) := (blk_cell BK382.out 2).trans rfl
      have hcz8_3 : w6.cell? ⟨gb382, 3, none⟩ = some (.slice A0_3 l0_3.length c0_3) := (blk_cell BK382.out 3).trans rfl
      have hfz8_0 := blk_frozen BK382.out 0
      have hfz8_1 := blk_frozen BK382.out 1
      have hfz8_2 := blk_frozen BK382.out 2
      have hfz8_3 := blk_frozen BK382.out 3
      go_wp2
      repeat (go_quiet (fail); try go_wp2)
      go_meet
      case rel => exact ⟨_, (true), pmAx20_7_, H', ⟨by first | omega | exact Nat.le_refl _⟩, ⟨pmAx20_1_⟩, ⟨pmAx20_0_⟩⟩
    · rw [if_neg c7] at H
      have c7b0 : decide (300 < (l0_1.length : Int)) = false := decide_eq_false c7
      have c7b1 : decide (300 < l0_1.length) = false := decide_eq_false (by omega)
      clear c7
      (first | rw [c7b0] | (simp only [i64_w, i32_w]; rw [c7b0]) | skip)
      have H' := Aside0.mk H
      clear H
      have hcz9_0 : w6.cell? ⟨gb382, 0, none⟩ = some (.int .i64 a0_0) := (blk_cell BK382.out 0).trans rfl
      have hcz9_1 : w6.cell? ⟨gb382, 1, none⟩ = some (.slice A0_1 l0_1.length c0_1) := (blk_cell BK382.out 1).trans rfl
      have hcz9_2 : w6.cell? ⟨gb382, 2, none⟩ = some (.slice A0_2 l0_2.length c0_2) := (blk_cell BK382.out 2).trans rfl
      have hcz9_3 : w6.cell? ⟨gb382, 3, none⟩ = some (.slice A0_3 l0_3.length c0_3) := (blk_cell BK382.out 3).trans rfl
      have hfz9_0 := blk_frozen BK382.out 0
      have hfz9_1 := blk_frozen BK382.out 1
      have hfz9_2 := blk_frozen BK382.out 2
      have hfz9_3 := blk_frozen BK382.out 3
      go_wp2
      repeat (go_quiet (fail); try go_wp2)
      go_meet
      case rel => exact ⟨_, (decide ((l1.length : Int) > 300)), pmAx20_7_, H', ⟨by first | omega | exact Nat.le_refl _⟩, ⟨pmAx20_1_⟩, ⟨pmAx20_0_⟩⟩
  case rest =>
    clear HC5
    try clear c1
    try clear p2
    try clear c4
    try clear c7
    try clear c7b0
    try clear c7b1
    try clear hcz8_0
    try clear hcz8_1
    try clear hcz8_2
    try clear hcz8_3
    try clear hcz9_0
    try clear hcz9_1
    try clear hcz9_2
    try clear hcz9_3
    try clear hfz8_0
    try clear hfz8_1
    try clear hfz8_2
    try clear hfz8_3
    try clear hfz9_0
    try clear hfz9_1
    try clear hfz9_2
    try clear hfz9_3
    obtain ⟨kq, x23_4, rfl, HA, HJ4, BK382, HB⟩ := hcut
    cases kq with
    | zero => exact absurd HA.out (by simp [parterrelaw28_ContentWithin.j0])
    | succ kj4 =>
      have H := HA.out
      clear HA
      simp only [parterrelaw28_ContentWithin.j0] at H
      by_cases c10 : x23_4 = true
      · subst c10
        have H1 : ((parterrelaw28_lives.f kj4).bind fun t383 => (some t383)) = some r := by rw [if_pos rfl] at H; exact H
        clear H
        have H := H1
        clear H1
        replace H := Option.bind_eq_some_iff.mp H
        obtain ⟨t383, A110, H⟩ := H
        replace H : (some t383) = some r := H
        have A11 := Aside0.mk A110
        clear A110
        obtain rfl := Option.some.inj H
        go_wp2_with (first | (go_at_call 7; (with_reducible refine (parterrelaw28_lives.calls kj4  t383 _ A11.out).mono ?_); rintro e w12 ⟨rfl, hb⟩; have n0_ := Aside0.mk (blk_below (g := gb382) (o := .cells #[.int .i64 a0_0, .slice A0_1 l0_1.length c0_1, .slice A0_2 l0_2.length c0_2, .slice A0_3 l0_3.length c0_3] 26 (0, 0)) pmAx20_1_ hb); have n1_ := Aside0.mk (below_step pmAx20_0_ hb); clear BK382; clear HB; have BK382 := n0_; have HB := n1_; clear n0_ n1_; (try clear hb); (try clear hb2); (try clear hk); (try clear hi)))
        repeat (go_quiet (first | (go_at_call 7; (with_reducible refine (parterrelaw28_lives.calls kj4  t383 _ A11.out).mono ?_); rintro e w12 ⟨rfl, hb⟩; have n0_ := Aside0.mk (blk_below (g := gb382) (o := .cells #[.int .i64 a0_0, .slice A0_1 l0_1.length c0_1, .slice A0_2 l0_2.length c0_2, .slice A0_3 l0_3.length c0_3] 26 (0, 0)) pmAx20_1_ hb); have n1_ := Aside0.mk (below_step pmAx20_0_ hb); clear BK382; clear HB; have BK382 := n0_; have HB := n1_; clear n0_ n1_; (try clear hb); (try clear hb2); (try clear hk); (try clear hi))); try go_wp2_with (first | (go_at_call 7; (with_reducible refine (parterrelaw28_lives.calls kj4  t383 _ A11.out).mono ?_); rintro e w12 ⟨rfl, hb⟩; have n0_ := Aside0.mk (blk_below (g := gb382) (o := .cells #[.int .i64 a0_0, .slice A0_1 l0_1.length c0_1, .slice A0_2 l0_2.length c0_2, .slice A0_3 l0_3.length c0_3] 26 (0, 0)) pmAx20_1_ hb); have n1_ := Aside0.mk (below_step pmAx20_0_ hb); clear BK382; clear HB; have BK382 := n0_; have HB := n1_; clear n0_ n1_; (try clear hb); (try clear hb2); (try clear hk); (try clear hi))))
        go_ret
        exact ⟨by first | rfl | (simp [errW_none, errW_some] <;> rfl) | (simp [*, errW_none, errW_some] <;> rfl), by repeat (first | (with_reducible first | exact HB.out | apply below_alloc | apply pw_below_drewN | apply below_drew1 | refine below_set ?_ GE382.out) | exact HB.out)⟩
      · replace c10 := Bool.eq_false_iff.mpr c10
        subst c10
        have H1 : ((content_Starts.f kj4 a0_0 l0_1 l0_2 l0_3 l1 a2 a3).bind fun bt384 => ((tracks_Sum.f kj4 a0_0 l0_1 l0_2 l0_3 l1).bind fun bt388 => (if bt384.2 = 0 then (if bt388.2 = 0 then (if (bt384.1.length : Int) = (l1.length : Int) then (if (l0_3.length : Int) = (bt384.1.length : Int) then (parterrelaw28_ContentWithin.j1 kj4 l1 a2 bt384.1 bt384.2 bt388.1 ((l0_2.length : Int) != (bt384.1.length : Int)) a0_0 l0_1 l0_2 l0_3) else (parterrelaw28_ContentWithin.j1 kj4 l1 a2 bt384.1 bt384.2 bt388.1 true a0_0 l0_1 l0_2 l0_3)) else (parterrelaw28_ContentWithin.j1 kj4 l1 a2 bt384.1 bt384.2 bt388.1 true a0_0 l0_1 l0_2 l0_3)) else (parterrelaw28_ContentWithin.j1 kj4 l1 a2 bt384.1 bt384.2 bt388.1 true a0_0 l0_1 l0_2 l0_3)) else (parterrelaw28_ContentWithin.j1 kj4 l1 a2 bt384.1 bt384.2 bt388.1 true a0_0 l0_1 l0_2 l0_3)))) = some r := by rw [if_neg (show ¬ (false = true) by decide)] at H; exact H
        clear H
        have H := H1
        clear H1
        replace H := Option.bind_eq_some_iff.mp H
        obtain ⟨⟨t384, t387⟩, A130, H⟩ := H
        replace H : ((tracks_Sum.f kj4 a0_0 l0_1 l0_2 l0_3 l1).bind fun bt388 => (if t387 = 0 then (if bt388.2 = 0 then (if (t384.length : Int) = (l1.length : Int) then (if (l0_3.length : Int) = (t384.length : Int) then (parterrelaw28_ContentWithin.j1 kj4 l1 a2 t384 t387 bt388.1 ((l0_2.length : Int) != (t384.length : Int)) a0_0 l0_1 l0_2 l0_3) else (parterrelaw28_ContentWithin.j1 kj4 l1 a2 t384 t387 bt388.1 true a0_0 l0_1 l0_2 l0_3)) else (parterrelaw28_ContentWithin.j1 kj4 l1 a2 t384 t387 bt388.1 true a0_0 l0_1 l0_2 l0_3)) else (parterrelaw28_ContentWithin.j1 kj4 l1 a2 t384 t387 bt388.1 true a0_0 l0_1 l0_2 l0_3)) else (parterrelaw28_ContentWithin.j1 kj4 l1 a2 t384 t387 bt388.1 true a0_0 l0_1 l0_2 l0_3))) = some r := H
        have A13 := Aside0.mk A130
        clear A130
        replace H := Option.bind_eq_some_iff.mp H
        obtain ⟨⟨t388, t389⟩, A140, H⟩ := H
        replace H : (if t387 = 0 then (if t389 = 0 then (if (t384.length : Int) = (l1.length : Int) then (if (l0_3.length : Int) = (t384.length : Int) then (parterrelaw28_ContentWithin.j1 kj4 l1 a2 t384 t387 t388 ((l0_2.length : Int) != (t384.length : Int)) a0_0 l0_1 l0_2 l0_3) else (parterrelaw28_ContentWithin.j1 kj4 l1 a2 t384 t387 t388 true a0_0 l0_1 l0_2 l0_3)) else (parterrelaw28_ContentWithin.j1 kj4 l1 a2 t384 t387 t388 true a0_0 l0_1 l0_2 l0_3)) else (parterrelaw28_ContentWithin.j1 kj4 l1 a2 t384 t387 t388 true a0_0 l0_1 l0_2 l0_3)) else (parterrelaw28_ContentWithin.j1 kj4 l1 a2 t384 t387 t388 true a0_0 l0_1 l0_2 l0_3)) = some r := H
        have A14 := Aside0.mk A140
        clear A140
        have HC15 := Aside0.mk H
        clear H
        have hcz16_0 : wc.cell? ⟨gb382, 0, none⟩ = some (.int .i64 a0_0) := (blk_cell BK382.out 0).trans rfl
        have hcz16_1 : wc.cell? ⟨gb382, 1, none⟩ = some (.slice A0_1 l0_1.length c0_1) := (blk_cell BK382.out 1).trans rfl
        have hcz16_2 : wc.cell? ⟨gb382, 2, none⟩ = some (.slice A0_2 l0_2.length c0_2) := (blk_cell BK382.out 2).trans rfl
        have hcz16_3 : wc.cell? ⟨gb382, 3, none⟩ = some (.slice A0_3 l0_3.length c0_3) := (blk_cell BK382.out 3).trans rfl
        have hfz16_0 := blk_frozen BK382.out 0
        have hfz16_1 := blk_frozen BK382.out 1
        have hfz16_2 := blk_frozen BK382.out 2
        have hfz16_3 := blk_frozen BK382.out 3
        go_upto_region 5 with (first | (go_at_call 8; (with_reducible refine (content_Starts.calls kj4 a0_0 _ _ l0_1 _ _ l0_2 _ _ l0_3 _ _ l1 a2 a3 t384 t387 _ ?side1 ?side2 ?side3 ?side4 ?side5 ?side6 ?side7 ?side8 A13.out).mono ?_); (case side1 => repeat (first | exact (Kd.C_below HR0_1.out HB.out) | (with_reducible refine Kd.C_alloc ?_ _) | (with_reducible refine Kd.C_drewN ?_ _) | (with_reducible refine Kd.C_drew ?_))); (case side2 => exact HC0_1.out); (case side3 => repeat (first | exact (Kd.C_below HR0_2.out HB.out) | (with_reducible refine Kd.C_alloc ?_ _) | (with_reducible refine Kd.C_drewN ?_ _) | (with_reducible refine Kd.C_drew ?_))); (case side4 => exact HC0_2.out); (case side5 => repeat (first | exact (Kd.C_below HR0_3.out HB.out) | (with_reducible refine Kd.C_alloc ?_ _) | (with_reducible refine Kd.C_drewN ?_ _) | (with_reducible refine Kd.C_drew ?_))); (case side6 => exact HC0_3.out); (case side7 => repeat (first | exact (Kd.C_below HR1.out HB.out) | (with_reducible refine Kd.C_alloc ?_ _) | (with_reducible refine Kd.C_drewN ?_ _) | (with_reducible refine Kd.C_drew ?_))); (case side8 => exact HC1.out); rintro e w17 ⟨v385, rfl, ho0, hb⟩; have n0_ := Aside0.mk (Kd.R_lower ho0 (below_size pmAx20_0_)); have n1_ := Aside0.mk (blk_below (g := gb382) (o := .cells #[.int .i64 a0_0, .slice A0_1 l0_1.length c0_1, .slice A0_2 l0_2.length c0_2, .slice A0_3 l0_3.length c0_3] 26 (0, 0)) pmAx20_1_ hb); have n2_ := Aside0.mk (below_step pmAx20_0_ hb); clear BK382; clear HB; have HO386 := n0_; have BK382 := n1_; have HB := n2_; clear n0_ n1_ n2_; (try clear hb); (try clear hb2); (try clear hk); (try clear hi); (try clear ho0); have hcz18_0 : w17.cell? ⟨gb382, 0, none⟩ = some (.int .i64 a0_0) := (blk_cell BK382.out 0).trans rfl; have hcz18_1 : w17.cell? ⟨gb382, 1, none⟩ = some (.slice A0_1 l0_1.length c0_1) := (blk_cell BK382.out 1).trans rfl; have hcz18_2 : w17.cell? ⟨gb382, 2, none⟩ = some (.slice A0_2 l0_2.length c0_2) := (blk_cell BK382.out 2).trans rfl; have hcz18_3 : w17.cell? ⟨gb382, 3, none⟩ = some (.slice A0_3 l0_3.length c0_3) := (blk_cell BK382.out 3).trans rfl; have hfz18_0 := blk_frozen BK382.out 0; have hfz18_1 := blk_frozen BK382.out 1; have hfz18_2 := blk_frozen BK382.out 2; have hfz18_3 := blk_frozen BK382.out 3) | (go_at_call 11; (with_reducible refine (tracks_Sum.calls kj4 a0_0 _ _ l0_1 _ _ l0_2 _ _ l0_3 _ _ l1 t388 t389 _ ?side1 ?side2 ?side3 ?side4 ?side5 ?side6 ?side7 ?side8 A14.out).mono ?_); (case side1 => repeat (first | exact (Kd.C_below HR0_1.out HB.out) | (with_reducible refine Kd.C_alloc ?_ _) | (with_reducible refine Kd.C_drewN ?_ _) | (with_reducible refine Kd.C_drew ?_))); (case side2 => exact HC0_1.out); (case side3 => repeat (first | exact (Kd.C_below HR0_2.out HB.out) | (with_reducible refine Kd.C_alloc ?_ _) | (with_reducible refine Kd.C_drewN ?_ _) | (with_reducible refine Kd.C_drew ?_))); (case side4 => exact HC0_2.out); (case side5 => repeat (first | exact (Kd.C_below HR0_3.out HB.out) | (with_reducible refine Kd.C_alloc ?_ _) | (with_reducible refine Kd.C_drewN ?_ _) | (with_reducible refine Kd.C_drew ?_))); (case side6 => exact HC0_3.out); (case side7 => repeat (first | exact (Kd.C_below HR1.out HB.out) | (with_reducible refine Kd.C_alloc ?_ _) | (with_reducible refine Kd.C_drewN ?_ _) | (with_reducible refine Kd.C_drew ?_))); (case side8 => exact HC1.out); rintro e w19 ⟨rfl, hb⟩; have n0_ := Aside0.mk (Kd.R_below pmAx20_5_ hb); have n1_ := Aside0.mk (blk_below (g := gb382) (o := .cells #[.int .i64 a0_0, .slice A0_1 l0_1.length c0_1, .slice A0_2 l0_2.length c0_2, .slice A0_3 l0_3.length c0_3] 26 (0, 0)) pmAx20_1_ hb); have n2_ := Aside0.mk (below_step pmAx20_0_ hb); clear HO386; clear BK382; clear HB; have HO386 := n0_; have BK382 := n1_; have HB := n2_; clear n0_ n1_ n2_; (try clear hb); (try clear hb2); (try clear hk); (try clear hi)))
        repeat (go_quiet (first | (go_at_call 8; (with_reducible refine (content_Starts.calls kj4 a0_0 _ _ l0_1 _ _ l0_2 _ _ l0_3 _ _ l1 a2 a3 t384 t387 _ ?side1 ?side2 ?side3 ?side4 ?side5 ?side6 ?side7 ?side8 A13.out).mono ?_); (case side1 => repeat (first | exact (Kd.C_below HR0_1.out HB.out) | (with_reducible refine Kd.C_alloc ?_ _) | (with_reducible refine Kd.C_drewN ?_ _) | (with_reducible refine Kd.C_drew ?_))); (case side2 => exact HC0_1.out); (case side3 => repeat (first | exact (Kd.C_below HR0_2.out HB.out) | (with_reducible refine Kd.C_alloc ?_ _) | (with_reducible refine Kd.C_drewN ?_ _) | (with_reducible refine Kd.C_drew ?_))); (case side4 => exact HC0_2.out); (case side5 => repeat (first | exact (Kd.C_below HR0_3.out HB.out) | (with_reducible refine Kd.C_alloc ?_ _) | (with_reducible refine Kd.C_drewN ?_ _) | (with_reducible refine Kd.C_drew ?_))); (case side6 => exact HC0_3.out); (case side7 => repeat (first | exact (Kd.C_below HR1.out HB.out) | (with_reducible refine Kd.C_alloc ?_ _) | (with_reducible refine Kd.C_drewN ?_ _) | (with_reducible refine Kd.C_drew ?_))); (case side8 => exact HC1.out); rintro e w17 ⟨v385, rfl, ho0, hb⟩; have n0_ := Aside0.mk (Kd.R_lower ho0 (below_size pmAx20_0_)); have n1_ := Aside0.mk (blk_below (g := gb382) (o := .cells #[.int .i64 a0_0, .slice A0_1 l0_1.length c0_1, .slice A0_2 l0_2.length c0_2, .slice A0_3 l0_3.length c0_3] 26 (0, 0)) pmAx20_1_ hb); have n2_ := Aside0.mk (below_step pmAx20_0_ hb); clear BK382; clear HB; have HO386 := n0_; have BK382 := n1_; have HB := n2_; clear n0_ n1_ n2_; (try clear hb); (try clear hb2); (try clear hk); (try clear hi); (try clear ho0); have hcz18_0 : w17.cell? ⟨gb382, 0, none⟩ = some (.int .i64 a0_0) := (blk_cell BK382.out 0).trans rfl; have hcz18_1 : w17.cell? ⟨gb382, 1, none⟩ = some (.slice A0_1 l0_1.length c0_1) := (blk_cell BK382.out 1).trans rfl; have hcz18_2 : w17.cell? ⟨gb382, 2, none⟩ = some (.slice A0_2 l0_2.length c0_2) := (blk_cell BK382.out 2).trans rfl; have hcz18_3 : w17.cell? ⟨gb382, 3, none⟩ = some (.slice A0_3 l0_3.length c0_3) := (blk_cell BK382.out 3).trans rfl; have hfz18_0 := blk_frozen BK382.out 0; have hfz18_1 := blk_frozen BK382.out 1; have hfz18_2 := blk_frozen BK382.out 2; have hfz18_3 := blk_frozen BK382.out 3) | (go_at_call 11; (with_reducible refine (tracks_Sum.calls kj4 a0_0 _ _ l0_1 _ _ l0_2 _ _ l0_3 _ _ l1 t388 t389 _ ?side1 ?side2 ?side3 ?side4 ?side5 ?side6 ?side7 ?side8 A14.out).mono ?_); (case side1 => repeat (first | exact (Kd.C_below HR0_1.out HB.out) | (with_reducible refine Kd.C_alloc ?_ _) | (with_reducible refine Kd.C_drewN ?_ _) | (with_reducible refine Kd.C_drew ?_))); (case side2 => exact HC0_1.out); (case side3 => repeat (first | exact (Kd.C_below HR0_2.out HB.out) | (with_reducible refine Kd.C_alloc ?_ _) | (with_reducible refine Kd.C_drewN ?_ _) | (with_reducible refine Kd.C_drew ?_))); (case side4 => exact HC0_2.out); (case side5 => repeat (first | exact (Kd.C_below HR0_3.out HB.out) | (with_reducible refine Kd.C_alloc ?_ _) | (with_reducible refine Kd.C_drewN ?_ _) | (with_reducible refine Kd.C_drew ?_))); (case side6 => exact HC0_3.out); (case side7 => repeat (first | exact (Kd.C_below HR1.out HB.out) | (with_reducible refine Kd.C_alloc ?_ _) | (with_reducible refine Kd.C_drewN ?_ _) | (with_reducible refine Kd.C_drew ?_))); (case side8 => exact HC1.out); rintro e w19 ⟨rfl, hb⟩; have n0_ := Aside0.mk (Kd.R_below pmAx20_5_ hb); have n1_ := Aside0.mk (blk_below (g := gb382) (o := .cells #[.int .i64 a0_0, .slice A0_1 l0_1.length c0_1, .slice A0_2 l0_2.length c0_2, .slice A0_3 l0_3.length c0_3] 26 (0, 0)) pmAx20_1_ hb); have n2_ := Aside0.mk (below_step pmAx20_0_ hb); clear HO386; clear BK382; clear HB; have HO386 := n0_; have BK382 := n1_; have HB := n2_; clear n0_ n1_ n2_; (try clear hb); (try clear hb2); (try clear hk); (try clear hi))); go_upto_region 5 with (first | (go_at_call 8; (with_reducible refine (content_Starts.calls kj4 a0_0 _ _ l0_1 _ _ l0_2 _ _ l0_3 _ _ l1 a2 a3 t384 t387 _ ?side1 ?side2 ?side3 ?side4 ?side5 ?side6 ?side7 ?side8 A13.out).mono ?_); (case side1 => repeat (first | exact (Kd.C_below HR0_1.out HB.out) | (with_reducible refine Kd.C_alloc ?_ _) | (with_reducible refine Kd.C_drewN ?_ _) | (with_reducible refine Kd.C_drew ?_))); (case side2 => exact HC0_1.out); (case side3 => repeat (first | exact (Kd.C_below HR0_2.out HB.out) | (with_reducible refine Kd.C_alloc ?_ _) | (with_reducible refine Kd.C_drewN ?_ _) | (with_reducible refine Kd.C_drew ?_))); (case side4 => exact HC0_2.out); (case side5 => repeat (first | exact (Kd.C_below HR0_3.out HB.out) | (with_reducible refine Kd.C_alloc ?_ _) | (with_reducible refine Kd.C_drewN ?_ _) | (with_reducible refine Kd.C_drew ?_))); (case side6 => exact HC0_3.out); (case side7 => repeat (first | exact (Kd.C_below HR1.out HB.out) | (with_reducible refine Kd.C_alloc ?_ _) | (with_reducible refine Kd.C_drewN ?_ _) | (with_reducible refine Kd.C_drew ?_))); (case side8 => exact HC1.out); rintro e w17 ⟨v385, rfl, ho0, hb⟩; have n0_ := Aside0.mk (Kd.R_lower ho0 (below_size pmAx20_0_)); have n1_ := Aside0.mk (blk_below (g := gb382) (o := .cells #[.int .i64 a0_0, .slice A0_1 l0_1.length c0_1, .slice A0_2 l0_2.length c0_2, .slice A0_3 l0_3.length c0_3] 26 (0, 0)) pmAx20_1_ hb); have n2_ := Aside0.mk (below_step pmAx20_0_ hb); clear BK382; clear HB; have HO386 := n0_; have BK382 := n1_; have HB := n2_; clear n0_ n1_ n2_; (try clear hb); (try clear hb2); (try clear hk); (try clear hi); (try clear ho0); have hcz18_0 : w17.cell? ⟨gb382, 0, none⟩ = some (.int .i64 a0_0) := (blk_cell BK382.out 0).trans rfl; have hcz18_1 : w17.cell? ⟨gb382, 1, none⟩ = some (.slice A0_1 l0_1.length c0_1) := (blk_cell BK382.out 1).trans rfl; have hcz18_2 : w17.cell? ⟨gb382, 2, none⟩ = some (.slice A0_2 l0_2.length c0_2) := (blk_cell BK382.out 2).trans rfl; have hcz18_3 : w17.cell? ⟨gb382, 3, none⟩ = some (.slice A0_3 l0_3.length c0_3) := (blk_cell BK382.out 3).trans rfl; have hfz18_0 := blk_frozen BK382.out 0; have hfz18_1 := blk_frozen BK382.out 1; have hfz18_2 := blk_frozen BK382.out 2; have hfz18_3 := blk_frozen BK382.out 3) | (go_at_call 11; (with_reducible refine (tracks_Sum.calls kj4 a0_0 _ _ l0_1 _ _ l0_2 _ _ l0_3 _ _ l1 t388 t389 _ ?side1 ?side2 ?side3 ?side4 ?side5 ?side6 ?side7 ?side8 A14.out).mono ?_); (case side1 => repeat (first | exact (Kd.C_below HR0_1.out HB.out) | (with_reducible refine Kd.C_alloc ?_ _) | (with_reducible refine Kd.C_drewN ?_ _) | (with_reducible refine Kd.C_drew ?_))); (case side2 => exact HC0_1.out); (case side3 => repeat (first | exact (Kd.C_below HR0_2.out HB.out) | (with_reducible refine Kd.C_alloc ?_ _) | (with_reducible refine Kd.C_drewN ?_ _) | (with_reducible refine Kd.C_drew ?_))); (case side4 => exact HC0_2.out); (case side5 => repeat (first | exact (Kd.C_below HR0_3.out HB.out) | (with_reducible refine Kd.C_alloc ?_ _) | (with_reducible refine Kd.C_drewN ?_ _) | (with_reducible refine Kd.C_drew ?_))); (case side6 => exact HC0_3.out); (case side7 => repeat (first | exact (Kd.C_below HR1.out HB.out) | (with_reducible refine Kd.C_alloc ?_ _) | (with_reducible refine Kd.C_drewN ?_ _) | (with_reducible refine Kd.C_drew ?_))); (case side8 => exact HC1.out); rintro e w19 ⟨rfl, hb⟩; have n0_ := Aside0.mk (Kd.R_below pmAx20_5_ hb); have n1_ := Aside0.mk (blk_below (g := gb382) (o := .cells #[.int .i64 a0_0, .slice A0_1 l0_1.length c0_1, .slice A0_2 l0_2.length c0_2, .slice A0_3 l0_3.length c0_3] 26 (0, 0)) pmAx20_1_ hb); have n2_ := Aside0.mk (below_step pmAx20_0_ hb); clear HO386; clear BK382; clear HB; have HO386 := n0_; have BK382 := n1_; have HB := n2_; clear n0_ n1_ n2_; (try clear hb); (try clear hb2); (try clear hk); (try clear hi))))
        (try simp only [Act.put, List.setIfInBounds_toArray, List.set_cons_zero, List.set_cons_succ])
        go_cut [67] (fun v67 wc => ∃ (kq : Nat) (x67_14 : Bool), v67 = .bool x67_14 ∧ Aside0 (parterrelaw28_ContentWithin.j1 kq l1 a2 t384 t387 t388 x67_14 a0_0 l0_1 l0_2 l0_3 = some r) ∧ Aside0 (kq ≤ kj4) ∧ Aside0 (Kd.R (Kd.int .i64) 3 wc w.heap.size (fun _ => True) v385 t384) ∧ Aside0 (wc.heap[gb382]? = some (.cells #[.int .i64 a0_0, (.slice A0_1 l0_1.length c0_1), (.slice A0_2 l0_2.length c0_2), (.slice A0_3 l0_3.length c0_3)] 26 (0, 0))) ∧ Aside0 (Below w.heap.size w wc))
        case first =>
          have H := HC15.out
          clear HC15
          by_cases c20 : t387 = 0
          · rw [if_pos c20] at H
            have c20b0 : (t387 == 0) = true := beq_iff_eq.mpr c20
            have c20b1 : (t387 != 0) = false := bne_eq_false_iff_eq.mpr c20
            clear c20
            (first | rw [c20b0] | (simp only [i64_w, i32_w]; rw [c20b0]) | skip)
            by_cases c21 : t389 = 0
            · rw [if_pos c21] at H
              have c21b0 : (t389 == 0) = true := beq_iff_eq.mpr c21
              have c21b1 : (t389 != 0) = false := bne_eq_false_iff_eq.mpr c21
              clear c21
              by_cases c22 : (t384.length : Int) = (l1.length : Int)
              · rw [if_pos c22] at H
                have c22b0 : ((t384.length : Int) == (l1.length : Int)) = true := beq_iff_eq.mpr c22
                have c22b1 : ((t384.length : Int) != (l1.length : Int)) = false := bne_eq_false_iff_eq.mpr c22
                have c22b2 : (t384.length == l1.length) = true := by first | simpa using c22 | (simp at c22 ⊢; omega)
                clear c22
                by_cases c23 : (l0_3.length : Int) = (t384.length : Int)
                · rw [if_pos c23] at H
                  have c23b0 : ((l0_3.length : Int) == (t384.length : Int)) = true := beq_iff_eq.mpr c23
                  have c23b1 : ((l0_3.length : Int) != (t384.length : Int)) = false := bne_eq_false_iff_eq.mpr c23
                  have c23b2 : (l0_3.length == t384.length) = true := by first | simpa using c23 | (simp at c23 ⊢; omega)
                  clear c23
                  have H' := Aside0.mk H
                  clear H
                  obtain ⟨Ao24, co24, eo24⟩ := Kd.R_slice HO386.out
                  subst eo24
                  have hcz25_0 : w19.cell? ⟨gb382, 0, none⟩ = some (.int .i64 a0_0) := (blk_cell BK382.out 0).trans rfl
                  have hcz25_1 : w19.cell? ⟨gb382, 1, none⟩ = some (.slice A0_1 l0_1.length c0_1) := (blk_cell BK382.out 1).trans rfl
                  have hcz25_2 : w19.cell? ⟨gb382, 2, none⟩ = some (.slice A0_2 l0_2.length c0_2) := (blk_cell BK382.out 2).trans rfl
                  have hcz25_3 : w19.cell? ⟨gb382, 3, none⟩ = some (.slice A0_3 l0_3.length c0_3) := (blk_cell BK382.out 3).trans rfl
                  have hfz25_0 := blk_frozen BK382.out 0
                  have hfz25_1 := blk_frozen BK382.out 1
                  have hfz25_2 := blk_frozen BK382.out 2
                  have hfz25_3 := blk_frozen BK382.out 3
                  go_wp2
                  repeat (go_quiet (fail); try go_wp2)
                  go_meet
                  case rel => exact ⟨_, (((l0_2.length : Int) != (t384.length : Int))), pmAx20_7_, H', ⟨by have := HJ4.out; first | omega | exact Nat.le_refl _⟩, ⟨pmAx20_5_⟩, ⟨pmAx20_1_⟩, ⟨pmAx20_0_⟩⟩
                · rw [if_neg c23] at H
                  have c23b0 : ((l0_3.length : Int) == (t384.length : Int)) = false := beq_eq_false_iff_ne.mpr c23
                  have c23b1 : ((l0_3.length : Int) != (t384.length : Int)) = true := bne_iff_ne.mpr c23
                  have c23b2 : (l0_3.length == t384.length) = false := by first | simpa using c23 | (simp at c23 ⊢; omega)
                  have H' := Aside0.mk H
                  clear H
                  obtain ⟨Ao26, co26, eo26⟩ := Kd.R_slice HO386.out
                  subst eo26
                  have hcz27_0 : w19.cell? ⟨gb382, 0, none⟩ = some (.int .i64 a0_0) := (blk_cell BK382.out 0).trans rfl
                  have hcz27_1 : w19.cell? ⟨gb382, 1, none⟩ = some (.slice A0_1 l0_1.length c0_1) := (blk_cell BK382.out 1).trans rfl
                  have hcz27_2 : w19.cell? ⟨gb382, 2, none⟩ = some (.slice A0_2 l0_2.length c0_2) := (blk_cell BK382.out 2).trans rfl
                  have hcz27_3 : w19.cell? ⟨gb382, 3, none⟩ = some (.slice A0_3 l0_3.length c0_3) := (blk_cell BK382.out 3).trans rfl
                  have hfz27_0 := blk_frozen BK382.out 0
                  have hfz27_1 := blk_frozen BK382.out 1
                  have hfz27_2 := blk_frozen BK382.out 2
                  have hfz27_3 := blk_frozen BK382.out 3
                  go_wp2
                  repeat (go_quiet (fail); try go_wp2)
                  go_meet
                  case rel => exact ⟨_, (true), pmAx20_7_, H', ⟨by have := HJ4.out; first | omega | exact Nat.le_refl _⟩, ⟨pmAx20_5_⟩, ⟨pmAx20_1_⟩, ⟨pmAx20_0_⟩⟩
              · rw [if_neg c22] at H
                have c22b0 : ((t384.length : Int) == (l1.length : Int)) = false := beq_eq_false_iff_ne.mpr c22
                have c22b1 : ((t384.length : Int) != (l1.length : Int)) = true := bne_iff_ne.mpr c22
                have c22b2 : (t384.length == l1.length) = false := by first | simpa using c22 | (simp at c22 ⊢; omega)
                have H' := Aside0.mk H
                clear H
                obtain ⟨Ao28, co28, eo28⟩ := Kd.R_slice HO386.out
                subst eo28
                go_wp2
                repeat (go_quiet (fail); try go_wp2)
                go_meet
                case rel => exact ⟨_, (true), pmAx20_7_, H', ⟨by have := HJ4.out; first | omega | exact Nat.le_refl _⟩, ⟨pmAx20_5_⟩, ⟨pmAx20_1_⟩, ⟨pmAx20_0_⟩⟩
            · rw [if_neg c21] at H
              have c21b0 : (t389 == 0) = false := beq_eq_false_iff_ne.mpr c21
              have c21b1 : (t389 != 0) = true := bne_iff_ne.mpr c21
              have H' := Aside0.mk H
              clear H
              go_wp2
              repeat (go_quiet (fail); try go_wp2)
              go_meet
              case rel => exact ⟨_, (true), pmAx20_7_, H', ⟨by have := HJ4.out; first | omega | exact Nat.le_refl _⟩, ⟨pmAx20_5_⟩, ⟨pmAx20_1_⟩, ⟨pmAx20_0_⟩⟩
          · rw [if_neg c20] at H
            have c20b0 : (t387 == 0) = false := beq_eq_false_iff_ne.mpr c20
            have c20b1 : (t387 != 0) = true := bne_iff_ne.mpr c20
            (first | rw [c20b0] | (simp only [i64_w, i32_w]; rw [c20b0]) | skip)
            have H' := Aside0.mk H
            clear H
            go_wp2
            repeat (go_quiet (fail); try go_wp2)
            go_meet
            case rel => exact ⟨_, (true), pmAx20_7_, H', ⟨by have := HJ4.out; first | omega | exact Nat.le_refl _⟩, ⟨pmAx20_5_⟩, ⟨pmAx20_1_⟩, ⟨pmAx20_0_⟩⟩
        case rest =>
          clear HC15
          try clear c1
          try clear c2
          try clear p2
          try clear c4
          try clear c7
          try clear c7b0
          try clear c7b1
          try clear c10
          try clear c20
          try clear c20b0
          try clear c20b1
          try clear c21
          try clear c21b0
          try clear c21b1
          try clear c22
          try clear c22b0
          try clear c22b1
          try clear c22b2
          try clear c23
          try clear c23b0
          try clear c23b1
          try clear c23b2
          try clear hcz16_0
          try clear hcz16_1
          try clear hcz16_2
          try clear hcz16_3
          try clear hcz18_0
          try clear hcz18_1
          try clear hcz18_2
          try clear hcz18_3
          try clear hcz25_0
          try clear hcz25_1
          try clear hcz25_2
          try clear hcz25_3
          try clear hcz27_0
          try clear hcz27_1
          try clear hcz27_2
          try clear hcz27_3
          try clear hcz8_0
          try clear hcz8_1
          try clear hcz8_2
          try clear hcz8_3
          try clear hcz9_0
          try clear hcz9_1
          try clear hcz9_2
          try clear hcz9_3
          try clear hfz16_0
          try clear hfz16_1
          try clear hfz16_2
          try clear hfz16_3
          try clear hfz18_0
          try clear hfz18_1
          try clear hfz18_2
          try clear hfz18_3
          try clear hfz25_0
          try clear hfz25_1
          try clear hfz25_2
          try clear hfz25_3
          try clear hfz27_0
          try clear hfz27_1
          try clear hfz27_2
          try clear hfz27_3
          try clear hfz8_0
          try clear hfz8_1
          try clear hfz8_2
          try clear hfz8_3
          try clear hfz9_0
          try clear hfz9_1
          try clear hfz9_2
          try clear hfz9_3
          try clear p2
          obtain ⟨kq, x67_14, rfl, HA, HJ14, HO_9, BK382, HB⟩ := hcut
          cases kq with
          | zero => exact absurd HA.out (by simp [parterrelaw28_ContentWithin.j1])
          | succ kj14 =>
            have H := HA.out
            clear HA
            simp only [parterrelaw28_ContentWithin.j1] at H
            by_cases c29 : x67_14 = true
            · subst c29
              have H1 : (if t387 = 0 then (some false) else (if (t384.length : Int) = 0 then ((parterrelaw28_lives.f kj14).bind fun t390 => (some t390)) else (some false))) = some r := by rw [if_pos rfl] at H; exact H
              clear H
              have H := H1
              clear H1
              by_cases c30 : t387 = 0
              · rw [if_pos c30] at H
                have c30b0 : (t387 == 0) = true := beq_iff_eq.mpr c30
                have c30b1 : (t387 != 0) = false := bne_eq_false_iff_eq.mpr c30
                clear c30
                obtain rfl := Option.some.inj H
                go_wp2
                repeat (go_quiet (fail); try go_wp2)
                go_ret
                exact ⟨by first | rfl | (simp [errW_none, errW_some] <;> rfl) | (simp [*, errW_none, errW_some] <;> rfl), by repeat (first | (with_reducible first | exact HB.out | apply below_alloc | apply pw_below_drewN | apply below_drew1 | refine below_set ?_ GE382.out) | exact HB.out)⟩
              · rw [if_neg c30] at H
                have c30b0 : (t387 == 0) = false := beq_eq_false_iff_ne.mpr c30
                have c30b1 : (t387 != 0) = true := bne_iff_ne.mpr c30
                by_cases c31 : (t384.length : Int) = 0
                · rw [if_pos c31] at H
                  have c31b0 : ((t384.length : Int) == 0) = true := beq_iff_eq.mpr c31
                  have c31b1 : ((t384.length : Int) != 0) = false := bne_eq_false_iff_eq.mpr c31
                  clear c31
                  replace H := Option.bind_eq_some_iff.mp H
                  obtain ⟨t390, A320, H⟩ := H
                  replace H : (some t390) = some r := H
                  have A32 := Aside0.mk A320
                  clear A320
                  obtain rfl := Option.some.inj H
                  obtain ⟨Ao33, co33, eo33⟩ := Kd.R_slice HO_9.out
                  subst eo33
                  go_wp2_with (first | (go_at_call 7; (with_reducible refine (parterrelaw28_lives.calls kj14  t390 _ A32.out).mono ?_); rintro e w34 ⟨rfl, hb⟩; have n0_ := Aside0.mk (Kd.R_below pmAx20_3_ hb); have n1_ := Aside0.mk (blk_below (g := gb382) (o := .cells #[.int .i64 a0_0, .slice A0_1 l0_1.length c0_1, .slice A0_2 l0_2.length c0_2, .slice A0_3 l0_3.length c0_3] 26 (0, 0)) pmAx20_1_ hb); have n2_ := Aside0.mk (below_step pmAx20_0_ hb); clear HO_9; clear BK382; clear HB; have HO_9 := n0_; have BK382 := n1_; have HB := n2_; clear n0_ n1_ n2_; (try clear hb); (try clear hb2); (try clear hk); (try clear hi)))
                  repeat (go_quiet (first | (go_at_call 7; (with_reducible refine (parterrelaw28_lives.calls kj14  t390 _ A32.out).mono ?_); rintro e w34 ⟨rfl, hb⟩; have n0_ := Aside0.mk (Kd.R_below pmAx20_3_ hb); have n1_ := Aside0.mk (blk_below (g := gb382) (o := .cells #[.int .i64 a0_0, .slice A0_1 l0_1.length c0_1, .slice A0_2 l0_2.length c0_2, .slice A0_3 l0_3.length c0_3] 26 (0, 0)) pmAx20_1_ hb); have n2_ := Aside0.mk (below_step pmAx20_0_ hb); clear HO_9; clear BK382; clear HB; have HO_9 := n0_; have BK382 := n1_; have HB := n2_; clear n0_ n1_ n2_; (try clear hb); (try clear hb2); (try clear hk); (try clear hi))); try go_wp2_with (first | (go_at_call 7; (with_reducible refine (parterrelaw28_lives.calls kj14  t390 _ A32.out).mono ?_); rintro e w34 ⟨rfl, hb⟩; have n0_ := Aside0.mk (Kd.R_below pmAx20_3_ hb); have n1_ := Aside0.mk (blk_below (g := gb382) (o := .cells #[.int .i64 a0_0, .slice A0_1 l0_1.length c0_1, .slice A0_2 l0_2.length c0_2, .slice A0_3 l0_3.length c0_3] 26 (0, 0)) pmAx20_1_ hb); have n2_ := Aside0.mk (below_step pmAx20_0_ hb); clear HO_9; clear BK382; clear HB; have HO_9 := n0_; have BK382 := n1_; have HB := n2_; clear n0_ n1_ n2_; (try clear hb); (try clear hb2); (try clear hk); (try clear hi))))
                  go_ret
                  exact ⟨by first | rfl | (simp [errW_none, errW_some] <;> rfl) | (simp [*, errW_none, errW_some] <;> rfl), by repeat (first | (with_reducible first | exact HB.out | apply below_alloc | apply pw_below_drewN | apply below_drew1 | refine below_set ?_ GE382.out) | exact HB.out)⟩
                · rw [if_neg c31] at H
                  have c31b0 : ((t384.length : Int) == 0) = false := beq_eq_false_iff_ne.mpr c31
                  have c31b1 : ((t384.length : Int) != 0) = true := bne_iff_ne.mpr c31
                  have c31b2 : ¬ (t384 = []) := fun h_ => c31 (by rw [h_]; rfl)
                  obtain rfl := Option.some.inj H
                  obtain ⟨Ao35, co35, eo35⟩ := Kd.R_slice HO_9.out
                  subst eo35
                  go_wp2
                  repeat (go_quiet (fail); try go_wp2)
                  go_ret
                  exact ⟨by first | rfl | (simp [errW_none, errW_some] <;> rfl) | (simp [*, errW_none, errW_some] <;> rfl), by repeat (first | (with_reducible first | exact HB.out | apply below_alloc | apply pw_below_drewN | apply below_drew1 | refine below_set ?_ GE382.out) | exact HB.out)⟩
            · replace c29 := Bool.eq_false_iff.mpr c29
              subst c29
              have H1 : (parterrelaw28_ContentWithin.l0 kj14 l1 a2 t384 t388 t384 (t384.length : Int) 0 a0_0 l0_1 l0_2 l0_3) = some r := by rw [if_neg (show ¬ (false = true) by decide)] at H; exact H
              clear H
              have H := H1
              clear H1
              have H' := Aside0.mk H
              clear H
              obtain ⟨Ao36, co36, eo36⟩ := Kd.R_slice HO_9.out
              subst eo36
              go_wp2
              repeat (go_quiet (fail); try go_wp2)
              go_loopg [80] kj14 (fun kq v80 w' => ∃ (x80_3 : Int), v80 = .int .i64 x80_3 ∧ Aside0 (parterrelaw28_ContentWithin.l0 kq l1 a2 t384 t388 t384 (t384.length : Int) x80_3 a0_0 l0_1 l0_2 l0_3 = some r) ∧ Aside0 (kq ≤ kj14) ∧ Aside0 (Kd.R (Kd.int .i64) 3 w' w.heap.size (fun _ => True) (.slice Ao36 t384.length co36) t384) ∧ Aside0 (Kd.R (Kd.int .i64) 3 w' w.heap.size (fun _ => True) (.slice Ao36 t384.length co36) t384) ∧ Aside0 (w'.heap[gb382]? = some (.cells #[.int .i64 a0_0, (.slice A0_1 l0_1.length c0_1), (.slice A0_2 l0_2.length c0_2), (.slice A0_3 l0_3.length c0_3)] 26 (0, 0))) ∧ Aside0 (Below w.heap.size w w'))
              case atStart => exact ⟨(0), pmAx20_7_, H', ⟨Nat.le_refl _⟩, ⟨pmAx20_3_⟩, ⟨pmAx20_3_⟩, ⟨pmAx20_1_⟩, ⟨pmAx20_0_⟩⟩
              case round =>
                clear H'
                try clear c1
                try clear c2
                try clear p2
                try clear c3
                try clear c4
                try clear c7
                try clear c7b0
                try clear c7b1
                try clear c10
                try clear c20
                try clear c20b0
                try clear c20b1
                try clear c21
                try clear c21b0
                try clear c21b1
                try clear c22
                try clear c22b0
                try clear c22b1
                try clear c22b2
                try clear c23
                try clear c23b0
                try clear c23b1
                try clear c23b2
                try clear c29
                try clear c30
                try clear c30b0
                try clear c30b1
                try clear c31
                try clear c31b0
                try clear c31b1
                try clear c31b2
                try clear hcz16_0
                try clear hcz16_1
                try clear hcz16_2
                try clear hcz16_3
                try clear hcz18_0
                try clear hcz18_1
                try clear hcz18_2
                try clear hcz18_3
                try clear hcz25_0
                try clear hcz25_1
                try clear hcz25_2
                try clear hcz25_3
                try clear hcz27_0
                try clear hcz27_1
                try clear hcz27_2
                try clear hcz27_3
                try clear hcz8_0
                try clear hcz8_1
                try clear hcz8_2
                try clear hcz8_3
                try clear hcz9_0
                try clear hcz9_1
                try clear hcz9_2
                try clear hcz9_3
                try clear hfz16_0
                try clear hfz16_1
                try clear hfz16_2
                try clear hfz16_3
                try clear hfz18_0
                try clear hfz18_1
                try clear hfz18_2
                try clear hfz18_3
                try clear hfz25_0
                try clear hfz25_1
                try clear hfz25_2
                try clear hfz25_3
                try clear hfz27_0
                try clear hfz27_1
                try clear hfz27_2
                try clear hfz27_3
                try clear hfz8_0
                try clear hfz8_1
                try clear hfz8_2
                try clear hfz8_3
                try clear hfz9_0
                try clear hfz9_1
                try clear hfz9_2
                try clear hfz9_3
                try clear p2
                obtain ⟨x80_3, rfl, HA, HK3, HO_9, HO_78, BK382, HB⟩ := hrel
                cases gk with
                | zero => exact absurd HA.out (by simp [parterrelaw28_ContentWithin.l0])
                | succ k3 =>
                  have H := HA.out
                  clear HA
                  simp only [parterrelaw28_ContentWithin.l0] at H
                  by_cases c37 : x80_3 < (t384.length : Int)
                  · rw [if_pos c37] at H
                    have c37b0 : decide (x80_3 < (t384.length : Int)) = true := decide_eq_true c37
                    clear c37
                    by_cases c38 : 0 ≤ x80_3
                    · rw [if_pos c38] at H
                      have c38b0 : decide (0 ≤ x80_3) = true := decide_eq_true c38
                      clear c38
                      by_cases c39 : x80_3 < (t384.length : Int)
                      · rw [if_pos c39] at H
                        have c39b0 : decide (x80_3 < (t384.length : Int)) = true := decide_eq_true c39
                        clear c39
                        by_cases c40 : t388 ≤ a2
                        · rw [if_pos c40] at H
                          have c40b0 : decide (t388 ≤ a2) = true := decide_eq_true c40
                          clear c40
                          by_cases c41 : (rd t384 x80_3) < 0
                          · rw [if_pos c41] at H
                            have c41b0 : decide ((rd t384 x80_3) < 0) = true := decide_eq_true c41
                            clear c41
                            obtain rfl := Option.some.inj H
                            have p391 : 0 ≤ (x80_3 : Int) := of_decide_eq_true pmAx20_2_
                            have q391 : x80_3 < (t384.length : Int) := of_decide_eq_true pmAx20_2_
                            obtain ⟨ad391, e391, hx391_0⟩ := Kd.at_int (Kd.R_reads' HO_78.out).2.2 x80_3 p391 q391
                            cases e391
                            replace p391 := eq_true p391
                            replace q391 := eq_true q391
                            go_wp2
                            repeat (go_quiet (fail); try go_wp2)
                            go_ret
                            exact ⟨by first | rfl | (simp [errW_none, errW_some] <;> rfl) | (simp [*, errW_none, errW_some] <;> rfl), by repeat (first | (with_reducible first | exact HB.out | apply below_alloc | apply pw_below_drewN | apply below_drew1 | refine below_set ?_ GE382.out) | exact HB.out)⟩
                          · rw [if_neg c41] at H
                            have c41b0 : decide ((rd t384 x80_3) < 0) = false := decide_eq_false c41
                            clear c41
                            by_cases c42 : x80_3 < (l1.length : Int)
                            · rw [if_pos c42] at H
                              have c42b0 : decide (x80_3 < (l1.length : Int)) = true := decide_eq_true c42
                              clear c42
                              by_cases c43 : (wrap64 ((rd t384 x80_3) + (rd l1 x80_3))) > a2
                              · rw [if_pos c43] at H
                                have c43b0 : decide (a2 < (wrap64 ((rd t384 x80_3) + (rd l1 x80_3)))) = true := decide_eq_true c43
                                clear c43
                                obtain rfl := Option.some.inj H
                                have p391 : 0 ≤ (x80_3 : Int) := of_decide_eq_true pmAx20_2_
                                have q391 : x80_3 < (t384.length : Int) := of_decide_eq_true pmAx20_2_
                                obtain ⟨ad391, e391, hx391_0⟩ := Kd.at_int (Kd.R_reads' HO_78.out).2.2 x80_3 p391 q391
                                cases e391
                                replace p391 := eq_true p391
                                replace q391 := eq_true q391
                                have p392 : 0 ≤ (x80_3 : Int) := of_decide_eq_true pmAx20_2_
                                have q392 : x80_3 < (l1.length : Int) := of_decide_eq_true pmAx20_2_
                                obtain ⟨ad392, e392, hx392_0⟩ := Kd.at_int HR1.out x80_3 p392 q392
                                cases e392
                                replace hx392_0 := (HB.out.cell (World.block_lt_of_cell? w _ hx392_0)).trans hx392_0
                                replace p392 := eq_true p392
                                replace q392 := eq_true q392
                                go_wp2
                                repeat (go_quiet (fail); try go_wp2)
                                go_ret
                                exact ⟨by first | rfl | (simp [errW_none, errW_some] <;> rfl) | (simp [*, errW_none, errW_some] <;> rfl), by repeat (first | (with_reducible first | exact HB.out | apply below_alloc | apply pw_below_drewN | apply below_drew1 | refine below_set ?_ GE382.out) | exact HB.out)⟩
                              · rw [if_neg c43] at H
                                have c43b0 : decide (a2 < (wrap64 ((rd t384 x80_3) + (rd l1 x80_3)))) = false := decide_eq_false c43
                                clear c43
                                by_cases c44 : x80_3 > 0
                                · rw [if_pos c44] at H
                                  have c44b0 : decide (0 < x80_3) = true := decide_eq_true c44
                                  clear c44
                                  obtain ⟨ji45, hji45⟩ : ∃ j_ : Int, (wrap64 (x80_3 - 1)) = j_ := ⟨_, rfl⟩
                                  replace H : (if 0 ≤ (ji45) then (if (ji45) < (t384.length : Int) then (if (ji45) < (l1.length : Int) then (if x80_3 < (l0_3.length : Int) then (if (rd t384 x80_3) < (wrap64 ((wrap64 ((rd t384 (ji45)) + (rd l1 (ji45)))) + (rd l0_3 x80_3))) then (some false) else (parterrelaw28_ContentWithin.l0 k3 l1 a2 t384 t388 t384 (t384.length : Int) (wrap64 (x80_3 + 1)) a0_0 l0_1 l0_2 l0_3)) else (none)) else (none)) else (none)) else (none)) = some r := by first | (rw [hji45] at H; exact H) | (simp only [hji45] at H ⊢; exact H)
                                  have hji45w : (IntKind.i64.wrap (x80_3 - 1)) = ji45 := (i64_w _).trans hji45
                                  by_cases c46 : 0 ≤ (ji45)
                                  · rw [if_pos c46] at H
                                    have c46b0 : decide (0 ≤ (ji45)) = true := decide_eq_true c46
                                    clear c46
                                    by_cases c47 : (ji45) < (t384.length : Int)
                                    · rw [if_pos c47] at H
                                      have c47b0 : decide ((ji45) < (t384.length : Int)) = true := decide_eq_true c47
                                      clear c47
                                      by_cases c48 : (ji45) < (l1.length : Int)
                                      · rw [if_pos c48] at H
                                        have c48b0 : decide ((ji45) < (l1.length : Int)) = true := decide_eq_true c48
                                        clear c48
                                        by_cases c49 : x80_3 < (l0_3.length : Int)
                                        · rw [if_pos c49] at H
                                          have c49b0 : decide (x80_3 < (l0_3.length : Int)) = true := decide_eq_true c49
                                          clear c49
                                          by_cases c50 : (rd t384 x80_3) < (wrap64 ((wrap64 ((rd t384 (ji45)) + (rd l1 (ji45)))) + (rd l0_3 x80_3)))
                                          · rw [if_pos c50] at H
                                            have c50b0 : decide ((rd t384 x80_3) < (wrap64 ((wrap64 ((rd t384 (ji45)) + (rd l1 (ji45)))) + (rd l0_3 x80_3)))) = true := decide_eq_true c50
                                            clear c50
                                            obtain rfl := Option.some.inj H
                                            have p391 : 0 ≤ (x80_3 : Int) := of_decide_eq_true pmAx20_2_
                                            have q391 : x80_3 < (t384.length : Int) := of_decide_eq_true pmAx20_2_
                                            obtain ⟨ad391, e391, hx391_0⟩ := Kd.at_int (Kd.R_reads' HO_78.out).2.2 x80_3 p391 q391
                                            cases e391
                                            replace p391 := eq_true p391
                                            replace q391 := eq_true q391
                                            have p392 : 0 ≤ (x80_3 : Int) := of_decide_eq_true pmAx20_2_
                                            have q392 : x80_3 < (l1.length : Int) := of_decide_eq_true pmAx20_2_
                                            obtain ⟨ad392, e392, hx392_0⟩ := Kd.at_int HR1.out x80_3 p392 q392
                                            cases e392
                                            replace hx392_0 := (HB.out.cell (World.block_lt_of_cell? w _ hx392_0)).trans hx392_0
                                            replace p392 := eq_true p392
                                            replace q392 := eq_true q392
                                            have p393 : 0 ≤ ((ji45) : Int) := of_decide_eq_true pmAx20_2_
                                            have q393 : (ji45) < (t384.length : Int) := of_decide_eq_true pmAx20_2_
                                            obtain ⟨ad393, e393, hx393_0⟩ := Kd.at_int (Kd.R_reads' HO_9.out).2.2 (ji45) p393 q393
                                            obtain rfl : ad391 = ad393 := (by injection e393)
                                            replace p393 := eq_true p393
                                            replace q393 := eq_true q393
                                            have p394 : 0 ≤ ((ji45) : Int) := of_decide_eq_true pmAx20_2_
                                            have q394 : (ji45) < (l1.length : Int) := of_decide_eq_true pmAx20_2_
                                            obtain ⟨ad394, e394, hx394_0⟩ := Kd.at_int HR1.out (ji45) p394 q394
                                            obtain rfl : ad392 = ad394 := (by injection e394)
                                            replace hx394_0 := (HB.out.cell (World.block_lt_of_cell? w _ hx394_0)).trans hx394_0
                                            replace p394 := eq_true p394
                                            replace q394 := eq_true q394
                                            have hcz51_0 : wr.cell? ⟨gb382, 0, none⟩ = some (.int .i64 a0_0) := (blk_cell BK382.out 0).trans rfl
                                            have hcz51_1 : wr.cell? ⟨gb382, 1, none⟩ = some (.slice A0_1 l0_1.length c0_1) := (blk_cell BK382.out 1).trans rfl
                                            have hcz51_2 : wr.cell? ⟨gb382, 2, none⟩ = some (.slice A0_2 l0_2.length c0_2) := (blk_cell BK382.out 2).trans rfl
                                            have hcz51_3 : wr.cell? ⟨gb382, 3, none⟩ = some (.slice A0_3 l0_3.length c0_3) := (blk_cell BK382.out 3).trans rfl
                                            have hfz51_0 := blk_frozen BK382.out 0
                                            have hfz51_1 := blk_frozen BK382.out 1
                                            have hfz51_2 := blk_frozen BK382.out 2
                                            have hfz51_3 := blk_frozen BK382.out 3
                                            have p395 : 0 ≤ (x80_3 : Int) := of_decide_eq_true pmAx20_2_
                                            have q395 : x80_3 < (l0_3.length : Int) := of_decide_eq_true pmAx20_2_
                                            obtain ⟨ad395, e395, hx395_0⟩ := Kd.at_int HR0_3.out x80_3 p395 q395
                                            cases e395
                                            replace hx395_0 := (HB.out.cell (World.block_lt_of_cell? w _ hx395_0)).trans hx395_0
                                            replace p395 := eq_true p395
                                            replace q395 := eq_true q395
                                            go_wp2
                                            repeat (go_quiet (fail); try go_wp2)
                                            go_ret
                                            exact ⟨by first | rfl | (simp [errW_none, errW_some] <;> rfl) | (simp only [← hji45]; first | rfl | (simp [errW_none, errW_some] <;> rfl)) | (simp [*, errW_none, errW_some] <;> rfl), by repeat (first | (with_reducible first | exact HB.out | apply below_alloc | apply pw_below_drewN | apply below_drew1 | refine below_set ?_ GE382.out) | exact HB.out)⟩
                                          · rw [if_neg c50] at H
                                            have c50b0 : decide ((rd t384 x80_3) < (wrap64 ((wrap64 ((rd t384 (ji45)) + (rd l1 (ji45)))) + (rd l0_3 x80_3)))) = false := decide_eq_false c50
                                            clear c50
                                            have H' := Aside0.mk H
                                            clear H
                                            have p391 : 0 ≤ (x80_3 : Int) := of_decide_eq_true pmAx20_2_
                                            have q391 : x80_3 < (t384.length : Int) := of_decide_eq_true pmAx20_2_
                                            obtain ⟨ad391, e391, hx391_0⟩ := Kd.at_int (Kd.R_reads' HO_78.out).2.2 x80_3 p391 q391
                                            cases e391
                                            replace p391 := eq_true p391
                                            replace q391 := eq_true q391
                                            have p392 : 0 ≤ (x80_3 : Int) := of_decide_eq_true pmAx20_2_
                                            have q392 : x80_3 < (l1.length : Int) := of_decide_eq_true pmAx20_2_
                                            obtain ⟨ad392, e392, hx392_0⟩ := Kd.at_int HR1.out x80_3 p392 q392
                                            cases e392
                                            replace hx392_0 := (HB.out.cell (World.block_lt_of_cell? w _ hx392_0)).trans hx392_0
                                            replace p392 := eq_true p392
                                            replace q392 := eq_true q392
                                            have p393 : 0 ≤ ((ji45) : Int) := of_decide_eq_true pmAx20_2_
                                            have q393 : (ji45) < (t384.length : Int) := of_decide_eq_true pmAx20_2_
                                            obtain ⟨ad393, e393, hx393_0⟩ := Kd.at_int (Kd.R_reads' HO_9.out).2.2 (ji45) p393 q393
                                            obtain rfl : ad391 = ad393 := (by injection e393)
                                            replace p393 := eq_true p393
                                            replace q393 := eq_true q393
                                            have p394 : 0 ≤ ((ji45) : Int) := of_decide_eq_true pmAx20_2_
                                            have q394 : (ji45) < (l1.length : Int) := of_decide_eq_true pmAx20_2_
                                            obtain ⟨ad394, e394, hx394_0⟩ := Kd.at_int HR1.out (ji45) p394 q394
                                            obtain rfl : ad392 = ad394 := (by injection e394)
                                            replace hx394_0 := (HB.out.cell (World.block_lt_of_cell? w _ hx394_0)).trans hx394_0
                                            replace p394 := eq_true p394
                                            replace q394 := eq_true q394
                                            have hcz52_0 : wr.cell? ⟨gb382, 0, none⟩ = some (.int .i64 a0_0) := (blk_cell BK382.out 0).trans rfl
                                            have hcz52_1 : wr.cell? ⟨gb382, 1, none⟩ = some (.slice A0_1 l0_1.length c0_1) := (blk_cell BK382.out 1).trans rfl
                                            have hcz52_2 : wr.cell? ⟨gb382, 2, none⟩ = some (.slice A0_2 l0_2.length c0_2) := (blk_cell BK382.out 2).trans rfl
                                            have hcz52_3 : wr.cell? ⟨gb382, 3, none⟩ = some (.slice A0_3 l0_3.length c0_3) := (blk_cell BK382.out 3).trans rfl
                                            have hfz52_0 := blk_frozen BK382.out 0
                                            have hfz52_1 := blk_frozen BK382.out 1
                                            have hfz52_2 := blk_frozen BK382.out 2
                                            have hfz52_3 := blk_frozen BK382.out 3
                                            have p395 : 0 ≤ (x80_3 : Int) := of_decide_eq_true pmAx20_2_
                                            have q395 : x80_3 < (l0_3.length : Int) := of_decide_eq_true pmAx20_2_
                                            obtain ⟨ad395, e395, hx395_0⟩ := Kd.at_int HR0_3.out x80_3 p395 q395
                                            cases e395
                                            replace hx395_0 := (HB.out.cell (World.block_lt_of_cell? w _ hx395_0)).trans hx395_0
                                            replace p395 := eq_true p395
                                            replace q395 := eq_true q395
                                            go_wp2
                                            repeat (go_quiet (fail); try go_wp2)
                                            go_roundg k3
                                            case measure => have := HJ4.out; have := HJ14.out; have := HK3.out; omega
                                            case rel => exact ⟨(wrap64 (x80_3 + 1)), pmAx20_7_, H', ⟨by have := HJ4.out; have := HJ14.out; have := HK3.out; omega⟩, ⟨pmAx20_3_⟩, ⟨pmAx20_6_⟩, ⟨pmAx20_1_⟩, ⟨pmAx20_0_⟩⟩
                                        · rw [if_neg c49] at H
                                          exact absurd H (by simp)
                                      · rw [if_neg c48] at H
                                        exact absurd H (by simp)
                                    · rw [if_neg c47] at H
                                      exact absurd H (by simp)
                                  · rw [if_neg c46] at H
                                    exact absurd H (by simp)
                                · rw [if_neg c44] at H
                                  have c44b0 : decide (0 < x80_3) = false := decide_eq_false c44
                                  clear c44
                                  have H' := Aside0.mk H
                                  clear H
                                  have p391 : 0 ≤ (x80_3 : Int) := of_decide_eq_true pmAx20_2_
                                  have q391 : x80_3 < (t384.length : Int) := of_decide_eq_true pmAx20_2_
                                  obtain ⟨ad391, e391, hx391_0⟩ := Kd.at_int (Kd.R_reads' HO_78.out).2.2 x80_3 p391 q391
                                  cases e391
                                  replace p391 := eq_true p391
                                  replace q391 := eq_true q391
                                  have p392 : 0 ≤ (x80_3 : Int) := of_decide_eq_true pmAx20_2_
                                  have q392 : x80_3 < (l1.length : Int) := of_decide_eq_true pmAx20_2_
                                  obtain ⟨ad392, e392, hx392_0⟩ := Kd.at_int HR1.out x80_3 p392 q392
                                  cases e392
                                  replace hx392_0 := (HB.out.cell (World.block_lt_of_cell? w _ hx392_0)).trans hx392_0
                                  replace p392 := eq_true p392
                                  replace q392 := eq_true q392
                                  go_wp2
                                  repeat (go_quiet (fail); try go_wp2)
                                  go_roundg k3
                                  case measure => have := HJ4.out; have := HJ14.out; have := HK3.out; omega
                                  case rel => exact ⟨(wrap64 (x80_3 + 1)), pmAx20_7_, H', ⟨by have := HJ4.out; have := HJ14.out; have := HK3.out; omega⟩, ⟨pmAx20_3_⟩, ⟨pmAx20_6_⟩, ⟨pmAx20_1_⟩, ⟨pmAx20_0_⟩⟩
                            · rw [if_neg c42] at H
                              exact absurd H (by simp)
                        · rw [if_neg c40] at H
                          have c40b0 : decide (t388 ≤ a2) = false := decide_eq_false c40
                          clear c40
                          by_cases c53 : x80_3 > 0
                          · rw [if_pos c53] at H
                            have c53b0 : decide (0 < x80_3) = true := decide_eq_true c53
                            clear c53
                            obtain ⟨ji54, hji54⟩ : ∃ j_ : Int, (wrap64 (x80_3 - 1)) = j_ := ⟨_, rfl⟩
                            replace H : (if 0 ≤ (ji54) then (if (ji54) < (t384.length : Int) then (if (ji54) < (l1.length : Int) then (if x80_3 < (l0_3.length : Int) then (if (rd t384 x80_3) < (wrap64 ((wrap64 ((rd t384 (ji54)) + (rd l1 (ji54)))) + (rd l0_3 x80_3))) then (some false) else (parterrelaw28_ContentWithin.l0 k3 l1 a2 t384 t388 t384 (t384.length : Int) (wrap64 (x80_3 + 1)) a0_0 l0_1 l0_2 l0_3)) else (none)) else (none)) else (none)) else (none)) = some r := by first | (rw [hji54] at H; exact H) | (simp only [hji54] at H ⊢; exact H)
                            have hji54w : (IntKind.i64.wrap (x80_3 - 1)) = ji54 := (i64_w _).trans hji54
                            by_cases c55 : 0 ≤ (ji54)
                            · rw [if_pos c55] at H
                              have c55b0 : decide (0 ≤ (ji54)) = true := decide_eq_true c55
                              clear c55
                              by_cases c56 : (ji54) < (t384.length : Int)
                              · rw [if_pos c56] at H
                                have c56b0 : decide ((ji54) < (t384.length : Int)) = true := decide_eq_true c56
                                clear c56
                                by_cases c57 : (ji54) < (l1.length : Int)
                                · rw [if_pos c57] at H
                                  have c57b0 : decide ((ji54) < (l1.length : Int)) = true := decide_eq_true c57
                                  clear c57
                                  by_cases c58 : x80_3 < (l0_3.length : Int)
                                  · rw [if_pos c58] at H
                                    have c58b0 : decide (x80_3 < (l0_3.length : Int)) = true := decide_eq_true c58
                                    clear c58
                                    by_cases c59 : (rd t384 x80_3) < (wrap64 ((wrap64 ((rd t384 (ji54)) + (rd l1 (ji54)))) + (rd l0_3 x80_3)))
                                    · rw [if_pos c59] at H
                                      have c59b0 : decide ((rd t384 x80_3) < (wrap64 ((wrap64 ((rd t384 (ji54)) + (rd l1 (ji54)))) + (rd l0_3 x80_3)))) = true := decide_eq_true c59
                                      clear c59
                                      obtain rfl := Option.some.inj H
                                      have p391 : 0 ≤ (x80_3 : Int) := of_decide_eq_true pmAx20_2_
                                      have q391 : x80_3 < (t384.length : Int) := of_decide_eq_true pmAx20_2_
                                      obtain ⟨ad391, e391, hx391_0⟩ := Kd.at_int (Kd.R_reads' HO_78.out).2.2 x80_3 p391 q391
                                      cases e391
                                      replace p391 := eq_true p391
                                      replace q391 := eq_true q391
                                      have p396 : 0 ≤ ((ji54) : Int) := of_decide_eq_true pmAx20_2_
                                      have q396 : (ji54) < (t384.length : Int) := of_decide_eq_true pmAx20_2_
                                      obtain ⟨ad396, e396, hx396_0⟩ := Kd.at_int (Kd.R_reads' HO_9.out).2.2 (ji54) p396 q396
                                      obtain rfl : ad391 = ad396 := (by injection e396)
                                      replace p396 := eq_true p396
                                      replace q396 := eq_true q396
                                      have p397 : 0 ≤ ((ji54) : Int) := of_decide_eq_true pmAx20_2_
                                      have q397 : (ji54) < (l1.length : Int) := of_decide_eq_true pmAx20_2_
                                      obtain ⟨ad397, e397, hx397_0⟩ := Kd.at_int HR1.out (ji54) p397 q397
                                      cases e397
                                      replace hx397_0 := (HB.out.cell (World.block_lt_of_cell? w _ hx397_0)).trans hx397_0
                                      replace p397 := eq_true p397
                                      replace q397 := eq_true q397
                                      have hcz60_0 : wr.cell? ⟨gb382, 0, none⟩ = some (.int .i64 a0_0) := (blk_cell BK382.out 0).trans rfl
                                      have hcz60_1 : wr.cell? ⟨gb382, 1, none⟩ = some (.slice A0_1 l0_1.length c0_1) := (blk_cell BK382.out 1).trans rfl
                                      have hcz60_2 : wr.cell? ⟨gb382, 2, none⟩ = some (.slice A0_2 l0_2.length c0_2) := (blk_cell BK382.out 2).trans rfl
                                      have hcz60_3 : wr.cell? ⟨gb382, 3, none⟩ = some (.slice A0_3 l0_3.length c0_3) := (blk_cell BK382.out 3).trans rfl
                                      have hfz60_0 := blk_frozen BK382.out 0
                                      have hfz60_1 := blk_frozen BK382.out 1
                                      have hfz60_2 := blk_frozen BK382.out 2
                                      have hfz60_3 := blk_frozen BK382.out 3
                                      have p398 : 0 ≤ (x80_3 : Int) := of_decide_eq_true pmAx20_2_
                                      have q398 : x80_3 < (l0_3.length : Int) := of_decide_eq_true pmAx20_2_
                                      obtain ⟨ad398, e398, hx398_0⟩ := Kd.at_int HR0_3.out x80_3 p398 q398
                                      cases e398
                                      replace hx398_0 := (HB.out.cell (World.block_lt_of_cell? w _ hx398_0)).trans hx398_0
                                      replace p398 := eq_true p398
                                      replace q398 := eq_true q398
                                      go_wp2
                                      repeat (go_quiet (fail); try go_wp2)
                                      go_ret
                                      exact ⟨by first | rfl | (simp [errW_none, errW_some] <;> rfl) | (simp only [← hji54]; first | rfl | (simp [errW_none, errW_some] <;> rfl)) | (simp [*, errW_none, errW_some] <;> rfl), by repeat (first | (with_reducible first | exact HB.out | apply below_alloc | apply pw_below_drewN | apply below_drew1 | refine below_set ?_ GE382.out) | exact HB.out)⟩
                                    · rw [if_neg c59] at H
                                      have c59b0 : decide ((rd t384 x80_3) < (wrap64 ((wrap64 ((rd t384 (ji54)) + (rd l1 (ji54)))) + (rd l0_3 x80_3)))) = false := decide_eq_false c59
                                      clear c59
                                      have H' := Aside0.mk H
                                      clear H
                                      have p391 : 0 ≤ (x80_3 : Int) := of_decide_eq_true pmAx20_2_
                                      have q391 : x80_3 < (t384.length : Int) := of_decide_eq_true pmAx20_2_
                                      obtain ⟨ad391, e391, hx391_0⟩ := Kd.at_int (Kd.R_reads' HO_78.out).2.2 x80_3 p391 q391
                                      cases e391
                                      replace p391 := eq_true p391
                                      replace q391 := eq_true q391
                                      have p396 : 0 ≤ ((ji54) : Int) := of_decide_eq_true pmAx20_2_
                                      have q396 : (ji54) < (t384.length : Int) := of_decide_eq_true pmAx20_2_
                                      obtain ⟨ad396, e396, hx396_0⟩ := Kd.at_int (Kd.R_reads' HO_9.out).2.2 (ji54) p396 q396
                                      obtain rfl : ad391 = ad396 := (by injection e396)
                                      replace p396 := eq_true p396
                                      replace q396 := eq_true q396
                                      have p397 : 0 ≤ ((ji54) : Int) := of_decide_eq_true pmAx20_2_
                                      have q397 : (ji54) < (l1.length : Int) := of_decide_eq_true pmAx20_2_
                                      obtain ⟨ad397, e397, hx397_0⟩ := Kd.at_int HR1.out (ji54) p397 q397
                                      cases e397
                                      replace hx397_0 := (HB.out.cell (World.block_lt_of_cell? w _ hx397_0)).trans hx397_0
                                      replace p397 := eq_true p397
                                      replace q397 := eq_true q397
                                      have hcz61_0 : wr.cell? ⟨gb382, 0, none⟩ = some (.int .i64 a0_0) := (blk_cell BK382.out 0).trans rfl
                                      have hcz61_1 : wr.cell? ⟨gb382, 1, none⟩ = some (.slice A0_1 l0_1.length c0_1) := (blk_cell BK382.out 1).trans rfl
                                      have hcz61_2 : wr.cell? ⟨gb382, 2, none⟩ = some (.slice A0_2 l0_2.length c0_2) := (blk_cell BK382.out 2).trans rfl
                                      have hcz61_3 : wr.cell? ⟨gb382, 3, none⟩ = some (.slice A0_3 l0_3.length c0_3) := (blk_cell BK382.out 3).trans rfl
                                      have hfz61_0 := blk_frozen BK382.out 0
                                      have hfz61_1 := blk_frozen BK382.out 1
                                      have hfz61_2 := blk_frozen BK382.out 2
                                      have hfz61_3 := blk_frozen BK382.out 3
                                      have p398 : 0 ≤ (x80_3 : Int) := of_decide_eq_true pmAx20_2_
                                      have q398 : x80_3 < (l0_3.length : Int) := of_decide_eq_true pmAx20_2_
                                      obtain ⟨ad398, e398, hx398_0⟩ := Kd.at_int HR0_3.out x80_3 p398 q398
                                      cases e398
                                      replace hx398_0 := (HB.out.cell (World.block_lt_of_cell? w _ hx398_0)).trans hx398_0
                                      replace p398 := eq_true p398
                                      replace q398 := eq_true q398
                                      go_wp2
                                      repeat (go_quiet (fail); try go_wp2)
                                      go_roundg k3
                                      case measure => have := HJ4.out; have := HJ14.out; have := HK3.out; omega
                                      case rel => exact ⟨(wrap64 (x80_3 + 1)), pmAx20_7_, H', ⟨by have := HJ4.out; have := HJ14.out; have := HK3.out; omega⟩, ⟨pmAx20_3_⟩, ⟨pmAx20_6_⟩, ⟨pmAx20_1_⟩, ⟨pmAx20_0_⟩⟩
                                  · rw [if_neg c58] at H
                                    exact absurd H (by simp)
                                · rw [if_neg c57] at H
                                  exact absurd H (by simp)
                              · rw [if_neg c56] at H
                                exact absurd H (by simp)
                            · rw [if_neg c55] at H
                              exact absurd H (by simp)
                          · rw [if_neg c53] at H
                            have c53b0 : decide (0 < x80_3) = false := decide_eq_false c53
                            clear c53
                            have H' := Aside0.mk H
                            clear H
                            have p391 : 0 ≤ (x80_3 : Int) := of_decide_eq_true pmAx20_2_
                            have q391 : x80_3 < (t384.length : Int) := of_decide_eq_true pmAx20_2_
                            obtain ⟨ad391, e391, hx391_0⟩ := Kd.at_int (Kd.R_reads' HO_78.out).2.2 x80_3 p391 q391
                            cases e391
                            replace p391 := eq_true p391
                            replace q391 := eq_true q391
                            go_wp2
                            repeat (go_quiet (fail); try go_wp2)
                            go_roundg k3
                            case measure => have := HJ4.out; have := HJ14.out; have := HK3.out; omega
                            case rel => exact ⟨(wrap64 (x80_3 + 1)), pmAx20_7_, H', ⟨by have := HJ4.out; have := HJ14.out; have := HK3.out; omega⟩, ⟨pmAx20_3_⟩, ⟨pmAx20_6_⟩, ⟨pmAx20_1_⟩, ⟨pmAx20_0_⟩⟩
                      · rw [if_neg c39] at H
                        exact absurd H (by simp)
                    · rw [if_neg c38] at H
                      exact absurd H (by simp)
                  · rw [if_neg c37] at H
                    have c37b0 : decide (x80_3 < (t384.length : Int)) = false := decide_eq_false c37
                    clear c37
                    replace H := Option.bind_eq_some_iff.mp H
                    obtain ⟨t399, A620, H⟩ := H
                    replace H : (some t399) = some r := H
                    have A62 := Aside0.mk A620
                    clear A620
                    obtain rfl := Option.some.inj H
                    go_wp2_with (first | (go_at_call 7; (with_reducible refine (parterrelaw28_lives.calls k3  t399 _ A62.out).mono ?_); rintro e w63 ⟨rfl, hb⟩; have n0_ := Aside0.mk (Kd.R_below pmAx20_3_ hb); have n1_ := Aside0.mk (Kd.R_below pmAx20_6_ hb); have n2_ := Aside0.mk (blk_below (g := gb382) (o := .cells #[.int .i64 a0_0, .slice A0_1 l0_1.length c0_1, .slice A0_2 l0_2.length c0_2, .slice A0_3 l0_3.length c0_3] 26 (0, 0)) pmAx20_1_ hb); have n3_ := Aside0.mk (below_step pmAx20_0_ hb); clear HO_9; clear HO_78; clear BK382; clear HB; have HO_9 := n0_; have HO_78 := n1_; have BK382 := n2_; have HB := n3_; clear n0_ n1_ n2_ n3_; (try clear hb); (try clear hb2); (try clear hk); (try clear hi)))
                    repeat (go_quiet (first | (go_at_call 7; (with_reducible refine (parterrelaw28_lives.calls k3  t399 _ A62.out).mono ?_); rintro e w63 ⟨rfl, hb⟩; have n0_ := Aside0.mk (Kd.R_below pmAx20_3_ hb); have n1_ := Aside0.mk (Kd.R_below pmAx20_6_ hb); have n2_ := Aside0.mk (blk_below (g := gb382) (o := .cells #[.int .i64 a0_0, .slice A0_1 l0_1.length c0_1, .slice A0_2 l0_2.length c0_2, .slice A0_3 l0_3.length c0_3] 26 (0, 0)) pmAx20_1_ hb); have n3_ := Aside0.mk (below_step pmAx20_0_ hb); clear HO_9; clear HO_78; clear BK382; clear HB; have HO_9 := n0_; have HO_78 := n1_; have BK382 := n2_; have HB := n3_; clear n0_ n1_ n2_ n3_; (try clear hb); (try clear hb2); (try clear hk); (try clear hi))); try go_wp2_with (first | (go_at_call 7; (with_reducible refine (parterrelaw28_lives.calls k3  t399 _ A62.out).mono ?_); rintro e w63 ⟨rfl, hb⟩; have n0_ := Aside0.mk (Kd.R_below pmAx20_3_ hb); have n1_ := Aside0.mk (Kd.R_below pmAx20_6_ hb); have n2_ := Aside0.mk (blk_below (g := gb382) (o := .cells #[.int .i64 a0_0, .slice A0_1 l0_1.length c0_1, .slice A0_2 l0_2.length c0_2, .slice A0_3 l0_3.length c0_3] 26 (0, 0)) pmAx20_1_ hb); have n3_ := Aside0.mk (below_step pmAx20_0_ hb); clear HO_9; clear HO_78; clear BK382; clear HB; have HO_9 := n0_; have HO_78 := n1_; have BK382 := n2_; have HB := n3_; clear n0_ n1_ n2_ n3_; (try clear hb); (try clear hb2); (try clear hk); (try clear hi))))
                    go_ret
                    exact ⟨by first | rfl | (simp [errW_none, errW_some] <;> rfl) | (simp [*, errW_none, errW_some] <;> rfl), by repeat (first | (with_reducible first | exact HB.out | apply below_alloc | apply pw_below_drewN | apply below_drew1 | refine below_set ?_ GE382.out) | exact HB.out)⟩
/-- THE ONE PURE STATEMENT of parterrelaw28_ContentWithin. -/
def parterrelaw28_ContentWithin.Pure : Prop := ∀ (a0_0 : Int) (l0_1 : List (S57)) (l0_2 : List Bool) (l0_3 : List Int) (l1 : List Int) (a2 : Int) (a3 : Int), (Lit.int .i64 a0_0).wf = true → l0_1.length ≤ 9223372036854775807 → (∀ e_ ∈ l0_1, wf57 e_) → l0_2.length ≤ 9223372036854775807 → (∀ e_ ∈ l0_2, True) → l0_3.length ≤ 9223372036854775807 → (∀ e_ ∈ l0_3, (Lit.int .i64 e_).wf = true) → l1.length ≤ 9223372036854775807 → l1.length * 8 ≤ 140737488351232 → (∀ e_ ∈ l1, (Lit.int .i64 e_).wf = true) → (Lit.int .i64 a2).wf = true → (Lit.int .i64 a3).wf = true → ∃ k, parterrelaw28_ContentWithin.f k a0_0 l0_1 l0_2 l0_3 l1 a2 a3 = some true

end Go.Proofs.Ytbkohlhonhmhmaa.PA
