-- written by a program of this session (a print of the translation with changes of its own)
import Derived.Test.YtecccaniopkphaaPAx0
import Derived.Test.YtecccaniopkphaaPAx2
namespace Go.Proofs.Ytecccaniopkphaa.PA
open Go.RowKit Go.Proofs.YtecccaniopkphaaW.PrintWords Go.Proofs.YtecccaniopkphaaW.PrintLast Go.Proofs.YtecccaniopkphaaW.PrintMore
theorem pmAx3_0_ {P : Prop} (h : P := by (with_reducible repeat (first | refine blk_drewN ?_ _ | refine blk_drew ?_ | refine blk_alloc ?_ _)); exact BK104.out) : P := h
theorem pmAx3_1_ {P : Prop} (h : P := by repeat (first | (with_reducible first | exact HB.out | apply below_alloc | apply pw_below_drewN | apply below_drew1 | refine below_set ?_ GE104.out | refine below_set ?_ GE105.out) | exact HB.out)) : P := h
theorem pmAx3_2_ {P : Prop} (h : P := by (with_reducible repeat (first | refine blk_drewN ?_ _ | refine blk_drew ?_ | refine blk_alloc ?_ _)); exact BK105.out) : P := h
theorem pmAx3_3_ {P : Prop} (h : P := by repeat (first | (with_reducible first | exact HB.out | apply below_alloc | apply pw_below_drewN | apply below_drew1 | refine below_set ?_ GE104.out) | exact HB.out)) : P := h
theorem pmAx3_4_ {P : Prop} (h : P := by repeat (first | (with_reducible first | exact HB.out | apply below_alloc | apply pw_below_drewN | apply below_drew1) | exact HB.out)) : P := h
theorem pmAx3_5_ {P : Prop} (h : P := by repeat (first | (with_reducible first | exact HB.out | apply below_alloc | apply pw_below_drewN | apply below_drew1 | refine below_set ?_ GE104.out | refine below_set ?_ GE105.out | refine below_set ?_ GE109.out) | exact HB.out)) : P := h
theorem pmAx3_6_ {P : Prop} (h : P := by first | (with_reducible assumption) | assumption) : P := h
theorem pmAx3_7_ {P : Prop} (h : P := by rw [hg]; exact Nat.ne_of_lt (blk_lt (g := gb104) (o := .cells #[.int .i64 a0] 3 (0, 0)) pmAx3_0_)) : P := h
theorem pmAx3_8_ {P : Prop} (h : P := by rw [hg]; exact Nat.ne_of_gt (blk_lt (g := gb104) (o := .cells #[.int .i64 a0] 3 (0, 0)) pmAx3_0_)) : P := h
theorem pmAx3_9_ {P : Prop} (h : P := by (with_reducible repeat (first | refine blk_drewN ?_ _ | refine blk_drew ?_ | refine blk_alloc ?_ _)); exact BK109.out) : P := h
theorem pmAx3_10_ {P : Prop} (h : P := by rw [hg]; exact Nat.ne_of_lt (blk_lt (g := gb105) (o := .cells #[.slice A1 l1.length c1] 22 (0, 0)) pmAx3_2_)) : P := h
theorem pmAx3_11_ {P : Prop} (h : P := by rw [hg]; exact Nat.ne_of_gt (blk_lt (g := gb105) (o := .cells #[.slice A1 l1.length c1] 22 (0, 0)) pmAx3_2_)) : P := h
theorem pmAx3_12_ {P : Prop} (h : P := by first | rfl | (simp; done) | (simp [*]; done)) : P := h
theorem pmAx3_13_ {P : Prop} (h : P := by (with_reducible repeat (first | apply Kd.R_alloc | apply Kd.R_drewN | apply Kd.R_drew)); exact HO108.out) : P := h
theorem pmAx3_14_ {P : Prop} (h : P := by rw [hg]; exact (below_size pmAx3_4_)) : P := h
theorem pmAx3_15_ {P : Prop} (h : P := by rw [hg]; exact (below_size pmAx3_3_)) : P := h
theorem pmAx3_16_ {P : Prop} (h : P := by rw [hg]; exact (below_size pmAx3_1_)) : P := h
theorem pmAx3_17_ {P : Prop} (h : P := by rw [hw]; exact below_set (HB.out) GB87.out) : P := h
theorem pmAx3_18_ {P : Prop} (h : P := by rw [hw, Ny117.out]; exact HP94.1) : P := h
attribute [local go_sem] max2_int min2_int max_two min_two max_three min_three max_four min_four   -- for this text's walks alone
set_option linter.unusedVariables false
set_option linter.unusedSimpArgs false

/-! ### spread_Up: function 9 -/
mutual
def spread_Up.j0 : Nat → Bool → Int → List Int → List Int → Option (List Int)
  | 0, _, _, _, _ => none
  | k + 1, x19, x105000, x106000, x110000 => if x19 = true then (some x110000) else (spread_Up.l0 k x105000 x106000 x110000)
def spread_Up.l0 : Nat → Int → List Int → List Int → Option (List Int)
  | 0, _, _, _ => none
  | k + 1, x105000, x106000, x110000 => if x105000 > 0 then (spread_Up.l1 k 0 (x106000.length : Int) 0 x105000 x106000 x110000) else (some x110000)
def spread_Up.l1 : Nat → Int → Int → Int → Int → List Int → List Int → Option (List Int)
  | 0, _, _, _, _, _, _ => none
  | k + 1, x304, x311, x312, x105000, x106000, x110000 => if x312 < x311 then (if 0 ≤ x312 then (if x312 < (x110000.length : Int) then (if x312 < (x106000.length : Int) then (if (rd x110000 x312) < (rd x106000 x312) then (spread_Up.l1 k (wrap64 (x304 + 1)) x311 (wrap64 (x312 + 1)) x105000 x106000 x110000) else (spread_Up.l1 k x304 x311 (wrap64 (x312 + 1)) x105000 x106000 x110000)) else (none)) else (none)) else (none)) else (if x304 = 0 then (some x110000) else (spread_Up.l2 k (wrap64 (Int.tdiv x105000 x304)) x105000 (x106000.length : Int) 0 x106000 x110000))
def spread_Up.l2 : Nat → Int → Int → Int → Int → List Int → List Int → Option (List Int)
  | 0, _, _, _, _, _, _ => none
  | k + 1, x306, x307, x334, x335, x106000, x110000 => if x335 < x334 then (if 0 ≤ x335 then (if x335 < (x106000.length : Int) then (if x335 < (x110000.length : Int) then (if (mn (mx x306 1) (wrap64 ((rd x106000 x335) - (rd x110000 x335)))) = 0 then (spread_Up.l2 k x306 x307 x334 (wrap64 (x335 + 1)) x106000 x110000) else (if x307 < (mn (mx x306 1) (wrap64 ((rd x106000 x335) - (rd x110000 x335)))) then (spread_Up.l0 k x307 x106000 x110000) else (spread_Up.l2 k x306 (wrap64 (x307 - (mn (mx x306 1) (wrap64 ((rd x106000 x335) - (rd x110000 x335)))))) x334 (wrap64 (x335 + 1)) x106000 (x110000.set (x335 : Int).toNat (wrap64 ((rd x110000 x335) + (mn (mx x306 1) (wrap64 ((rd x106000 x335) - (rd x110000 x335)))))))))) else (none)) else (none)) else (none)) else (spread_Up.l0 k x307 x106000 x110000)
end
def spread_Up.f (k : Nat) (a0 : Int) (l1 : List Int) : Option (List Int) := if 0 ≤ (l1.length : Int) then (if ((l1.length : Int) : Int).toNat ≤ 35184372088832 then ((some (List.replicate ((l1.length : Int) : Int).toNat 0 : List Int)).bind fun y106 => ((spread_right.f a0 (l1.length : Int)).bind fun t110 => (if t110 = true then ((spread_rooms.f k l1).bind fun t111 => (spread_Up.j0 k (!t111) a0 l1 y106)) else (spread_Up.j0 k true a0 l1 y106)))) else (none)) else (none)
theorem spread_Up.mono_l : ∀ k, (∀ y0 y1 y2 y3, LeO (spread_Up.j0 k y0 y1 y2 y3) (spread_Up.j0 (k + 1) y0 y1 y2 y3)) ∧ (∀ y0 y1 y2, LeO (spread_Up.l0 k y0 y1 y2) (spread_Up.l0 (k + 1) y0 y1 y2)) ∧ (∀ y0 y1 y2 y3 y4 y5, LeO (spread_Up.l1 k y0 y1 y2 y3 y4 y5) (spread_Up.l1 (k + 1) y0 y1 y2 y3 y4 y5)) ∧ (∀ y0 y1 y2 y3 y4 y5, LeO (spread_Up.l2 k y0 y1 y2 y3 y4 y5) (spread_Up.l2 (k + 1) y0 y1 y2 y3 y4 y5))
  | 0 => ⟨fun _ _ _ _ r h => by simp [spread_Up.j0] at h, fun _ _ _ r h => by simp [spread_Up.l0] at h, fun _ _ _ _ _ _ r h => by simp [spread_Up.l1] at h, fun _ _ _ _ _ _ r h => by simp [spread_Up.l2] at h⟩
  | k + 1 => by
    obtain ⟨ih0, ih1, ih2, ih3⟩ := spread_Up.mono_l k
    refine ⟨?_, ?_, ?_, ?_⟩
    · intro y0 y1 y2 y3
      unfold spread_Up.j0
      repeat' first
      | (with_reducible exact ih0 _ _ _ _)
      | (with_reducible exact ih1 _ _ _)
      | (with_reducible exact ih2 _ _ _ _ _ _)
      | (with_reducible exact ih3 _ _ _ _ _ _)
      | (with_reducible exact spread_rooms.mono _ _)
      | (with_reducible exact LeO.refl _)
      | (with_reducible exact LeO.none _)
      | (with_reducible refine LeO.ite ?_ ?_)
      | (with_reducible refine LeO.bind ?_ (fun _ => ?_))
      | exact ih0 _ _ _ _
      | exact ih1 _ _ _
      | exact ih2 _ _ _ _ _ _
      | exact ih3 _ _ _ _ _ _
      | exact spread_rooms.mono _ _
      | exact LeO.none _
      | refine LeO.ite ?_ ?_
      | refine LeO.bind ?_ (fun _ => ?_)
    · intro y0 y1 y2
      unfold spread_Up.l0
      repeat' first
      | (with_reducible exact ih0 _ _ _ _)
      | (with_reducible exact ih1 _ _ _)
      | (with_reducible exact ih2 _ _ _ _ _ _)
      | (with_reducible exact ih3 _ _ _ _ _ _)
      | (with_reducible exact spread_rooms.mono _ _)
      | (with_reducible exact LeO.refl _)
      | (with_reducible exact LeO.none _)
      | (with_reducible refine LeO.ite ?_ ?_)
      | (with_reducible refine LeO.bind ?_ (fun _ => ?_))
      | exact ih0 _ _ _ _
      | exact ih1 _ _ _
      | exact ih2 _ _ _ _ _ _
      | exact ih3 _ _ _ _ _ _
      | exact spread_rooms.mono _ _
      | exact LeO.none _
      | refine LeO.ite ?_ ?_
      | refine LeO.bind ?_ (fun _ => ?_)
    · intro y0 y1 y2 y3 y4 y5
      unfold spread_Up.l1
      repeat' first
      | (with_reducible exact ih0 _ _ _ _)
      | (with_reducible exact ih1 _ _ _)
      | (with_reducible exact ih2 _ _ _ _ _ _)
      | (with_reducible exact ih3 _ _ _ _ _ _)
      | (with_reducible exact spread_rooms.mono _ _)
      | (with_reducible exact LeO.refl _)
      | (with_reducible exact LeO.none _)
      | (with_reducible refine LeO.ite ?_ ?_)
      | (with_reducible refine LeO.bind ?_ (fun _ => ?_))
      | exact ih0 _ _ _ _
      | exact ih1 _ _ _
      | exact ih2 _ _ _ _ _ _
      | exact ih3 _ _ _ _ _ _
      | exact spread_rooms.mono _ _
      | exact LeO.none _
      | refine LeO.ite ?_ ?_
      | refine LeO.bind ?_ (fun _ => ?_)
    · intro y0 y1 y2 y3 y4 y5
      unfold spread_Up.l2
      repeat' first
      | (with_reducible exact ih0 _ _ _ _)
      | (with_reducible exact ih1 _ _ _)
      | (with_reducible exact ih2 _ _ _ _ _ _)
      | (with_reducible exact ih3 _ _ _ _ _ _)
      | (with_reducible exact spread_rooms.mono _ _)
      | (with_reducible exact LeO.refl _)
      | (with_reducible exact LeO.none _)
      | (with_reducible refine LeO.ite ?_ ?_)
      | (with_reducible refine LeO.bind ?_ (fun _ => ?_))
      | exact ih0 _ _ _ _
      | exact ih1 _ _ _
      | exact ih2 _ _ _ _ _ _
      | exact ih3 _ _ _ _ _ _
      | exact spread_rooms.mono _ _
      | exact LeO.none _
      | refine LeO.ite ?_ ?_
      | refine LeO.bind ?_ (fun _ => ?_)
theorem spread_Up.mono : ∀ a0 a1 k, LeO (spread_Up.f k a0 a1) (spread_Up.f (k + 1) a0 a1) := by
  intro a0 a1 k
  obtain ⟨ih0, ih1, ih2, ih3⟩ := spread_Up.mono_l k
  unfold spread_Up.f
  repeat' first
      | (with_reducible exact ih0 _ _ _ _)
      | (with_reducible exact ih1 _ _ _)
      | (with_reducible exact ih2 _ _ _ _ _ _)
      | (with_reducible exact ih3 _ _ _ _ _ _)
      | (with_reducible exact spread_rooms.mono _ _)
      | (with_reducible exact LeO.refl _)
      | (with_reducible exact LeO.none _)
      | (with_reducible refine LeO.ite ?_ ?_)
      | (with_reducible refine LeO.bind ?_ (fun _ => ?_))
      | exact ih0 _ _ _ _
      | exact ih1 _ _ _
      | exact ih2 _ _ _ _ _ _
      | exact ih3 _ _ _ _ _ _
      | exact spread_rooms.mono _ _
      | exact LeO.none _
      | refine LeO.ite ?_ ?_
      | refine LeO.bind ?_ (fun _ => ?_)
set_option maxHeartbeats 8000000 in
set_option maxRecDepth 100000 in
theorem spread_Up.calls (k : Nat) (a0 : Int) (A1 : Option Addr) (c1 : Nat) (l1 : List Int) (r : List Int) (w : World) (hr1 : Kd.C (Kd.int .i64) w A1 l1.length l1) (hc1 : l1.length ≤ c1) (h : spread_Up.f k a0 l1 = some r) :
    Calls Try.prog 9 #[.int .i64 a0, .slice A1 l1.length c1] w fun e w' => ∃ v0_ : Value, e = .returned (v0_) ∧ Kd.R (Kd.int .i64) 3 w' w.heap.size (fun _ => True) v0_ r ∧ Below w.heap.size w w' := by
  have HR1 := Aside0.mk hr1
  have HC1 := Aside0.mk hc1
  clear hr1 hc1
  have HB := Aside0.mk (Below.refl w.heap.size w)
  have H : (if 0 ≤ (l1.length : Int) then (if ((l1.length : Int) : Int).toNat ≤ 35184372088832 then ((some (List.replicate ((l1.length : Int) : Int).toNat 0 : List Int)).bind fun y106 => ((spread_right.f a0 (l1.length : Int)).bind fun t110 => (if t110 = true then ((spread_rooms.f k l1).bind fun t111 => (spread_Up.j0 k (!t111) a0 l1 y106)) else (spread_Up.j0 k true a0 l1 y106)))) else (none)) else (none)) = some r := h
  clear h
  by_cases c3 : 0 ≤ (l1.length : Int)
  · rw [if_pos c3] at H
    have c3b0 := eq_true c3
    have c3b1 : decide (0 ≤ (l1.length : Int)) = true := decide_eq_true c3
    clear c3
    by_cases c4 : ((l1.length : Int) : Int).toNat ≤ 35184372088832
    · rw [if_pos c4] at H
      have c4b0 := eq_true c4
      have c4b1 : decide (((l1.length : Int) : Int).toNat ≤ 35184372088832) = true := decide_eq_true c4
      clear c4
      obtain ⟨y106, hy106⟩ : ∃ y_ : List Int, y_ = (List.replicate ((l1.length : Int) : Int).toNat 0) := ⟨_, rfl⟩
      replace H : ((spread_right.f a0 (l1.length : Int)).bind fun t110 => (if t110 = true then ((spread_rooms.f k l1).bind fun t111 => (spread_Up.j0 k (!t111) a0 l1 y106)) else (spread_Up.j0 k true a0 l1 y106))) = some r := by first | (rw [hy106]; with_reducible exact H) | (have H2_ := (Option.bind_some _ _).symm.trans H; rw [hy106]; with_reducible exact H2_) | (have H2_ := (Option.bind_some _ _).symm.trans H; with_reducible exact H2_) | with_reducible exact H | (rw [hy106]; exact H) | exact H
      have Ny106 := Aside0.mk hy106
      clear hy106
      have HC5 := Aside0.mk H
      clear H
      go_enter Try.func9, Try.ntmps9
      go_upto_region 2 with (first | ((with_reducible refine gate_dst (N := 2) rfl ?_); refine box_event ?hg (N := 2) ?hd (cs := #[.int .i64 a0]) (t := 3) ?hr ?_; (case hd => rfl); (case hg => rfl); (case hr => first | (go_simp; done) | (go_simp; rfl)); intro gb104 hg w6 hbox hb; have n0_ := Aside0.mk (below_step pmAx3_4_ hb); have n1_ := Aside0.mk (hbox); have n2_ := Aside0.mk ((pmAx3_14_ : w.heap.size ≤ gb104)); have n3_ := Aside0.mk ((pmAx3_14_ : w.heap.size ≤ gb104)); clear HB; have HB := n0_; have BK104 := n1_; have GW104 := n2_; have GE104 := n3_; clear n0_ n1_ n2_ n3_; clear hb hbox hg) | ((with_reducible refine gate_dst (N := 3) rfl ?_); refine box_event ?hg (N := 3) ?hd (cs := #[.slice A1 l1.length c1]) (t := 22) ?hr ?_; (case hd => rfl); (case hg => rfl); (case hr => first | (go_simp; done) | (go_simp; rfl)); intro gb105 hg w7 hbox hb; have n0_ := Aside0.mk (blk_below (g := gb104) (o := .cells #[.int .i64 a0] 3 (0, 0)) pmAx3_0_ hb); have n1_ := Aside0.mk (below_step pmAx3_3_ hb); have n2_ := Aside0.mk (hbox); have n3_ := Aside0.mk ((pmAx3_15_ : w.heap.size ≤ gb105)); have n4_ := Aside0.mk ((pmAx3_15_ : w.heap.size ≤ gb105)); have n5_ := Aside0.mk ((pmAx3_7_ : gb104 ≠ gb105)); have n6_ := Aside0.mk ((pmAx3_8_ : gb105 ≠ gb104)); clear BK104; clear HB; have BK104 := n0_; have HB := n1_; have BK105 := n2_; have GW105 := n3_; have GE105 := n4_; have NB104_105 := n5_; have NB105_104 := n6_; clear n0_ n1_ n2_ n3_ n4_ n5_ n6_; clear hb hbox hg; have hnb8 := NB105_104.out; have hnc8 := NB104_105.out; have hcz9_0 : w7.cell? ⟨gb105, 0, none⟩ = some (.slice A1 l1.length c1) := (blk_cell BK105.out 0).trans rfl; have hfz9_0 := blk_frozen BK105.out 0) | ((with_reducible refine gate_dst (N := 9) rfl ?_); refine Kd.R_make (Kd.int .i64) _ 3 rfl (N := 9) rfl 22 _ _ rfl (l1.length : Int) rfl rfl Try.underlying22 (.int .i64 0) 8 info3 rfl (by decide) (by omega) 0 (ok := fun _ => True) (okp := fun _ => True) rfl (fun _ hk => hk) trivial (of_decide_eq_true pmAx3_6_) (Nat.le_trans (Nat.mul_le_mul_right _ (of_decide_eq_true pmAx3_6_ : (l1.length : Int).toNat ≤ 35184372088832)) (by omega)) (Below.refl _ _) (Nat.le_refl _) ?_; intro v107 w10 ho11 hb hg_ hnew_; clear hg_ hnew_; (first | rw [← Ny106.out] at ho11 | (simp only [Int.reduceToNat] at ho11; rw [← Ny106.out] at ho11)); have n0_ := Aside0.mk (Kd.R_lower (Kd.R_newB ho11 (g := gb104) (o := .cells #[.int .i64 a0] 3 (0, 0)) pmAx3_0_) (below_size pmAx3_1_)); have n1_ := Aside0.mk (blk_below (g := gb104) (o := .cells #[.int .i64 a0] 3 (0, 0)) pmAx3_0_ hb); have n2_ := Aside0.mk (blk_below (g := gb105) (o := .cells #[.slice A1 l1.length c1] 22 (0, 0)) pmAx3_2_ hb); have n3_ := Aside0.mk (below_step pmAx3_1_ hb); clear BK104; clear BK105; clear HB; have HO108 := n0_; have BK104 := n1_; have BK105 := n2_; have HB := n3_; clear n0_ n1_ n2_ n3_; clear hb ho11) | ((with_reducible refine gate_dst (N := 5) rfl ?_); refine box_event ?hg (N := 5) ?hd (cs := #[.slice none 0 0]) (t := 22) ?hr ?_; (case hd => rfl); (case hg => rfl); (case hr => first | (go_simp; done) | (go_simp; rfl)); intro gb109 hg w12 hbox hb; have n0_ := Aside0.mk (Kd.R_below pmAx3_13_ hb); have n1_ := Aside0.mk (blk_below (g := gb104) (o := .cells #[.int .i64 a0] 3 (0, 0)) pmAx3_0_ hb); have n2_ := Aside0.mk (blk_below (g := gb105) (o := .cells #[.slice A1 l1.length c1] 22 (0, 0)) pmAx3_2_ hb); have n3_ := Aside0.mk (below_step pmAx3_1_ hb); have n4_ := Aside0.mk (hbox); have n5_ := Aside0.mk ((pmAx3_16_ : w.heap.size ≤ gb109)); have n6_ := Aside0.mk ((pmAx3_16_ : w.heap.size ≤ gb109)); have n7_ := Aside0.mk ((pmAx3_7_ : gb104 ≠ gb109)); have n8_ := Aside0.mk ((pmAx3_8_ : gb109 ≠ gb104)); have n9_ := Aside0.mk ((pmAx3_10_ : gb105 ≠ gb109)); have n10_ := Aside0.mk ((pmAx3_11_ : gb109 ≠ gb105)); clear HO108; clear BK104; clear BK105; clear HB; have HO108 := n0_; have BK104 := n1_; have BK105 := n2_; have HB := n3_; have BK109 := n4_; have GW109 := n5_; have GE109 := n6_; have NB104_109 := n7_; have NB109_104 := n8_; have NB105_109 := n9_; have NB109_105 := n10_; clear n0_ n1_ n2_ n3_ n4_ n5_ n6_ n7_ n8_ n9_ n10_; clear hb hbox hg; obtain ⟨Ao13, co13, eo13⟩ := Kd.R_slice HO108.out; subst eo13; have hnb14 := NB109_104.out; have hnc14 := NB104_109.out; have hnb15 := NB109_105.out; have hnc15 := NB105_109.out; have hcz16_0 : w12.cell? ⟨gb109, 0, none⟩ = some (.slice none 0 0) := (blk_cell BK109.out 0).trans rfl; have hfz16_0 := blk_frozen BK109.out 0))
      try (go_step3; go_upto_region 2 with (first | ((with_reducible refine gate_dst (N := 2) rfl ?_); refine box_event ?hg (N := 2) ?hd (cs := #[.int .i64 a0]) (t := 3) ?hr ?_; (case hd => rfl); (case hg => rfl); (case hr => first | (go_simp; done) | (go_simp; rfl)); intro gb104 hg w6 hbox hb; have n0_ := Aside0.mk (below_step pmAx3_4_ hb); have n1_ := Aside0.mk (hbox); have n2_ := Aside0.mk ((pmAx3_14_ : w.heap.size ≤ gb104)); have n3_ := Aside0.mk ((pmAx3_14_ : w.heap.size ≤ gb104)); clear HB; have HB := n0_; have BK104 := n1_; have GW104 := n2_; have GE104 := n3_; clear n0_ n1_ n2_ n3_; clear hb hbox hg) | ((with_reducible refine gate_dst (N := 3) rfl ?_); refine box_event ?hg (N := 3) ?hd (cs := #[.slice A1 l1.length c1]) (t := 22) ?hr ?_; (case hd => rfl); (case hg => rfl); (case hr => first | (go_simp; done) | (go_simp; rfl)); intro gb105 hg w7 hbox hb; have n0_ := Aside0.mk (blk_below (g := gb104) (o := .cells #[.int .i64 a0] 3 (0, 0)) pmAx3_0_ hb); have n1_ := Aside0.mk (below_step pmAx3_3_ hb); have n2_ := Aside0.mk (hbox); have n3_ := Aside0.mk ((pmAx3_15_ : w.heap.size ≤ gb105)); have n4_ := Aside0.mk ((pmAx3_15_ : w.heap.size ≤ gb105)); have n5_ := Aside0.mk ((pmAx3_7_ : gb104 ≠ gb105)); have n6_ := Aside0.mk ((pmAx3_8_ : gb105 ≠ gb104)); clear BK104; clear HB; have BK104 := n0_; have HB := n1_; have BK105 := n2_; have GW105 := n3_; have GE105 := n4_; have NB104_105 := n5_; have NB105_104 := n6_; clear n0_ n1_ n2_ n3_ n4_ n5_ n6_; clear hb hbox hg; have hnb8 := NB105_104.out; have hnc8 := NB104_105.out; have hcz9_0 : w7.cell? ⟨gb105, 0, none⟩ = some (.slice A1 l1.length c1) := (blk_cell BK105.out 0).trans rfl; have hfz9_0 := blk_frozen BK105.out 0) | ((with_reducible refine gate_dst (N := 9) rfl ?_); refine Kd.R_make (Kd.int .i64) _ 3 rfl (N := 9) rfl 22 _ _ rfl (l1.length : Int) rfl rfl Try.underlying22 (.int .i64 0) 8 info3 rfl (by decide) (by omega) 0 (ok := fun _ => True) (okp := fun _ => True) rfl (fun _ hk => hk) trivial (of_decide_eq_true pmAx3_6_) (Nat.le_trans (Nat.mul_le_mul_right _ (of_decide_eq_true pmAx3_6_ : (l1.length : Int).toNat ≤ 35184372088832)) (by omega)) (Below.refl _ _) (Nat.le_refl _) ?_; intro v107 w10 ho11 hb hg_ hnew_; clear hg_ hnew_; (first | rw [← Ny106.out] at ho11 | (simp only [Int.reduceToNat] at ho11; rw [← Ny106.out] at ho11)); have n0_ := Aside0.mk (Kd.R_lower (Kd.R_newB ho11 (g := gb104) (o := .cells #[.int .i64 a0] 3 (0, 0)) pmAx3_0_) (below_size pmAx3_1_)); have n1_ := Aside0.mk (blk_below (g := gb104) (o := .cells #[.int .i64 a0] 3 (0, 0)) pmAx3_0_ hb); have n2_ := Aside0.mk (blk_below (g := gb105) (o := .cells #[.slice A1 l1.length c1] 22 (0, 0)) pmAx3_2_ hb); have n3_ := Aside0.mk (below_step pmAx3_1_ hb); clear BK104; clear BK105; clear HB; have HO108 := n0_; have BK104 := n1_; have BK105 := n2_; have HB := n3_; clear n0_ n1_ n2_ n3_; clear hb ho11) | ((with_reducible refine gate_dst (N := 5) rfl ?_); refine box_event ?hg (N := 5) ?hd (cs := #[.slice none 0 0]) (t := 22) ?hr ?_; (case hd => rfl); (case hg => rfl); (case hr => first | (go_simp; done) | (go_simp; rfl)); intro gb109 hg w12 hbox hb; have n0_ := Aside0.mk (Kd.R_below pmAx3_13_ hb); have n1_ := Aside0.mk (blk_below (g := gb104) (o := .cells #[.int .i64 a0] 3 (0, 0)) pmAx3_0_ hb); have n2_ := Aside0.mk (blk_below (g := gb105) (o := .cells #[.slice A1 l1.length c1] 22 (0, 0)) pmAx3_2_ hb); have n3_ := Aside0.mk (below_step pmAx3_1_ hb); have n4_ := Aside0.mk (hbox); have n5_ := Aside0.mk ((pmAx3_16_ : w.heap.size ≤ gb109)); have n6_ := Aside0.mk ((pmAx3_16_ : w.heap.size ≤ gb109)); have n7_ := Aside0.mk ((pmAx3_7_ : gb104 ≠ gb109)); have n8_ := Aside0.mk ((pmAx3_8_ : gb109 ≠ gb104)); have n9_ := Aside0.mk ((pmAx3_10_ : gb105 ≠ gb109)); have n10_ := Aside0.mk ((pmAx3_11_ : gb109 ≠ gb105)); clear HO108; clear BK104; clear BK105; clear HB; have HO108 := n0_; have BK104 := n1_; have BK105 := n2_; have HB := n3_; have BK109 := n4_; have GW109 := n5_; have GE109 := n6_; have NB104_109 := n7_; have NB109_104 := n8_; have NB105_109 := n9_; have NB109_105 := n10_; clear n0_ n1_ n2_ n3_ n4_ n5_ n6_ n7_ n8_ n9_ n10_; clear hb hbox hg; obtain ⟨Ao13, co13, eo13⟩ := Kd.R_slice HO108.out; subst eo13; have hnb14 := NB109_104.out; have hnc14 := NB104_109.out; have hnb15 := NB109_105.out; have hnc15 := NB105_109.out; have hcz16_0 : w12.cell? ⟨gb109, 0, none⟩ = some (.slice none 0 0) := (blk_cell BK109.out 0).trans rfl; have hfz16_0 := blk_frozen BK109.out 0)))
      try (go_step3; go_upto_region 2 with (first | ((with_reducible refine gate_dst (N := 2) rfl ?_); refine box_event ?hg (N := 2) ?hd (cs := #[.int .i64 a0]) (t := 3) ?hr ?_; (case hd => rfl); (case hg => rfl); (case hr => first | (go_simp; done) | (go_simp; rfl)); intro gb104 hg w6 hbox hb; have n0_ := Aside0.mk (below_step pmAx3_4_ hb); have n1_ := Aside0.mk (hbox); have n2_ := Aside0.mk ((pmAx3_14_ : w.heap.size ≤ gb104)); have n3_ := Aside0.mk ((pmAx3_14_ : w.heap.size ≤ gb104)); clear HB; have HB := n0_; have BK104 := n1_; have GW104 := n2_; have GE104 := n3_; clear n0_ n1_ n2_ n3_; clear hb hbox hg) | ((with_reducible refine gate_dst (N := 3) rfl ?_); refine box_event ?hg (N := 3) ?hd (cs := #[.slice A1 l1.length c1]) (t := 22) ?hr ?_; (case hd => rfl); (case hg => rfl); (case hr => first | (go_simp; done) | (go_simp; rfl)); intro gb105 hg w7 hbox hb; have n0_ := Aside0.mk (blk_below (g := gb104) (o := .cells #[.int .i64 a0] 3 (0, 0)) pmAx3_0_ hb); have n1_ := Aside0.mk (below_step pmAx3_3_ hb); have n2_ := Aside0.mk (hbox); have n3_ := Aside0.mk ((pmAx3_15_ : w.heap.size ≤ gb105)); have n4_ := Aside0.mk ((pmAx3_15_ : w.heap.size ≤ gb105)); have n5_ := Aside0.mk ((pmAx3_7_ : gb104 ≠ gb105)); have n6_ := Aside0.mk ((pmAx3_8_ : gb105 ≠ gb104)); clear BK104; clear HB; have BK104 := n0_; have HB := n1_; have BK105 := n2_; have GW105 := n3_; have GE105 := n4_; have NB104_105 := n5_; have NB105_104 := n6_; clear n0_ n1_ n2_ n3_ n4_ n5_ n6_; clear hb hbox hg; have hnb8 := NB105_104.out; have hnc8 := NB104_105.out; have hcz9_0 : w7.cell? ⟨gb105, 0, none⟩ = some (.slice A1 l1.length c1) := (blk_cell BK105.out 0).trans rfl; have hfz9_0 := blk_frozen BK105.out 0) | ((with_reducible refine gate_dst (N := 9) rfl ?_); refine Kd.R_make (Kd.int .i64) _ 3 rfl (N := 9) rfl 22 _ _ rfl (l1.length : Int) rfl rfl Try.underlying22 (.int .i64 0) 8 info3 rfl (by decide) (by omega) 0 (ok := fun _ => True) (okp := fun _ => True) rfl (fun _ hk => hk) trivial (of_decide_eq_true pmAx3_6_) (Nat.le_trans (Nat.mul_le_mul_right _ (of_decide_eq_true pmAx3_6_ : (l1.length : Int).toNat ≤ 35184372088832)) (by omega)) (Below.refl _ _) (Nat.le_refl _) ?_; intro v107 w10 ho11 hb hg_ hnew_; clear hg_ hnew_; (first | rw [← Ny106.out] at ho11 | (simp only [Int.reduceToNat] at ho11; rw [← Ny106.out] at ho11)); have n0_ := Aside0.mk (Kd.R_lower (Kd.R_newB ho11 (g := gb104) (o := .cells #[.int .i64 a0] 3 (0, 0)) pmAx3_0_) (below_size pmAx3_1_)); have n1_ := Aside0.mk (blk_below (g := gb104) (o := .cells #[.int .i64 a0] 3 (0, 0)) pmAx3_0_ hb); have n2_ := Aside0.mk (blk_below (g := gb105) (o := .cells #[.slice A1 l1.length c1] 22 (0, 0)) pmAx3_2_ hb); have n3_ := Aside0.mk (below_step pmAx3_1_ hb); clear BK104; clear BK105; clear HB; have HO108 := n0_; have BK104 := n1_; have BK105 := n2_; have HB := n3_; clear n0_ n1_ n2_ n3_; clear hb ho11) | ((with_reducible refine gate_dst (N := 5) rfl ?_); refine box_event ?hg (N := 5) ?hd (cs := #[.slice none 0 0]) (t := 22) ?hr ?_; (case hd => rfl); (case hg => rfl); (case hr => first | (go_simp; done) | (go_simp; rfl)); intro gb109 hg w12 hbox hb; have n0_ := Aside0.mk (Kd.R_below pmAx3_13_ hb); have n1_ := Aside0.mk (blk_below (g := gb104) (o := .cells #[.int .i64 a0] 3 (0, 0)) pmAx3_0_ hb); have n2_ := Aside0.mk (blk_below (g := gb105) (o := .cells #[.slice A1 l1.length c1] 22 (0, 0)) pmAx3_2_ hb); have n3_ := Aside0.mk (below_step pmAx3_1_ hb); have n4_ := Aside0.mk (hbox); have n5_ := Aside0.mk ((pmAx3_16_ : w.heap.size ≤ gb109)); have n6_ := Aside0.mk ((pmAx3_16_ : w.heap.size ≤ gb109)); have n7_ := Aside0.mk ((pmAx3_7_ : gb104 ≠ gb109)); have n8_ := Aside0.mk ((pmAx3_8_ : gb109 ≠ gb104)); have n9_ := Aside0.mk ((pmAx3_10_ : gb105 ≠ gb109)); have n10_ := Aside0.mk ((pmAx3_11_ : gb109 ≠ gb105)); clear HO108; clear BK104; clear BK105; clear HB; have HO108 := n0_; have BK104 := n1_; have BK105 := n2_; have HB := n3_; have BK109 := n4_; have GW109 := n5_; have GE109 := n6_; have NB104_109 := n7_; have NB109_104 := n8_; have NB105_109 := n9_; have NB109_105 := n10_; clear n0_ n1_ n2_ n3_ n4_ n5_ n6_ n7_ n8_ n9_ n10_; clear hb hbox hg; obtain ⟨Ao13, co13, eo13⟩ := Kd.R_slice HO108.out; subst eo13; have hnb14 := NB109_104.out; have hnc14 := NB104_109.out; have hnb15 := NB109_105.out; have hnc15 := NB105_109.out; have hcz16_0 : w12.cell? ⟨gb109, 0, none⟩ = some (.slice none 0 0) := (blk_cell BK109.out 0).trans rfl; have hfz16_0 := blk_frozen BK109.out 0)))
      try (go_step3; go_upto_region 2 with (first | ((with_reducible refine gate_dst (N := 2) rfl ?_); refine box_event ?hg (N := 2) ?hd (cs := #[.int .i64 a0]) (t := 3) ?hr ?_; (case hd => rfl); (case hg => rfl); (case hr => first | (go_simp; done) | (go_simp; rfl)); intro gb104 hg w6 hbox hb; have n0_ := Aside0.mk (below_step pmAx3_4_ hb); have n1_ := Aside0.mk (hbox); have n2_ := Aside0.mk ((pmAx3_14_ : w.heap.size ≤ gb104)); have n3_ := Aside0.mk ((pmAx3_14_ : w.heap.size ≤ gb104)); clear HB; have HB := n0_; have BK104 := n1_; have GW104 := n2_; have GE104 := n3_; clear n0_ n1_ n2_ n3_; clear hb hbox hg) | ((with_reducible refine gate_dst (N := 3) rfl ?_); refine box_event ?hg (N := 3) ?hd (cs := #[.slice A1 l1.length c1]) (t := 22) ?hr ?_; (case hd => rfl); (case hg => rfl); (case hr => first | (go_simp; done) | (go_simp; rfl)); intro gb105 hg w7 hbox hb; have n0_ := Aside0.mk (blk_below (g := gb104) (o := .cells #[.int .i64 a0] 3 (0, 0)) pmAx3_0_ hb); have n1_ := Aside0.mk (below_step pmAx3_3_ hb); have n2_ := Aside0.mk (hbox); have n3_ := Aside0.mk ((pmAx3_15_ : w.heap.size ≤ gb105)); have n4_ := Aside0.mk ((pmAx3_15_ : w.heap.size ≤ gb105)); have n5_ := Aside0.mk ((pmAx3_7_ : gb104 ≠ gb105)); have n6_ := Aside0.mk ((pmAx3_8_ : gb105 ≠ gb104)); clear BK104; clear HB; have BK104 := n0_; have HB := n1_; have BK105 := n2_; have GW105 := n3_; have GE105 := n4_; have NB104_105 := n5_; have NB105_104 := n6_; clear n0_ n1_ n2_ n3_ n4_ n5_ n6_; clear hb hbox hg; have hnb8 := NB105_104.out; have hnc8 := NB104_105.out; have hcz9_0 : w7.cell? ⟨gb105, 0, none⟩ = some (.slice A1 l1.length c1) := (blk_cell BK105.out 0).trans rfl; have hfz9_0 := blk_frozen BK105.out 0) | ((with_reducible refine gate_dst (N := 9) rfl ?_); refine Kd.R_make (Kd.int .i64) _ 3 rfl (N := 9) rfl 22 _ _ rfl (l1.length : Int) rfl rfl Try.underlying22 (.int .i64 0) 8 info3 rfl (by decide) (by omega) 0 (ok := fun _ => True) (okp := fun _ => True) rfl (fun _ hk => hk) trivial (of_decide_eq_true pmAx3_6_) (Nat.le_trans (Nat.mul_le_mul_right _ (of_decide_eq_true pmAx3_6_ : (l1.length : Int).toNat ≤ 35184372088832)) (by omega)) (Below.refl _ _) (Nat.le_refl _) ?_; intro v107 w10 ho11 hb hg_ hnew_; clear hg_ hnew_; (first | rw [← Ny106.out] at ho11 | (simp only [Int.reduceToNat] at ho11; rw [← Ny106.out] at ho11)); have n0_ := Aside0.mk (Kd.R_lower (Kd.R_newB ho11 (g := gb104) (o := .cells #[.int .i64 a0] 3 (0, 0)) pmAx3_0_) (below_size pmAx3_1_)); have n1_ := Aside0.mk (blk_below (g := gb104) (o := .cells #[.int .i64 a0] 3 (0, 0)) pmAx3_0_ hb); have n2_ := Aside0.mk (blk_below (g := gb105) (o := .cells #[.slice A1 l1.length c1] 22 (0, 0)) pmAx3_2_ hb); have n3_ := Aside0.mk (below_step pmAx3_1_ hb); clear BK104; clear BK105; clear HB; have HO108 := n0_; have BK104 := n1_; have BK105 := n2_; have HB := n3_; clear n0_ n1_ n2_ n3_; clear hb ho11) | ((with_reducible refine gate_dst (N := 5) rfl ?_); refine box_event ?hg (N := 5) ?hd (cs := #[.slice none 0 0]) (t := 22) ?hr ?_; (case hd => rfl); (case hg => rfl); (case hr => first | (go_simp; done) | (go_simp; rfl)); intro gb109 hg w12 hbox hb; have n0_ := Aside0.mk (Kd.R_below pmAx3_13_ hb); have n1_ := Aside0.mk (blk_below (g := gb104) (o := .cells #[.int .i64 a0] 3 (0, 0)) pmAx3_0_ hb); have n2_ := Aside0.mk (blk_below (g := gb105) (o := .cells #[.slice A1 l1.length c1] 22 (0, 0)) pmAx3_2_ hb); have n3_ := Aside0.mk (below_step pmAx3_1_ hb); have n4_ := Aside0.mk (hbox); have n5_ := Aside0.mk ((pmAx3_16_ : w.heap.size ≤ gb109)); have n6_ := Aside0.mk ((pmAx3_16_ : w.heap.size ≤ gb109)); have n7_ := Aside0.mk ((pmAx3_7_ : gb104 ≠ gb109)); have n8_ := Aside0.mk ((pmAx3_8_ : gb109 ≠ gb104)); have n9_ := Aside0.mk ((pmAx3_10_ : gb105 ≠ gb109)); have n10_ := Aside0.mk ((pmAx3_11_ : gb109 ≠ gb105)); clear HO108; clear BK104; clear BK105; clear HB; have HO108 := n0_; have BK104 := n1_; have BK105 := n2_; have HB := n3_; have BK109 := n4_; have GW109 := n5_; have GE109 := n6_; have NB104_109 := n7_; have NB109_104 := n8_; have NB105_109 := n9_; have NB109_105 := n10_; clear n0_ n1_ n2_ n3_ n4_ n5_ n6_ n7_ n8_ n9_ n10_; clear hb hbox hg; obtain ⟨Ao13, co13, eo13⟩ := Kd.R_slice HO108.out; subst eo13; have hnb14 := NB109_104.out; have hnc14 := NB104_109.out; have hnb15 := NB109_105.out; have hnc15 := NB105_109.out; have hcz16_0 : w12.cell? ⟨gb109, 0, none⟩ = some (.slice none 0 0) := (blk_cell BK109.out 0).trans rfl; have hfz16_0 := blk_frozen BK109.out 0)))
      repeat (go_quiet (first | ((with_reducible refine gate_dst (N := 2) rfl ?_); refine box_event ?hg (N := 2) ?hd (cs := #[.int .i64 a0]) (t := 3) ?hr ?_; (case hd => rfl); (case hg => rfl); (case hr => first | (go_simp; done) | (go_simp; rfl)); intro gb104 hg w6 hbox hb; have n0_ := Aside0.mk (below_step pmAx3_4_ hb); have n1_ := Aside0.mk (hbox); have n2_ := Aside0.mk ((pmAx3_14_ : w.heap.size ≤ gb104)); have n3_ := Aside0.mk ((pmAx3_14_ : w.heap.size ≤ gb104)); clear HB; have HB := n0_; have BK104 := n1_; have GW104 := n2_; have GE104 := n3_; clear n0_ n1_ n2_ n3_; clear hb hbox hg) | ((with_reducible refine gate_dst (N := 3) rfl ?_); refine box_event ?hg (N := 3) ?hd (cs := #[.slice A1 l1.length c1]) (t := 22) ?hr ?_; (case hd => rfl); (case hg => rfl); (case hr => first | (go_simp; done) | (go_simp; rfl)); intro gb105 hg w7 hbox hb; have n0_ := Aside0.mk (blk_below (g := gb104) (o := .cells #[.int .i64 a0] 3 (0, 0)) pmAx3_0_ hb); have n1_ := Aside0.mk (below_step pmAx3_3_ hb); have n2_ := Aside0.mk (hbox); have n3_ := Aside0.mk ((pmAx3_15_ : w.heap.size ≤ gb105)); have n4_ := Aside0.mk ((pmAx3_15_ : w.heap.size ≤ gb105)); have n5_ := Aside0.mk ((pmAx3_7_ : gb104 ≠ gb105)); have n6_ := Aside0.mk ((pmAx3_8_ : gb105 ≠ gb104)); clear BK104; clear HB; have BK104 := n0_; have HB := n1_; have BK105 := n2_; have GW105 := n3_; have GE105 := n4_; have NB104_105 := n5_; have NB105_104 := n6_; clear n0_ n1_ n2_ n3_ n4_ n5_ n6_; clear hb hbox hg; have hnb8 := NB105_104.out; have hnc8 := NB104_105.out; have hcz9_0 : w7.cell? ⟨gb105, 0, none⟩ = some (.slice A1 l1.length c1) := (blk_cell BK105.out 0).trans rfl; have hfz9_0 := blk_frozen BK105.out 0) | ((with_reducible refine gate_dst (N := 9) rfl ?_); refine Kd.R_make (Kd.int .i64) _ 3 rfl (N := 9) rfl 22 _ _ rfl (l1.length : Int) rfl rfl Try.underlying22 (.int .i64 0) 8 info3 rfl (by decide) (by omega) 0 (ok := fun _ => True) (okp := fun _ => True) rfl (fun _ hk => hk) trivial (of_decide_eq_true pmAx3_6_) (Nat.le_trans (Nat.mul_le_mul_right _ (of_decide_eq_true pmAx3_6_ : (l1.length : Int).toNat ≤ 35184372088832)) (by omega)) (Below.refl _ _) (Nat.le_refl _) ?_; intro v107 w10 ho11 hb hg_ hnew_; clear hg_ hnew_; (first | rw [← Ny106.out] at ho11 | (simp only [Int.reduceToNat] at ho11; rw [← Ny106.out] at ho11)); have n0_ := Aside0.mk (Kd.R_lower (Kd.R_newB ho11 (g := gb104) (o := .cells #[.int .i64 a0] 3 (0, 0)) pmAx3_0_) (below_size pmAx3_1_)); have n1_ := Aside0.mk (blk_below (g := gb104) (o := .cells #[.int .i64 a0] 3 (0, 0)) pmAx3_0_ hb); have n2_ := Aside0.mk (blk_below (g := gb105) (o := .cells #[.slice A1 l1.length c1] 22 (0, 0)) pmAx3_2_ hb); have n3_ := Aside0.mk (below_step pmAx3_1_ hb); clear BK104; clear BK105; clear HB; have HO108 := n0_; have BK104 := n1_; have BK105 := n2_; have HB := n3_; clear n0_ n1_ n2_ n3_; clear hb ho11) | ((with_reducible refine gate_dst (N := 5) rfl ?_); refine box_event ?hg (N := 5) ?hd (cs := #[.slice none 0 0]) (t := 22) ?hr ?_; (case hd => rfl); (case hg => rfl); (case hr => first | (go_simp; done) | (go_simp; rfl)); intro gb109 hg w12 hbox hb; have n0_ := Aside0.mk (Kd.R_below pmAx3_13_ hb); have n1_ := Aside0.mk (blk_below (g := gb104) (o := .cells #[.int .i64 a0] 3 (0, 0)) pmAx3_0_ hb); have n2_ := Aside0.mk (blk_below (g := gb105) (o := .cells #[.slice A1 l1.length c1] 22 (0, 0)) pmAx3_2_ hb); have n3_ := Aside0.mk (below_step pmAx3_1_ hb); have n4_ := Aside0.mk (hbox); have n5_ := Aside0.mk ((pmAx3_16_ : w.heap.size ≤ gb109)); have n6_ := Aside0.mk ((pmAx3_16_ : w.heap.size ≤ gb109)); have n7_ := Aside0.mk ((pmAx3_7_ : gb104 ≠ gb109)); have n8_ := Aside0.mk ((pmAx3_8_ : gb109 ≠ gb104)); have n9_ := Aside0.mk ((pmAx3_10_ : gb105 ≠ gb109)); have n10_ := Aside0.mk ((pmAx3_11_ : gb109 ≠ gb105)); clear HO108; clear BK104; clear BK105; clear HB; have HO108 := n0_; have BK104 := n1_; have BK105 := n2_; have HB := n3_; have BK109 := n4_; have GW109 := n5_; have GE109 := n6_; have NB104_109 := n7_; have NB109_104 := n8_; have NB105_109 := n9_; have NB109_105 := n10_; clear n0_ n1_ n2_ n3_ n4_ n5_ n6_ n7_ n8_ n9_ n10_; clear hb hbox hg; obtain ⟨Ao13, co13, eo13⟩ := Kd.R_slice HO108.out; subst eo13; have hnb14 := NB109_104.out; have hnc14 := NB104_109.out; have hnb15 := NB109_105.out; have hnc15 := NB105_109.out; have hcz16_0 : w12.cell? ⟨gb109, 0, none⟩ = some (.slice none 0 0) := (blk_cell BK109.out 0).trans rfl; have hfz16_0 := blk_frozen BK109.out 0)); go_upto_region 2 with (first | ((with_reducible refine gate_dst (N := 2) rfl ?_); refine box_event ?hg (N := 2) ?hd (cs := #[.int .i64 a0]) (t := 3) ?hr ?_; (case hd => rfl); (case hg => rfl); (case hr => first | (go_simp; done) | (go_simp; rfl)); intro gb104 hg w6 hbox hb; have n0_ := Aside0.mk (below_step pmAx3_4_ hb); have n1_ := Aside0.mk (hbox); have n2_ := Aside0.mk ((pmAx3_14_ : w.heap.size ≤ gb104)); have n3_ := Aside0.mk ((pmAx3_14_ : w.heap.size ≤ gb104)); clear HB; have HB := n0_; have BK104 := n1_; have GW104 := n2_; have GE104 := n3_; clear n0_ n1_ n2_ n3_; clear hb hbox hg) | ((with_reducible refine gate_dst (N := 3) rfl ?_); refine box_event ?hg (N := 3) ?hd (cs := #[.slice A1 l1.length c1]) (t := 22) ?hr ?_; (case hd => rfl); (case hg => rfl); (case hr => first | (go_simp; done) | (go_simp; rfl)); intro gb105 hg w7 hbox hb; have n0_ := Aside0.mk (blk_below (g := gb104) (o := .cells #[.int .i64 a0] 3 (0, 0)) pmAx3_0_ hb); have n1_ := Aside0.mk (below_step pmAx3_3_ hb); have n2_ := Aside0.mk (hbox); have n3_ := Aside0.mk ((pmAx3_15_ : w.heap.size ≤ gb105)); have n4_ := Aside0.mk ((pmAx3_15_ : w.heap.size ≤ gb105)); have n5_ := Aside0.mk ((pmAx3_7_ : gb104 ≠ gb105)); have n6_ := Aside0.mk ((pmAx3_8_ : gb105 ≠ gb104)); clear BK104; clear HB; have BK104 := n0_; have HB := n1_; have BK105 := n2_; have GW105 := n3_; have GE105 := n4_; have NB104_105 := n5_; have NB105_104 := n6_; clear n0_ n1_ n2_ n3_ n4_ n5_ n6_; clear hb hbox hg; have hnb8 := NB105_104.out; have hnc8 := NB104_105.out; have hcz9_0 : w7.cell? ⟨gb105, 0, none⟩ = some (.slice A1 l1.length c1) := (blk_cell BK105.out 0).trans rfl; have hfz9_0 := blk_frozen BK105.out 0) | ((with_reducible refine gate_dst (N := 9) rfl ?_); refine Kd.R_make (Kd.int .i64) _ 3 rfl (N := 9) rfl 22 _ _ rfl (l1.length : Int) rfl rfl Try.underlying22 (.int .i64 0) 8 info3 rfl (by decide) (by omega) 0 (ok := fun _ => True) (okp := fun _ => True) rfl (fun _ hk => hk) trivial (of_decide_eq_true pmAx3_6_) (Nat.le_trans (Nat.mul_le_mul_right _ (of_decide_eq_true pmAx3_6_ : (l1.length : Int).toNat ≤ 35184372088832)) (by omega)) (Below.refl _ _) (Nat.le_refl _) ?_; intro v107 w10 ho11 hb hg_ hnew_; clear hg_ hnew_; (first | rw [← Ny106.out] at ho11 | (simp only [Int.reduceToNat] at ho11; rw [← Ny106.out] at ho11)); have n0_ := Aside0.mk (Kd.R_lower (Kd.R_newB ho11 (g := gb104) (o := .cells #[.int .i64 a0] 3 (0, 0)) pmAx3_0_) (below_size pmAx3_1_)); have n1_ := Aside0.mk (blk_below (g := gb104) (o := .cells #[.int .i64 a0] 3 (0, 0)) pmAx3_0_ hb); have n2_ := Aside0.mk (blk_below (g := gb105) (o := .cells #[.slice A1 l1.length c1] 22 (0, 0)) pmAx3_2_ hb); have n3_ := Aside0.mk (below_step pmAx3_1_ hb); clear BK104; clear BK105; clear HB; have HO108 := n0_; have BK104 := n1_; have BK105 := n2_; have HB := n3_; clear n0_ n1_ n2_ n3_; clear hb ho11) | ((with_reducible refine gate_dst (N := 5) rfl ?_); refine box_event ?hg (N := 5) ?hd (cs := #[.slice none 0 0]) (t := 22) ?hr ?_; (case hd => rfl); (case hg => rfl); (case hr => first | (go_simp; done) | (go_simp; rfl)); intro gb109 hg w12 hbox hb; have n0_ := Aside0.mk (Kd.R_below pmAx3_13_ hb); have n1_ := Aside0.mk (blk_below (g := gb104) (o := .cells #[.int .i64 a0] 3 (0, 0)) pmAx3_0_ hb); have n2_ := Aside0.mk (blk_below (g := gb105) (o := .cells #[.slice A1 l1.length c1] 22 (0, 0)) pmAx3_2_ hb); have n3_ := Aside0.mk (below_step pmAx3_1_ hb); have n4_ := Aside0.mk (hbox); have n5_ := Aside0.mk ((pmAx3_16_ : w.heap.size ≤ gb109)); have n6_ := Aside0.mk ((pmAx3_16_ : w.heap.size ≤ gb109)); have n7_ := Aside0.mk ((pmAx3_7_ : gb104 ≠ gb109)); have n8_ := Aside0.mk ((pmAx3_8_ : gb109 ≠ gb104)); have n9_ := Aside0.mk ((pmAx3_10_ : gb105 ≠ gb109)); have n10_ := Aside0.mk ((pmAx3_11_ : gb109 ≠ gb105)); clear HO108; clear BK104; clear BK105; clear HB; have HO108 := n0_; have BK104 := n1_; have BK105 := n2_; have HB := n3_; have BK109 := n4_; have GW109 := n5_; have GE109 := n6_; have NB104_109 := n7_; have NB109_104 := n8_; have NB105_109 := n9_; have NB109_105 := n10_; clear n0_ n1_ n2_ n3_ n4_ n5_ n6_ n7_ n8_ n9_ n10_; clear hb hbox hg; obtain ⟨Ao13, co13, eo13⟩ := Kd.R_slice HO108.out; subst eo13; have hnb14 := NB109_104.out; have hnc14 := NB104_109.out; have hnb15 := NB109_105.out; have hnc15 := NB105_109.out; have hcz16_0 : w12.cell? ⟨gb109, 0, none⟩ = some (.slice none 0 0) := (blk_cell BK109.out 0).trans rfl; have hfz16_0 := blk_frozen BK109.out 0)))
      (try simp only [Act.put, List.setIfInBounds_toArray, List.set_cons_zero, List.set_cons_succ])
      go_cut [19] (fun v19 wc => ∃ (kq : Nat) (x19_4 : Bool), v19 = .bool x19_4 ∧ Aside0 (spread_Up.j0 kq x19_4 a0 l1 y106 = some r) ∧ Aside0 (kq ≤ k) ∧ Aside0 (Kd.R (Kd.int .i64) 3 wc w.heap.size (fun k_ => k_ ≠ gb104) (.slice Ao13 y106.length co13) y106) ∧ Aside0 (wc.heap[gb104]? = some (.cells #[.int .i64 a0] 3 (0, 0))) ∧ Aside0 (wc.heap[gb105]? = some (.cells #[(.slice A1 l1.length c1)] 22 (0, 0))) ∧ Aside0 (wc.heap[gb109]? = some (.cells #[(.slice Ao13 y106.length co13)] 22 (0, 0))) ∧ Aside0 (Below w.heap.size w wc))
      case first =>
        have H := HC5.out
        clear HC5
        replace H := Option.bind_eq_some_iff.mp H
        obtain ⟨t110, A170, H⟩ := H
        replace H : (if t110 = true then ((spread_rooms.f k l1).bind fun t111 => (spread_Up.j0 k (!t111) a0 l1 y106)) else (spread_Up.j0 k true a0 l1 y106)) = some r := H
        have A17 := Aside0.mk A170
        clear A170
        by_cases c18 : t110 = true
        · subst c18
          have H1 : ((spread_rooms.f k l1).bind fun t111 => (spread_Up.j0 k (!t111) a0 l1 y106)) = some r := by rw [if_pos rfl] at H; exact H
          clear H
          have H := H1
          clear H1
          replace H := Option.bind_eq_some_iff.mp H
          obtain ⟨t111, A190, H⟩ := H
          replace H : (spread_Up.j0 k (!t111) a0 l1 y106) = some r := H
          have A19 := Aside0.mk A190
          clear A190
          have H' := Aside0.mk H
          clear H
          have hnb20 := NB104_105.out
          have hnc20 := NB105_104.out
          have hnb21 := NB104_109.out
          have hnc21 := NB109_104.out
          have hcz22_0 : w12.cell? ⟨gb104, 0, none⟩ = some (.int .i64 a0) := (blk_cell BK104.out 0).trans rfl
          have hfz22_0 := blk_frozen BK104.out 0
          have hnb23 := NB105_109.out
          have hnc23 := NB109_105.out
          have hcz24_0 : w12.cell? ⟨gb105, 0, none⟩ = some (.slice A1 l1.length c1) := (blk_cell BK105.out 0).trans rfl
          have hfz24_0 := blk_frozen BK105.out 0
          go_wp2_with (first | (go_at_call 15; (with_reducible refine (spread_right.calls a0 (l1.length : Int) true _ A17.out).mono ?_); rintro e w' ⟨rfl, ⟨nd, rfl⟩⟩; (try first | exact ⟨rfl, _, World.drewN_drewN _ _ _⟩ | exact ⟨rfl, _, Eq.trans (World.drewN_drewN _ _ _) (congrArg (World.drewN _) (Nat.add_assoc _ _ _))⟩)) | (go_at_call 16; (with_reducible refine (spread_rooms.calls k _ _ l1 t111 _ ?side1 ?side2 A19.out).mono ?_); (case side1 => exact Kd.C_below HR1.out pmAx3_5_); (case side2 => exact HC1.out); rintro e w' ⟨rfl, ⟨nd, rfl⟩⟩; (try first | exact ⟨rfl, _, World.drewN_drewN _ _ _⟩ | exact ⟨rfl, _, Eq.trans (World.drewN_drewN _ _ _) (congrArg (World.drewN _) (Nat.add_assoc _ _ _))⟩)) | go_in)
          try (go_step3; go_wp2_with (first | (go_at_call 15; (with_reducible refine (spread_right.calls a0 (l1.length : Int) true _ A17.out).mono ?_); rintro e w' ⟨rfl, ⟨nd, rfl⟩⟩; (try first | exact ⟨rfl, _, World.drewN_drewN _ _ _⟩ | exact ⟨rfl, _, Eq.trans (World.drewN_drewN _ _ _) (congrArg (World.drewN _) (Nat.add_assoc _ _ _))⟩)) | (go_at_call 16; (with_reducible refine (spread_rooms.calls k _ _ l1 t111 _ ?side1 ?side2 A19.out).mono ?_); (case side1 => exact Kd.C_below HR1.out pmAx3_5_); (case side2 => exact HC1.out); rintro e w' ⟨rfl, ⟨nd, rfl⟩⟩; (try first | exact ⟨rfl, _, World.drewN_drewN _ _ _⟩ | exact ⟨rfl, _, Eq.trans (World.drewN_drewN _ _ _) (congrArg (World.drewN _) (Nat.add_assoc _ _ _))⟩)) | go_in))
          try (go_step3; go_wp2_with (first | (go_at_call 15; (with_reducible refine (spread_right.calls a0 (l1.length : Int) true _ A17.out).mono ?_); rintro e w' ⟨rfl, ⟨nd, rfl⟩⟩; (try first | exact ⟨rfl, _, World.drewN_drewN _ _ _⟩ | exact ⟨rfl, _, Eq.trans (World.drewN_drewN _ _ _) (congrArg (World.drewN _) (Nat.add_assoc _ _ _))⟩)) | (go_at_call 16; (with_reducible refine (spread_rooms.calls k _ _ l1 t111 _ ?side1 ?side2 A19.out).mono ?_); (case side1 => exact Kd.C_below HR1.out pmAx3_5_); (case side2 => exact HC1.out); rintro e w' ⟨rfl, ⟨nd, rfl⟩⟩; (try first | exact ⟨rfl, _, World.drewN_drewN _ _ _⟩ | exact ⟨rfl, _, Eq.trans (World.drewN_drewN _ _ _) (congrArg (World.drewN _) (Nat.add_assoc _ _ _))⟩)) | go_in))
          try (go_step3; go_wp2_with (first | (go_at_call 15; (with_reducible refine (spread_right.calls a0 (l1.length : Int) true _ A17.out).mono ?_); rintro e w' ⟨rfl, ⟨nd, rfl⟩⟩; (try first | exact ⟨rfl, _, World.drewN_drewN _ _ _⟩ | exact ⟨rfl, _, Eq.trans (World.drewN_drewN _ _ _) (congrArg (World.drewN _) (Nat.add_assoc _ _ _))⟩)) | (go_at_call 16; (with_reducible refine (spread_rooms.calls k _ _ l1 t111 _ ?side1 ?side2 A19.out).mono ?_); (case side1 => exact Kd.C_below HR1.out pmAx3_5_); (case side2 => exact HC1.out); rintro e w' ⟨rfl, ⟨nd, rfl⟩⟩; (try first | exact ⟨rfl, _, World.drewN_drewN _ _ _⟩ | exact ⟨rfl, _, Eq.trans (World.drewN_drewN _ _ _) (congrArg (World.drewN _) (Nat.add_assoc _ _ _))⟩)) | go_in))
          try (rw [Exit.noGoto_ret]; go_wp2_with (first | (go_at_call 15; (with_reducible refine (spread_right.calls a0 (l1.length : Int) true _ A17.out).mono ?_); rintro e w' ⟨rfl, ⟨nd, rfl⟩⟩; (try first | exact ⟨rfl, _, World.drewN_drewN _ _ _⟩ | exact ⟨rfl, _, Eq.trans (World.drewN_drewN _ _ _) (congrArg (World.drewN _) (Nat.add_assoc _ _ _))⟩)) | (go_at_call 16; (with_reducible refine (spread_rooms.calls k _ _ l1 t111 _ ?side1 ?side2 A19.out).mono ?_); (case side1 => exact Kd.C_below HR1.out pmAx3_5_); (case side2 => exact HC1.out); rintro e w' ⟨rfl, ⟨nd, rfl⟩⟩; (try first | exact ⟨rfl, _, World.drewN_drewN _ _ _⟩ | exact ⟨rfl, _, Eq.trans (World.drewN_drewN _ _ _) (congrArg (World.drewN _) (Nat.add_assoc _ _ _))⟩)) | go_in))
          try (go_step3; go_wp2_with (first | (go_at_call 15; (with_reducible refine (spread_right.calls a0 (l1.length : Int) true _ A17.out).mono ?_); rintro e w' ⟨rfl, ⟨nd, rfl⟩⟩; (try first | exact ⟨rfl, _, World.drewN_drewN _ _ _⟩ | exact ⟨rfl, _, Eq.trans (World.drewN_drewN _ _ _) (congrArg (World.drewN _) (Nat.add_assoc _ _ _))⟩)) | (go_at_call 16; (with_reducible refine (spread_rooms.calls k _ _ l1 t111 _ ?side1 ?side2 A19.out).mono ?_); (case side1 => exact Kd.C_below HR1.out pmAx3_5_); (case side2 => exact HC1.out); rintro e w' ⟨rfl, ⟨nd, rfl⟩⟩; (try first | exact ⟨rfl, _, World.drewN_drewN _ _ _⟩ | exact ⟨rfl, _, Eq.trans (World.drewN_drewN _ _ _) (congrArg (World.drewN _) (Nat.add_assoc _ _ _))⟩)) | go_in))
          repeat (first | (go_quiet (first | (go_at_call 15; (with_reducible refine (spread_right.calls a0 (l1.length : Int) true _ A17.out).mono ?_); rintro e w' ⟨rfl, ⟨nd, rfl⟩⟩; (try first | exact ⟨rfl, _, World.drewN_drewN _ _ _⟩ | exact ⟨rfl, _, Eq.trans (World.drewN_drewN _ _ _) (congrArg (World.drewN _) (Nat.add_assoc _ _ _))⟩)) | (go_at_call 16; (with_reducible refine (spread_rooms.calls k _ _ l1 t111 _ ?side1 ?side2 A19.out).mono ?_); (case side1 => exact Kd.C_below HR1.out pmAx3_5_); (case side2 => exact HC1.out); rintro e w' ⟨rfl, ⟨nd, rfl⟩⟩; (try first | exact ⟨rfl, _, World.drewN_drewN _ _ _⟩ | exact ⟨rfl, _, Eq.trans (World.drewN_drewN _ _ _) (congrArg (World.drewN _) (Nat.add_assoc _ _ _))⟩)) | go_in); try go_wp2_with (first | (go_at_call 15; (with_reducible refine (spread_right.calls a0 (l1.length : Int) true _ A17.out).mono ?_); rintro e w' ⟨rfl, ⟨nd, rfl⟩⟩; (try first | exact ⟨rfl, _, World.drewN_drewN _ _ _⟩ | exact ⟨rfl, _, Eq.trans (World.drewN_drewN _ _ _) (congrArg (World.drewN _) (Nat.add_assoc _ _ _))⟩)) | (go_at_call 16; (with_reducible refine (spread_rooms.calls k _ _ l1 t111 _ ?side1 ?side2 A19.out).mono ?_); (case side1 => exact Kd.C_below HR1.out pmAx3_5_); (case side2 => exact HC1.out); rintro e w' ⟨rfl, ⟨nd, rfl⟩⟩; (try first | exact ⟨rfl, _, World.drewN_drewN _ _ _⟩ | exact ⟨rfl, _, Eq.trans (World.drewN_drewN _ _ _) (congrArg (World.drewN _) (Nat.add_assoc _ _ _))⟩)) | go_in)) | (rw [Exit.noGoto_ret]; try go_wp2_with (first | (go_at_call 15; (with_reducible refine (spread_right.calls a0 (l1.length : Int) true _ A17.out).mono ?_); rintro e w' ⟨rfl, ⟨nd, rfl⟩⟩; (try first | exact ⟨rfl, _, World.drewN_drewN _ _ _⟩ | exact ⟨rfl, _, Eq.trans (World.drewN_drewN _ _ _) (congrArg (World.drewN _) (Nat.add_assoc _ _ _))⟩)) | (go_at_call 16; (with_reducible refine (spread_rooms.calls k _ _ l1 t111 _ ?side1 ?side2 A19.out).mono ?_); (case side1 => exact Kd.C_below HR1.out pmAx3_5_); (case side2 => exact HC1.out); rintro e w' ⟨rfl, ⟨nd, rfl⟩⟩; (try first | exact ⟨rfl, _, World.drewN_drewN _ _ _⟩ | exact ⟨rfl, _, Eq.trans (World.drewN_drewN _ _ _) (congrArg (World.drewN _) (Nat.add_assoc _ _ _))⟩)) | go_in)) | (go_step3; try go_wp2_with (first | (go_at_call 15; (with_reducible refine (spread_right.calls a0 (l1.length : Int) true _ A17.out).mono ?_); rintro e w' ⟨rfl, ⟨nd, rfl⟩⟩; (try first | exact ⟨rfl, _, World.drewN_drewN _ _ _⟩ | exact ⟨rfl, _, Eq.trans (World.drewN_drewN _ _ _) (congrArg (World.drewN _) (Nat.add_assoc _ _ _))⟩)) | (go_at_call 16; (with_reducible refine (spread_rooms.calls k _ _ l1 t111 _ ?side1 ?side2 A19.out).mono ?_); (case side1 => exact Kd.C_below HR1.out pmAx3_5_); (case side2 => exact HC1.out); rintro e w' ⟨rfl, ⟨nd, rfl⟩⟩; (try first | exact ⟨rfl, _, World.drewN_drewN _ _ _⟩ | exact ⟨rfl, _, Eq.trans (World.drewN_drewN _ _ _) (congrArg (World.drewN _) (Nat.add_assoc _ _ _))⟩)) | go_in)))
          go_meet
          case rel => exact ⟨_, (!t111), pmAx3_12_, H', ⟨by first | omega | exact Nat.le_refl _⟩, ⟨by (with_reducible repeat (first | apply Kd.R_alloc | apply Kd.R_drewN | apply Kd.R_drew)); exact Kd.R_mono (Kd.R_far (p := ⟨gb109, 0, none⟩) (Kd.R_types HO108.out BK109.out (by decide)) (fun _ hk => hk.2) (.slice Ao13 y106.length co13)) (fun _ hk => hk.1.2)⟩, ⟨by (with_reducible repeat (first | refine blk_drewN ?_ _ | refine blk_drew ?_ | refine blk_alloc ?_ _)); refine blk_far ?_ NB104_109.out _; (with_reducible repeat (first | refine blk_drewN ?_ _ | refine blk_drew ?_ | refine blk_alloc ?_ _)); exact BK104.out⟩, ⟨by (with_reducible repeat (first | refine blk_drewN ?_ _ | refine blk_drew ?_ | refine blk_alloc ?_ _)); refine blk_far ?_ NB105_109.out _; (with_reducible repeat (first | refine blk_drewN ?_ _ | refine blk_drew ?_ | refine blk_alloc ?_ _)); exact BK105.out⟩, ⟨by (with_reducible repeat (first | refine blk_drewN ?_ _ | refine blk_drew ?_ | refine blk_alloc ?_ _)); refine blk_put (cs := #[.slice none 0 0]) ?_ 0 _ rfl; (with_reducible repeat (first | refine blk_drewN ?_ _ | refine blk_drew ?_ | refine blk_alloc ?_ _)); exact BK109.out⟩, ⟨by repeat (first | (with_reducible first | exact HB.out | apply below_alloc | apply pw_below_drewN | apply below_drew1 | refine below_set ?_ GE104.out | refine below_set ?_ GE105.out | refine below_set ?_ GE109.out) | exact HB.out)⟩⟩
        · replace c18 := Bool.eq_false_iff.mpr c18
          subst c18
          have H1 : (spread_Up.j0 k true a0 l1 y106) = some r := by rw [if_neg (show ¬ (false = true) by decide)] at H; exact H
          clear H
          have H := H1
          clear H1
          have H' := Aside0.mk H
          clear H
          have hnb25 := NB104_105.out
          have hnc25 := NB105_104.out
          have hnb26 := NB104_109.out
          have hnc26 := NB109_104.out
          have hcz27_0 : w12.cell? ⟨gb104, 0, none⟩ = some (.int .i64 a0) := (blk_cell BK104.out 0).trans rfl
          have hfz27_0 := blk_frozen BK104.out 0
          have hnb28 := NB105_109.out
          have hnc28 := NB109_105.out
          have hcz29_0 : w12.cell? ⟨gb105, 0, none⟩ = some (.slice A1 l1.length c1) := (blk_cell BK105.out 0).trans rfl
          have hfz29_0 := blk_frozen BK105.out 0
          go_wp2_with (first | (go_at_call 15; (with_reducible refine (spread_right.calls a0 (l1.length : Int) false _ A17.out).mono ?_); rintro e w' ⟨rfl, ⟨nd, rfl⟩⟩; (try first | exact ⟨rfl, _, World.drewN_drewN _ _ _⟩ | exact ⟨rfl, _, Eq.trans (World.drewN_drewN _ _ _) (congrArg (World.drewN _) (Nat.add_assoc _ _ _))⟩)) | go_in)
          try (go_step3; go_wp2_with (first | (go_at_call 15; (with_reducible refine (spread_right.calls a0 (l1.length : Int) false _ A17.out).mono ?_); rintro e w' ⟨rfl, ⟨nd, rfl⟩⟩; (try first | exact ⟨rfl, _, World.drewN_drewN _ _ _⟩ | exact ⟨rfl, _, Eq.trans (World.drewN_drewN _ _ _) (congrArg (World.drewN _) (Nat.add_assoc _ _ _))⟩)) | go_in))
          try (go_step3; go_wp2_with (first | (go_at_call 15; (with_reducible refine (spread_right.calls a0 (l1.length : Int) false _ A17.out).mono ?_); rintro e w' ⟨rfl, ⟨nd, rfl⟩⟩; (try first | exact ⟨rfl, _, World.drewN_drewN _ _ _⟩ | exact ⟨rfl, _, Eq.trans (World.drewN_drewN _ _ _) (congrArg (World.drewN _) (Nat.add_assoc _ _ _))⟩)) | go_in))
          try (go_step3; go_wp2_with (first | (go_at_call 15; (with_reducible refine (spread_right.calls a0 (l1.length : Int) false _ A17.out).mono ?_); rintro e w' ⟨rfl, ⟨nd, rfl⟩⟩; (try first | exact ⟨rfl, _, World.drewN_drewN _ _ _⟩ | exact ⟨rfl, _, Eq.trans (World.drewN_drewN _ _ _) (congrArg (World.drewN _) (Nat.add_assoc _ _ _))⟩)) | go_in))
          try (rw [Exit.noGoto_ret]; go_wp2_with (first | (go_at_call 15; (with_reducible refine (spread_right.calls a0 (l1.length : Int) false _ A17.out).mono ?_); rintro e w' ⟨rfl, ⟨nd, rfl⟩⟩; (try first | exact ⟨rfl, _, World.drewN_drewN _ _ _⟩ | exact ⟨rfl, _, Eq.trans (World.drewN_drewN _ _ _) (congrArg (World.drewN _) (Nat.add_assoc _ _ _))⟩)) | go_in))
          try (go_step3; go_wp2_with (first | (go_at_call 15; (with_reducible refine (spread_right.calls a0 (l1.length : Int) false _ A17.out).mono ?_); rintro e w' ⟨rfl, ⟨nd, rfl⟩⟩; (try first | exact ⟨rfl, _, World.drewN_drewN _ _ _⟩ | exact ⟨rfl, _, Eq.trans (World.drewN_drewN _ _ _) (congrArg (World.drewN _) (Nat.add_assoc _ _ _))⟩)) | go_in))
          repeat (first | (go_quiet (first | (go_at_call 15; (with_reducible refine (spread_right.calls a0 (l1.length : Int) false _ A17.out).mono ?_); rintro e w' ⟨rfl, ⟨nd, rfl⟩⟩; (try first | exact ⟨rfl, _, World.drewN_drewN _ _ _⟩ | exact ⟨rfl, _, Eq.trans (World.drewN_drewN _ _ _) (congrArg (World.drewN _) (Nat.add_assoc _ _ _))⟩)) | go_in); try go_wp2_with (first | (go_at_call 15; (with_reducible refine (spread_right.calls a0 (l1.length : Int) false _ A17.out).mono ?_); rintro e w' ⟨rfl, ⟨nd, rfl⟩⟩; (try first | exact ⟨rfl, _, World.drewN_drewN _ _ _⟩ | exact ⟨rfl, _, Eq.trans (World.drewN_drewN _ _ _) (congrArg (World.drewN _) (Nat.add_assoc _ _ _))⟩)) | go_in)) | (rw [Exit.noGoto_ret]; try go_wp2_with (first | (go_at_call 15; (with_reducible refine (spread_right.calls a0 (l1.length : Int) false _ A17.out).mono ?_); rintro e w' ⟨rfl, ⟨nd, rfl⟩⟩; (try first | exact ⟨rfl, _, World.drewN_drewN _ _ _⟩ | exact ⟨rfl, _, Eq.trans (World.drewN_drewN _ _ _) (congrArg (World.drewN _) (Nat.add_assoc _ _ _))⟩)) | go_in)) | (go_step3; try go_wp2_with (first | (go_at_call 15; (with_reducible refine (spread_right.calls a0 (l1.length : Int) false _ A17.out).mono ?_); rintro e w' ⟨rfl, ⟨nd, rfl⟩⟩; (try first | exact ⟨rfl, _, World.drewN_drewN _ _ _⟩ | exact ⟨rfl, _, Eq.trans (World.drewN_drewN _ _ _) (congrArg (World.drewN _) (Nat.add_assoc _ _ _))⟩)) | go_in)))
          go_meet
          case rel => exact ⟨_, (true), pmAx3_12_, H', ⟨by first | omega | exact Nat.le_refl _⟩, ⟨by (with_reducible repeat (first | apply Kd.R_alloc | apply Kd.R_drewN | apply Kd.R_drew)); exact Kd.R_mono (Kd.R_far (p := ⟨gb109, 0, none⟩) (Kd.R_types HO108.out BK109.out (by decide)) (fun _ hk => hk.2) (.slice Ao13 y106.length co13)) (fun _ hk => hk.1.2)⟩, ⟨by (with_reducible repeat (first | refine blk_drewN ?_ _ | refine blk_drew ?_ | refine blk_alloc ?_ _)); refine blk_far ?_ NB104_109.out _; (with_reducible repeat (first | refine blk_drewN ?_ _ | refine blk_drew ?_ | refine blk_alloc ?_ _)); exact BK104.out⟩, ⟨by (with_reducible repeat (first | refine blk_drewN ?_ _ | refine blk_drew ?_ | refine blk_alloc ?_ _)); refine blk_far ?_ NB105_109.out _; (with_reducible repeat (first | refine blk_drewN ?_ _ | refine blk_drew ?_ | refine blk_alloc ?_ _)); exact BK105.out⟩, ⟨by (with_reducible repeat (first | refine blk_drewN ?_ _ | refine blk_drew ?_ | refine blk_alloc ?_ _)); refine blk_put (cs := #[.slice none 0 0]) ?_ 0 _ rfl; (with_reducible repeat (first | refine blk_drewN ?_ _ | refine blk_drew ?_ | refine blk_alloc ?_ _)); exact BK109.out⟩, ⟨by repeat (first | (with_reducible first | exact HB.out | apply below_alloc | apply pw_below_drewN | apply below_drew1 | refine below_set ?_ GE104.out | refine below_set ?_ GE105.out | refine below_set ?_ GE109.out) | exact HB.out)⟩⟩
      case rest =>
        clear HC5
        try clear c1
        try clear c2
        try clear p2
        try clear c3
        try clear c3b0
        try clear c3b1
        try clear c4
        try clear c4b0
        try clear c4b1
        try clear c8
        try clear c9
        try clear c14
        try clear c15
        try clear c18
        try clear c20
        try clear c21
        try clear c23
        try clear c25
        try clear c26
        try clear c28
        try clear hcz16_0
        try clear hcz22_0
        try clear hcz24_0
        try clear hcz27_0
        try clear hcz29_0
        try clear hcz9_0
        try clear hfz16_0
        try clear hfz22_0
        try clear hfz24_0
        try clear hfz27_0
        try clear hfz29_0
        try clear hfz9_0
        obtain ⟨kq, x19_4, rfl, HA, HJ4, HO_110000, BK104, BK105, BK109, HB⟩ := hcut
        cases kq with
        | zero => exact absurd HA.out (by simp [spread_Up.j0])
        | succ kj4 =>
          have H := HA.out
          clear HA
          simp only [spread_Up.j0] at H
          by_cases c30 : x19_4 = true
          · subst c30
            have H1 : (some y106) = some r := by rw [if_pos rfl] at H; exact H
            clear H
            have H := H1
            clear H1
            obtain rfl := Option.some.inj H
            have hnb31 := NB109_104.out
            have hnc31 := NB104_109.out
            have hnb32 := NB109_105.out
            have hnc32 := NB105_109.out
            have hcz33_0 : wc.cell? ⟨gb109, 0, none⟩ = some (.slice Ao13 y106.length co13) := (blk_cell BK109.out 0).trans rfl
            have hfz33_0 := blk_frozen BK109.out 0
            go_wp2
            try (go_step3; go_wp2)
            try (go_step3; go_wp2)
            try (go_step3; go_wp2)
            try (rw [Exit.noGoto_ret]; go_wp2)
            try (go_step3; go_wp2)
            repeat (first | (go_quiet (fail); try go_wp2) | (rw [Exit.noGoto_ret]; try go_wp2) | (go_step3; try go_wp2))
            try rw [Exit.noGoto_ret]
            go_ret
            exact ⟨_, by first | rfl | (simp [errW_none, errW_some] <;> rfl) | (simp [*, errW_none, errW_some] <;> rfl), by (with_reducible repeat (first | apply Kd.R_alloc | apply Kd.R_drewN | apply Kd.R_drew)); exact Kd.R_mono HO_110000.out (fun _ hk => trivial), by repeat (first | (with_reducible first | exact HB.out | apply below_alloc | apply pw_below_drewN | apply below_drew1 | refine below_set ?_ GE104.out | refine below_set ?_ GE105.out | refine below_set ?_ GE109.out) | exact HB.out)⟩
          · replace c30 := Bool.eq_false_iff.mpr c30
            subst c30
            have H1 : (spread_Up.l0 kj4 a0 l1 y106) = some r := by rw [if_neg (show ¬ (false = true) by decide)] at H; exact H
            clear H
            have H := H1
            clear H1
            have H' := Aside0.mk H
            clear H
            go_wp2
            try (go_step3; go_wp2)
            try (go_step3; go_wp2)
            try (go_step3; go_wp2)
            try (rw [Exit.noGoto_ret]; go_wp2)
            try (go_step3; go_wp2)
            repeat (first | (go_quiet (fail); try go_wp2) | (rw [Exit.noGoto_ret]; try go_wp2) | (go_step3; try go_wp2))
            go_loopg [] kj4 (fun kq w' => ∃ (x105000_2 : Int) (x110000_2 : List Int) (u110000 : Value), Aside0 (spread_Up.l0 kq x105000_2 l1 x110000_2 = some r) ∧ Aside0 (kq ≤ kj4) ∧ Aside0 (Kd.R (Kd.int .i64) 3 w' w.heap.size (fun k_ => k_ ≠ gb104) u110000 x110000_2) ∧ Aside0 (w'.heap[gb104]? = some (.cells #[.int .i64 x105000_2] 3 (0, 0))) ∧ Aside0 (w'.heap[gb105]? = some (.cells #[(.slice A1 l1.length c1)] 22 (0, 0))) ∧ Aside0 (w'.heap[gb109]? = some (.cells #[u110000] 22 (0, 0))) ∧ Aside0 (Below w.heap.size w w'))
            case atStart => exact ⟨(a0), (y106), (.slice Ao13 y106.length co13), H', ⟨Nat.le_refl _⟩, ⟨by (with_reducible repeat (first | apply Kd.R_alloc | apply Kd.R_drewN | apply Kd.R_drew)); exact HO_110000.out⟩, ⟨by (with_reducible repeat (first | refine blk_drewN ?_ _ | refine blk_drew ?_ | refine blk_alloc ?_ _)); exact BK104.out⟩, ⟨by (with_reducible repeat (first | refine blk_drewN ?_ _ | refine blk_drew ?_ | refine blk_alloc ?_ _)); exact BK105.out⟩, ⟨by (with_reducible repeat (first | refine blk_drewN ?_ _ | refine blk_drew ?_ | refine blk_alloc ?_ _)); exact BK109.out⟩, ⟨by repeat (first | (with_reducible first | exact HB.out | apply below_alloc | apply pw_below_drewN | apply below_drew1 | refine below_set ?_ GE104.out | refine below_set ?_ GE105.out | refine below_set ?_ GE109.out) | exact HB.out)⟩⟩
            case round =>
              clear H'
              try clear c1
              try clear c2
              try clear p2
              try clear c3
              try clear c3b0
              try clear c3b1
              try clear c4
              try clear c4b0
              try clear c4b1
              try clear c8
              try clear c9
              try clear c14
              try clear c15
              try clear c18
              try clear c20
              try clear c21
              try clear c23
              try clear c25
              try clear c26
              try clear c28
              try clear c30
              try clear c31
              try clear c32
              try clear hcz16_0
              try clear hcz22_0
              try clear hcz24_0
              try clear hcz27_0
              try clear hcz29_0
              try clear hcz33_0
              try clear hcz9_0
              try clear hfz16_0
              try clear hfz22_0
              try clear hfz24_0
              try clear hfz27_0
              try clear hfz29_0
              try clear hfz33_0
              try clear hfz9_0
              try clear p2
              obtain ⟨x105000_2, x110000_2, u110000, HA, HK2, HO_110000, BK104, BK105, BK109, HB⟩ := hrel
              cases gk with
              | zero => exact absurd HA.out (by simp [spread_Up.l0])
              | succ k2 =>
                have H := HA.out
                clear HA
                simp only [spread_Up.l0] at H
                by_cases c34 : x105000_2 > 0
                · rw [if_pos c34] at H
                  have c34b0 : decide (0 < x105000_2) = true := decide_eq_true c34
                  clear c34
                  have H' := Aside0.mk H
                  clear H
                  have hnb35 := NB104_105.out
                  have hnc35 := NB105_104.out
                  have hnb36 := NB104_109.out
                  have hnc36 := NB109_104.out
                  have hcz37_0 : wr.cell? ⟨gb104, 0, none⟩ = some (.int .i64 x105000_2) := (blk_cell BK104.out 0).trans rfl
                  have hfz37_0 := blk_frozen BK104.out 0
                  have hnb38 := NB105_109.out
                  have hnc38 := NB109_105.out
                  have hcz39_0 : wr.cell? ⟨gb105, 0, none⟩ = some (.slice A1 l1.length c1) := (blk_cell BK105.out 0).trans rfl
                  have hfz39_0 := blk_frozen BK105.out 0
                  go_wp2
                  try (go_step3; go_wp2)
                  try (go_step3; go_wp2)
                  try (go_step3; go_wp2)
                  try (rw [Exit.noGoto_ret]; go_wp2)
                  try (go_step3; go_wp2)
                  repeat (first | (go_quiet (fail); try go_wp2) | (rw [Exit.noGoto_ret]; try go_wp2) | (go_step3; try go_wp2))
                  go_loopg [4, 12] k2 (fun kq v304 v312 w' => ∃ (x304_3 : Int) (x312_3 : Int), v304 = .int .i64 x304_3 ∧ v312 = .int .i64 x312_3 ∧ Aside0 (spread_Up.l1 kq x304_3 (l1.length : Int) x312_3 x105000_2 l1 x110000_2 = some r) ∧ Aside0 (kq ≤ k2) ∧ Aside0 (Kd.R (Kd.int .i64) 3 w' w.heap.size (fun k_ => k_ ≠ gb104) u110000 x110000_2) ∧ Aside0 (w'.heap[gb104]? = some (.cells #[.int .i64 x105000_2] 3 (0, 0))) ∧ Aside0 (w'.heap[gb105]? = some (.cells #[(.slice A1 l1.length c1)] 22 (0, 0))) ∧ Aside0 (w'.heap[gb109]? = some (.cells #[u110000] 22 (0, 0))) ∧ Aside0 (Below w.heap.size w w'))
                  case atStart => exact ⟨(0), (0), pmAx3_12_, pmAx3_12_, H', ⟨Nat.le_refl _⟩, ⟨by (with_reducible repeat (first | apply Kd.R_alloc | apply Kd.R_drewN | apply Kd.R_drew)); exact HO_110000.out⟩, ⟨by (with_reducible repeat (first | refine blk_drewN ?_ _ | refine blk_drew ?_ | refine blk_alloc ?_ _)); exact BK104.out⟩, ⟨by (with_reducible repeat (first | refine blk_drewN ?_ _ | refine blk_drew ?_ | refine blk_alloc ?_ _)); exact BK105.out⟩, ⟨by (with_reducible repeat (first | refine blk_drewN ?_ _ | refine blk_drew ?_ | refine blk_alloc ?_ _)); exact BK109.out⟩, ⟨by repeat (first | (with_reducible first | exact HB.out | apply below_alloc | apply pw_below_drewN | apply below_drew1 | refine below_set ?_ GE104.out | refine below_set ?_ GE105.out | refine below_set ?_ GE109.out) | exact HB.out)⟩⟩
                  case round =>
                    clear H'
                    try clear c1
                    try clear c2
                    try clear p2
                    try clear c3
                    try clear c3b0
                    try clear c3b1
                    try clear c4
                    try clear c4b0
                    try clear c4b1
                    try clear c8
                    try clear c9
                    try clear c14
                    try clear c15
                    try clear c18
                    try clear c20
                    try clear c21
                    try clear c23
                    try clear c25
                    try clear c26
                    try clear c28
                    try clear c30
                    try clear c31
                    try clear c32
                    try clear c34
                    try clear c34b0
                    try clear c35
                    try clear c36
                    try clear c38
                    try clear hcz16_0
                    try clear hcz22_0
                    try clear hcz24_0
                    try clear hcz27_0
                    try clear hcz29_0
                    try clear hcz33_0
                    try clear hcz37_0
                    try clear hcz39_0
                    try clear hcz9_0
                    try clear hfz16_0
                    try clear hfz22_0
                    try clear hfz24_0
                    try clear hfz27_0
                    try clear hfz29_0
                    try clear hfz33_0
                    try clear hfz37_0
                    try clear hfz39_0
                    try clear hfz9_0
                    try clear p2
                    obtain ⟨x304_3, x312_3, rfl, rfl, HA, HK3, HO_110000, BK104, BK105, BK109, HB⟩ := hrel
                    cases gk with
                    | zero => exact absurd HA.out (by simp [spread_Up.l1])
                    | succ k3 =>
                      have H := HA.out
                      clear HA
                      simp only [spread_Up.l1] at H
                      by_cases c40 : x312_3 < (l1.length : Int)
                      · rw [if_pos c40] at H
                        have c40b0 : decide (x312_3 < (l1.length : Int)) = true := decide_eq_true c40
                        clear c40
                        by_cases c41 : 0 ≤ x312_3
                        · rw [if_pos c41] at H
                          have c41b0 : decide (0 ≤ x312_3) = true := decide_eq_true c41
                          clear c41
                          by_cases c42 : x312_3 < (x110000_2.length : Int)
                          · rw [if_pos c42] at H
                            have c42b0 : decide (x312_3 < (x110000_2.length : Int)) = true := decide_eq_true c42
                            clear c42
                            by_cases c43 : x312_3 < (l1.length : Int)
                            · rw [if_pos c43] at H
                              have c43b0 : decide (x312_3 < (l1.length : Int)) = true := decide_eq_true c43
                              clear c43
                              by_cases c44 : (rd x110000_2 x312_3) < (rd l1 x312_3)
                              · rw [if_pos c44] at H
                                have c44b0 : decide ((rd x110000_2 x312_3) < (rd l1 x312_3)) = true := decide_eq_true c44
                                clear c44
                                have H' := Aside0.mk H
                                clear H
                                have hnb45 := NB109_104.out
                                have hnc45 := NB104_109.out
                                have hnb46 := NB109_105.out
                                have hnc46 := NB105_109.out
                                have hcz47_0 : wr.cell? ⟨gb109, 0, none⟩ = some (u110000) := (blk_cell BK109.out 0).trans rfl
                                have hfz47_0 := blk_frozen BK109.out 0
                                obtain ⟨Ao48, co48, eo48⟩ := Kd.R_slice HO_110000.out
                                subst eo48
                                have p112 : 0 ≤ (x312_3 : Int) := of_decide_eq_true pmAx3_6_
                                have q112 : x312_3 < (x110000_2.length : Int) := of_decide_eq_true pmAx3_6_
                                obtain ⟨ad112, e112, hx112_0⟩ := Kd.at_int (Kd.R_reads' HO_110000.out).2.2 x312_3 p112 q112
                                cases e112
                                replace p112 := eq_true p112
                                replace q112 := eq_true q112
                                have hnb49 := NB105_104.out
                                have hnc49 := NB104_105.out
                                have hcz50_0 : wr.cell? ⟨gb105, 0, none⟩ = some (.slice A1 l1.length c1) := (blk_cell BK105.out 0).trans rfl
                                have hfz50_0 := blk_frozen BK105.out 0
                                have p113 : 0 ≤ (x312_3 : Int) := of_decide_eq_true pmAx3_6_
                                have q113 : x312_3 < (l1.length : Int) := of_decide_eq_true pmAx3_6_
                                obtain ⟨ad113, e113, hx113_0⟩ := Kd.at_int HR1.out x312_3 p113 q113
                                cases e113
                                replace hx113_0 := (HB.out.cell (World.block_lt_of_cell? w _ hx113_0)).trans hx113_0
                                replace p113 := eq_true p113
                                replace q113 := eq_true q113
                                go_wp2
                                try (go_step3; go_wp2)
                                try (go_step3; go_wp2)
                                try (go_step3; go_wp2)
                                try (rw [Exit.noGoto_ret]; go_wp2)
                                try (go_step3; go_wp2)
                                repeat (first | (go_quiet (fail); try go_wp2) | (rw [Exit.noGoto_ret]; try go_wp2) | (go_step3; try go_wp2))
                                go_roundg k3
                                case measure => have := HJ4.out; have := HK2.out; have := HK3.out; omega
                                case rel => exact ⟨(wrap64 (x304_3 + 1)), (wrap64 (x312_3 + 1)), pmAx3_12_, pmAx3_12_, H', ⟨by have := HJ4.out; have := HK2.out; have := HK3.out; omega⟩, ⟨by (with_reducible repeat (first | apply Kd.R_alloc | apply Kd.R_drewN | apply Kd.R_drew)); exact HO_110000.out⟩, ⟨by (with_reducible repeat (first | refine blk_drewN ?_ _ | refine blk_drew ?_ | refine blk_alloc ?_ _)); exact BK104.out⟩, ⟨by (with_reducible repeat (first | refine blk_drewN ?_ _ | refine blk_drew ?_ | refine blk_alloc ?_ _)); exact BK105.out⟩, ⟨by (with_reducible repeat (first | refine blk_drewN ?_ _ | refine blk_drew ?_ | refine blk_alloc ?_ _)); exact BK109.out⟩, ⟨by repeat (first | (with_reducible first | exact HB.out | apply below_alloc | apply pw_below_drewN | apply below_drew1 | refine below_set ?_ GE104.out | refine below_set ?_ GE105.out | refine below_set ?_ GE109.out) | exact HB.out)⟩⟩
                              · rw [if_neg c44] at H
                                have c44b0 : decide ((rd x110000_2 x312_3) < (rd l1 x312_3)) = false := decide_eq_false c44
                                clear c44
                                have H' := Aside0.mk H
                                clear H
                                have hnb51 := NB109_104.out
                                have hnc51 := NB104_109.out
                                have hnb52 := NB109_105.out
                                have hnc52 := NB105_109.out
                                have hcz53_0 : wr.cell? ⟨gb109, 0, none⟩ = some (u110000) := (blk_cell BK109.out 0).trans rfl
                                have hfz53_0 := blk_frozen BK109.out 0
                                obtain ⟨Ao54, co54, eo54⟩ := Kd.R_slice HO_110000.out
                                subst eo54
                                have p112 : 0 ≤ (x312_3 : Int) := of_decide_eq_true pmAx3_6_
                                have q112 : x312_3 < (x110000_2.length : Int) := of_decide_eq_true pmAx3_6_
                                obtain ⟨ad112, e112, hx112_0⟩ := Kd.at_int (Kd.R_reads' HO_110000.out).2.2 x312_3 p112 q112
                                cases e112
                                replace p112 := eq_true p112
                                replace q112 := eq_true q112
                                have hnb55 := NB105_104.out
                                have hnc55 := NB104_105.out
                                have hcz56_0 : wr.cell? ⟨gb105, 0, none⟩ = some (.slice A1 l1.length c1) := (blk_cell BK105.out 0).trans rfl
                                have hfz56_0 := blk_frozen BK105.out 0
                                have p113 : 0 ≤ (x312_3 : Int) := of_decide_eq_true pmAx3_6_
                                have q113 : x312_3 < (l1.length : Int) := of_decide_eq_true pmAx3_6_
                                obtain ⟨ad113, e113, hx113_0⟩ := Kd.at_int HR1.out x312_3 p113 q113
                                cases e113
                                replace hx113_0 := (HB.out.cell (World.block_lt_of_cell? w _ hx113_0)).trans hx113_0
                                replace p113 := eq_true p113
                                replace q113 := eq_true q113
                                go_wp2
                                try (go_step3; go_wp2)
                                try (go_step3; go_wp2)
                                try (go_step3; go_wp2)
                                try (rw [Exit.noGoto_ret]; go_wp2)
                                try (go_step3; go_wp2)
                                repeat (first | (go_quiet (fail); try go_wp2) | (rw [Exit.noGoto_ret]; try go_wp2) | (go_step3; try go_wp2))
                                go_roundg k3
                                case measure => have := HJ4.out; have := HK2.out; have := HK3.out; omega
                                case rel => exact ⟨(x304_3), (wrap64 (x312_3 + 1)), pmAx3_12_, pmAx3_12_, H', ⟨by have := HJ4.out; have := HK2.out; have := HK3.out; omega⟩, ⟨by (with_reducible repeat (first | apply Kd.R_alloc | apply Kd.R_drewN | apply Kd.R_drew)); exact HO_110000.out⟩, ⟨by (with_reducible repeat (first | refine blk_drewN ?_ _ | refine blk_drew ?_ | refine blk_alloc ?_ _)); exact BK104.out⟩, ⟨by (with_reducible repeat (first | refine blk_drewN ?_ _ | refine blk_drew ?_ | refine blk_alloc ?_ _)); exact BK105.out⟩, ⟨by (with_reducible repeat (first | refine blk_drewN ?_ _ | refine blk_drew ?_ | refine blk_alloc ?_ _)); exact BK109.out⟩, ⟨by repeat (first | (with_reducible first | exact HB.out | apply below_alloc | apply pw_below_drewN | apply below_drew1 | refine below_set ?_ GE104.out | refine below_set ?_ GE105.out | refine below_set ?_ GE109.out) | exact HB.out)⟩⟩
                            · rw [if_neg c43] at H
                              exact absurd H (by simp)
                          · rw [if_neg c42] at H
                            exact absurd H (by simp)
                        · rw [if_neg c41] at H
                          exact absurd H (by simp)
                      · rw [if_neg c40] at H
                        have c40b0 : decide (x312_3 < (l1.length : Int)) = false := decide_eq_false c40
                        clear c40
                        by_cases c57 : x304_3 = 0
                        · rw [if_pos c57] at H
                          have c57b0 : (x304_3 == 0) = true := beq_iff_eq.mpr c57
                          have c57b1 : (x304_3 != 0) = false := bne_eq_false_iff_eq.mpr c57
                          clear c57
                          obtain rfl := Option.some.inj H
                          have hnb58 := NB109_104.out
                          have hnc58 := NB104_109.out
                          have hnb59 := NB109_105.out
                          have hnc59 := NB105_109.out
                          have hcz60_0 : wr.cell? ⟨gb109, 0, none⟩ = some (u110000) := (blk_cell BK109.out 0).trans rfl
                          have hfz60_0 := blk_frozen BK109.out 0
                          go_wp2
                          try (go_step3; go_wp2)
                          try (go_step3; go_wp2)
                          try (go_step3; go_wp2)
                          try (rw [Exit.noGoto_ret]; go_wp2)
                          try (go_step3; go_wp2)
                          repeat (first | (go_quiet (fail); try go_wp2) | (rw [Exit.noGoto_ret]; try go_wp2) | (go_step3; try go_wp2))
                          try rw [Exit.noGoto_ret]
                          go_ret
                          exact ⟨_, by first | rfl | (simp [errW_none, errW_some] <;> rfl) | (simp [*, errW_none, errW_some] <;> rfl), by (with_reducible repeat (first | apply Kd.R_alloc | apply Kd.R_drewN | apply Kd.R_drew)); exact Kd.R_mono HO_110000.out (fun _ hk => trivial), by repeat (first | (with_reducible first | exact HB.out | apply below_alloc | apply pw_below_drewN | apply below_drew1 | refine below_set ?_ GE104.out | refine below_set ?_ GE105.out | refine below_set ?_ GE109.out) | exact HB.out)⟩
                        · rw [if_neg c57] at H
                          have c57b0 : (x304_3 == 0) = false := beq_eq_false_iff_ne.mpr c57
                          have c57b1 : (x304_3 != 0) = true := bne_iff_ne.mpr c57
                          have H' := Aside0.mk H
                          clear H
                          have hnb61 := NB104_105.out
                          have hnc61 := NB105_104.out
                          have hnb62 := NB104_109.out
                          have hnc62 := NB109_104.out
                          have hcz63_0 : wr.cell? ⟨gb104, 0, none⟩ = some (.int .i64 x105000_2) := (blk_cell BK104.out 0).trans rfl
                          have hfz63_0 := blk_frozen BK104.out 0
                          have hnb64 := NB105_109.out
                          have hnc64 := NB109_105.out
                          have hcz65_0 : wr.cell? ⟨gb105, 0, none⟩ = some (.slice A1 l1.length c1) := (blk_cell BK105.out 0).trans rfl
                          have hfz65_0 := blk_frozen BK105.out 0
                          go_wp2
                          try (go_step3; go_wp2)
                          try (go_step3; go_wp2)
                          try (go_step3; go_wp2)
                          try (rw [Exit.noGoto_ret]; go_wp2)
                          try (go_step3; go_wp2)
                          repeat (first | (go_quiet (fail); try go_wp2) | (rw [Exit.noGoto_ret]; try go_wp2) | (go_step3; try go_wp2))
                          go_loopg [7, 35] k3 (fun kq v307 v335 w' => ∃ (x307_4 : Int) (x335_4 : Int) (x110000_4 : List Int) (u110000 : Value), v307 = .int .i64 x307_4 ∧ v335 = .int .i64 x335_4 ∧ Aside0 (spread_Up.l2 kq (wrap64 (Int.tdiv x105000_2 x304_3)) x307_4 (l1.length : Int) x335_4 l1 x110000_4 = some r) ∧ Aside0 (kq ≤ k3) ∧ Aside0 (Kd.R (Kd.int .i64) 3 w' w.heap.size (fun k_ => k_ ≠ gb104) u110000 x110000_4) ∧ Aside0 (w'.heap[gb104]? = some (.cells #[.int .i64 x105000_2] 3 (0, 0))) ∧ Aside0 (w'.heap[gb105]? = some (.cells #[(.slice A1 l1.length c1)] 22 (0, 0))) ∧ Aside0 (w'.heap[gb109]? = some (.cells #[u110000] 22 (0, 0))) ∧ Aside0 (Below w.heap.size w w'))
                          case atStart => exact ⟨(x105000_2), (0), (x110000_2), (u110000), pmAx3_12_, pmAx3_12_, H', ⟨Nat.le_refl _⟩, ⟨by (with_reducible repeat (first | apply Kd.R_alloc | apply Kd.R_drewN | apply Kd.R_drew)); exact HO_110000.out⟩, ⟨by (with_reducible repeat (first | refine blk_drewN ?_ _ | refine blk_drew ?_ | refine blk_alloc ?_ _)); exact BK104.out⟩, ⟨by (with_reducible repeat (first | refine blk_drewN ?_ _ | refine blk_drew ?_ | refine blk_alloc ?_ _)); exact BK105.out⟩, ⟨by (with_reducible repeat (first | refine blk_drewN ?_ _ | refine blk_drew ?_ | refine blk_alloc ?_ _)); exact BK109.out⟩, ⟨by repeat (first | (with_reducible first | exact HB.out | apply below_alloc | apply pw_below_drewN | apply below_drew1 | refine below_set ?_ GE104.out | refine below_set ?_ GE105.out | refine below_set ?_ GE109.out) | exact HB.out)⟩⟩
                          case round =>
                            clear H'
                            try clear c1
                            try clear p1
                            try clear q1
                            try clear hx1
                            try clear c2
                            try clear p2
                            try clear c3
                            try clear c3b0
                            try clear c3b1
                            try clear c4
                            try clear c4b0
                            try clear c4b1
                            try clear c5
                            try clear c6
                            try clear p6
                            try clear c8
                            try clear c9
                            try clear p11
                            try clear q11
                            try clear hx11
                            try clear c14
                            try clear c15
                            try clear c18
                            try clear c20
                            try clear c21
                            try clear c23
                            try clear c25
                            try clear c26
                            try clear c28
                            try clear c30
                            try clear c31
                            try clear c32
                            try clear c34
                            try clear c34b0
                            try clear c35
                            try clear c36
                            try clear c38
                            try clear c40
                            try clear c40b0
                            try clear c41
                            try clear c41b0
                            try clear c42
                            try clear c42b0
                            try clear c43
                            try clear c43b0
                            try clear c44
                            try clear c44b0
                            try clear c45
                            try clear c46
                            try clear c49
                            try clear c51
                            try clear c52
                            try clear c55
                            try clear c57
                            try clear c57b0
                            try clear c57b1
                            try clear c58
                            try clear c59
                            try clear c61
                            try clear c62
                            try clear c64
                            try clear p64
                            try clear hcz16_0
                            try clear hcz22_0
                            try clear hcz24_0
                            try clear hcz27_0
                            try clear hcz29_0
                            try clear hcz33_0
                            try clear hcz37_0
                            try clear hcz39_0
                            try clear hcz47_0
                            try clear hcz50_0
                            try clear hcz53_0
                            try clear hcz56_0
                            try clear hcz60_0
                            try clear hcz63_0
                            try clear hcz65_0
                            try clear hcz9_0
                            try clear hfz16_0
                            try clear hfz22_0
                            try clear hfz24_0
                            try clear hfz27_0
                            try clear hfz29_0
                            try clear hfz33_0
                            try clear hfz37_0
                            try clear hfz39_0
                            try clear hfz47_0
                            try clear hfz50_0
                            try clear hfz53_0
                            try clear hfz56_0
                            try clear hfz60_0
                            try clear hfz63_0
                            try clear hfz65_0
                            try clear hfz9_0
                            try clear hx112_0
                            try clear hx113_0
                            try clear p112
                            try clear p113
                            try clear p2
                            try clear q112
                            try clear q113
                            obtain ⟨x307_4, x335_4, x110000_4, u110000, rfl, rfl, HA, HK4, HO_110000, BK104, BK105, BK109, HB⟩ := hrel
                            cases gk with
                            | zero => exact absurd HA.out (by simp [spread_Up.l2])
                            | succ k4 =>
                              have H := HA.out
                              clear HA
                              simp only [spread_Up.l2] at H
                              by_cases c66 : x335_4 < (l1.length : Int)
                              · rw [if_pos c66] at H
                                have c66b0 : decide (x335_4 < (l1.length : Int)) = true := decide_eq_true c66
                                clear c66
                                obtain ⟨ji67, hji67⟩ : ∃ j_ : Int, (mx (wrap64 (Int.tdiv x105000_2 x304_3)) 1) = j_ := ⟨_, rfl⟩
                                replace H : (if 0 ≤ x335_4 then (if x335_4 < (l1.length : Int) then (if x335_4 < (x110000_4.length : Int) then (if (mn (ji67) (wrap64 ((rd l1 x335_4) - (rd x110000_4 x335_4)))) = 0 then (spread_Up.l2 k4 (wrap64 (Int.tdiv x105000_2 x304_3)) x307_4 (l1.length : Int) (wrap64 (x335_4 + 1)) l1 x110000_4) else (if x307_4 < (mn (ji67) (wrap64 ((rd l1 x335_4) - (rd x110000_4 x335_4)))) then (spread_Up.l0 k4 x307_4 l1 x110000_4) else (spread_Up.l2 k4 (wrap64 (Int.tdiv x105000_2 x304_3)) (wrap64 (x307_4 - (mn (ji67) (wrap64 ((rd l1 x335_4) - (rd x110000_4 x335_4)))))) (l1.length : Int) (wrap64 (x335_4 + 1)) l1 (x110000_4.set (x335_4 : Int).toNat (wrap64 ((rd x110000_4 x335_4) + (mn (ji67) (wrap64 ((rd l1 x335_4) - (rd x110000_4 x335_4)))))))))) else (none)) else (none)) else (none)) = some r := by first | (rw [hji67] at H; exact H) | (simp only [hji67] at H ⊢; exact H)
                                have hji67_ : (if (wrap64 (Int.tdiv x105000_2 x304_3)) < 1 then 1 else (wrap64 (Int.tdiv x105000_2 x304_3))) = ji67 := hji67
                                by_cases c68 : 0 ≤ x335_4
                                · rw [if_pos c68] at H
                                  have c68b0 : decide (0 ≤ x335_4) = true := decide_eq_true c68
                                  clear c68
                                  by_cases c69 : x335_4 < (l1.length : Int)
                                  · rw [if_pos c69] at H
                                    have c69b0 : decide (x335_4 < (l1.length : Int)) = true := decide_eq_true c69
                                    clear c69
                                    by_cases c70 : x335_4 < (x110000_4.length : Int)
                                    · rw [if_pos c70] at H
                                      have c70b0 : decide (x335_4 < (x110000_4.length : Int)) = true := decide_eq_true c70
                                      clear c70
                                      obtain ⟨ji71, hji71⟩ : ∃ j_ : Int, (mn (ji67) (wrap64 ((rd l1 x335_4) - (rd x110000_4 x335_4)))) = j_ := ⟨_, rfl⟩
                                      replace H : (if (ji71) = 0 then (spread_Up.l2 k4 (wrap64 (Int.tdiv x105000_2 x304_3)) x307_4 (l1.length : Int) (wrap64 (x335_4 + 1)) l1 x110000_4) else (if x307_4 < (ji71) then (spread_Up.l0 k4 x307_4 l1 x110000_4) else (spread_Up.l2 k4 (wrap64 (Int.tdiv x105000_2 x304_3)) (wrap64 (x307_4 - (ji71))) (l1.length : Int) (wrap64 (x335_4 + 1)) l1 (x110000_4.set (x335_4 : Int).toNat (wrap64 ((rd x110000_4 x335_4) + (ji71))))))) = some r := by first | (rw [hji71] at H; exact H) | (simp only [hji71] at H ⊢; exact H)
                                      have hji71_ : (if (wrap64 ((rd l1 x335_4) - (rd x110000_4 x335_4))) < (ji67) then (wrap64 ((rd l1 x335_4) - (rd x110000_4 x335_4))) else (ji67)) = ji71 := hji71
                                      by_cases c72 : (ji71) = 0
                                      · rw [if_pos c72] at H
                                        have c72b0 : ((ji71) == 0) = true := beq_iff_eq.mpr c72
                                        have c72b1 : ((ji71) != 0) = false := bne_eq_false_iff_eq.mpr c72
                                        clear c72
                                        have H' := Aside0.mk H
                                        clear H
                                        have hnb73 := NB105_104.out
                                        have hnc73 := NB104_105.out
                                        have hnb74 := NB105_109.out
                                        have hnc74 := NB109_105.out
                                        have hcz75_0 : wr.cell? ⟨gb105, 0, none⟩ = some (.slice A1 l1.length c1) := (blk_cell BK105.out 0).trans rfl
                                        have hfz75_0 := blk_frozen BK105.out 0
                                        have p114 : 0 ≤ (x335_4 : Int) := of_decide_eq_true pmAx3_6_
                                        have q114 : x335_4 < (l1.length : Int) := of_decide_eq_true pmAx3_6_
                                        obtain ⟨ad114, e114, hx114_0⟩ := Kd.at_int HR1.out x335_4 p114 q114
                                        cases e114
                                        replace hx114_0 := (HB.out.cell (World.block_lt_of_cell? w _ hx114_0)).trans hx114_0
                                        replace p114 := eq_true p114
                                        replace q114 := eq_true q114
                                        have hnb76 := NB109_104.out
                                        have hnc76 := NB104_109.out
                                        have hcz77_0 : wr.cell? ⟨gb109, 0, none⟩ = some (u110000) := (blk_cell BK109.out 0).trans rfl
                                        have hfz77_0 := blk_frozen BK109.out 0
                                        obtain ⟨Ao78, co78, eo78⟩ := Kd.R_slice HO_110000.out
                                        subst eo78
                                        have p115 : 0 ≤ (x335_4 : Int) := of_decide_eq_true pmAx3_6_
                                        have q115 : x335_4 < (x110000_4.length : Int) := of_decide_eq_true pmAx3_6_
                                        obtain ⟨ad115, e115, hx115_0⟩ := Kd.at_int (Kd.R_reads' HO_110000.out).2.2 x335_4 p115 q115
                                        cases e115
                                        replace p115 := eq_true p115
                                        replace q115 := eq_true q115
                                        go_wp2
                                        try (go_step3; go_wp2)
                                        try (go_step3; go_wp2)
                                        try (go_step3; go_wp2)
                                        try (rw [Exit.noGoto_ret]; go_wp2)
                                        try (go_step3; go_wp2)
                                        repeat (first | (go_quiet (fail); try go_wp2) | (rw [Exit.noGoto_ret]; try go_wp2) | (go_step3; try go_wp2))
                                        go_roundg k4
                                        case measure => have := HJ4.out; have := HK2.out; have := HK3.out; have := HK4.out; omega
                                        case rel => exact ⟨(x307_4), (wrap64 (x335_4 + 1)), (x110000_4), (.slice (some ad115) x110000_4.length co78), pmAx3_12_, pmAx3_12_, H', ⟨by have := HJ4.out; have := HK2.out; have := HK3.out; have := HK4.out; omega⟩, ⟨by (with_reducible repeat (first | apply Kd.R_alloc | apply Kd.R_drewN | apply Kd.R_drew)); exact HO_110000.out⟩, ⟨by (with_reducible repeat (first | refine blk_drewN ?_ _ | refine blk_drew ?_ | refine blk_alloc ?_ _)); exact BK104.out⟩, ⟨by (with_reducible repeat (first | refine blk_drewN ?_ _ | refine blk_drew ?_ | refine blk_alloc ?_ _)); exact BK105.out⟩, ⟨by (with_reducible repeat (first | refine blk_drewN ?_ _ | refine blk_drew ?_ | refine blk_alloc ?_ _)); exact BK109.out⟩, ⟨by repeat (first | (with_reducible first | exact HB.out | apply below_alloc | apply pw_below_drewN | apply below_drew1 | refine below_set ?_ GE104.out | refine below_set ?_ GE105.out | refine below_set ?_ GE109.out) | exact HB.out)⟩⟩
                                      · rw [if_neg c72] at H
                                        have c72b0 : ((ji71) == 0) = false := beq_eq_false_iff_ne.mpr c72
                                        have c72b1 : ((ji71) != 0) = true := bne_iff_ne.mpr c72
                                        by_cases c79 : x307_4 < (ji71)
                                        · rw [if_pos c79] at H
                                          have c79b0 : decide (x307_4 < (ji71)) = true := decide_eq_true c79
                                          clear c79
                                          have H' := Aside0.mk H
                                          clear H
                                          have hnb80 := NB105_104.out
                                          have hnc80 := NB104_105.out
                                          have hnb81 := NB105_109.out
                                          have hnc81 := NB109_105.out
                                          have hcz82_0 : wr.cell? ⟨gb105, 0, none⟩ = some (.slice A1 l1.length c1) := (blk_cell BK105.out 0).trans rfl
                                          have hfz82_0 := blk_frozen BK105.out 0
                                          have p114 : 0 ≤ (x335_4 : Int) := of_decide_eq_true pmAx3_6_
                                          have q114 : x335_4 < (l1.length : Int) := of_decide_eq_true pmAx3_6_
                                          obtain ⟨ad114, e114, hx114_0⟩ := Kd.at_int HR1.out x335_4 p114 q114
                                          cases e114
                                          replace hx114_0 := (HB.out.cell (World.block_lt_of_cell? w _ hx114_0)).trans hx114_0
                                          replace p114 := eq_true p114
                                          replace q114 := eq_true q114
                                          have hnb83 := NB109_104.out
                                          have hnc83 := NB104_109.out
                                          have hcz84_0 : wr.cell? ⟨gb109, 0, none⟩ = some (u110000) := (blk_cell BK109.out 0).trans rfl
                                          have hfz84_0 := blk_frozen BK109.out 0
                                          obtain ⟨Ao85, co85, eo85⟩ := Kd.R_slice HO_110000.out
                                          subst eo85
                                          have p115 : 0 ≤ (x335_4 : Int) := of_decide_eq_true pmAx3_6_
                                          have q115 : x335_4 < (x110000_4.length : Int) := of_decide_eq_true pmAx3_6_
                                          obtain ⟨ad115, e115, hx115_0⟩ := Kd.at_int (Kd.R_reads' HO_110000.out).2.2 x335_4 p115 q115
                                          cases e115
                                          replace p115 := eq_true p115
                                          replace q115 := eq_true q115
                                          have hcz86_0 : wr.cell? ⟨gb104, 0, none⟩ = some (.int .i64 x105000_2) := (blk_cell BK104.out 0).trans rfl
                                          have hfz86_0 := blk_frozen BK104.out 0
                                          go_wp2
                                          try (go_step3; go_wp2)
                                          try (go_step3; go_wp2)
                                          try (go_step3; go_wp2)
                                          try (rw [Exit.noGoto_ret]; go_wp2)
                                          try (go_step3; go_wp2)
                                          repeat (first | (go_quiet (fail); try go_wp2) | (rw [Exit.noGoto_ret]; try go_wp2) | (go_step3; try go_wp2))
                                          go_roundg k4
                                          case measure => have := HJ4.out; have := HK2.out; have := HK3.out; have := HK4.out; omega
                                          case rel => exact ⟨(x307_4), (x110000_4), (.slice (some ad115) x110000_4.length co85), H', ⟨by have := HJ4.out; have := HK2.out; have := HK3.out; have := HK4.out; omega⟩, ⟨by (with_reducible repeat (first | apply Kd.R_alloc | apply Kd.R_drewN | apply Kd.R_drew)); exact Kd.R_mono (Kd.R_far (p := ⟨gb104, 0, none⟩) (Kd.R_mono HO_110000.out (fun k_ hk => (⟨hk, hk⟩ : _ ∧ k_ ≠ gb104))) (fun _ hk => hk.2) (.int .i64 x307_4)) (fun _ hk => hk.1)⟩, ⟨by (with_reducible repeat (first | refine blk_drewN ?_ _ | refine blk_drew ?_ | refine blk_alloc ?_ _)); refine blk_put (cs := #[.int .i64 x105000_2]) ?_ 0 _ rfl; (with_reducible repeat (first | refine blk_drewN ?_ _ | refine blk_drew ?_ | refine blk_alloc ?_ _)); exact BK104.out⟩, ⟨by (with_reducible repeat (first | refine blk_drewN ?_ _ | refine blk_drew ?_ | refine blk_alloc ?_ _)); refine blk_far ?_ NB105_104.out _; (with_reducible repeat (first | refine blk_drewN ?_ _ | refine blk_drew ?_ | refine blk_alloc ?_ _)); exact BK105.out⟩, ⟨by (with_reducible repeat (first | refine blk_drewN ?_ _ | refine blk_drew ?_ | refine blk_alloc ?_ _)); refine blk_far ?_ NB109_104.out _; (with_reducible repeat (first | refine blk_drewN ?_ _ | refine blk_drew ?_ | refine blk_alloc ?_ _)); exact BK109.out⟩, ⟨by repeat (first | (with_reducible first | exact HB.out | apply below_alloc | apply pw_below_drewN | apply below_drew1 | refine below_set ?_ GE104.out | refine below_set ?_ GE105.out | refine below_set ?_ GE109.out) | exact HB.out)⟩⟩
                                        · rw [if_neg c79] at H
                                          have c79b0 : decide (x307_4 < (ji71)) = false := decide_eq_false c79
                                          clear c79
                                          obtain ⟨y117, hy117⟩ : ∃ y_ : List Int, y_ = (x110000_4.set (x335_4 : Int).toNat (wrap64 ((rd x110000_4 x335_4) + (ji71)))) := ⟨_, rfl⟩
                                          replace H : (spread_Up.l2 k4 (wrap64 (Int.tdiv x105000_2 x304_3)) (wrap64 (x307_4 - (ji71))) (l1.length : Int) (wrap64 (x335_4 + 1)) l1 y117) = some r := by first | (rw [hy117]; with_reducible exact H) | (have H2_ := (Option.bind_some _ _).symm.trans H; rw [hy117]; with_reducible exact H2_) | (have H2_ := (Option.bind_some _ _).symm.trans H; with_reducible exact H2_) | with_reducible exact H | (rw [hy117]; exact H) | exact H
                                          have Ny117 := Aside0.mk hy117
                                          clear hy117
                                          have H' := Aside0.mk H
                                          clear H
                                          have hnb88 := NB105_104.out
                                          have hnc88 := NB104_105.out
                                          have hnb89 := NB105_109.out
                                          have hnc89 := NB109_105.out
                                          have hcz90_0 : wr.cell? ⟨gb105, 0, none⟩ = some (.slice A1 l1.length c1) := (blk_cell BK105.out 0).trans rfl
                                          have hfz90_0 := blk_frozen BK105.out 0
                                          have p114 : 0 ≤ (x335_4 : Int) := of_decide_eq_true pmAx3_6_
                                          have q114 : x335_4 < (l1.length : Int) := of_decide_eq_true pmAx3_6_
                                          obtain ⟨ad114, e114, hx114_0⟩ := Kd.at_int HR1.out x335_4 p114 q114
                                          cases e114
                                          replace hx114_0 := (HB.out.cell (World.block_lt_of_cell? w _ hx114_0)).trans hx114_0
                                          replace p114 := eq_true p114
                                          replace q114 := eq_true q114
                                          have hnb91 := NB109_104.out
                                          have hnc91 := NB104_109.out
                                          have hcz92_0 : wr.cell? ⟨gb109, 0, none⟩ = some (u110000) := (blk_cell BK109.out 0).trans rfl
                                          have hfz92_0 := blk_frozen BK109.out 0
                                          obtain ⟨Ao93, co93, eo93⟩ := Kd.R_slice HO_110000.out
                                          subst eo93
                                          have p115 : 0 ≤ (x335_4 : Int) := of_decide_eq_true pmAx3_6_
                                          have q115 : x335_4 < (x110000_4.length : Int) := of_decide_eq_true pmAx3_6_
                                          obtain ⟨ad115, e115, hx115_0⟩ := Kd.at_int (Kd.R_reads' HO_110000.out).2.2 x335_4 p115 q115
                                          cases e115
                                          replace p115 := eq_true p115
                                          replace q115 := eq_true q115
                                          have p116 : 0 ≤ (x335_4 : Int) := of_decide_eq_true pmAx3_6_
                                          have q116 : x335_4 < (x110000_4.length : Int) := of_decide_eq_true pmAx3_6_
                                          obtain ⟨ad116, e116, hx116_0⟩ := Kd.at_int (Kd.R_reads' HO_110000.out).2.2 x335_4 p116 q116
                                          obtain rfl : ad115 = ad116 := (by injection e116)
                                          replace p116 := eq_true p116
                                          replace q116 := eq_true q116
                                          have p87 : 0 ≤ (x335_4 : Int) := of_decide_eq_true pmAx3_6_
                                          have q87 : (x335_4 : Int) < ((x110000_4.length : Int) : Int) := of_decide_eq_true pmAx3_6_
                                          obtain ⟨go87, co87, eo87, gb87, gl87, cl87, HG87⟩ := Kd.R_form HO_110000.out (by omega)
                                          (first | cases eo87 | (injection eo87 with ea_ en_ ec_; (first | subst ea_ | (injection ea_ with ea_; subst ea_)); subst ec_; clear en_))
                                          have GB87 := Aside0.mk gb87
                                          have GG87 := Aside0.mk HG87
                                          clear gb87 gl87 HG87
                                          (first | simp only [add_plain] at hx115_0 | skip)
                                          (first | simp only [add_plain] at hx116_0 | skip)
                                          obtain ⟨hx87_0, hf87_0⟩ := Kd.R_celln 0 HO_110000.out (x335_4 : Int) p87 q87
                                          replace p87 := eq_true p87
                                          replace q87 := eq_true q87
                                          have HP94 := Kd.R_putg HO_110000.out (x335_4 : Int) (wrap64 ((rd x110000_4 x335_4) + (ji71)))
                                          go_wp2_with (first | ((with_reducible refine gate_store (t := 3) (p := 61) rfl ?_); (try (rw [drewN_self wr]; generalize hq_ : World.drewN wr _ = wr; have n0_ := Aside0.mk (Kd.R_at hq_ HO_110000.out); have n1_ := Aside0.mk (blk_at hq_ BK104.out); have n2_ := Aside0.mk (blk_at hq_ BK105.out); have n3_ := Aside0.mk (blk_at hq_ BK109.out); have n4_ := Aside0.mk (below_at hq_ HB.out); clear hq_ HO_110000 BK104 BK105 BK109 HB; have HO_110000 := n0_; have BK104 := n1_; have BK105 := n2_; have BK109 := n3_; have HB := n4_; clear n0_ n1_ n2_ n3_ n4_; (try (have HP94 := Kd.R_putg HO_110000.out (x335_4 : Int) (wrap64 ((rd x110000_4 x335_4) + (ji71))))); (try (obtain ⟨hx87_0, hf87_0⟩ := Kd.R_celln 0 HO_110000.out (x335_4 : Int) (of_eq_true p87) (of_eq_true q87))))); refine store_event (t := 3) (p := 61) (v := ?vo_w95) (w1 := (wr.setCell ⟨go87, (x335_4 : Int).toNat, none⟩ (.int .i64 (wrap64 ((rd x110000_4 x335_4) + (ji71)))))) ?hg ?ho ?hn ?hr ?_; (case ho => rfl); (case hg => rfl); (case hn => rfl); (case hr => first | (go_simp; done) | (go_simp; rfl)); intro w95 hw; have hg : wr.grownBy w95 (some go87) := (by rw [hw]; exact HP94.2); have hp_ : Kd.R (Kd.int .i64) 3 w95 w.heap.size (fun k_ => k_ ≠ gb104) (.slice (some ⟨go87, 0, none⟩) x110000_4.length co93) y117 := pmAx3_18_; clear HP94; have n0_ := Aside0.mk (hp_); have n1_ := Aside0.mk (blk_grown (g := gb104) (o := .cells #[.int .i64 x105000_2] 3 (0, 0)) pmAx3_0_ hg (Kd.R_away HO_110000.out (fun _ hk => hk))); have n2_ := Aside0.mk (blk_grown (g := gb105) (o := .cells #[.slice (some ad114) l1.length c1] 22 (0, 0)) pmAx3_2_ hg (Kd.R_ne HO_110000.out BK105.out (by decide))); have n3_ := Aside0.mk (blk_grown (g := gb109) (o := .cells #[.slice (some ⟨go87, 0, none⟩) x110000_4.length co93] 22 (0, 0)) pmAx3_9_ hg (Kd.R_ne HO_110000.out BK109.out (by decide))); have n4_ := Aside0.mk ((pmAx3_17_ : Below w.heap.size w w95)); clear HO_110000; clear BK104; clear BK105; clear BK109; clear HB; have HO_110000 := n0_; have BK104 := n1_; have BK105 := n2_; have BK109 := n3_; have HB := n4_; clear n0_ n1_ n2_ n3_ n4_; clear hg hw hp_) | go_in)
                                          try (go_step3; go_wp2_with (first | ((with_reducible refine gate_store (t := 3) (p := 61) rfl ?_); (try (rw [drewN_self wr]; generalize hq_ : World.drewN wr _ = wr; have n0_ := Aside0.mk (Kd.R_at hq_ HO_110000.out); have n1_ := Aside0.mk (blk_at hq_ BK104.out); have n2_ := Aside0.mk (blk_at hq_ BK105.out); have n3_ := Aside0.mk (blk_at hq_ BK109.out); have n4_ := Aside0.mk (below_at hq_ HB.out); clear hq_ HO_110000 BK104 BK105 BK109 HB; have HO_110000 := n0_; have BK104 := n1_; have BK105 := n2_; have BK109 := n3_; have HB := n4_; clear n0_ n1_ n2_ n3_ n4_; (try (have HP94 := Kd.R_putg HO_110000.out (x335_4 : Int) (wrap64 ((rd x110000_4 x335_4) + (ji71))))); (try (obtain ⟨hx87_0, hf87_0⟩ := Kd.R_celln 0 HO_110000.out (x335_4 : Int) (of_eq_true p87) (of_eq_true q87))))); refine store_event (t := 3) (p := 61) (v := ?vo_w95) (w1 := (wr.setCell ⟨go87, (x335_4 : Int).toNat, none⟩ (.int .i64 (wrap64 ((rd x110000_4 x335_4) + (ji71)))))) ?hg ?ho ?hn ?hr ?_; (case ho => rfl); (case hg => rfl); (case hn => rfl); (case hr => first | (go_simp; done) | (go_simp; rfl)); intro w95 hw; have hg : wr.grownBy w95 (some go87) := (by rw [hw]; exact HP94.2); have hp_ : Kd.R (Kd.int .i64) 3 w95 w.heap.size (fun k_ => k_ ≠ gb104) (.slice (some ⟨go87, 0, none⟩) x110000_4.length co93) y117 := pmAx3_18_; clear HP94; have n0_ := Aside0.mk (hp_); have n1_ := Aside0.mk (blk_grown (g := gb104) (o := .cells #[.int .i64 x105000_2] 3 (0, 0)) pmAx3_0_ hg (Kd.R_away HO_110000.out (fun _ hk => hk))); have n2_ := Aside0.mk (blk_grown (g := gb105) (o := .cells #[.slice (some ad114) l1.length c1] 22 (0, 0)) pmAx3_2_ hg (Kd.R_ne HO_110000.out BK105.out (by decide))); have n3_ := Aside0.mk (blk_grown (g := gb109) (o := .cells #[.slice (some ⟨go87, 0, none⟩) x110000_4.length co93] 22 (0, 0)) pmAx3_9_ hg (Kd.R_ne HO_110000.out BK109.out (by decide))); have n4_ := Aside0.mk ((pmAx3_17_ : Below w.heap.size w w95)); clear HO_110000; clear BK104; clear BK105; clear BK109; clear HB; have HO_110000 := n0_; have BK104 := n1_; have BK105 := n2_; have BK109 := n3_; have HB := n4_; clear n0_ n1_ n2_ n3_ n4_; clear hg hw hp_) | go_in))
                                          try (go_step3; go_wp2_with (first | ((with_reducible refine gate_store (t := 3) (p := 61) rfl ?_); (try (rw [drewN_self wr]; generalize hq_ : World.drewN wr _ = wr; have n0_ := Aside0.mk (Kd.R_at hq_ HO_110000.out); have n1_ := Aside0.mk (blk_at hq_ BK104.out); have n2_ := Aside0.mk (blk_at hq_ BK105.out); have n3_ := Aside0.mk (blk_at hq_ BK109.out); have n4_ := Aside0.mk (below_at hq_ HB.out); clear hq_ HO_110000 BK104 BK105 BK109 HB; have HO_110000 := n0_; have BK104 := n1_; have BK105 := n2_; have BK109 := n3_; have HB := n4_; clear n0_ n1_ n2_ n3_ n4_; (try (have HP94 := Kd.R_putg HO_110000.out (x335_4 : Int) (wrap64 ((rd x110000_4 x335_4) + (ji71))))); (try (obtain ⟨hx87_0, hf87_0⟩ := Kd.R_celln 0 HO_110000.out (x335_4 : Int) (of_eq_true p87) (of_eq_true q87))))); refine store_event (t := 3) (p := 61) (v := ?vo_w95) (w1 := (wr.setCell ⟨go87, (x335_4 : Int).toNat, none⟩ (.int .i64 (wrap64 ((rd x110000_4 x335_4) + (ji71)))))) ?hg ?ho ?hn ?hr ?_; (case ho => rfl); (case hg => rfl); (case hn => rfl); (case hr => first | (go_simp; done) | (go_simp; rfl)); intro w95 hw; have hg : wr.grownBy w95 (some go87) := (by rw [hw]; exact HP94.2); have hp_ : Kd.R (Kd.int .i64) 3 w95 w.heap.size (fun k_ => k_ ≠ gb104) (.slice (some ⟨go87, 0, none⟩) x110000_4.length co93) y117 := pmAx3_18_; clear HP94; have n0_ := Aside0.mk (hp_); have n1_ := Aside0.mk (blk_grown (g := gb104) (o := .cells #[.int .i64 x105000_2] 3 (0, 0)) pmAx3_0_ hg (Kd.R_away HO_110000.out (fun _ hk => hk))); have n2_ := Aside0.mk (blk_grown (g := gb105) (o := .cells #[.slice (some ad114) l1.length c1] 22 (0, 0)) pmAx3_2_ hg (Kd.R_ne HO_110000.out BK105.out (by decide))); have n3_ := Aside0.mk (blk_grown (g := gb109) (o := .cells #[.slice (some ⟨go87, 0, none⟩) x110000_4.length co93] 22 (0, 0)) pmAx3_9_ hg (Kd.R_ne HO_110000.out BK109.out (by decide))); have n4_ := Aside0.mk ((pmAx3_17_ : Below w.heap.size w w95)); clear HO_110000; clear BK104; clear BK105; clear BK109; clear HB; have HO_110000 := n0_; have BK104 := n1_; have BK105 := n2_; have BK109 := n3_; have HB := n4_; clear n0_ n1_ n2_ n3_ n4_; clear hg hw hp_) | go_in))
                                          try (go_step3; go_wp2_with (first | ((with_reducible refine gate_store (t := 3) (p := 61) rfl ?_); (try (rw [drewN_self wr]; generalize hq_ : World.drewN wr _ = wr; have n0_ := Aside0.mk (Kd.R_at hq_ HO_110000.out); have n1_ := Aside0.mk (blk_at hq_ BK104.out); have n2_ := Aside0.mk (blk_at hq_ BK105.out); have n3_ := Aside0.mk (blk_at hq_ BK109.out); have n4_ := Aside0.mk (below_at hq_ HB.out); clear hq_ HO_110000 BK104 BK105 BK109 HB; have HO_110000 := n0_; have BK104 := n1_; have BK105 := n2_; have BK109 := n3_; have HB := n4_; clear n0_ n1_ n2_ n3_ n4_; (try (have HP94 := Kd.R_putg HO_110000.out (x335_4 : Int) (wrap64 ((rd x110000_4 x335_4) + (ji71))))); (try (obtain ⟨hx87_0, hf87_0⟩ := Kd.R_celln 0 HO_110000.out (x335_4 : Int) (of_eq_true p87) (of_eq_true q87))))); refine store_event (t := 3) (p := 61) (v := ?vo_w95) (w1 := (wr.setCell ⟨go87, (x335_4 : Int).toNat, none⟩ (.int .i64 (wrap64 ((rd x110000_4 x335_4) + (ji71)))))) ?hg ?ho ?hn ?hr ?_; (case ho => rfl); (case hg => rfl); (case hn => rfl); (case hr => first | (go_simp; done) | (go_simp; rfl)); intro w95 hw; have hg : wr.grownBy w95 (some go87) := (by rw [hw]; exact HP94.2); have hp_ : Kd.R (Kd.int .i64) 3 w95 w.heap.size (fun k_ => k_ ≠ gb104) (.slice (some ⟨go87, 0, none⟩) x110000_4.length co93) y117 := pmAx3_18_; clear HP94; have n0_ := Aside0.mk (hp_); have n1_ := Aside0.mk (blk_grown (g := gb104) (o := .cells #[.int .i64 x105000_2] 3 (0, 0)) pmAx3_0_ hg (Kd.R_away HO_110000.out (fun _ hk => hk))); have n2_ := Aside0.mk (blk_grown (g := gb105) (o := .cells #[.slice (some ad114) l1.length c1] 22 (0, 0)) pmAx3_2_ hg (Kd.R_ne HO_110000.out BK105.out (by decide))); have n3_ := Aside0.mk (blk_grown (g := gb109) (o := .cells #[.slice (some ⟨go87, 0, none⟩) x110000_4.length co93] 22 (0, 0)) pmAx3_9_ hg (Kd.R_ne HO_110000.out BK109.out (by decide))); have n4_ := Aside0.mk ((pmAx3_17_ : Below w.heap.size w w95)); clear HO_110000; clear BK104; clear BK105; clear BK109; clear HB; have HO_110000 := n0_; have BK104 := n1_; have BK105 := n2_; have BK109 := n3_; have HB := n4_; clear n0_ n1_ n2_ n3_ n4_; clear hg hw hp_) | go_in))
                                          try (rw [Exit.noGoto_ret]; go_wp2_with (first | ((with_reducible refine gate_store (t := 3) (p := 61) rfl ?_); (try (rw [drewN_self wr]; generalize hq_ : World.drewN wr _ = wr; have n0_ := Aside0.mk (Kd.R_at hq_ HO_110000.out); have n1_ := Aside0.mk (blk_at hq_ BK104.out); have n2_ := Aside0.mk (blk_at hq_ BK105.out); have n3_ := Aside0.mk (blk_at hq_ BK109.out); have n4_ := Aside0.mk (below_at hq_ HB.out); clear hq_ HO_110000 BK104 BK105 BK109 HB; have HO_110000 := n0_; have BK104 := n1_; have BK105 := n2_; have BK109 := n3_; have HB := n4_; clear n0_ n1_ n2_ n3_ n4_; (try (have HP94 := Kd.R_putg HO_110000.out (x335_4 : Int) (wrap64 ((rd x110000_4 x335_4) + (ji71))))); (try (obtain ⟨hx87_0, hf87_0⟩ := Kd.R_celln 0 HO_110000.out (x335_4 : Int) (of_eq_true p87) (of_eq_true q87))))); refine store_event (t := 3) (p := 61) (v := ?vo_w95) (w1 := (wr.setCell ⟨go87, (x335_4 : Int).toNat, none⟩ (.int .i64 (wrap64 ((rd x110000_4 x335_4) + (ji71)))))) ?hg ?ho ?hn ?hr ?_; (case ho => rfl); (case hg => rfl); (case hn => rfl); (case hr => first | (go_simp; done) | (go_simp; rfl)); intro w95 hw; have hg : wr.grownBy w95 (some go87) := (by rw [hw]; exact HP94.2); have hp_ : Kd.R (Kd.int .i64) 3 w95 w.heap.size (fun k_ => k_ ≠ gb104) (.slice (some ⟨go87, 0, none⟩) x110000_4.length co93) y117 := pmAx3_18_; clear HP94; have n0_ := Aside0.mk (hp_); have n1_ := Aside0.mk (blk_grown (g := gb104) (o := .cells #[.int .i64 x105000_2] 3 (0, 0)) pmAx3_0_ hg (Kd.R_away HO_110000.out (fun _ hk => hk))); have n2_ := Aside0.mk (blk_grown (g := gb105) (o := .cells #[.slice (some ad114) l1.length c1] 22 (0, 0)) pmAx3_2_ hg (Kd.R_ne HO_110000.out BK105.out (by decide))); have n3_ := Aside0.mk (blk_grown (g := gb109) (o := .cells #[.slice (some ⟨go87, 0, none⟩) x110000_4.length co93] 22 (0, 0)) pmAx3_9_ hg (Kd.R_ne HO_110000.out BK109.out (by decide))); have n4_ := Aside0.mk ((pmAx3_17_ : Below w.heap.size w w95)); clear HO_110000; clear BK104; clear BK105; clear BK109; clear HB; have HO_110000 := n0_; have BK104 := n1_; have BK105 := n2_; have BK109 := n3_; have HB := n4_; clear n0_ n1_ n2_ n3_ n4_; clear hg hw hp_) | go_in))
                                          try (go_step3; go_wp2_with (first | ((with_reducible refine gate_store (t := 3) (p := 61) rfl ?_); (try (rw [drewN_self wr]; generalize hq_ : World.drewN wr _ = wr; have n0_ := Aside0.mk (Kd.R_at hq_ HO_110000.out); have n1_ := Aside0.mk (blk_at hq_ BK104.out); have n2_ := Aside0.mk (blk_at hq_ BK105.out); have n3_ := Aside0.mk (blk_at hq_ BK109.out); have n4_ := Aside0.mk (below_at hq_ HB.out); clear hq_ HO_110000 BK104 BK105 BK109 HB; have HO_110000 := n0_; have BK104 := n1_; have BK105 := n2_; have BK109 := n3_; have HB := n4_; clear n0_ n1_ n2_ n3_ n4_; (try (have HP94 := Kd.R_putg HO_110000.out (x335_4 : Int) (wrap64 ((rd x110000_4 x335_4) + (ji71))))); (try (obtain ⟨hx87_0, hf87_0⟩ := Kd.R_celln 0 HO_110000.out (x335_4 : Int) (of_eq_true p87) (of_eq_true q87))))); refine store_event (t := 3) (p := 61) (v := ?vo_w95) (w1 := (wr.setCell ⟨go87, (x335_4 : Int).toNat, none⟩ (.int .i64 (wrap64 ((rd x110000_4 x335_4) + (ji71)))))) ?hg ?ho ?hn ?hr ?_; (case ho => rfl); (case hg => rfl); (case hn => rfl); (case hr => first | (go_simp; done) | (go_simp; rfl)); intro w95 hw; have hg : wr.grownBy w95 (some go87) := (by rw [hw]; exact HP94.2); have hp_ : Kd.R (Kd.int .i64) 3 w95 w.heap.size (fun k_ => k_ ≠ gb104) (.slice (some ⟨go87, 0, none⟩) x110000_4.length co93) y117 := pmAx3_18_; clear HP94; have n0_ := Aside0.mk (hp_); have n1_ := Aside0.mk (blk_grown (g := gb104) (o := .cells #[.int .i64 x105000_2] 3 (0, 0)) pmAx3_0_ hg (Kd.R_away HO_110000.out (fun _ hk => hk))); have n2_ := Aside0.mk (blk_grown (g := gb105) (o := .cells #[.slice (some ad114) l1.length c1] 22 (0, 0)) pmAx3_2_ hg (Kd.R_ne HO_110000.out BK105.out (by decide))); have n3_ := Aside0.mk (blk_grown (g := gb109) (o := .cells #[.slice (some ⟨go87, 0, none⟩) x110000_4.length co93] 22 (0, 0)) pmAx3_9_ hg (Kd.R_ne HO_110000.out BK109.out (by decide))); have n4_ := Aside0.mk ((pmAx3_17_ : Below w.heap.size w w95)); clear HO_110000; clear BK104; clear BK105; clear BK109; clear HB; have HO_110000 := n0_; have BK104 := n1_; have BK105 := n2_; have BK109 := n3_; have HB := n4_; clear n0_ n1_ n2_ n3_ n4_; clear hg hw hp_) | go_in))
                                          repeat (first | (go_quiet (first | ((with_reducible refine gate_store (t := 3) (p := 61) rfl ?_); (try (rw [drewN_self wr]; generalize hq_ : World.drewN wr _ = wr; have n0_ := Aside0.mk (Kd.R_at hq_ HO_110000.out); have n1_ := Aside0.mk (blk_at hq_ BK104.out); have n2_ := Aside0.mk (blk_at hq_ BK105.out); have n3_ := Aside0.mk (blk_at hq_ BK109.out); have n4_ := Aside0.mk (below_at hq_ HB.out); clear hq_ HO_110000 BK104 BK105 BK109 HB; have HO_110000 := n0_; have BK104 := n1_; have BK105 := n2_; have BK109 := n3_; have HB := n4_; clear n0_ n1_ n2_ n3_ n4_; (try (have HP94 := Kd.R_putg HO_110000.out (x335_4 : Int) (wrap64 ((rd x110000_4 x335_4) + (ji71))))); (try (obtain ⟨hx87_0, hf87_0⟩ := Kd.R_celln 0 HO_110000.out (x335_4 : Int) (of_eq_true p87) (of_eq_true q87))))); refine store_event (t := 3) (p := 61) (v := ?vo_w95) (w1 := (wr.setCell ⟨go87, (x335_4 : Int).toNat, none⟩ (.int .i64 (wrap64 ((rd x110000_4 x335_4) + (ji71)))))) ?hg ?ho ?hn ?hr ?_; (case ho => rfl); (case hg => rfl); (case hn => rfl); (case hr => first | (go_simp; done) | (go_simp; rfl)); intro w95 hw; have hg : wr.grownBy w95 (some go87) := (by rw [hw]; exact HP94.2); have hp_ : Kd.R (Kd.int .i64) 3 w95 w.heap.size (fun k_ => k_ ≠ gb104) (.slice (some ⟨go87, 0, none⟩) x110000_4.length co93) y117 := pmAx3_18_; clear HP94; have n0_ := Aside0.mk (hp_); have n1_ := Aside0.mk (blk_grown (g := gb104) (o := .cells #[.int .i64 x105000_2] 3 (0, 0)) pmAx3_0_ hg (Kd.R_away HO_110000.out (fun _ hk => hk))); have n2_ := Aside0.mk (blk_grown (g := gb105) (o := .cells #[.slice (some ad114) l1.length c1] 22 (0, 0)) pmAx3_2_ hg (Kd.R_ne HO_110000.out BK105.out (by decide))); have n3_ := Aside0.mk (blk_grown (g := gb109) (o := .cells #[.slice (some ⟨go87, 0, none⟩) x110000_4.length co93] 22 (0, 0)) pmAx3_9_ hg (Kd.R_ne HO_110000.out BK109.out (by decide))); have n4_ := Aside0.mk ((pmAx3_17_ : Below w.heap.size w w95)); clear HO_110000; clear BK104; clear BK105; clear BK109; clear HB; have HO_110000 := n0_; have BK104 := n1_; have BK105 := n2_; have BK109 := n3_; have HB := n4_; clear n0_ n1_ n2_ n3_ n4_; clear hg hw hp_) | go_in); try go_wp2_with (first | ((with_reducible refine gate_store (t := 3) (p := 61) rfl ?_); (try (rw [drewN_self wr]; generalize hq_ : World.drewN wr _ = wr; have n0_ := Aside0.mk (Kd.R_at hq_ HO_110000.out); have n1_ := Aside0.mk (blk_at hq_ BK104.out); have n2_ := Aside0.mk (blk_at hq_ BK105.out); have n3_ := Aside0.mk (blk_at hq_ BK109.out); have n4_ := Aside0.mk (below_at hq_ HB.out); clear hq_ HO_110000 BK104 BK105 BK109 HB; have HO_110000 := n0_; have BK104 := n1_; have BK105 := n2_; have BK109 := n3_; have HB := n4_; clear n0_ n1_ n2_ n3_ n4_; (try (have HP94 := Kd.R_putg HO_110000.out (x335_4 : Int) (wrap64 ((rd x110000_4 x335_4) + (ji71))))); (try (obtain ⟨hx87_0, hf87_0⟩ := Kd.R_celln 0 HO_110000.out (x335_4 : Int) (of_eq_true p87) (of_eq_true q87))))); refine store_event (t := 3) (p := 61) (v := ?vo_w95) (w1 := (wr.setCell ⟨go87, (x335_4 : Int).toNat, none⟩ (.int .i64 (wrap64 ((rd x110000_4 x335_4) + (ji71)))))) ?hg ?ho ?hn ?hr ?_; (case ho => rfl); (case hg => rfl); (case hn => rfl); (case hr => first | (go_simp; done) | (go_simp; rfl)); intro w95 hw; have hg : wr.grownBy w95 (some go87) := (by rw [hw]; exact HP94.2); have hp_ : Kd.R (Kd.int .i64) 3 w95 w.heap.size (fun k_ => k_ ≠ gb104) (.slice (some ⟨go87, 0, none⟩) x110000_4.length co93) y117 := pmAx3_18_; clear HP94; have n0_ := Aside0.mk (hp_); have n1_ := Aside0.mk (blk_grown (g := gb104) (o := .cells #[.int .i64 x105000_2] 3 (0, 0)) pmAx3_0_ hg (Kd.R_away HO_110000.out (fun _ hk => hk))); have n2_ := Aside0.mk (blk_grown (g := gb105) (o := .cells #[.slice (some ad114) l1.length c1] 22 (0, 0)) pmAx3_2_ hg (Kd.R_ne HO_110000.out BK105.out (by decide))); have n3_ := Aside0.mk (blk_grown (g := gb109) (o := .cells #[.slice (some ⟨go87, 0, none⟩) x110000_4.length co93] 22 (0, 0)) pmAx3_9_ hg (Kd.R_ne HO_110000.out BK109.out (by decide))); have n4_ := Aside0.mk ((pmAx3_17_ : Below w.heap.size w w95)); clear HO_110000; clear BK104; clear BK105; clear BK109; clear HB; have HO_110000 := n0_; have BK104 := n1_; have BK105 := n2_; have BK109 := n3_; have HB := n4_; clear n0_ n1_ n2_ n3_ n4_; clear hg hw hp_) | go_in)) | (rw [Exit.noGoto_ret]; try go_wp2_with (first | ((with_reducible refine gate_store (t := 3) (p := 61) rfl ?_); (try (rw [drewN_self wr]; generalize hq_ : World.drewN wr _ = wr; have n0_ := Aside0.mk (Kd.R_at hq_ HO_110000.out); have n1_ := Aside0.mk (blk_at hq_ BK104.out); have n2_ := Aside0.mk (blk_at hq_ BK105.out); have n3_ := Aside0.mk (blk_at hq_ BK109.out); have n4_ := Aside0.mk (below_at hq_ HB.out); clear hq_ HO_110000 BK104 BK105 BK109 HB; have HO_110000 := n0_; have BK104 := n1_; have BK105 := n2_; have BK109 := n3_; have HB := n4_; clear n0_ n1_ n2_ n3_ n4_; (try (have HP94 := Kd.R_putg HO_110000.out (x335_4 : Int) (wrap64 ((rd x110000_4 x335_4) + (ji71))))); (try (obtain ⟨hx87_0, hf87_0⟩ := Kd.R_celln 0 HO_110000.out (x335_4 : Int) (of_eq_true p87) (of_eq_true q87))))); refine store_event (t := 3) (p := 61) (v := ?vo_w95) (w1 := (wr.setCell ⟨go87, (x335_4 : Int).toNat, none⟩ (.int .i64 (wrap64 ((rd x110000_4 x335_4) + (ji71)))))) ?hg ?ho ?hn ?hr ?_; (case ho => rfl); (case hg => rfl); (case hn => rfl); (case hr => first | (go_simp; done) | (go_simp; rfl)); intro w95 hw; have hg : wr.grownBy w95 (some go87) := (by rw [hw]; exact HP94.2); have hp_ : Kd.R (Kd.int .i64) 3 w95 w.heap.size (fun k_ => k_ ≠ gb104) (.slice (some ⟨go87, 0, none⟩) x110000_4.length co93) y117 := pmAx3_18_; clear HP94; have n0_ := Aside0.mk (hp_); have n1_ := Aside0.mk (blk_grown (g := gb104) (o := .cells #[.int .i64 x105000_2] 3 (0, 0)) pmAx3_0_ hg (Kd.R_away HO_110000.out (fun _ hk => hk))); have n2_ := Aside0.mk (blk_grown (g := gb105) (o := .cells #[.slice (some ad114) l1.length c1] 22 (0, 0)) pmAx3_2_ hg (Kd.R_ne HO_110000.out BK105.out (by decide))); have n3_ := Aside0.mk (blk_grown (g := gb109) (o := .cells #[.slice (some ⟨go87, 0, none⟩) x110000_4.length co93] 22 (0, 0)) pmAx3_9_ hg (Kd.R_ne HO_110000.out BK109.out (by decide))); have n4_ := Aside0.mk ((pmAx3_17_ : Below w.heap.size w w95)); clear HO_110000; clear BK104; clear BK105; clear BK109; clear HB; have HO_110000 := n0_; have BK104 := n1_; have BK105 := n2_; have BK109 := n3_; have HB := n4_; clear n0_ n1_ n2_ n3_ n4_; clear hg hw hp_) | go_in)) | (go_step3; try go_wp2_with (first | ((with_reducible refine gate_store (t := 3) (p := 61) rfl ?_); (try (rw [drewN_self wr]; generalize hq_ : World.drewN wr _ = wr; have n0_ := Aside0.mk (Kd.R_at hq_ HO_110000.out); have n1_ := Aside0.mk (blk_at hq_ BK104.out); have n2_ := Aside0.mk (blk_at hq_ BK105.out); have n3_ := Aside0.mk (blk_at hq_ BK109.out); have n4_ := Aside0.mk (below_at hq_ HB.out); clear hq_ HO_110000 BK104 BK105 BK109 HB; have HO_110000 := n0_; have BK104 := n1_; have BK105 := n2_; have BK109 := n3_; have HB := n4_; clear n0_ n1_ n2_ n3_ n4_; (try (have HP94 := Kd.R_putg HO_110000.out (x335_4 : Int) (wrap64 ((rd x110000_4 x335_4) + (ji71))))); (try (obtain ⟨hx87_0, hf87_0⟩ := Kd.R_celln 0 HO_110000.out (x335_4 : Int) (of_eq_true p87) (of_eq_true q87))))); refine store_event (t := 3) (p := 61) (v := ?vo_w95) (w1 := (wr.setCell ⟨go87, (x335_4 : Int).toNat, none⟩ (.int .i64 (wrap64 ((rd x110000_4 x335_4) + (ji71)))))) ?hg ?ho ?hn ?hr ?_; (case ho => rfl); (case hg => rfl); (case hn => rfl); (case hr => first | (go_simp; done) | (go_simp; rfl)); intro w95 hw; have hg : wr.grownBy w95 (some go87) := (by rw [hw]; exact HP94.2); have hp_ : Kd.R (Kd.int .i64) 3 w95 w.heap.size (fun k_ => k_ ≠ gb104) (.slice (some ⟨go87, 0, none⟩) x110000_4.length co93) y117 := pmAx3_18_; clear HP94; have n0_ := Aside0.mk (hp_); have n1_ := Aside0.mk (blk_grown (g := gb104) (o := .cells #[.int .i64 x105000_2] 3 (0, 0)) pmAx3_0_ hg (Kd.R_away HO_110000.out (fun _ hk => hk))); have n2_ := Aside0.mk (blk_grown (g := gb105) (o := .cells #[.slice (some ad114) l1.length c1] 22 (0, 0)) pmAx3_2_ hg (Kd.R_ne HO_110000.out BK105.out (by decide))); have n3_ := Aside0.mk (blk_grown (g := gb109) (o := .cells #[.slice (some ⟨go87, 0, none⟩) x110000_4.length co93] 22 (0, 0)) pmAx3_9_ hg (Kd.R_ne HO_110000.out BK109.out (by decide))); have n4_ := Aside0.mk ((pmAx3_17_ : Below w.heap.size w w95)); clear HO_110000; clear BK104; clear BK105; clear BK109; clear HB; have HO_110000 := n0_; have BK104 := n1_; have BK105 := n2_; have BK109 := n3_; have HB := n4_; clear n0_ n1_ n2_ n3_ n4_; clear hg hw hp_) | go_in)))
                                          go_roundg k4
                                          case measure => have := HJ4.out; have := HK2.out; have := HK3.out; have := HK4.out; omega
                                          case rel => exact ⟨(wrap64 (x307_4 - (ji71))), (wrap64 (x335_4 + 1)), (y117), (.slice (some ⟨go87, 0, none⟩) x110000_4.length co93), (by first | rfl | (simp; done) | (simp only [← hji71] <;> (first | rfl | simp)) | (simp [*]; done)), pmAx3_12_, H', ⟨by have := HJ4.out; have := HK2.out; have := HK3.out; have := HK4.out; omega⟩, ⟨by (with_reducible repeat (first | apply Kd.R_alloc | apply Kd.R_drewN | apply Kd.R_drew)); exact HO_110000.out⟩, ⟨by (with_reducible repeat (first | refine blk_drewN ?_ _ | refine blk_drew ?_ | refine blk_alloc ?_ _)); exact BK104.out⟩, ⟨by (with_reducible repeat (first | refine blk_drewN ?_ _ | refine blk_drew ?_ | refine blk_alloc ?_ _)); exact BK105.out⟩, ⟨by (with_reducible repeat (first | refine blk_drewN ?_ _ | refine blk_drew ?_ | refine blk_alloc ?_ _)); exact BK109.out⟩, ⟨by repeat (first | (with_reducible first | exact HB.out | apply below_alloc | apply pw_below_drewN | apply below_drew1 | refine below_set ?_ GE104.out | refine below_set ?_ GE105.out | refine below_set ?_ GE109.out) | exact HB.out)⟩⟩
                                    · rw [if_neg c70] at H
                                      exact absurd H (by simp)
                                  · rw [if_neg c69] at H
                                    exact absurd H (by simp)
                                · rw [if_neg c68] at H
                                  exact absurd H (by simp)
                              · rw [if_neg c66] at H
                                have c66b0 : decide (x335_4 < (l1.length : Int)) = false := decide_eq_false c66
                                clear c66
                                have H' := Aside0.mk H
                                clear H
                                have hnb96 := NB104_105.out
                                have hnc96 := NB105_104.out
                                have hnb97 := NB104_109.out
                                have hnc97 := NB109_104.out
                                have hcz98_0 : wr.cell? ⟨gb104, 0, none⟩ = some (.int .i64 x105000_2) := (blk_cell BK104.out 0).trans rfl
                                have hfz98_0 := blk_frozen BK104.out 0
                                go_wp2
                                try (go_step3; go_wp2)
                                try (go_step3; go_wp2)
                                try (go_step3; go_wp2)
                                try (rw [Exit.noGoto_ret]; go_wp2)
                                try (go_step3; go_wp2)
                                repeat (first | (go_quiet (fail); try go_wp2) | (rw [Exit.noGoto_ret]; try go_wp2) | (go_step3; try go_wp2))
                                go_roundg k4
                                case measure => have := HJ4.out; have := HK2.out; have := HK3.out; have := HK4.out; omega
                                case rel => exact ⟨(x307_4), (x110000_4), (u110000), H', ⟨by have := HJ4.out; have := HK2.out; have := HK3.out; have := HK4.out; omega⟩, ⟨by (with_reducible repeat (first | apply Kd.R_alloc | apply Kd.R_drewN | apply Kd.R_drew)); exact Kd.R_mono (Kd.R_far (p := ⟨gb104, 0, none⟩) (Kd.R_mono HO_110000.out (fun k_ hk => (⟨hk, hk⟩ : _ ∧ k_ ≠ gb104))) (fun _ hk => hk.2) (.int .i64 x307_4)) (fun _ hk => hk.1)⟩, ⟨by (with_reducible repeat (first | refine blk_drewN ?_ _ | refine blk_drew ?_ | refine blk_alloc ?_ _)); refine blk_put (cs := #[.int .i64 x105000_2]) ?_ 0 _ rfl; (with_reducible repeat (first | refine blk_drewN ?_ _ | refine blk_drew ?_ | refine blk_alloc ?_ _)); exact BK104.out⟩, ⟨by (with_reducible repeat (first | refine blk_drewN ?_ _ | refine blk_drew ?_ | refine blk_alloc ?_ _)); refine blk_far ?_ NB105_104.out _; (with_reducible repeat (first | refine blk_drewN ?_ _ | refine blk_drew ?_ | refine blk_alloc ?_ _)); exact BK105.out⟩, ⟨by (with_reducible repeat (first | refine blk_drewN ?_ _ | refine blk_drew ?_ | refine blk_alloc ?_ _)); refine blk_far ?_ NB109_104.out _; (with_reducible repeat (first | refine blk_drewN ?_ _ | refine blk_drew ?_ | refine blk_alloc ?_ _)); exact BK109.out⟩, ⟨by repeat (first | (with_reducible first | exact HB.out | apply below_alloc | apply pw_below_drewN | apply below_drew1 | refine below_set ?_ GE104.out | refine below_set ?_ GE105.out | refine below_set ?_ GE109.out) | exact HB.out)⟩⟩
                · rw [if_neg c34] at H
                  have c34b0 : decide (0 < x105000_2) = false := decide_eq_false c34
                  clear c34
                  obtain rfl := Option.some.inj H
                  have hnb99 := NB104_105.out
                  have hnc99 := NB105_104.out
                  have hnb100 := NB104_109.out
                  have hnc100 := NB109_104.out
                  have hcz101_0 : wr.cell? ⟨gb104, 0, none⟩ = some (.int .i64 x105000_2) := (blk_cell BK104.out 0).trans rfl
                  have hfz101_0 := blk_frozen BK104.out 0
                  have hnb102 := NB109_105.out
                  have hnc102 := NB105_109.out
                  have hcz103_0 : wr.cell? ⟨gb109, 0, none⟩ = some (u110000) := (blk_cell BK109.out 0).trans rfl
                  have hfz103_0 := blk_frozen BK109.out 0
                  go_wp2
                  try (go_step3; go_wp2)
                  try (go_step3; go_wp2)
                  try (go_step3; go_wp2)
                  try (rw [Exit.noGoto_ret]; go_wp2)
                  try (go_step3; go_wp2)
                  repeat (first | (go_quiet (fail); try go_wp2) | (rw [Exit.noGoto_ret]; try go_wp2) | (go_step3; try go_wp2))
                  try rw [Exit.noGoto_ret]
                  go_ret
                  exact ⟨_, by first | rfl | (simp [errW_none, errW_some] <;> rfl) | (simp [*, errW_none, errW_some] <;> rfl), by (with_reducible repeat (first | apply Kd.R_alloc | apply Kd.R_drewN | apply Kd.R_drew)); exact Kd.R_mono HO_110000.out (fun _ hk => trivial), by repeat (first | (with_reducible first | exact HB.out | apply below_alloc | apply pw_below_drewN | apply below_drew1 | refine below_set ?_ GE104.out | refine below_set ?_ GE105.out | refine below_set ?_ GE109.out) | exact HB.out)⟩
    · rw [if_neg c4] at H
      exact absurd H (by simp)
  · rw [if_neg c3] at H
    exact absurd H (by simp)

end Go.Proofs.Ytecccaniopkphaa.PA
