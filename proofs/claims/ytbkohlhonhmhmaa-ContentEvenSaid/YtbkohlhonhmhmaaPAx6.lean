-- written by a program of this session (a print of the translation with changes of its own)
import Derived.Test.YtbkohlhonhmhmaaPAx0
import Derived.Test.YtbkohlhonhmhmaaPAx4
import Derived.Test.YtbkohlhonhmhmaaPAx5
namespace Go.Proofs.Ytbkohlhonhmhmaa.PA
open Go.RowKit Go.Proofs.YtbkohlhonhmhmaaW.PrintWords Go.Proofs.YtbkohlhonhmhmaaW.PrintLast Go.Proofs.YtbkohlhonhmhmaaW.PrintMore
theorem pmAx6_0_ {P : Prop} (h : P := by (with_reducible repeat (first | refine blk_drewN ?_ _ | refine blk_drew ?_ | refine blk_alloc ?_ _)); refine blk_put (cs := #[.int .i64 ((rd_T57 l0_1 x39_2).f0.f0), .int .i64 ((rd_T57 l0_1 x39_2).f0.f1), .int .i64 ((rd_T57 l0_1 x39_2).f1.f0), .int .i64 ((rd_T57 l0_1 x39_2).f1.f1), .bool ((rd_T57 l0_1 x39_2).f2), .int .i64 ((rd_T57 l0_1 x39_2).f3.f0), .int .i64 0]) ?_ 6 _ rfl; (with_reducible repeat (first | refine blk_drewN ?_ _ | refine blk_drew ?_ | refine blk_alloc ?_ _)); refine blk_put (cs := #[.int .i64 ((rd_T57 l0_1 x39_2).f0.f0), .int .i64 ((rd_T57 l0_1 x39_2).f0.f1), .int .i64 ((rd_T57 l0_1 x39_2).f1.f0), .int .i64 ((rd_T57 l0_1 x39_2).f1.f1), .bool ((rd_T57 l0_1 x39_2).f2), .int .i64 0, .int .i64 0]) ?_ 5 _ rfl; (with_reducible repeat (first | refine blk_drewN ?_ _ | refine blk_drew ?_ | refine blk_alloc ?_ _)); refine blk_put (cs := #[.int .i64 ((rd_T57 l0_1 x39_2).f0.f0), .int .i64 ((rd_T57 l0_1 x39_2).f0.f1), .int .i64 ((rd_T57 l0_1 x39_2).f1.f0), .int .i64 ((rd_T57 l0_1 x39_2).f1.f1), .bool false, .int .i64 0, .int .i64 0]) ?_ 4 _ rfl; (with_reducible repeat (first | refine blk_drewN ?_ _ | refine blk_drew ?_ | refine blk_alloc ?_ _)); refine blk_put (cs := #[.int .i64 ((rd_T57 l0_1 x39_2).f0.f0), .int .i64 ((rd_T57 l0_1 x39_2).f0.f1), .int .i64 ((rd_T57 l0_1 x39_2).f1.f0), .int .i64 0, .bool false, .int .i64 0, .int .i64 0]) ?_ 3 _ rfl; (with_reducible repeat (first | refine blk_drewN ?_ _ | refine blk_drew ?_ | refine blk_alloc ?_ _)); refine blk_put (cs := #[.int .i64 ((rd_T57 l0_1 x39_2).f0.f0), .int .i64 ((rd_T57 l0_1 x39_2).f0.f1), .int .i64 0, .int .i64 0, .bool false, .int .i64 0, .int .i64 0]) ?_ 2 _ rfl; (with_reducible repeat (first | refine blk_drewN ?_ _ | refine blk_drew ?_ | refine blk_alloc ?_ _)); refine blk_put (cs := #[.int .i64 ((rd_T57 l0_1 x39_2).f0.f0), .int .i64 0, .int .i64 0, .int .i64 0, .bool false, .int .i64 0, .int .i64 0]) ?_ 1 _ rfl; (with_reducible repeat (first | refine blk_drewN ?_ _ | refine blk_drew ?_ | refine blk_alloc ?_ _)); refine blk_put (cs := #[.int .i64 0, .int .i64 0, .int .i64 0, .int .i64 0, .bool false, .int .i64 0, .int .i64 0]) ?_ 0 _ rfl; (with_reducible repeat (first | refine blk_drewN ?_ _ | refine blk_drew ?_ | refine blk_alloc ?_ _)); exact BK125.out) : P := h
theorem pmAx6_1_ {P : Prop} (h : P := by (with_reducible repeat (first | refine blk_drewN ?_ _ | refine blk_drew ?_ | refine blk_alloc ?_ _)); exact BK123.out) : P := h
theorem pmAx6_2_ {P : Prop} (h : P := by repeat (first | (with_reducible first | exact HB.out | apply below_alloc | apply pw_below_drewN | apply below_drew1 | refine below_set ?_ GE123.out | refine below_set ?_ GE125.out) | exact HB.out)) : P := h
theorem pmAx6_3_ {P : Prop} (h : P := by repeat (first | (with_reducible first | exact HB.out | apply below_alloc | apply pw_below_drewN | apply below_drew1 | refine below_set ?_ GE123.out) | exact HB.out)) : P := h
theorem pmAx6_4_ {P : Prop} (h : P := by (with_reducible repeat (first | refine blk_drewN ?_ _ | refine blk_drew ?_ | refine blk_alloc ?_ _)); refine blk_far ?_ NB123_125.out _; (with_reducible repeat (first | refine blk_drewN ?_ _ | refine blk_drew ?_ | refine blk_alloc ?_ _)); refine blk_far ?_ NB123_125.out _; (with_reducible repeat (first | refine blk_drewN ?_ _ | refine blk_drew ?_ | refine blk_alloc ?_ _)); refine blk_far ?_ NB123_125.out _; (with_reducible repeat (first | refine blk_drewN ?_ _ | refine blk_drew ?_ | refine blk_alloc ?_ _)); refine blk_far ?_ NB123_125.out _; (with_reducible repeat (first | refine blk_drewN ?_ _ | refine blk_drew ?_ | refine blk_alloc ?_ _)); refine blk_far ?_ NB123_125.out _; (with_reducible repeat (first | refine blk_drewN ?_ _ | refine blk_drew ?_ | refine blk_alloc ?_ _)); refine blk_far ?_ NB123_125.out _; (with_reducible repeat (first | refine blk_drewN ?_ _ | refine blk_drew ?_ | refine blk_alloc ?_ _)); refine blk_far ?_ NB123_125.out _; (with_reducible repeat (first | refine blk_drewN ?_ _ | refine blk_drew ?_ | refine blk_alloc ?_ _)); exact BK123.out) : P := h
theorem pmAx6_5_ {P : Prop} (h : P := by first | (with_reducible assumption) | assumption) : P := h
theorem pmAx6_6_ {P : Prop} (h : P := by (try simp only [List.map_toArray, List.map_cons, List.map_nil]); first | done | rfl | (simp only [List.length_drop, List.length_take]; rfl)) : P := h
theorem pmAx6_7_ {P : Prop} (h : P := by have := World.block_lt_of_cell? _ _ hx126_0; first | rwa [add_block] at this | exact this) : P := h
theorem pmAx6_8_ {P : Prop} (h : P := by (with_reducible repeat (first | refine blk_drewN ?_ _ | refine blk_drew ?_ | refine blk_alloc ?_ _)); exact BK125.out) : P := h
theorem pmAx6_9_ {P : Prop} (h : P := by first | rfl | (simp; done) | (simp [*]; done)) : P := h
theorem pmAx6_10_ {P : Prop} (h : P := by repeat (first | (with_reducible first | exact HB.out | apply below_alloc | apply pw_below_drewN | apply below_drew1) | exact HB.out)) : P := h
attribute [local go_sem] run_index_arr max2_int min2_int max_two min_two max_three min_three max_four min_four   -- for this text's walks alone
set_option linter.unusedVariables false
set_option linter.unusedSimpArgs false

/-! ### implicit_Good: function 22 -/
mutual
def implicit_Good.j0 : Nat → Bool → Int → List (S57) → List Bool → List Int → Option (Bool)
  | 0, _, _, _, _, _ => none
  | k + 1, x35, x124000, x124001, x124002, x124003 => if x35 = true then (some false) else (implicit_Good.l0 k x124001 (x124001.length : Int) 0 x124000 x124001 x124002 x124003)
def implicit_Good.l0 : Nat → List (S57) → Int → Int → Int → List (S57) → List Bool → List Int → Option (Bool)
  | 0, _, _, _, _, _, _, _ => none
  | k + 1, x37, x38, x39, x124000, x124001, x124002, x124003 => if x39 < x38 then (if 0 ≤ x39 then (if x39 < (x37.length : Int) then (if x39 = 0 then (implicit_Good.j2 k x39 true x37 x38 x39 x124000 x124001 x124002 x124003 ((rd_T57 x37 x39).f0.f0) ((rd_T57 x37 x39).f0.f1) ((rd_T57 x37 x39).f1.f0) ((rd_T57 x37 x39).f1.f1) ((rd_T57 x37 x39).f2) ((rd_T57 x37 x39).f3.f0) ((rd_T57 x37 x39).f3.f1)) else (if x39 < (x124002.length : Int) then (implicit_Good.j2 k x39 (rdOf false x124002 x39) x37 x38 x39 x124000 x124001 x124002 x124003 ((rd_T57 x37 x39).f0.f0) ((rd_T57 x37 x39).f0.f1) ((rd_T57 x37 x39).f1.f0) ((rd_T57 x37 x39).f1.f1) ((rd_T57 x37 x39).f2) ((rd_T57 x37 x39).f3.f0) ((rd_T57 x37 x39).f3.f1)) else (none))) else (none)) else (none)) else (some true)
def implicit_Good.j2 : Nat → Int → Bool → List (S57) → Int → Int → Int → List (S57) → List Bool → List Int → Int → Int → Int → Int → Bool → Int → Int → Option (Bool)
  | 0, _, _, _, _, _, _, _, _, _, _, _, _, _, _, _, _ => none
  | k + 1, x4, x6, x37, x38, x39, x124000, x124001, x124002, x124003, x126000, x126001, x126002, x126003, x126004, x126005, x126006 => (track_Right.f k x126000 x126001 x126002 x126003 x126004 x126005 x126006).bind fun t127 => (if t127 = true then (if 0 ≤ x4 then (if x4 < (x124003.length : Int) then ((implicit_within.f (rd x124003 x4)).bind fun t129 => (if t129 = true then (if x6 = true then (if (rd x124003 x4) > 0 then (some false) else (implicit_Good.l0 k x37 x38 (wrap64 (x39 + 1)) x124000 x124001 x124002 x124003)) else (implicit_Good.l0 k x37 x38 (wrap64 (x39 + 1)) x124000 x124001 x124002 x124003)) else (some false))) else (none)) else (none)) else (some false))
end
def implicit_Good.f (k : Nat) (a0_0 : Int) (l0_1 : List (S57)) (l0_2 : List Bool) (l0_3 : List Int) : Option (Bool) := if (l0_1.length : Int) > 40000 then (implicit_Good.j0 k true a0_0 l0_1 l0_2 l0_3) else (if (l0_2.length : Int) = (l0_1.length : Int) then (if (l0_3.length : Int) = (l0_1.length : Int) then (if a0_0 > 0 then (implicit_Good.j0 k true a0_0 l0_1 l0_2 l0_3) else (implicit_Good.j0 k (decide (a0_0 < (-10000))) a0_0 l0_1 l0_2 l0_3)) else (implicit_Good.j0 k true a0_0 l0_1 l0_2 l0_3)) else (implicit_Good.j0 k true a0_0 l0_1 l0_2 l0_3))
theorem implicit_Good.mono_l : ∀ k, (∀ y0 y1 y2 y3 y4, LeO (implicit_Good.j0 k y0 y1 y2 y3 y4) (implicit_Good.j0 (k + 1) y0 y1 y2 y3 y4)) ∧ (∀ y0 y1 y2 y3 y4 y5 y6, LeO (implicit_Good.l0 k y0 y1 y2 y3 y4 y5 y6) (implicit_Good.l0 (k + 1) y0 y1 y2 y3 y4 y5 y6)) ∧ (∀ y0 y1 y2 y3 y4 y5 y6 y7 y8 y9 y10 y11 y12 y13 y14 y15, LeO (implicit_Good.j2 k y0 y1 y2 y3 y4 y5 y6 y7 y8 y9 y10 y11 y12 y13 y14 y15) (implicit_Good.j2 (k + 1) y0 y1 y2 y3 y4 y5 y6 y7 y8 y9 y10 y11 y12 y13 y14 y15))
  | 0 => ⟨fun _ _ _ _ _ r h => by simp [implicit_Good.j0] at h, fun _ _ _ _ _ _ _ r h => by simp [implicit_Good.l0] at h, fun _ _ _ _ _ _ _ _ _ _ _ _ _ _ _ _ r h => by simp [implicit_Good.j2] at h⟩
  | k + 1 => by
    obtain ⟨ih0, ih1, ih2⟩ := implicit_Good.mono_l k
    refine ⟨?_, ?_, ?_⟩
    · intro y0 y1 y2 y3 y4
      unfold implicit_Good.j0
      repeat' first
      | (with_reducible exact ih0 _ _ _ _ _)
      | (with_reducible exact ih1 _ _ _ _ _ _ _)
      | (with_reducible exact ih2 _ _ _ _ _ _ _ _ _ _ _ _ _ _ _ _)
      | (with_reducible exact track_Right.mono _ _ _ _ _ _ _ _)
      | (with_reducible exact LeO.refl _)
      | (with_reducible exact LeO.none _)
      | (with_reducible refine LeO.ite ?_ ?_)
      | (with_reducible refine LeO.bind ?_ (fun _ => ?_))
      | exact ih0 _ _ _ _ _
      | exact ih1 _ _ _ _ _ _ _
      | exact ih2 _ _ _ _ _ _ _ _ _ _ _ _ _ _ _ _
      | exact track_Right.mono _ _ _ _ _ _ _ _
      | exact LeO.none _
      | refine LeO.ite ?_ ?_
      | refine LeO.bind ?_ (fun _ => ?_)
    · intro y0 y1 y2 y3 y4 y5 y6
      unfold implicit_Good.l0
      repeat' first
      | (with_reducible exact ih0 _ _ _ _ _)
      | (with_reducible exact ih1 _ _ _ _ _ _ _)
      | (with_reducible exact ih2 _ _ _ _ _ _ _ _ _ _ _ _ _ _ _ _)
      | (with_reducible exact track_Right.mono _ _ _ _ _ _ _ _)
      | (with_reducible exact LeO.refl _)
      | (with_reducible exact LeO.none _)
      | (with_reducible refine LeO.ite ?_ ?_)
      | (with_reducible refine LeO.bind ?_ (fun _ => ?_))
      | exact ih0 _ _ _ _ _
      | exact ih1 _ _ _ _ _ _ _
      | exact ih2 _ _ _ _ _ _ _ _ _ _ _ _ _ _ _ _
      | exact track_Right.mono _ _ _ _ _ _ _ _
      | exact LeO.none _
      | refine LeO.ite ?_ ?_
      | refine LeO.bind ?_ (fun _ => ?_)
    · intro y0 y1 y2 y3 y4 y5 y6 y7 y8 y9 y10 y11 y12 y13 y14 y15
      unfold implicit_Good.j2
      repeat' first
      | (with_reducible exact ih0 _ _ _ _ _)
      | (with_reducible exact ih1 _ _ _ _ _ _ _)
      | (with_reducible exact ih2 _ _ _ _ _ _ _ _ _ _ _ _ _ _ _ _)
      | (with_reducible exact track_Right.mono _ _ _ _ _ _ _ _)
      | (with_reducible exact LeO.refl _)
      | (with_reducible exact LeO.none _)
      | (with_reducible refine LeO.ite ?_ ?_)
      | (with_reducible refine LeO.bind ?_ (fun _ => ?_))
      | exact ih0 _ _ _ _ _
      | exact ih1 _ _ _ _ _ _ _
      | exact ih2 _ _ _ _ _ _ _ _ _ _ _ _ _ _ _ _
      | exact track_Right.mono _ _ _ _ _ _ _ _
      | exact LeO.none _
      | refine LeO.ite ?_ ?_
      | refine LeO.bind ?_ (fun _ => ?_)
theorem implicit_Good.mono : ∀ a0 a1 a2 a3 k, LeO (implicit_Good.f k a0 a1 a2 a3) (implicit_Good.f (k + 1) a0 a1 a2 a3) := by
  intro a0 a1 a2 a3 k
  obtain ⟨ih0, ih1, ih2⟩ := implicit_Good.mono_l k
  unfold implicit_Good.f
  repeat' first
      | (with_reducible exact ih0 _ _ _ _ _)
      | (with_reducible exact ih1 _ _ _ _ _ _ _)
      | (with_reducible exact ih2 _ _ _ _ _ _ _ _ _ _ _ _ _ _ _ _)
      | (with_reducible exact track_Right.mono _ _ _ _ _ _ _ _)
      | (with_reducible exact LeO.refl _)
      | (with_reducible exact LeO.none _)
      | (with_reducible refine LeO.ite ?_ ?_)
      | (with_reducible refine LeO.bind ?_ (fun _ => ?_))
      | exact ih0 _ _ _ _ _
      | exact ih1 _ _ _ _ _ _ _
      | exact ih2 _ _ _ _ _ _ _ _ _ _ _ _ _ _ _ _
      | exact track_Right.mono _ _ _ _ _ _ _ _
      | exact LeO.none _
      | refine LeO.ite ?_ ?_
      | refine LeO.bind ?_ (fun _ => ?_)
set_option maxHeartbeats 8000000 in
set_option maxRecDepth 100000 in
theorem implicit_Good.calls (k : Nat) (a0_0 : Int) (A0_1 : Option Addr) (c0_1 : Nat) (l0_1 : List (S57)) (A0_2 : Option Addr) (c0_2 : Nat) (l0_2 : List Bool) (A0_3 : Option Addr) (c0_3 : Nat) (l0_3 : List Int) (r : Bool) (w : World) (hr0_1 : Kd.C k57 w A0_1 l0_1.length l0_1) (hc0_1 : l0_1.length ≤ c0_1) (hr0_2 : Kd.C Kd.bool w A0_2 l0_2.length l0_2) (hc0_2 : l0_2.length ≤ c0_2) (hr0_3 : Kd.C (Kd.int .i64) w A0_3 l0_3.length l0_3) (hc0_3 : l0_3.length ≤ c0_3) (h : implicit_Good.f k a0_0 l0_1 l0_2 l0_3 = some r) :
    Calls Try.prog 22 #[.agg #[.int .i64 a0_0, .slice A0_1 l0_1.length c0_1, .slice A0_2 l0_2.length c0_2, .slice A0_3 l0_3.length c0_3]] w fun e w' => e = .returned (.bool r) ∧ Below w.heap.size w w' := by
  have hu26 := Try.underlying26
  have hu57 := Try.underlying57
  have HR0_1 := Aside0.mk hr0_1
  have HC0_1 := Aside0.mk hc0_1
  clear hr0_1 hc0_1
  have HR0_2 := Aside0.mk hr0_2
  have HC0_2 := Aside0.mk hc0_2
  clear hr0_2 hc0_2
  have HR0_3 := Aside0.mk hr0_3
  have HC0_3 := Aside0.mk hc0_3
  clear hr0_3 hc0_3
  have HB := Aside0.mk (Below.refl w.heap.size w)
  have H : (if (l0_1.length : Int) > 40000 then (implicit_Good.j0 k true a0_0 l0_1 l0_2 l0_3) else (if (l0_2.length : Int) = (l0_1.length : Int) then (if (l0_3.length : Int) = (l0_1.length : Int) then (if a0_0 > 0 then (implicit_Good.j0 k true a0_0 l0_1 l0_2 l0_3) else (implicit_Good.j0 k (decide (a0_0 < (-10000))) a0_0 l0_1 l0_2 l0_3)) else (implicit_Good.j0 k true a0_0 l0_1 l0_2 l0_3)) else (implicit_Good.j0 k true a0_0 l0_1 l0_2 l0_3))) = some r := h
  clear h
  have HC2 := Aside0.mk H
  clear H
  go_enter Try.func22, Try.ntmps22
  go_upto_region 2 with (first | ((with_reducible refine gate_dst (N := 1) rfl ?_); (try (refine gate_guard (by rfl) ?_; dsimp only)); refine box_event ?hg (N := 1) ?hd (cs := #[.int .i64 a0_0, .slice A0_1 l0_1.length c0_1, .slice A0_2 l0_2.length c0_2, .slice A0_3 l0_3.length c0_3]) (t := 26) ?hr ?_; (case hd => rfl); (case hg => rfl); (case hr => first | (go_simp; done) | (go_simp; rfl)); intro gb123 hg w3 hbox hb; have n0_ := Aside0.mk (below_step pmAx6_10_ hb); have n1_ := Aside0.mk (hbox); have n2_ := Aside0.mk ((by rw [hg]; exact (below_size pmAx6_10_) : w.heap.size ≤ gb123)); have n3_ := Aside0.mk ((by rw [hg]; exact (below_size pmAx6_10_) : w.heap.size ≤ gb123)); clear HB; have HB := n0_; have BK123 := n1_; have GW123 := n2_; have GE123 := n3_; clear n0_ n1_ n2_ n3_; clear hb hbox hg; have hcz4_0 : w3.cell? ⟨gb123, 0, none⟩ = some (.int .i64 a0_0) := (blk_cell BK123.out 0).trans rfl; have hcz4_1 : w3.cell? ⟨gb123, 1, none⟩ = some (.slice A0_1 l0_1.length c0_1) := (blk_cell BK123.out 1).trans rfl; have hcz4_2 : w3.cell? ⟨gb123, 2, none⟩ = some (.slice A0_2 l0_2.length c0_2) := (blk_cell BK123.out 2).trans rfl; have hcz4_3 : w3.cell? ⟨gb123, 3, none⟩ = some (.slice A0_3 l0_3.length c0_3) := (blk_cell BK123.out 3).trans rfl; have hfz4_0 := blk_frozen BK123.out 0; have hfz4_1 := blk_frozen BK123.out 1; have hfz4_2 := blk_frozen BK123.out 2; have hfz4_3 := blk_frozen BK123.out 3))
  (try simp only [Act.put, List.setIfInBounds_toArray, List.set_cons_zero, List.set_cons_succ])
  go_cut [35] (fun v35 wc => ∃ (kq : Nat) (x35_1 : Bool), v35 = .bool x35_1 ∧ Aside0 (implicit_Good.j0 kq x35_1 a0_0 l0_1 l0_2 l0_3 = some r) ∧ Aside0 (kq ≤ k) ∧ Aside0 (wc.heap[gb123]? = some (.cells #[.int .i64 a0_0, (.slice A0_1 l0_1.length c0_1), (.slice A0_2 l0_2.length c0_2), (.slice A0_3 l0_3.length c0_3)] 26 (0, 0))) ∧ Aside0 (Below w.heap.size w wc))
  case first =>
    have H := HC2.out
    clear HC2
    by_cases c5 : (l0_1.length : Int) > 40000
    · rw [if_pos c5] at H
      have c5b0 : decide (40000 < (l0_1.length : Int)) = true := decide_eq_true c5
      have c5b1 : decide (40000 < l0_1.length) = true := decide_eq_true (by omega)
      clear c5
      (first | rw [c5b0] | (simp only [i64_w, i32_w]; rw [c5b0]) | skip)
      have H' := Aside0.mk H
      clear H
      go_wp2
      go_meet
      case rel => exact ⟨_, (true), pmAx6_9_, H', ⟨by first | omega | exact Nat.le_refl _⟩, ⟨pmAx6_1_⟩, ⟨pmAx6_3_⟩⟩
    · rw [if_neg c5] at H
      have c5b0 : decide (40000 < (l0_1.length : Int)) = false := decide_eq_false c5
      have c5b1 : decide (40000 < l0_1.length) = false := decide_eq_false (by omega)
      clear c5
      (first | rw [c5b0] | (simp only [i64_w, i32_w]; rw [c5b0]) | skip)
      by_cases c6 : (l0_2.length : Int) = (l0_1.length : Int)
      · rw [if_pos c6] at H
        have c6b0 : ((l0_2.length : Int) == (l0_1.length : Int)) = true := beq_iff_eq.mpr c6
        have c6b1 : ((l0_2.length : Int) != (l0_1.length : Int)) = false := bne_eq_false_iff_eq.mpr c6
        have c6b2 : (l0_2.length == l0_1.length) = true := by first | simpa using c6 | (simp at c6 ⊢; omega)
        clear c6
        by_cases c7 : (l0_3.length : Int) = (l0_1.length : Int)
        · rw [if_pos c7] at H
          have c7b0 : ((l0_3.length : Int) == (l0_1.length : Int)) = true := beq_iff_eq.mpr c7
          have c7b1 : ((l0_3.length : Int) != (l0_1.length : Int)) = false := bne_eq_false_iff_eq.mpr c7
          have c7b2 : (l0_3.length == l0_1.length) = true := by first | simpa using c7 | (simp at c7 ⊢; omega)
          clear c7
          by_cases c8 : a0_0 > 0
          · rw [if_pos c8] at H
            have c8b0 : decide (0 < a0_0) = true := decide_eq_true c8
            clear c8
            have H' := Aside0.mk H
            clear H
            have hcz9_0 : w3.cell? ⟨gb123, 0, none⟩ = some (.int .i64 a0_0) := (blk_cell BK123.out 0).trans rfl
            have hcz9_1 : w3.cell? ⟨gb123, 1, none⟩ = some (.slice A0_1 l0_1.length c0_1) := (blk_cell BK123.out 1).trans rfl
            have hcz9_2 : w3.cell? ⟨gb123, 2, none⟩ = some (.slice A0_2 l0_2.length c0_2) := (blk_cell BK123.out 2).trans rfl
            have hcz9_3 : w3.cell? ⟨gb123, 3, none⟩ = some (.slice A0_3 l0_3.length c0_3) := (blk_cell BK123.out 3).trans rfl
            have hfz9_0 := blk_frozen BK123.out 0
            have hfz9_1 := blk_frozen BK123.out 1
            have hfz9_2 := blk_frozen BK123.out 2
            have hfz9_3 := blk_frozen BK123.out 3
            go_wp2
            go_meet
            case rel => exact ⟨_, (true), pmAx6_9_, H', ⟨by first | omega | exact Nat.le_refl _⟩, ⟨pmAx6_1_⟩, ⟨pmAx6_3_⟩⟩
          · rw [if_neg c8] at H
            have c8b0 : decide (0 < a0_0) = false := decide_eq_false c8
            clear c8
            have H' := Aside0.mk H
            clear H
            have hcz10_0 : w3.cell? ⟨gb123, 0, none⟩ = some (.int .i64 a0_0) := (blk_cell BK123.out 0).trans rfl
            have hcz10_1 : w3.cell? ⟨gb123, 1, none⟩ = some (.slice A0_1 l0_1.length c0_1) := (blk_cell BK123.out 1).trans rfl
            have hcz10_2 : w3.cell? ⟨gb123, 2, none⟩ = some (.slice A0_2 l0_2.length c0_2) := (blk_cell BK123.out 2).trans rfl
            have hcz10_3 : w3.cell? ⟨gb123, 3, none⟩ = some (.slice A0_3 l0_3.length c0_3) := (blk_cell BK123.out 3).trans rfl
            have hfz10_0 := blk_frozen BK123.out 0
            have hfz10_1 := blk_frozen BK123.out 1
            have hfz10_2 := blk_frozen BK123.out 2
            have hfz10_3 := blk_frozen BK123.out 3
            go_wp2
            go_meet
            case rel => exact ⟨_, (decide (a0_0 < (-10000))), pmAx6_9_, H', ⟨by first | omega | exact Nat.le_refl _⟩, ⟨pmAx6_1_⟩, ⟨pmAx6_3_⟩⟩
        · rw [if_neg c7] at H
          have c7b0 : ((l0_3.length : Int) == (l0_1.length : Int)) = false := beq_eq_false_iff_ne.mpr c7
          have c7b1 : ((l0_3.length : Int) != (l0_1.length : Int)) = true := bne_iff_ne.mpr c7
          have c7b2 : (l0_3.length == l0_1.length) = false := by first | simpa using c7 | (simp at c7 ⊢; omega)
          have H' := Aside0.mk H
          clear H
          have hcz11_0 : w3.cell? ⟨gb123, 0, none⟩ = some (.int .i64 a0_0) := (blk_cell BK123.out 0).trans rfl
          have hcz11_1 : w3.cell? ⟨gb123, 1, none⟩ = some (.slice A0_1 l0_1.length c0_1) := (blk_cell BK123.out 1).trans rfl
          have hcz11_2 : w3.cell? ⟨gb123, 2, none⟩ = some (.slice A0_2 l0_2.length c0_2) := (blk_cell BK123.out 2).trans rfl
          have hcz11_3 : w3.cell? ⟨gb123, 3, none⟩ = some (.slice A0_3 l0_3.length c0_3) := (blk_cell BK123.out 3).trans rfl
          have hfz11_0 := blk_frozen BK123.out 0
          have hfz11_1 := blk_frozen BK123.out 1
          have hfz11_2 := blk_frozen BK123.out 2
          have hfz11_3 := blk_frozen BK123.out 3
          go_wp2
          go_meet
          case rel => exact ⟨_, (true), pmAx6_9_, H', ⟨by first | omega | exact Nat.le_refl _⟩, ⟨pmAx6_1_⟩, ⟨pmAx6_3_⟩⟩
      · rw [if_neg c6] at H
        have c6b0 : ((l0_2.length : Int) == (l0_1.length : Int)) = false := beq_eq_false_iff_ne.mpr c6
        have c6b1 : ((l0_2.length : Int) != (l0_1.length : Int)) = true := bne_iff_ne.mpr c6
        have c6b2 : (l0_2.length == l0_1.length) = false := by first | simpa using c6 | (simp at c6 ⊢; omega)
        have H' := Aside0.mk H
        clear H
        have hcz12_0 : w3.cell? ⟨gb123, 0, none⟩ = some (.int .i64 a0_0) := (blk_cell BK123.out 0).trans rfl
        have hcz12_1 : w3.cell? ⟨gb123, 1, none⟩ = some (.slice A0_1 l0_1.length c0_1) := (blk_cell BK123.out 1).trans rfl
        have hcz12_2 : w3.cell? ⟨gb123, 2, none⟩ = some (.slice A0_2 l0_2.length c0_2) := (blk_cell BK123.out 2).trans rfl
        have hcz12_3 : w3.cell? ⟨gb123, 3, none⟩ = some (.slice A0_3 l0_3.length c0_3) := (blk_cell BK123.out 3).trans rfl
        have hfz12_0 := blk_frozen BK123.out 0
        have hfz12_1 := blk_frozen BK123.out 1
        have hfz12_2 := blk_frozen BK123.out 2
        have hfz12_3 := blk_frozen BK123.out 3
        go_wp2
        go_meet
        case rel => exact ⟨_, (true), pmAx6_9_, H', ⟨by first | omega | exact Nat.le_refl _⟩, ⟨pmAx6_1_⟩, ⟨pmAx6_3_⟩⟩
  case rest =>
    clear HC2
    try clear c2
    try clear p2
    try clear c5
    try clear c5b0
    try clear c5b1
    try clear c6
    try clear c6b0
    try clear c6b1
    try clear c6b2
    try clear c7
    try clear c7b0
    try clear c7b1
    try clear c7b2
    try clear c8
    try clear c8b0
    try clear hcz10_0
    try clear hcz10_1
    try clear hcz10_2
    try clear hcz10_3
    try clear hcz11_0
    try clear hcz11_1
    try clear hcz11_2
    try clear hcz11_3
    try clear hcz12_0
    try clear hcz12_1
    try clear hcz12_2
    try clear hcz12_3
    try clear hcz4_0
    try clear hcz4_1
    try clear hcz4_2
    try clear hcz4_3
    try clear hcz9_0
    try clear hcz9_1
    try clear hcz9_2
    try clear hcz9_3
    try clear hfz10_0
    try clear hfz10_1
    try clear hfz10_2
    try clear hfz10_3
    try clear hfz11_0
    try clear hfz11_1
    try clear hfz11_2
    try clear hfz11_3
    try clear hfz12_0
    try clear hfz12_1
    try clear hfz12_2
    try clear hfz12_3
    try clear hfz4_0
    try clear hfz4_1
    try clear hfz4_2
    try clear hfz4_3
    try clear hfz9_0
    try clear hfz9_1
    try clear hfz9_2
    try clear hfz9_3
    obtain ⟨kq, x35_1, rfl, HA, HJ1, BK123, HB⟩ := hcut
    cases kq with
    | zero => exact absurd HA.out (by simp [implicit_Good.j0])
    | succ kj1 =>
      have H := HA.out
      clear HA
      simp only [implicit_Good.j0] at H
      by_cases c13 : x35_1 = true
      · subst c13
        have H1 : (some false) = some r := by rw [if_pos rfl] at H; exact H
        clear H
        have H := H1
        clear H1
        obtain rfl := Option.some.inj H
        go_wp2
        go_ret
        exact ⟨by first | rfl | (simp [errW_none, errW_some] <;> rfl) | (simp [*, errW_none, errW_some] <;> rfl), by repeat (first | (with_reducible first | exact HB.out | apply below_alloc | apply pw_below_drewN | apply below_drew1 | refine below_set ?_ GE123.out) | exact HB.out)⟩
      · replace c13 := Bool.eq_false_iff.mpr c13
        subst c13
        have H1 : (implicit_Good.l0 kj1 l0_1 (l0_1.length : Int) 0 a0_0 l0_1 l0_2 l0_3) = some r := by rw [if_neg (show ¬ (false = true) by decide)] at H; exact H
        clear H
        have H := H1
        clear H1
        have H' := Aside0.mk H
        clear H
        have hcz14_0 : wc.cell? ⟨gb123, 0, none⟩ = some (.int .i64 a0_0) := (blk_cell BK123.out 0).trans rfl
        have hcz14_1 : wc.cell? ⟨gb123, 1, none⟩ = some (.slice A0_1 l0_1.length c0_1) := (blk_cell BK123.out 1).trans rfl
        have hcz14_2 : wc.cell? ⟨gb123, 2, none⟩ = some (.slice A0_2 l0_2.length c0_2) := (blk_cell BK123.out 2).trans rfl
        have hcz14_3 : wc.cell? ⟨gb123, 3, none⟩ = some (.slice A0_3 l0_3.length c0_3) := (blk_cell BK123.out 3).trans rfl
        have hfz14_0 := blk_frozen BK123.out 0
        have hfz14_1 := blk_frozen BK123.out 1
        have hfz14_2 := blk_frozen BK123.out 2
        have hfz14_3 := blk_frozen BK123.out 3
        go_wp2
        go_loopg [39] kj1 (fun kq v39 w' => ∃ (x39_2 : Int), v39 = .int .i64 x39_2 ∧ Aside0 (implicit_Good.l0 kq l0_1 (l0_1.length : Int) x39_2 a0_0 l0_1 l0_2 l0_3 = some r) ∧ Aside0 (kq ≤ kj1) ∧ Aside0 (w'.heap[gb123]? = some (.cells #[.int .i64 a0_0, (.slice A0_1 l0_1.length c0_1), (.slice A0_2 l0_2.length c0_2), (.slice A0_3 l0_3.length c0_3)] 26 (0, 0))) ∧ Aside0 (Below w.heap.size w w'))
        case atStart => exact ⟨(0), pmAx6_9_, H', ⟨Nat.le_refl _⟩, ⟨pmAx6_1_⟩, ⟨pmAx6_3_⟩⟩
        case round =>
          clear H'
          try clear c1
          try clear c2
          try clear p2
          try clear c5
          try clear c5b0
          try clear c5b1
          try clear c6
          try clear c6b0
          try clear c6b1
          try clear c6b2
          try clear c7
          try clear c7b0
          try clear c7b1
          try clear c7b2
          try clear c8
          try clear c8b0
          try clear c13
          try clear hcz10_0
          try clear hcz10_1
          try clear hcz10_2
          try clear hcz10_3
          try clear hcz11_0
          try clear hcz11_1
          try clear hcz11_2
          try clear hcz11_3
          try clear hcz12_0
          try clear hcz12_1
          try clear hcz12_2
          try clear hcz12_3
          try clear hcz14_0
          try clear hcz14_1
          try clear hcz14_2
          try clear hcz14_3
          try clear hcz4_0
          try clear hcz4_1
          try clear hcz4_2
          try clear hcz4_3
          try clear hcz9_0
          try clear hcz9_1
          try clear hcz9_2
          try clear hcz9_3
          try clear hfz10_0
          try clear hfz10_1
          try clear hfz10_2
          try clear hfz10_3
          try clear hfz11_0
          try clear hfz11_1
          try clear hfz11_2
          try clear hfz11_3
          try clear hfz12_0
          try clear hfz12_1
          try clear hfz12_2
          try clear hfz12_3
          try clear hfz14_0
          try clear hfz14_1
          try clear hfz14_2
          try clear hfz14_3
          try clear hfz4_0
          try clear hfz4_1
          try clear hfz4_2
          try clear hfz4_3
          try clear hfz9_0
          try clear hfz9_1
          try clear hfz9_2
          try clear hfz9_3
          try clear p2
          obtain ⟨x39_2, rfl, HA, HK2, BK123, HB⟩ := hrel
          cases gk with
          | zero => exact absurd HA.out (by simp [implicit_Good.l0])
          | succ k2 =>
            have H := HA.out
            clear HA
            simp only [implicit_Good.l0] at H
            by_cases c15 : x39_2 < (l0_1.length : Int)
            · rw [if_pos c15] at H
              have c15b0 : decide (x39_2 < (l0_1.length : Int)) = true := decide_eq_true c15
              clear c15
              by_cases c16 : 0 ≤ x39_2
              · rw [if_pos c16] at H
                have c16b0 : decide (0 ≤ x39_2) = true := decide_eq_true c16
                clear c16
                by_cases c17 : x39_2 < (l0_1.length : Int)
                · rw [if_pos c17] at H
                  have c17b0 : decide (x39_2 < (l0_1.length : Int)) = true := decide_eq_true c17
                  clear c17
                  have HC18 := Aside0.mk H
                  clear H
                  have p124 : 0 ≤ (x39_2 : Int) := of_decide_eq_true pmAx6_5_
                  have q124 : x39_2 < (l0_1.length : Int) := of_decide_eq_true pmAx6_5_
                  obtain ⟨ad124, e124, hx124_0, hx124_1, hx124_2, hx124_3, hx124_4, hx124_5, hx124_6⟩ := at_T57 HR0_1.out x39_2 p124 q124
                  cases e124
                  replace hx124_0 := (HB.out.cell (World.block_lt_of_cell? w _ hx124_0)).trans hx124_0
                  replace hx124_1 := (HB.out.cell (World.block_lt_of_cell? w _ hx124_1)).trans hx124_1
                  replace hx124_2 := (HB.out.cell (World.block_lt_of_cell? w _ hx124_2)).trans hx124_2
                  replace hx124_3 := (HB.out.cell (World.block_lt_of_cell? w _ hx124_3)).trans hx124_3
                  replace hx124_4 := (HB.out.cell (World.block_lt_of_cell? w _ hx124_4)).trans hx124_4
                  replace hx124_5 := (HB.out.cell (World.block_lt_of_cell? w _ hx124_5)).trans hx124_5
                  replace hx124_6 := (HB.out.cell (World.block_lt_of_cell? w _ hx124_6)).trans hx124_6
                  replace p124 := eq_true p124
                  replace q124 := eq_true q124
                  go_upto_region 7 with (first | ((with_reducible refine gate_dst (N := 5) rfl ?_); (try (refine gate_guard (by rfl) ?_; dsimp only)); refine box_event ?hg (N := 5) ?hd (cs := #[.int .i64 0, .int .i64 0, .int .i64 0, .int .i64 0, .bool false, .int .i64 0, .int .i64 0]) (t := 57) ?hr ?_; (case hd => rfl); (case hg => rfl); (case hr => first | (go_simp; done) | (go_simp; rfl)); intro gb125 hg w19 hbox hb; have n0_ := Aside0.mk (blk_below (g := gb123) (o := .cells #[.int .i64 a0_0, .slice (some ad124) l0_1.length c0_1, .slice A0_2 l0_2.length c0_2, .slice A0_3 l0_3.length c0_3] 26 (0, 0)) pmAx6_1_ hb); have n1_ := Aside0.mk (below_step pmAx6_3_ hb); have n2_ := Aside0.mk (hbox); have n3_ := Aside0.mk ((by rw [hg]; exact (below_size pmAx6_3_) : w.heap.size ≤ gb125)); have n4_ := Aside0.mk ((by rw [hg]; exact (below_size pmAx6_3_) : w.heap.size ≤ gb125)); have n5_ := Aside0.mk ((by rw [hg]; exact Nat.ne_of_lt (blk_lt (g := gb123) (o := .cells #[.int .i64 a0_0, .slice (some ad124) l0_1.length c0_1, .slice A0_2 l0_2.length c0_2, .slice A0_3 l0_3.length c0_3] 26 (0, 0)) pmAx6_1_) : gb123 ≠ gb125)); have n6_ := Aside0.mk ((by rw [hg]; exact Nat.ne_of_gt (blk_lt (g := gb123) (o := .cells #[.int .i64 a0_0, .slice (some ad124) l0_1.length c0_1, .slice A0_2 l0_2.length c0_2, .slice A0_3 l0_3.length c0_3] 26 (0, 0)) pmAx6_1_) : gb125 ≠ gb123)); clear BK123; clear HB; have BK123 := n0_; have HB := n1_; have BK125 := n2_; have GW125 := n3_; have GE125 := n4_; have NB123_125 := n5_; have NB125_123 := n6_; clear n0_ n1_ n2_ n3_ n4_ n5_ n6_; clear hb hbox hg; have hnb20 := NB125_123.out; have hnc20 := NB123_125.out; have hcz21_0 : w19.cell? ⟨gb125, 0, none⟩ = some (.int .i64 0) := (blk_cell BK125.out 0).trans rfl; have hcz21_1 : w19.cell? ⟨gb125, 1, none⟩ = some (.int .i64 0) := (blk_cell BK125.out 1).trans rfl; have hcz21_2 : w19.cell? ⟨gb125, 2, none⟩ = some (.int .i64 0) := (blk_cell BK125.out 2).trans rfl; have hcz21_3 : w19.cell? ⟨gb125, 3, none⟩ = some (.int .i64 0) := (blk_cell BK125.out 3).trans rfl; have hcz21_4 : w19.cell? ⟨gb125, 4, none⟩ = some (.bool false) := (blk_cell BK125.out 4).trans rfl; have hcz21_5 : w19.cell? ⟨gb125, 5, none⟩ = some (.int .i64 0) := (blk_cell BK125.out 5).trans rfl; have hcz21_6 : w19.cell? ⟨gb125, 6, none⟩ = some (.int .i64 0) := (blk_cell BK125.out 6).trans rfl; have hfz21_0 := blk_frozen BK125.out 0; have hfz21_1 := blk_frozen BK125.out 1; have hfz21_2 := blk_frozen BK125.out 2; have hfz21_3 := blk_frozen BK125.out 3; have hfz21_4 := blk_frozen BK125.out 4; have hfz21_5 := blk_frozen BK125.out 5; have hfz21_6 := blk_frozen BK125.out 6))
                  (try simp only [Act.put, List.setIfInBounds_toArray, List.set_cons_zero, List.set_cons_succ])
                  go_cut [6] (fun v6 wc => ∃ (kq : Nat) (x6_17 : Bool), v6 = .bool x6_17 ∧ Aside0 (implicit_Good.j2 kq x39_2 x6_17 l0_1 (l0_1.length : Int) x39_2 a0_0 l0_1 l0_2 l0_3 ((rd_T57 l0_1 x39_2).f0.f0) ((rd_T57 l0_1 x39_2).f0.f1) ((rd_T57 l0_1 x39_2).f1.f0) ((rd_T57 l0_1 x39_2).f1.f1) ((rd_T57 l0_1 x39_2).f2) ((rd_T57 l0_1 x39_2).f3.f0) ((rd_T57 l0_1 x39_2).f3.f1) = some r) ∧ Aside0 (kq ≤ k2) ∧ Aside0 (wc.heap[gb123]? = some (.cells #[.int .i64 a0_0, (.slice (some ad124) l0_1.length c0_1), (.slice A0_2 l0_2.length c0_2), (.slice A0_3 l0_3.length c0_3)] 26 (0, 0))) ∧ Aside0 (wc.heap[gb125]? = some (.cells #[.int .i64 ((rd_T57 l0_1 x39_2).f0.f0), .int .i64 ((rd_T57 l0_1 x39_2).f0.f1), .int .i64 ((rd_T57 l0_1 x39_2).f1.f0), .int .i64 ((rd_T57 l0_1 x39_2).f1.f1), .bool ((rd_T57 l0_1 x39_2).f2), .int .i64 ((rd_T57 l0_1 x39_2).f3.f0), .int .i64 ((rd_T57 l0_1 x39_2).f3.f1)] 57 (0, 0))) ∧ Aside0 (Below w.heap.size w wc))
                  case first =>
                    have H := HC18.out
                    clear HC18
                    by_cases c22 : x39_2 = 0
                    · rw [if_pos c22] at H
                      have c22b0 : (x39_2 == 0) = true := beq_iff_eq.mpr c22
                      have c22b1 : (x39_2 != 0) = false := bne_eq_false_iff_eq.mpr c22
                      clear c22
                      (first | rw [c22b0] | (simp only [i64_w, i32_w]; rw [c22b0]) | skip)
                      have H' := Aside0.mk H
                      clear H
                      go_wp2
                      go_meet
                      case rel => exact ⟨_, (true), pmAx6_9_, H', ⟨by have := HJ1.out; have := HK2.out; first | omega | exact Nat.le_refl _⟩, ⟨pmAx6_4_⟩, ⟨pmAx6_0_⟩, ⟨pmAx6_2_⟩⟩
                    · rw [if_neg c22] at H
                      have c22b0 : (x39_2 == 0) = false := beq_eq_false_iff_ne.mpr c22
                      have c22b1 : (x39_2 != 0) = true := bne_iff_ne.mpr c22
                      (first | rw [c22b0] | (simp only [i64_w, i32_w]; rw [c22b0]) | skip)
                      by_cases c23 : x39_2 < (l0_2.length : Int)
                      · rw [if_pos c23] at H
                        have c23b0 : decide (x39_2 < (l0_2.length : Int)) = true := decide_eq_true c23
                        clear c23
                        have H' := Aside0.mk H
                        clear H
                        have hnb24 := NB123_125.out
                        have hnc24 := NB125_123.out
                        have hcz25_0 : w19.cell? ⟨gb123, 0, none⟩ = some (.int .i64 a0_0) := (blk_cell BK123.out 0).trans rfl
                        have hcz25_1 : w19.cell? ⟨gb123, 1, none⟩ = some (.slice (some ad124) l0_1.length c0_1) := (blk_cell BK123.out 1).trans rfl
                        have hcz25_2 : w19.cell? ⟨gb123, 2, none⟩ = some (.slice A0_2 l0_2.length c0_2) := (blk_cell BK123.out 2).trans rfl
                        have hcz25_3 : w19.cell? ⟨gb123, 3, none⟩ = some (.slice A0_3 l0_3.length c0_3) := (blk_cell BK123.out 3).trans rfl
                        have hfz25_0 := blk_frozen BK123.out 0
                        have hfz25_1 := blk_frozen BK123.out 1
                        have hfz25_2 := blk_frozen BK123.out 2
                        have hfz25_3 := blk_frozen BK123.out 3
                        have p126 : 0 ≤ (x39_2 : Int) := of_decide_eq_true pmAx6_5_
                        have q126 : x39_2 < (l0_2.length : Int) := of_decide_eq_true pmAx6_5_
                        obtain ⟨ad126, e126, hx126_0⟩ := Kd.at_bool HR0_2.out x39_2 p126 q126
                        cases e126
                        have hn126_0 : ad126.block ≠ gb125 := Nat.ne_of_lt (Nat.lt_of_lt_of_le pmAx6_7_ GW125.out)
                        have hn126_1 : ad126.block ≠ gb125 := Nat.ne_of_lt (Nat.lt_of_lt_of_le pmAx6_7_ GW125.out)
                        have hn126_2 : ad126.block ≠ gb125 := Nat.ne_of_lt (Nat.lt_of_lt_of_le pmAx6_7_ GW125.out)
                        have hn126_3 : ad126.block ≠ gb125 := Nat.ne_of_lt (Nat.lt_of_lt_of_le pmAx6_7_ GW125.out)
                        have hn126_4 : ad126.block ≠ gb125 := Nat.ne_of_lt (Nat.lt_of_lt_of_le pmAx6_7_ GW125.out)
                        have hn126_5 : ad126.block ≠ gb125 := Nat.ne_of_lt (Nat.lt_of_lt_of_le pmAx6_7_ GW125.out)
                        have hn126_6 : ad126.block ≠ gb125 := Nat.ne_of_lt (Nat.lt_of_lt_of_le pmAx6_7_ GW125.out)
                        replace hx126_0 := (HB.out.cell (World.block_lt_of_cell? w _ hx126_0)).trans hx126_0
                        replace hx126_0 := (cell_far (p := ⟨gb125, 0, none⟩) (by first | (rw [add_block]; exact hn126_0) | (show (Addr.add _ _).block ≠ _; rw [add_block]; exact hn126_0) | exact hn126_0) (.int .i64 ((rd_T57 l0_1 x39_2).f0.f0))).trans hx126_0
                        replace hx126_0 := (cell_far (p := ⟨gb125, 1, none⟩) (by first | (rw [add_block]; exact hn126_1) | (show (Addr.add _ _).block ≠ _; rw [add_block]; exact hn126_1) | exact hn126_1) (.int .i64 ((rd_T57 l0_1 x39_2).f0.f1))).trans hx126_0
                        replace hx126_0 := (cell_far (p := ⟨gb125, 2, none⟩) (by first | (rw [add_block]; exact hn126_2) | (show (Addr.add _ _).block ≠ _; rw [add_block]; exact hn126_2) | exact hn126_2) (.int .i64 ((rd_T57 l0_1 x39_2).f1.f0))).trans hx126_0
                        replace hx126_0 := (cell_far (p := ⟨gb125, 3, none⟩) (by first | (rw [add_block]; exact hn126_3) | (show (Addr.add _ _).block ≠ _; rw [add_block]; exact hn126_3) | exact hn126_3) (.int .i64 ((rd_T57 l0_1 x39_2).f1.f1))).trans hx126_0
                        replace hx126_0 := (cell_far (p := ⟨gb125, 4, none⟩) (by first | (rw [add_block]; exact hn126_4) | (show (Addr.add _ _).block ≠ _; rw [add_block]; exact hn126_4) | exact hn126_4) (.bool ((rd_T57 l0_1 x39_2).f2))).trans hx126_0
                        replace hx126_0 := (cell_far (p := ⟨gb125, 5, none⟩) (by first | (rw [add_block]; exact hn126_5) | (show (Addr.add _ _).block ≠ _; rw [add_block]; exact hn126_5) | exact hn126_5) (.int .i64 ((rd_T57 l0_1 x39_2).f3.f0))).trans hx126_0
                        replace hx126_0 := (cell_far (p := ⟨gb125, 6, none⟩) (by first | (rw [add_block]; exact hn126_6) | (show (Addr.add _ _).block ≠ _; rw [add_block]; exact hn126_6) | exact hn126_6) (.int .i64 ((rd_T57 l0_1 x39_2).f3.f1))).trans hx126_0
                        clear hn126_0
                        clear hn126_1
                        clear hn126_2
                        clear hn126_3
                        clear hn126_4
                        clear hn126_5
                        clear hn126_6
                        replace p126 := eq_true p126
                        replace q126 := eq_true q126
                        go_wp2
                        go_meet
                        case rel => exact ⟨_, (rdOf false l0_2 x39_2), pmAx6_9_, H', ⟨by have := HJ1.out; have := HK2.out; first | omega | exact Nat.le_refl _⟩, ⟨pmAx6_4_⟩, ⟨pmAx6_0_⟩, ⟨pmAx6_2_⟩⟩
                      · rw [if_neg c23] at H
                        exact absurd H (by simp)
                  case rest =>
                    clear HC18
                    try clear c1
                    try clear p1
                    try clear q1
                    try clear hx1
                    try clear c2
                    try clear p2
                    try clear c5
                    try clear c5b0
                    try clear c5b1
                    try clear c6
                    try clear c6b0
                    try clear c6b1
                    try clear c6b2
                    try clear c7
                    try clear c7b0
                    try clear c7b1
                    try clear c7b2
                    try clear c8
                    try clear c8b0
                    try clear p12
                    try clear q12
                    try clear hx12
                    try clear c13
                    try clear c15
                    try clear c15b0
                    try clear c16
                    try clear c16b0
                    try clear c17
                    try clear c17b0
                    try clear c20
                    try clear c22
                    try clear c22b0
                    try clear c22b1
                    try clear c23
                    try clear c23b0
                    try clear c24
                    try clear hcz10_0
                    try clear hcz10_1
                    try clear hcz10_2
                    try clear hcz10_3
                    try clear hcz11_0
                    try clear hcz11_1
                    try clear hcz11_2
                    try clear hcz11_3
                    try clear hcz12_0
                    try clear hcz12_1
                    try clear hcz12_2
                    try clear hcz12_3
                    try clear hcz14_0
                    try clear hcz14_1
                    try clear hcz14_2
                    try clear hcz14_3
                    try clear hcz21_0
                    try clear hcz21_1
                    try clear hcz21_2
                    try clear hcz21_3
                    try clear hcz21_4
                    try clear hcz21_5
                    try clear hcz21_6
                    try clear hcz25_0
                    try clear hcz25_1
                    try clear hcz25_2
                    try clear hcz25_3
                    try clear hcz4_0
                    try clear hcz4_1
                    try clear hcz4_2
                    try clear hcz4_3
                    try clear hcz9_0
                    try clear hcz9_1
                    try clear hcz9_2
                    try clear hcz9_3
                    try clear hfz10_0
                    try clear hfz10_1
                    try clear hfz10_2
                    try clear hfz10_3
                    try clear hfz11_0
                    try clear hfz11_1
                    try clear hfz11_2
                    try clear hfz11_3
                    try clear hfz12_0
                    try clear hfz12_1
                    try clear hfz12_2
                    try clear hfz12_3
                    try clear hfz14_0
                    try clear hfz14_1
                    try clear hfz14_2
                    try clear hfz14_3
                    try clear hfz21_0
                    try clear hfz21_1
                    try clear hfz21_2
                    try clear hfz21_3
                    try clear hfz21_4
                    try clear hfz21_5
                    try clear hfz21_6
                    try clear hfz25_0
                    try clear hfz25_1
                    try clear hfz25_2
                    try clear hfz25_3
                    try clear hfz4_0
                    try clear hfz4_1
                    try clear hfz4_2
                    try clear hfz4_3
                    try clear hfz9_0
                    try clear hfz9_1
                    try clear hfz9_2
                    try clear hfz9_3
                    try clear hx124_0
                    try clear hx124_1
                    try clear hx124_2
                    try clear hx124_3
                    try clear hx124_4
                    try clear hx124_5
                    try clear hx124_6
                    try clear hx126_0
                    try clear p124
                    try clear p126
                    try clear p2
                    try clear q124
                    try clear q126
                    obtain ⟨kq, x6_17, rfl, HA, HJ17, BK123, BK125, HB⟩ := hcut
                    cases kq with
                    | zero => exact absurd HA.out (by simp [implicit_Good.j2])
                    | succ kj17 =>
                      have H := HA.out
                      clear HA
                      simp only [implicit_Good.j2] at H
                      replace H := Option.bind_eq_some_iff.mp H
                      obtain ⟨t127, A260, H⟩ := H
                      replace H : (if t127 = true then (if 0 ≤ x39_2 then (if x39_2 < (l0_3.length : Int) then ((implicit_within.f (rd l0_3 x39_2)).bind fun t129 => (if t129 = true then (if x6_17 = true then (if (rd l0_3 x39_2) > 0 then (some false) else (implicit_Good.l0 kj17 l0_1 (l0_1.length : Int) (wrap64 (x39_2 + 1)) a0_0 l0_1 l0_2 l0_3)) else (implicit_Good.l0 kj17 l0_1 (l0_1.length : Int) (wrap64 (x39_2 + 1)) a0_0 l0_1 l0_2 l0_3)) else (some false))) else (none)) else (none)) else (some false)) = some r := H
                      have A26 := Aside0.mk A260
                      clear A260
                      by_cases c27 : t127 = true
                      · subst c27
                        have H1 : (if 0 ≤ x39_2 then (if x39_2 < (l0_3.length : Int) then ((implicit_within.f (rd l0_3 x39_2)).bind fun t129 => (if t129 = true then (if x6_17 = true then (if (rd l0_3 x39_2) > 0 then (some false) else (implicit_Good.l0 kj17 l0_1 (l0_1.length : Int) (wrap64 (x39_2 + 1)) a0_0 l0_1 l0_2 l0_3)) else (implicit_Good.l0 kj17 l0_1 (l0_1.length : Int) (wrap64 (x39_2 + 1)) a0_0 l0_1 l0_2 l0_3)) else (some false))) else (none)) else (none)) = some r := by rw [if_pos rfl] at H; exact H
                        clear H
                        have H := H1
                        clear H1
                        by_cases c28 : 0 ≤ x39_2
                        · rw [if_pos c28] at H
                          have c28b0 : decide (0 ≤ x39_2) = true := decide_eq_true c28
                          clear c28
                          by_cases c29 : x39_2 < (l0_3.length : Int)
                          · rw [if_pos c29] at H
                            have c29b0 : decide (x39_2 < (l0_3.length : Int)) = true := decide_eq_true c29
                            clear c29
                            replace H := Option.bind_eq_some_iff.mp H
                            obtain ⟨t129, A300, H⟩ := H
                            replace H : (if t129 = true then (if x6_17 = true then (if (rd l0_3 x39_2) > 0 then (some false) else (implicit_Good.l0 kj17 l0_1 (l0_1.length : Int) (wrap64 (x39_2 + 1)) a0_0 l0_1 l0_2 l0_3)) else (implicit_Good.l0 kj17 l0_1 (l0_1.length : Int) (wrap64 (x39_2 + 1)) a0_0 l0_1 l0_2 l0_3)) else (some false)) = some r := H
                            have A30 := Aside0.mk A300
                            clear A300
                            by_cases c31 : t129 = true
                            · subst c31
                              have H1 : (if x6_17 = true then (if (rd l0_3 x39_2) > 0 then (some false) else (implicit_Good.l0 kj17 l0_1 (l0_1.length : Int) (wrap64 (x39_2 + 1)) a0_0 l0_1 l0_2 l0_3)) else (implicit_Good.l0 kj17 l0_1 (l0_1.length : Int) (wrap64 (x39_2 + 1)) a0_0 l0_1 l0_2 l0_3)) = some r := by rw [if_pos rfl] at H; exact H
                              clear H
                              have H := H1
                              clear H1
                              by_cases c32 : x6_17 = true
                              · subst c32
                                have H1 : (if (rd l0_3 x39_2) > 0 then (some false) else (implicit_Good.l0 kj17 l0_1 (l0_1.length : Int) (wrap64 (x39_2 + 1)) a0_0 l0_1 l0_2 l0_3)) = some r := by rw [if_pos rfl] at H; exact H
                                clear H
                                have H := H1
                                clear H1
                                by_cases c33 : (rd l0_3 x39_2) > 0
                                · rw [if_pos c33] at H
                                  have c33b0 : decide (0 < (rd l0_3 x39_2)) = true := decide_eq_true c33
                                  clear c33
                                  obtain rfl := Option.some.inj H
                                  have hnb34 := NB125_123.out
                                  have hnc34 := NB123_125.out
                                  have hcz35_0 : wc.cell? ⟨gb125, 0, none⟩ = some (.int .i64 ((rd_T57 l0_1 x39_2).f0.f0)) := (blk_cell BK125.out 0).trans rfl
                                  have hcz35_1 : wc.cell? ⟨gb125, 1, none⟩ = some (.int .i64 ((rd_T57 l0_1 x39_2).f0.f1)) := (blk_cell BK125.out 1).trans rfl
                                  have hcz35_2 : wc.cell? ⟨gb125, 2, none⟩ = some (.int .i64 ((rd_T57 l0_1 x39_2).f1.f0)) := (blk_cell BK125.out 2).trans rfl
                                  have hcz35_3 : wc.cell? ⟨gb125, 3, none⟩ = some (.int .i64 ((rd_T57 l0_1 x39_2).f1.f1)) := (blk_cell BK125.out 3).trans rfl
                                  have hcz35_4 : wc.cell? ⟨gb125, 4, none⟩ = some (.bool ((rd_T57 l0_1 x39_2).f2)) := (blk_cell BK125.out 4).trans rfl
                                  have hcz35_5 : wc.cell? ⟨gb125, 5, none⟩ = some (.int .i64 ((rd_T57 l0_1 x39_2).f3.f0)) := (blk_cell BK125.out 5).trans rfl
                                  have hcz35_6 : wc.cell? ⟨gb125, 6, none⟩ = some (.int .i64 ((rd_T57 l0_1 x39_2).f3.f1)) := (blk_cell BK125.out 6).trans rfl
                                  have hfz35_0 := blk_frozen BK125.out 0
                                  have hfz35_1 := blk_frozen BK125.out 1
                                  have hfz35_2 := blk_frozen BK125.out 2
                                  have hfz35_3 := blk_frozen BK125.out 3
                                  have hfz35_4 := blk_frozen BK125.out 4
                                  have hfz35_5 := blk_frozen BK125.out 5
                                  have hfz35_6 := blk_frozen BK125.out 6
                                  go_wp2_with (first | ((with_reducible refine gate_callee (f := 31) rfl ?_); refine goesL_ (some 54) rfl rfl Try.func31 (by kernel_rfl) rfl #[.agg #[.int .i64 ((rd_T57 l0_1 x39_2).f0.f0), .int .i64 ((rd_T57 l0_1 x39_2).f0.f1), .int .i64 ((rd_T57 l0_1 x39_2).f1.f0), .int .i64 ((rd_T57 l0_1 x39_2).f1.f1), .bool ((rd_T57 l0_1 x39_2).f2), .int .i64 ((rd_T57 l0_1 x39_2).f3.f0), .int .i64 ((rd_T57 l0_1 x39_2).f3.f1)]] rfl pmAx6_6_ ?_; (with_reducible refine (track_Right.calls kj17 ((rd_T57 l0_1 x39_2).f0.f0) ((rd_T57 l0_1 x39_2).f0.f1) ((rd_T57 l0_1 x39_2).f1.f0) ((rd_T57 l0_1 x39_2).f1.f1) ((rd_T57 l0_1 x39_2).f2) ((rd_T57 l0_1 x39_2).f3.f0) ((rd_T57 l0_1 x39_2).f3.f1) true _ A26.out).mono ?_); rintro e w36 ⟨rfl, hb⟩; refine ⟨_, rfl, ?_⟩; have n0_ := Aside0.mk (blk_below (g := gb123) (o := .cells #[.int .i64 a0_0, .slice (some ad124) l0_1.length c0_1, .slice A0_2 l0_2.length c0_2, .slice A0_3 l0_3.length c0_3] 26 (0, 0)) pmAx6_1_ hb); have n1_ := Aside0.mk (blk_below (g := gb125) (o := .cells #[.int .i64 ((rd_T57 l0_1 x39_2).f0.f0), .int .i64 ((rd_T57 l0_1 x39_2).f0.f1), .int .i64 ((rd_T57 l0_1 x39_2).f1.f0), .int .i64 ((rd_T57 l0_1 x39_2).f1.f1), .bool ((rd_T57 l0_1 x39_2).f2), .int .i64 ((rd_T57 l0_1 x39_2).f3.f0), .int .i64 ((rd_T57 l0_1 x39_2).f3.f1)] 57 (0, 0)) pmAx6_8_ hb); have n2_ := Aside0.mk (below_step pmAx6_2_ hb); clear BK123; clear BK125; clear HB; have BK123 := n0_; have BK125 := n1_; have HB := n2_; clear n0_ n1_ n2_; (try clear hb); (try clear hb2); (try clear hk); (try clear hi); have hcz37_0 : w36.cell? ⟨gb123, 0, none⟩ = some (.int .i64 a0_0) := (blk_cell BK123.out 0).trans rfl; have hcz37_1 : w36.cell? ⟨gb123, 1, none⟩ = some (.slice (some ad124) l0_1.length c0_1) := (blk_cell BK123.out 1).trans rfl; have hcz37_2 : w36.cell? ⟨gb123, 2, none⟩ = some (.slice A0_2 l0_2.length c0_2) := (blk_cell BK123.out 2).trans rfl; have hcz37_3 : w36.cell? ⟨gb123, 3, none⟩ = some (.slice A0_3 l0_3.length c0_3) := (blk_cell BK123.out 3).trans rfl; have hfz37_0 := blk_frozen BK123.out 0; have hfz37_1 := blk_frozen BK123.out 1; have hfz37_2 := blk_frozen BK123.out 2; have hfz37_3 := blk_frozen BK123.out 3; have p128 : 0 ≤ (x39_2 : Int) := of_decide_eq_true pmAx6_5_; have q128 : x39_2 < (l0_3.length : Int) := of_decide_eq_true pmAx6_5_; obtain ⟨ad128, e128, hx128_0⟩ := Kd.at_int HR0_3.out x39_2 p128 q128; cases e128; replace hx128_0 := (HB.out.cell (World.block_lt_of_cell? w _ hx128_0)).trans hx128_0; replace p128 := eq_true p128; replace q128 := eq_true q128) | (go_at_call 32; (with_reducible refine (implicit_within.calls (rd l0_3 x39_2) true _ A30.out).mono ?_); rintro e w' ⟨rfl, ⟨nd, rfl⟩⟩; have p130 : 0 ≤ (x39_2 : Int) := of_decide_eq_true pmAx6_5_; have q130 : x39_2 < (l0_3.length : Int) := of_decide_eq_true pmAx6_5_; obtain ⟨ad130, e130, hx130_0⟩ := Kd.at_int HR0_3.out x39_2 p130 q130; obtain rfl : ad128 = ad130 := (by injection e130); replace hx130_0 := (HB.out.cell (World.block_lt_of_cell? w _ hx130_0)).trans hx130_0; replace p130 := eq_true p130; replace q130 := eq_true q130))
                                  go_ret
                                  exact ⟨by first | rfl | (simp [errW_none, errW_some] <;> rfl) | (simp [*, errW_none, errW_some] <;> rfl), by repeat (first | (with_reducible first | exact HB.out | apply below_alloc | apply pw_below_drewN | apply below_drew1 | refine below_set ?_ GE123.out | refine below_set ?_ GE125.out) | exact HB.out)⟩
                                · rw [if_neg c33] at H
                                  have c33b0 : decide (0 < (rd l0_3 x39_2)) = false := decide_eq_false c33
                                  clear c33
                                  have H' := Aside0.mk H
                                  clear H
                                  have hnb38 := NB125_123.out
                                  have hnc38 := NB123_125.out
                                  have hcz39_0 : wc.cell? ⟨gb125, 0, none⟩ = some (.int .i64 ((rd_T57 l0_1 x39_2).f0.f0)) := (blk_cell BK125.out 0).trans rfl
                                  have hcz39_1 : wc.cell? ⟨gb125, 1, none⟩ = some (.int .i64 ((rd_T57 l0_1 x39_2).f0.f1)) := (blk_cell BK125.out 1).trans rfl
                                  have hcz39_2 : wc.cell? ⟨gb125, 2, none⟩ = some (.int .i64 ((rd_T57 l0_1 x39_2).f1.f0)) := (blk_cell BK125.out 2).trans rfl
                                  have hcz39_3 : wc.cell? ⟨gb125, 3, none⟩ = some (.int .i64 ((rd_T57 l0_1 x39_2).f1.f1)) := (blk_cell BK125.out 3).trans rfl
                                  have hcz39_4 : wc.cell? ⟨gb125, 4, none⟩ = some (.bool ((rd_T57 l0_1 x39_2).f2)) := (blk_cell BK125.out 4).trans rfl
                                  have hcz39_5 : wc.cell? ⟨gb125, 5, none⟩ = some (.int .i64 ((rd_T57 l0_1 x39_2).f3.f0)) := (blk_cell BK125.out 5).trans rfl
                                  have hcz39_6 : wc.cell? ⟨gb125, 6, none⟩ = some (.int .i64 ((rd_T57 l0_1 x39_2).f3.f1)) := (blk_cell BK125.out 6).trans rfl
                                  have hfz39_0 := blk_frozen BK125.out 0
                                  have hfz39_1 := blk_frozen BK125.out 1
                                  have hfz39_2 := blk_frozen BK125.out 2
                                  have hfz39_3 := blk_frozen BK125.out 3
                                  have hfz39_4 := blk_frozen BK125.out 4
                                  have hfz39_5 := blk_frozen BK125.out 5
                                  have hfz39_6 := blk_frozen BK125.out 6
                                  go_wp2_with (first | ((with_reducible refine gate_callee (f := 31) rfl ?_); refine goesL_ (some 54) rfl rfl Try.func31 (by kernel_rfl) rfl #[.agg #[.int .i64 ((rd_T57 l0_1 x39_2).f0.f0), .int .i64 ((rd_T57 l0_1 x39_2).f0.f1), .int .i64 ((rd_T57 l0_1 x39_2).f1.f0), .int .i64 ((rd_T57 l0_1 x39_2).f1.f1), .bool ((rd_T57 l0_1 x39_2).f2), .int .i64 ((rd_T57 l0_1 x39_2).f3.f0), .int .i64 ((rd_T57 l0_1 x39_2).f3.f1)]] rfl pmAx6_6_ ?_; (with_reducible refine (track_Right.calls kj17 ((rd_T57 l0_1 x39_2).f0.f0) ((rd_T57 l0_1 x39_2).f0.f1) ((rd_T57 l0_1 x39_2).f1.f0) ((rd_T57 l0_1 x39_2).f1.f1) ((rd_T57 l0_1 x39_2).f2) ((rd_T57 l0_1 x39_2).f3.f0) ((rd_T57 l0_1 x39_2).f3.f1) true _ A26.out).mono ?_); rintro e w40 ⟨rfl, hb⟩; refine ⟨_, rfl, ?_⟩; have n0_ := Aside0.mk (blk_below (g := gb123) (o := .cells #[.int .i64 a0_0, .slice (some ad124) l0_1.length c0_1, .slice A0_2 l0_2.length c0_2, .slice A0_3 l0_3.length c0_3] 26 (0, 0)) pmAx6_1_ hb); have n1_ := Aside0.mk (blk_below (g := gb125) (o := .cells #[.int .i64 ((rd_T57 l0_1 x39_2).f0.f0), .int .i64 ((rd_T57 l0_1 x39_2).f0.f1), .int .i64 ((rd_T57 l0_1 x39_2).f1.f0), .int .i64 ((rd_T57 l0_1 x39_2).f1.f1), .bool ((rd_T57 l0_1 x39_2).f2), .int .i64 ((rd_T57 l0_1 x39_2).f3.f0), .int .i64 ((rd_T57 l0_1 x39_2).f3.f1)] 57 (0, 0)) pmAx6_8_ hb); have n2_ := Aside0.mk (below_step pmAx6_2_ hb); clear BK123; clear BK125; clear HB; have BK123 := n0_; have BK125 := n1_; have HB := n2_; clear n0_ n1_ n2_; (try clear hb); (try clear hb2); (try clear hk); (try clear hi); have hcz41_0 : w40.cell? ⟨gb123, 0, none⟩ = some (.int .i64 a0_0) := (blk_cell BK123.out 0).trans rfl; have hcz41_1 : w40.cell? ⟨gb123, 1, none⟩ = some (.slice (some ad124) l0_1.length c0_1) := (blk_cell BK123.out 1).trans rfl; have hcz41_2 : w40.cell? ⟨gb123, 2, none⟩ = some (.slice A0_2 l0_2.length c0_2) := (blk_cell BK123.out 2).trans rfl; have hcz41_3 : w40.cell? ⟨gb123, 3, none⟩ = some (.slice A0_3 l0_3.length c0_3) := (blk_cell BK123.out 3).trans rfl; have hfz41_0 := blk_frozen BK123.out 0; have hfz41_1 := blk_frozen BK123.out 1; have hfz41_2 := blk_frozen BK123.out 2; have hfz41_3 := blk_frozen BK123.out 3; have p128 : 0 ≤ (x39_2 : Int) := of_decide_eq_true pmAx6_5_; have q128 : x39_2 < (l0_3.length : Int) := of_decide_eq_true pmAx6_5_; obtain ⟨ad128, e128, hx128_0⟩ := Kd.at_int HR0_3.out x39_2 p128 q128; cases e128; replace hx128_0 := (HB.out.cell (World.block_lt_of_cell? w _ hx128_0)).trans hx128_0; replace p128 := eq_true p128; replace q128 := eq_true q128) | (go_at_call 32; (with_reducible refine (implicit_within.calls (rd l0_3 x39_2) true _ A30.out).mono ?_); rintro e w' ⟨rfl, ⟨nd, rfl⟩⟩; have p130 : 0 ≤ (x39_2 : Int) := of_decide_eq_true pmAx6_5_; have q130 : x39_2 < (l0_3.length : Int) := of_decide_eq_true pmAx6_5_; obtain ⟨ad130, e130, hx130_0⟩ := Kd.at_int HR0_3.out x39_2 p130 q130; obtain rfl : ad128 = ad130 := (by injection e130); replace hx130_0 := (HB.out.cell (World.block_lt_of_cell? w _ hx130_0)).trans hx130_0; replace p130 := eq_true p130; replace q130 := eq_true q130))
                                  go_roundg kj17
                                  case measure => have := HJ1.out; have := HK2.out; have := HJ17.out; omega
                                  case rel => exact ⟨(wrap64 (x39_2 + 1)), pmAx6_9_, H', ⟨by have := HJ1.out; have := HK2.out; have := HJ17.out; omega⟩, ⟨pmAx6_1_⟩, ⟨pmAx6_2_⟩⟩
                              · replace c32 := Bool.eq_false_iff.mpr c32
                                subst c32
                                have H1 : (implicit_Good.l0 kj17 l0_1 (l0_1.length : Int) (wrap64 (x39_2 + 1)) a0_0 l0_1 l0_2 l0_3) = some r := by rw [if_neg (show ¬ (false = true) by decide)] at H; exact H
                                clear H
                                have H := H1
                                clear H1
                                have H' := Aside0.mk H
                                clear H
                                have hnb42 := NB125_123.out
                                have hnc42 := NB123_125.out
                                have hcz43_0 : wc.cell? ⟨gb125, 0, none⟩ = some (.int .i64 ((rd_T57 l0_1 x39_2).f0.f0)) := (blk_cell BK125.out 0).trans rfl
                                have hcz43_1 : wc.cell? ⟨gb125, 1, none⟩ = some (.int .i64 ((rd_T57 l0_1 x39_2).f0.f1)) := (blk_cell BK125.out 1).trans rfl
                                have hcz43_2 : wc.cell? ⟨gb125, 2, none⟩ = some (.int .i64 ((rd_T57 l0_1 x39_2).f1.f0)) := (blk_cell BK125.out 2).trans rfl
                                have hcz43_3 : wc.cell? ⟨gb125, 3, none⟩ = some (.int .i64 ((rd_T57 l0_1 x39_2).f1.f1)) := (blk_cell BK125.out 3).trans rfl
                                have hcz43_4 : wc.cell? ⟨gb125, 4, none⟩ = some (.bool ((rd_T57 l0_1 x39_2).f2)) := (blk_cell BK125.out 4).trans rfl
                                have hcz43_5 : wc.cell? ⟨gb125, 5, none⟩ = some (.int .i64 ((rd_T57 l0_1 x39_2).f3.f0)) := (blk_cell BK125.out 5).trans rfl
                                have hcz43_6 : wc.cell? ⟨gb125, 6, none⟩ = some (.int .i64 ((rd_T57 l0_1 x39_2).f3.f1)) := (blk_cell BK125.out 6).trans rfl
                                have hfz43_0 := blk_frozen BK125.out 0
                                have hfz43_1 := blk_frozen BK125.out 1
                                have hfz43_2 := blk_frozen BK125.out 2
                                have hfz43_3 := blk_frozen BK125.out 3
                                have hfz43_4 := blk_frozen BK125.out 4
                                have hfz43_5 := blk_frozen BK125.out 5
                                have hfz43_6 := blk_frozen BK125.out 6
                                go_wp2_with (first | ((with_reducible refine gate_callee (f := 31) rfl ?_); refine goesL_ (some 54) rfl rfl Try.func31 (by kernel_rfl) rfl #[.agg #[.int .i64 ((rd_T57 l0_1 x39_2).f0.f0), .int .i64 ((rd_T57 l0_1 x39_2).f0.f1), .int .i64 ((rd_T57 l0_1 x39_2).f1.f0), .int .i64 ((rd_T57 l0_1 x39_2).f1.f1), .bool ((rd_T57 l0_1 x39_2).f2), .int .i64 ((rd_T57 l0_1 x39_2).f3.f0), .int .i64 ((rd_T57 l0_1 x39_2).f3.f1)]] rfl pmAx6_6_ ?_; (with_reducible refine (track_Right.calls kj17 ((rd_T57 l0_1 x39_2).f0.f0) ((rd_T57 l0_1 x39_2).f0.f1) ((rd_T57 l0_1 x39_2).f1.f0) ((rd_T57 l0_1 x39_2).f1.f1) ((rd_T57 l0_1 x39_2).f2) ((rd_T57 l0_1 x39_2).f3.f0) ((rd_T57 l0_1 x39_2).f3.f1) true _ A26.out).mono ?_); rintro e w44 ⟨rfl, hb⟩; refine ⟨_, rfl, ?_⟩; have n0_ := Aside0.mk (blk_below (g := gb123) (o := .cells #[.int .i64 a0_0, .slice (some ad124) l0_1.length c0_1, .slice A0_2 l0_2.length c0_2, .slice A0_3 l0_3.length c0_3] 26 (0, 0)) pmAx6_1_ hb); have n1_ := Aside0.mk (blk_below (g := gb125) (o := .cells #[.int .i64 ((rd_T57 l0_1 x39_2).f0.f0), .int .i64 ((rd_T57 l0_1 x39_2).f0.f1), .int .i64 ((rd_T57 l0_1 x39_2).f1.f0), .int .i64 ((rd_T57 l0_1 x39_2).f1.f1), .bool ((rd_T57 l0_1 x39_2).f2), .int .i64 ((rd_T57 l0_1 x39_2).f3.f0), .int .i64 ((rd_T57 l0_1 x39_2).f3.f1)] 57 (0, 0)) pmAx6_8_ hb); have n2_ := Aside0.mk (below_step pmAx6_2_ hb); clear BK123; clear BK125; clear HB; have BK123 := n0_; have BK125 := n1_; have HB := n2_; clear n0_ n1_ n2_; (try clear hb); (try clear hb2); (try clear hk); (try clear hi); have hcz45_0 : w44.cell? ⟨gb123, 0, none⟩ = some (.int .i64 a0_0) := (blk_cell BK123.out 0).trans rfl; have hcz45_1 : w44.cell? ⟨gb123, 1, none⟩ = some (.slice (some ad124) l0_1.length c0_1) := (blk_cell BK123.out 1).trans rfl; have hcz45_2 : w44.cell? ⟨gb123, 2, none⟩ = some (.slice A0_2 l0_2.length c0_2) := (blk_cell BK123.out 2).trans rfl; have hcz45_3 : w44.cell? ⟨gb123, 3, none⟩ = some (.slice A0_3 l0_3.length c0_3) := (blk_cell BK123.out 3).trans rfl; have hfz45_0 := blk_frozen BK123.out 0; have hfz45_1 := blk_frozen BK123.out 1; have hfz45_2 := blk_frozen BK123.out 2; have hfz45_3 := blk_frozen BK123.out 3; have p128 : 0 ≤ (x39_2 : Int) := of_decide_eq_true pmAx6_5_; have q128 : x39_2 < (l0_3.length : Int) := of_decide_eq_true pmAx6_5_; obtain ⟨ad128, e128, hx128_0⟩ := Kd.at_int HR0_3.out x39_2 p128 q128; cases e128; replace hx128_0 := (HB.out.cell (World.block_lt_of_cell? w _ hx128_0)).trans hx128_0; replace p128 := eq_true p128; replace q128 := eq_true q128) | (go_at_call 32; (with_reducible refine (implicit_within.calls (rd l0_3 x39_2) true _ A30.out).mono ?_); rintro e w' ⟨rfl, ⟨nd, rfl⟩⟩))
                                go_roundg kj17
                                case measure => have := HJ1.out; have := HK2.out; have := HJ17.out; omega
                                case rel => exact ⟨(wrap64 (x39_2 + 1)), pmAx6_9_, H', ⟨by have := HJ1.out; have := HK2.out; have := HJ17.out; omega⟩, ⟨pmAx6_1_⟩, ⟨pmAx6_2_⟩⟩
                            · replace c31 := Bool.eq_false_iff.mpr c31
                              subst c31
                              have H1 : (some false) = some r := by rw [if_neg (show ¬ (false = true) by decide)] at H; exact H
                              clear H
                              have H := H1
                              clear H1
                              obtain rfl := Option.some.inj H
                              have hnb46 := NB125_123.out
                              have hnc46 := NB123_125.out
                              have hcz47_0 : wc.cell? ⟨gb125, 0, none⟩ = some (.int .i64 ((rd_T57 l0_1 x39_2).f0.f0)) := (blk_cell BK125.out 0).trans rfl
                              have hcz47_1 : wc.cell? ⟨gb125, 1, none⟩ = some (.int .i64 ((rd_T57 l0_1 x39_2).f0.f1)) := (blk_cell BK125.out 1).trans rfl
                              have hcz47_2 : wc.cell? ⟨gb125, 2, none⟩ = some (.int .i64 ((rd_T57 l0_1 x39_2).f1.f0)) := (blk_cell BK125.out 2).trans rfl
                              have hcz47_3 : wc.cell? ⟨gb125, 3, none⟩ = some (.int .i64 ((rd_T57 l0_1 x39_2).f1.f1)) := (blk_cell BK125.out 3).trans rfl
                              have hcz47_4 : wc.cell? ⟨gb125, 4, none⟩ = some (.bool ((rd_T57 l0_1 x39_2).f2)) := (blk_cell BK125.out 4).trans rfl
                              have hcz47_5 : wc.cell? ⟨gb125, 5, none⟩ = some (.int .i64 ((rd_T57 l0_1 x39_2).f3.f0)) := (blk_cell BK125.out 5).trans rfl
                              have hcz47_6 : wc.cell? ⟨gb125, 6, none⟩ = some (.int .i64 ((rd_T57 l0_1 x39_2).f3.f1)) := (blk_cell BK125.out 6).trans rfl
                              have hfz47_0 := blk_frozen BK125.out 0
                              have hfz47_1 := blk_frozen BK125.out 1
                              have hfz47_2 := blk_frozen BK125.out 2
                              have hfz47_3 := blk_frozen BK125.out 3
                              have hfz47_4 := blk_frozen BK125.out 4
                              have hfz47_5 := blk_frozen BK125.out 5
                              have hfz47_6 := blk_frozen BK125.out 6
                              go_wp2_with (first | ((with_reducible refine gate_callee (f := 31) rfl ?_); refine goesL_ (some 54) rfl rfl Try.func31 (by kernel_rfl) rfl #[.agg #[.int .i64 ((rd_T57 l0_1 x39_2).f0.f0), .int .i64 ((rd_T57 l0_1 x39_2).f0.f1), .int .i64 ((rd_T57 l0_1 x39_2).f1.f0), .int .i64 ((rd_T57 l0_1 x39_2).f1.f1), .bool ((rd_T57 l0_1 x39_2).f2), .int .i64 ((rd_T57 l0_1 x39_2).f3.f0), .int .i64 ((rd_T57 l0_1 x39_2).f3.f1)]] rfl pmAx6_6_ ?_; (with_reducible refine (track_Right.calls kj17 ((rd_T57 l0_1 x39_2).f0.f0) ((rd_T57 l0_1 x39_2).f0.f1) ((rd_T57 l0_1 x39_2).f1.f0) ((rd_T57 l0_1 x39_2).f1.f1) ((rd_T57 l0_1 x39_2).f2) ((rd_T57 l0_1 x39_2).f3.f0) ((rd_T57 l0_1 x39_2).f3.f1) true _ A26.out).mono ?_); rintro e w48 ⟨rfl, hb⟩; refine ⟨_, rfl, ?_⟩; have n0_ := Aside0.mk (blk_below (g := gb123) (o := .cells #[.int .i64 a0_0, .slice (some ad124) l0_1.length c0_1, .slice A0_2 l0_2.length c0_2, .slice A0_3 l0_3.length c0_3] 26 (0, 0)) pmAx6_1_ hb); have n1_ := Aside0.mk (blk_below (g := gb125) (o := .cells #[.int .i64 ((rd_T57 l0_1 x39_2).f0.f0), .int .i64 ((rd_T57 l0_1 x39_2).f0.f1), .int .i64 ((rd_T57 l0_1 x39_2).f1.f0), .int .i64 ((rd_T57 l0_1 x39_2).f1.f1), .bool ((rd_T57 l0_1 x39_2).f2), .int .i64 ((rd_T57 l0_1 x39_2).f3.f0), .int .i64 ((rd_T57 l0_1 x39_2).f3.f1)] 57 (0, 0)) pmAx6_8_ hb); have n2_ := Aside0.mk (below_step pmAx6_2_ hb); clear BK123; clear BK125; clear HB; have BK123 := n0_; have BK125 := n1_; have HB := n2_; clear n0_ n1_ n2_; (try clear hb); (try clear hb2); (try clear hk); (try clear hi); have hcz49_0 : w48.cell? ⟨gb123, 0, none⟩ = some (.int .i64 a0_0) := (blk_cell BK123.out 0).trans rfl; have hcz49_1 : w48.cell? ⟨gb123, 1, none⟩ = some (.slice (some ad124) l0_1.length c0_1) := (blk_cell BK123.out 1).trans rfl; have hcz49_2 : w48.cell? ⟨gb123, 2, none⟩ = some (.slice A0_2 l0_2.length c0_2) := (blk_cell BK123.out 2).trans rfl; have hcz49_3 : w48.cell? ⟨gb123, 3, none⟩ = some (.slice A0_3 l0_3.length c0_3) := (blk_cell BK123.out 3).trans rfl; have hfz49_0 := blk_frozen BK123.out 0; have hfz49_1 := blk_frozen BK123.out 1; have hfz49_2 := blk_frozen BK123.out 2; have hfz49_3 := blk_frozen BK123.out 3; have p128 : 0 ≤ (x39_2 : Int) := of_decide_eq_true pmAx6_5_; have q128 : x39_2 < (l0_3.length : Int) := of_decide_eq_true pmAx6_5_; obtain ⟨ad128, e128, hx128_0⟩ := Kd.at_int HR0_3.out x39_2 p128 q128; cases e128; replace hx128_0 := (HB.out.cell (World.block_lt_of_cell? w _ hx128_0)).trans hx128_0; replace p128 := eq_true p128; replace q128 := eq_true q128) | (go_at_call 32; (with_reducible refine (implicit_within.calls (rd l0_3 x39_2) false _ A30.out).mono ?_); rintro e w' ⟨rfl, ⟨nd, rfl⟩⟩))
                              go_ret
                              exact ⟨by first | rfl | (simp [errW_none, errW_some] <;> rfl) | (simp [*, errW_none, errW_some] <;> rfl), by repeat (first | (with_reducible first | exact HB.out | apply below_alloc | apply pw_below_drewN | apply below_drew1 | refine below_set ?_ GE123.out | refine below_set ?_ GE125.out) | exact HB.out)⟩
                          · rw [if_neg c29] at H
                            exact absurd H (by simp)
                        · rw [if_neg c28] at H
                          exact absurd H (by simp)
                      · replace c27 := Bool.eq_false_iff.mpr c27
                        subst c27
                        have H1 : (some false) = some r := by rw [if_neg (show ¬ (false = true) by decide)] at H; exact H
                        clear H
                        have H := H1
                        clear H1
                        obtain rfl := Option.some.inj H
                        have hnb50 := NB125_123.out
                        have hnc50 := NB123_125.out
                        have hcz51_0 : wc.cell? ⟨gb125, 0, none⟩ = some (.int .i64 ((rd_T57 l0_1 x39_2).f0.f0)) := (blk_cell BK125.out 0).trans rfl
                        have hcz51_1 : wc.cell? ⟨gb125, 1, none⟩ = some (.int .i64 ((rd_T57 l0_1 x39_2).f0.f1)) := (blk_cell BK125.out 1).trans rfl
                        have hcz51_2 : wc.cell? ⟨gb125, 2, none⟩ = some (.int .i64 ((rd_T57 l0_1 x39_2).f1.f0)) := (blk_cell BK125.out 2).trans rfl
                        have hcz51_3 : wc.cell? ⟨gb125, 3, none⟩ = some (.int .i64 ((rd_T57 l0_1 x39_2).f1.f1)) := (blk_cell BK125.out 3).trans rfl
                        have hcz51_4 : wc.cell? ⟨gb125, 4, none⟩ = some (.bool ((rd_T57 l0_1 x39_2).f2)) := (blk_cell BK125.out 4).trans rfl
                        have hcz51_5 : wc.cell? ⟨gb125, 5, none⟩ = some (.int .i64 ((rd_T57 l0_1 x39_2).f3.f0)) := (blk_cell BK125.out 5).trans rfl
                        have hcz51_6 : wc.cell? ⟨gb125, 6, none⟩ = some (.int .i64 ((rd_T57 l0_1 x39_2).f3.f1)) := (blk_cell BK125.out 6).trans rfl
                        have hfz51_0 := blk_frozen BK125.out 0
                        have hfz51_1 := blk_frozen BK125.out 1
                        have hfz51_2 := blk_frozen BK125.out 2
                        have hfz51_3 := blk_frozen BK125.out 3
                        have hfz51_4 := blk_frozen BK125.out 4
                        have hfz51_5 := blk_frozen BK125.out 5
                        have hfz51_6 := blk_frozen BK125.out 6
                        go_wp2_with (first | ((with_reducible refine gate_callee (f := 31) rfl ?_); refine goesL_ (some 54) rfl rfl Try.func31 (by kernel_rfl) rfl #[.agg #[.int .i64 ((rd_T57 l0_1 x39_2).f0.f0), .int .i64 ((rd_T57 l0_1 x39_2).f0.f1), .int .i64 ((rd_T57 l0_1 x39_2).f1.f0), .int .i64 ((rd_T57 l0_1 x39_2).f1.f1), .bool ((rd_T57 l0_1 x39_2).f2), .int .i64 ((rd_T57 l0_1 x39_2).f3.f0), .int .i64 ((rd_T57 l0_1 x39_2).f3.f1)]] rfl pmAx6_6_ ?_; (with_reducible refine (track_Right.calls kj17 ((rd_T57 l0_1 x39_2).f0.f0) ((rd_T57 l0_1 x39_2).f0.f1) ((rd_T57 l0_1 x39_2).f1.f0) ((rd_T57 l0_1 x39_2).f1.f1) ((rd_T57 l0_1 x39_2).f2) ((rd_T57 l0_1 x39_2).f3.f0) ((rd_T57 l0_1 x39_2).f3.f1) false _ A26.out).mono ?_); rintro e w52 ⟨rfl, hb⟩; refine ⟨_, rfl, ?_⟩; have n0_ := Aside0.mk (blk_below (g := gb123) (o := .cells #[.int .i64 a0_0, .slice (some ad124) l0_1.length c0_1, .slice A0_2 l0_2.length c0_2, .slice A0_3 l0_3.length c0_3] 26 (0, 0)) pmAx6_1_ hb); have n1_ := Aside0.mk (blk_below (g := gb125) (o := .cells #[.int .i64 ((rd_T57 l0_1 x39_2).f0.f0), .int .i64 ((rd_T57 l0_1 x39_2).f0.f1), .int .i64 ((rd_T57 l0_1 x39_2).f1.f0), .int .i64 ((rd_T57 l0_1 x39_2).f1.f1), .bool ((rd_T57 l0_1 x39_2).f2), .int .i64 ((rd_T57 l0_1 x39_2).f3.f0), .int .i64 ((rd_T57 l0_1 x39_2).f3.f1)] 57 (0, 0)) pmAx6_8_ hb); have n2_ := Aside0.mk (below_step pmAx6_2_ hb); clear BK123; clear BK125; clear HB; have BK123 := n0_; have BK125 := n1_; have HB := n2_; clear n0_ n1_ n2_; (try clear hb); (try clear hb2); (try clear hk); (try clear hi)))
                        go_ret
                        exact ⟨by first | rfl | (simp [errW_none, errW_some] <;> rfl) | (simp [*, errW_none, errW_some] <;> rfl), by repeat (first | (with_reducible first | exact HB.out | apply below_alloc | apply pw_below_drewN | apply below_drew1 | refine below_set ?_ GE123.out | refine below_set ?_ GE125.out) | exact HB.out)⟩
                · rw [if_neg c17] at H
                  exact absurd H (by simp)
              · rw [if_neg c16] at H
                exact absurd H (by simp)
            · rw [if_neg c15] at H
              have c15b0 : decide (x39_2 < (l0_1.length : Int)) = false := decide_eq_false c15
              clear c15
              obtain rfl := Option.some.inj H
              go_wp2
              go_ret
              exact ⟨by first | rfl | (simp [errW_none, errW_some] <;> rfl) | (simp [*, errW_none, errW_some] <;> rfl), by repeat (first | (with_reducible first | exact HB.out | apply below_alloc | apply pw_below_drewN | apply below_drew1 | refine below_set ?_ GE123.out) | exact HB.out)⟩

/-! ### tracks_within: function 23 -/
def tracks_within.f (a0 : Int) : Option (Bool) := if a0 ≥ 0 then ((fixed_Is.f a0).bind fun t131 => (some t131)) else (some false)
set_option maxHeartbeats 8000000 in
set_option maxRecDepth 100000 in
theorem tracks_within.calls (a0 : Int) (r : Bool) (w : World) (h : tracks_within.f a0 = some r) :
    Calls Try.prog 23 #[.int .i64 a0] w fun e w' => e = .returned (.bool r) ∧ Drawn0 w w' := by
  have H : (if a0 ≥ 0 then ((fixed_Is.f a0).bind fun t131 => (some t131)) else (some false)) = some r := h
  clear h
  by_cases c2 : a0 ≥ 0
  · rw [if_pos c2] at H
    have c2b0 : decide (0 ≤ a0) = true := decide_eq_true c2
    clear c2
    replace H := Option.bind_eq_some_iff.mp H
    obtain ⟨t131, A30, H⟩ := H
    replace H : (some t131) = some r := H
    have A3 := Aside0.mk A30
    clear A30
    obtain rfl := Option.some.inj H
    go_enter Try.func23, Try.ntmps23
    go_wp2_with (first | (go_at_call 15; (with_reducible refine (fixed_Is.calls a0 t131 _ A3.out).mono ?_); rintro e w' ⟨rfl, ⟨nd, rfl⟩⟩))
    go_ret
    exact ⟨by first | rfl | (simp; done) | (simp [*]; done), by repeat (first | exact Drawn0.refl _ | apply Drawn0.step)⟩
  · rw [if_neg c2] at H
    have c2b0 : decide (0 ≤ a0) = false := decide_eq_false c2
    clear c2
    obtain rfl := Option.some.inj H
    go_enter Try.func23, Try.ntmps23
    go_wp2
    go_ret
    exact ⟨by first | rfl | (simp; done) | (simp [*]; done), by repeat (first | exact Drawn0.refl _ | apply Drawn0.step)⟩

end Go.Proofs.Ytbkohlhonhmhmaa.PA
