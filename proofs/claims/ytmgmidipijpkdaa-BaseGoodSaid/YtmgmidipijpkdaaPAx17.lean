-- written by a program of this session (a print of the translation with changes of its own)
import Derived.Test.YtmgmidipijpkdaaPAx0
namespace Go.Proofs.Ytmgmidipijpkdaa.PA
open Go.RowKit Go.Proofs.YtmgmidipijpkdaaW.PrintWords Go.Proofs.YtmgmidipijpkdaaW.PrintLast Go.Proofs.YtmgmidipijpkdaaW.PrintMore
theorem pmAx17_0_ {P : Prop} (h : P := by repeat (first | (with_reducible first | exact HB.out | apply below_alloc | apply pw_below_drewN | apply below_drew1 | refine below_set ?_ GE375.out) | exact HB.out)) : P := h
theorem pmAx17_1_ {P : Prop} (h : P := by (with_reducible repeat (first | refine blk_drewN ?_ _ | refine blk_drew ?_ | refine blk_alloc ?_ _)); exact BK375.out) : P := h
theorem pmAx17_2_ {P : Prop} (h : P := by first | rfl | (simp; done) | (simp [*]; done)) : P := h
theorem pmAx17_3_ {P : Prop} (h : P := by repeat (first | (with_reducible first | exact HB.out | apply below_alloc | apply pw_below_drewN | apply below_drew1) | exact HB.out)) : P := h
attribute [local go_sem] run_index_arr max2_int min2_int max_two min_two max_three min_three max_four min_four   -- for this text's walks alone
set_option linter.unusedVariables false
set_option linter.unusedSimpArgs false

/-! ### parterreref22_Good: function 10 -/
mutual
def parterreref22_Good.j0 : Nat → Bool → Int → Int → Int → Bool → Int → Int → Int → Option (Bool)
  | 0, _, _, _, _, _, _, _, _ => none
  | k + 1, x20, x376000, x376001, x376002, x376003, x376004, x376005, x376006 => if x20 = true then (some false) else (if x376002 < 0 then (parterreref22_Good.j1 k true x376000 x376001 x376002 x376003 x376004 x376005 x376006) else (if x376002 > 1073741824 then (parterreref22_Good.j1 k true x376000 x376001 x376002 x376003 x376004 x376005 x376006) else (if x376001 = 5 then (parterreref22_Good.j1 k false x376000 x376001 x376002 x376003 x376004 x376005 x376006) else (parterreref22_Good.j1 k (x376002 != 0) x376000 x376001 x376002 x376003 x376004 x376005 x376006))))
def parterreref22_Good.j1 : Nat → Bool → Int → Int → Int → Bool → Int → Int → Int → Option (Bool)
  | 0, _, _, _, _, _, _, _, _ => none
  | k + 1, x38, x376000, x376001, x376002, x376003, x376004, x376005, x376006 => if x38 = true then (some false) else (if x376004 < 0 then (some false) else (if x376004 > 68719476736 then (some false) else (if x376003 = true then (if x376000 = 2 then (if x376001 = 4 then (if x376005 ≥ 0 then (if x376005 < 1125899906842624 then (if x376006 ≥ x376005 then (some (decide (x376006 ≤ 1125899906842624))) else (some false)) else (some false)) else (some false)) else (some false)) else (some false)) else (if x376004 = 0 then (if x376005 ≥ 0 then (if x376005 < 1125899906842624 then (if x376006 ≥ x376005 then (some (decide (x376006 ≤ 1125899906842624))) else (some false)) else (some false)) else (some false)) else (some false)))))
end
def parterreref22_Good.f (k : Nat) (a0_0 : Int) (a0_1 : Int) (a0_2 : Int) (a0_3 : Bool) (a0_4 : Int) (a0_5 : Int) (a0_6 : Int) : Option (Bool) := if a0_0 < 1 then (parterreref22_Good.j0 k true a0_0 a0_1 a0_2 a0_3 a0_4 a0_5 a0_6) else (if a0_0 > 4 then (parterreref22_Good.j0 k true a0_0 a0_1 a0_2 a0_3 a0_4 a0_5 a0_6) else (if a0_1 < 1 then (parterreref22_Good.j0 k true a0_0 a0_1 a0_2 a0_3 a0_4 a0_5 a0_6) else (parterreref22_Good.j0 k (decide (a0_1 > 5)) a0_0 a0_1 a0_2 a0_3 a0_4 a0_5 a0_6)))
theorem parterreref22_Good.mono_l : ∀ k, (∀ y0 y1 y2 y3 y4 y5 y6 y7, LeO (parterreref22_Good.j0 k y0 y1 y2 y3 y4 y5 y6 y7) (parterreref22_Good.j0 (k + 1) y0 y1 y2 y3 y4 y5 y6 y7)) ∧ (∀ y0 y1 y2 y3 y4 y5 y6 y7, LeO (parterreref22_Good.j1 k y0 y1 y2 y3 y4 y5 y6 y7) (parterreref22_Good.j1 (k + 1) y0 y1 y2 y3 y4 y5 y6 y7))
  | 0 => ⟨fun _ _ _ _ _ _ _ _ r h => by simp [parterreref22_Good.j0] at h, fun _ _ _ _ _ _ _ _ r h => by simp [parterreref22_Good.j1] at h⟩
  | k + 1 => by
    obtain ⟨ih0, ih1⟩ := parterreref22_Good.mono_l k
    refine ⟨?_, ?_⟩
    · intro y0 y1 y2 y3 y4 y5 y6 y7
      unfold parterreref22_Good.j0
      repeat' first
      | (with_reducible exact ih0 _ _ _ _ _ _ _ _)
      | (with_reducible exact ih1 _ _ _ _ _ _ _ _)
      | (with_reducible exact LeO.refl _)
      | (with_reducible exact LeO.none _)
      | (with_reducible refine LeO.ite ?_ ?_)
      | (with_reducible refine LeO.bind ?_ (fun _ => ?_))
      | exact ih0 _ _ _ _ _ _ _ _
      | exact ih1 _ _ _ _ _ _ _ _
      | exact LeO.none _
      | refine LeO.ite ?_ ?_
      | refine LeO.bind ?_ (fun _ => ?_)
    · intro y0 y1 y2 y3 y4 y5 y6 y7
      unfold parterreref22_Good.j1
      repeat' first
      | (with_reducible exact ih0 _ _ _ _ _ _ _ _)
      | (with_reducible exact ih1 _ _ _ _ _ _ _ _)
      | (with_reducible exact LeO.refl _)
      | (with_reducible exact LeO.none _)
      | (with_reducible refine LeO.ite ?_ ?_)
      | (with_reducible refine LeO.bind ?_ (fun _ => ?_))
      | exact ih0 _ _ _ _ _ _ _ _
      | exact ih1 _ _ _ _ _ _ _ _
      | exact LeO.none _
      | refine LeO.ite ?_ ?_
      | refine LeO.bind ?_ (fun _ => ?_)
theorem parterreref22_Good.mono : ∀ a0 a1 a2 a3 a4 a5 a6 k, LeO (parterreref22_Good.f k a0 a1 a2 a3 a4 a5 a6) (parterreref22_Good.f (k + 1) a0 a1 a2 a3 a4 a5 a6) := by
  intro a0 a1 a2 a3 a4 a5 a6 k
  obtain ⟨ih0, ih1⟩ := parterreref22_Good.mono_l k
  unfold parterreref22_Good.f
  repeat' first
      | (with_reducible exact ih0 _ _ _ _ _ _ _ _)
      | (with_reducible exact ih1 _ _ _ _ _ _ _ _)
      | (with_reducible exact LeO.refl _)
      | (with_reducible exact LeO.none _)
      | (with_reducible refine LeO.ite ?_ ?_)
      | (with_reducible refine LeO.bind ?_ (fun _ => ?_))
      | exact ih0 _ _ _ _ _ _ _ _
      | exact ih1 _ _ _ _ _ _ _ _
      | exact LeO.none _
      | refine LeO.ite ?_ ?_
      | refine LeO.bind ?_ (fun _ => ?_)
set_option maxHeartbeats 8000000 in
set_option maxRecDepth 100000 in
theorem parterreref22_Good.calls (k : Nat) (a0_0 : Int) (a0_1 : Int) (a0_2 : Int) (a0_3 : Bool) (a0_4 : Int) (a0_5 : Int) (a0_6 : Int) (r : Bool) (w : World) (h : parterreref22_Good.f k a0_0 a0_1 a0_2 a0_3 a0_4 a0_5 a0_6 = some r) :
    Calls Try.prog 10 #[.agg #[.int .i64 a0_0, .int .i64 a0_1, .int .i64 a0_2, .bool a0_3, .int .i64 a0_4, .int .i64 a0_5, .int .i64 a0_6]] w fun e w' => e = .returned (.bool r) ∧ Below w.heap.size w w' := by
  have hu27 := Try.underlying27
  have HB := Aside0.mk (Below.refl w.heap.size w)
  have H : (if a0_0 < 1 then (parterreref22_Good.j0 k true a0_0 a0_1 a0_2 a0_3 a0_4 a0_5 a0_6) else (if a0_0 > 4 then (parterreref22_Good.j0 k true a0_0 a0_1 a0_2 a0_3 a0_4 a0_5 a0_6) else (if a0_1 < 1 then (parterreref22_Good.j0 k true a0_0 a0_1 a0_2 a0_3 a0_4 a0_5 a0_6) else (parterreref22_Good.j0 k (decide (a0_1 > 5)) a0_0 a0_1 a0_2 a0_3 a0_4 a0_5 a0_6)))) = some r := h
  clear h
  have HC2 := Aside0.mk H
  clear H
  go_enter Try.func10, Try.ntmps10
  go_upto_region 1 with (first | ((with_reducible refine gate_dst (N := 1) rfl ?_); refine box_event ?hg (N := 1) ?hd (cs := #[.int .i64 a0_0, .int .i64 a0_1, .int .i64 a0_2, .bool a0_3, .int .i64 a0_4, .int .i64 a0_5, .int .i64 a0_6]) (t := 27) ?hr ?_; (case hd => rfl); (case hg => rfl); (case hr => first | (go_simp; done) | (go_simp; rfl)); intro gb375 hg w3 hbox hb; have n0_ := Aside0.mk (below_step pmAx17_3_ hb); have n1_ := Aside0.mk (hbox); have n2_ := Aside0.mk ((by rw [hg]; exact (below_size pmAx17_3_) : w.heap.size ≤ gb375)); have n3_ := Aside0.mk ((by rw [hg]; exact (below_size pmAx17_3_) : w.heap.size ≤ gb375)); clear HB; have HB := n0_; have BK375 := n1_; have GW375 := n2_; have GE375 := n3_; clear n0_ n1_ n2_ n3_; clear hb hbox hg))
  (try simp only [Act.put, List.setIfInBounds_toArray, List.set_cons_zero, List.set_cons_succ])
  go_cut [20] (fun v20 wc => ∃ (kq : Nat) (x20_1 : Bool), v20 = .bool x20_1 ∧ Aside0 (parterreref22_Good.j0 kq x20_1 a0_0 a0_1 a0_2 a0_3 a0_4 a0_5 a0_6 = some r) ∧ Aside0 (kq ≤ k) ∧ Aside0 (wc.heap[gb375]? = some (.cells #[.int .i64 a0_0, .int .i64 a0_1, .int .i64 a0_2, .bool a0_3, .int .i64 a0_4, .int .i64 a0_5, .int .i64 a0_6] 27 (0, 0))) ∧ Aside0 (Below w.heap.size w wc))
  case first =>
    have H := HC2.out
    clear HC2
    by_cases c4 : a0_0 < 1
    · rw [if_pos c4] at H
      have c4b0 : decide (a0_0 < 1) = true := decide_eq_true c4
      clear c4
      (first | rw [c4b0] | (simp only [i64_w, i32_w]; rw [c4b0]) | skip)
      have H' := Aside0.mk H
      clear H
      have hcz5_0 : w3.cell? ⟨gb375, 0, none⟩ = some (.int .i64 a0_0) := (blk_cell BK375.out 0).trans rfl
      have hcz5_1 : w3.cell? ⟨gb375, 1, none⟩ = some (.int .i64 a0_1) := (blk_cell BK375.out 1).trans rfl
      have hcz5_2 : w3.cell? ⟨gb375, 2, none⟩ = some (.int .i64 a0_2) := (blk_cell BK375.out 2).trans rfl
      have hcz5_3 : w3.cell? ⟨gb375, 3, none⟩ = some (.bool a0_3) := (blk_cell BK375.out 3).trans rfl
      have hcz5_4 : w3.cell? ⟨gb375, 4, none⟩ = some (.int .i64 a0_4) := (blk_cell BK375.out 4).trans rfl
      have hcz5_5 : w3.cell? ⟨gb375, 5, none⟩ = some (.int .i64 a0_5) := (blk_cell BK375.out 5).trans rfl
      have hcz5_6 : w3.cell? ⟨gb375, 6, none⟩ = some (.int .i64 a0_6) := (blk_cell BK375.out 6).trans rfl
      have hfz5_0 := blk_frozen BK375.out 0
      have hfz5_1 := blk_frozen BK375.out 1
      have hfz5_2 := blk_frozen BK375.out 2
      have hfz5_3 := blk_frozen BK375.out 3
      have hfz5_4 := blk_frozen BK375.out 4
      have hfz5_5 := blk_frozen BK375.out 5
      have hfz5_6 := blk_frozen BK375.out 6
      go_wp2
      go_meet
      case rel => exact ⟨_, (true), pmAx17_2_, H', ⟨by first | omega | exact Nat.le_refl _⟩, ⟨pmAx17_1_⟩, ⟨pmAx17_0_⟩⟩
    · rw [if_neg c4] at H
      have c4b0 : decide (a0_0 < 1) = false := decide_eq_false c4
      clear c4
      (first | rw [c4b0] | (simp only [i64_w, i32_w]; rw [c4b0]) | skip)
      by_cases c6 : a0_0 > 4
      · rw [if_pos c6] at H
        have c6b0 : decide (4 < a0_0) = true := decide_eq_true c6
        clear c6
        have H' := Aside0.mk H
        clear H
        have hcz7_0 : w3.cell? ⟨gb375, 0, none⟩ = some (.int .i64 a0_0) := (blk_cell BK375.out 0).trans rfl
        have hcz7_1 : w3.cell? ⟨gb375, 1, none⟩ = some (.int .i64 a0_1) := (blk_cell BK375.out 1).trans rfl
        have hcz7_2 : w3.cell? ⟨gb375, 2, none⟩ = some (.int .i64 a0_2) := (blk_cell BK375.out 2).trans rfl
        have hcz7_3 : w3.cell? ⟨gb375, 3, none⟩ = some (.bool a0_3) := (blk_cell BK375.out 3).trans rfl
        have hcz7_4 : w3.cell? ⟨gb375, 4, none⟩ = some (.int .i64 a0_4) := (blk_cell BK375.out 4).trans rfl
        have hcz7_5 : w3.cell? ⟨gb375, 5, none⟩ = some (.int .i64 a0_5) := (blk_cell BK375.out 5).trans rfl
        have hcz7_6 : w3.cell? ⟨gb375, 6, none⟩ = some (.int .i64 a0_6) := (blk_cell BK375.out 6).trans rfl
        have hfz7_0 := blk_frozen BK375.out 0
        have hfz7_1 := blk_frozen BK375.out 1
        have hfz7_2 := blk_frozen BK375.out 2
        have hfz7_3 := blk_frozen BK375.out 3
        have hfz7_4 := blk_frozen BK375.out 4
        have hfz7_5 := blk_frozen BK375.out 5
        have hfz7_6 := blk_frozen BK375.out 6
        go_wp2
        go_meet
        case rel => exact ⟨_, (true), pmAx17_2_, H', ⟨by first | omega | exact Nat.le_refl _⟩, ⟨pmAx17_1_⟩, ⟨pmAx17_0_⟩⟩
      · rw [if_neg c6] at H
        have c6b0 : decide (4 < a0_0) = false := decide_eq_false c6
        clear c6
        by_cases c8 : a0_1 < 1
        · rw [if_pos c8] at H
          have c8b0 : decide (a0_1 < 1) = true := decide_eq_true c8
          clear c8
          have H' := Aside0.mk H
          clear H
          have hcz9_0 : w3.cell? ⟨gb375, 0, none⟩ = some (.int .i64 a0_0) := (blk_cell BK375.out 0).trans rfl
          have hcz9_1 : w3.cell? ⟨gb375, 1, none⟩ = some (.int .i64 a0_1) := (blk_cell BK375.out 1).trans rfl
          have hcz9_2 : w3.cell? ⟨gb375, 2, none⟩ = some (.int .i64 a0_2) := (blk_cell BK375.out 2).trans rfl
          have hcz9_3 : w3.cell? ⟨gb375, 3, none⟩ = some (.bool a0_3) := (blk_cell BK375.out 3).trans rfl
          have hcz9_4 : w3.cell? ⟨gb375, 4, none⟩ = some (.int .i64 a0_4) := (blk_cell BK375.out 4).trans rfl
          have hcz9_5 : w3.cell? ⟨gb375, 5, none⟩ = some (.int .i64 a0_5) := (blk_cell BK375.out 5).trans rfl
          have hcz9_6 : w3.cell? ⟨gb375, 6, none⟩ = some (.int .i64 a0_6) := (blk_cell BK375.out 6).trans rfl
          have hfz9_0 := blk_frozen BK375.out 0
          have hfz9_1 := blk_frozen BK375.out 1
          have hfz9_2 := blk_frozen BK375.out 2
          have hfz9_3 := blk_frozen BK375.out 3
          have hfz9_4 := blk_frozen BK375.out 4
          have hfz9_5 := blk_frozen BK375.out 5
          have hfz9_6 := blk_frozen BK375.out 6
          go_wp2
          go_meet
          case rel => exact ⟨_, (true), pmAx17_2_, H', ⟨by first | omega | exact Nat.le_refl _⟩, ⟨pmAx17_1_⟩, ⟨pmAx17_0_⟩⟩
        · rw [if_neg c8] at H
          have c8b0 : decide (a0_1 < 1) = false := decide_eq_false c8
          clear c8
          have H' := Aside0.mk H
          clear H
          have hcz10_0 : w3.cell? ⟨gb375, 0, none⟩ = some (.int .i64 a0_0) := (blk_cell BK375.out 0).trans rfl
          have hcz10_1 : w3.cell? ⟨gb375, 1, none⟩ = some (.int .i64 a0_1) := (blk_cell BK375.out 1).trans rfl
          have hcz10_2 : w3.cell? ⟨gb375, 2, none⟩ = some (.int .i64 a0_2) := (blk_cell BK375.out 2).trans rfl
          have hcz10_3 : w3.cell? ⟨gb375, 3, none⟩ = some (.bool a0_3) := (blk_cell BK375.out 3).trans rfl
          have hcz10_4 : w3.cell? ⟨gb375, 4, none⟩ = some (.int .i64 a0_4) := (blk_cell BK375.out 4).trans rfl
          have hcz10_5 : w3.cell? ⟨gb375, 5, none⟩ = some (.int .i64 a0_5) := (blk_cell BK375.out 5).trans rfl
          have hcz10_6 : w3.cell? ⟨gb375, 6, none⟩ = some (.int .i64 a0_6) := (blk_cell BK375.out 6).trans rfl
          have hfz10_0 := blk_frozen BK375.out 0
          have hfz10_1 := blk_frozen BK375.out 1
          have hfz10_2 := blk_frozen BK375.out 2
          have hfz10_3 := blk_frozen BK375.out 3
          have hfz10_4 := blk_frozen BK375.out 4
          have hfz10_5 := blk_frozen BK375.out 5
          have hfz10_6 := blk_frozen BK375.out 6
          go_wp2
          go_meet
          case rel => exact ⟨_, (decide (a0_1 > 5)), pmAx17_2_, H', ⟨by first | omega | exact Nat.le_refl _⟩, ⟨pmAx17_1_⟩, ⟨pmAx17_0_⟩⟩
  case rest =>
    clear HC2
    try clear c1
    try clear p2
    try clear c4
    try clear c4b0
    try clear c6
    try clear c6b0
    try clear c8
    try clear c8b0
    try clear c10
    try clear hcz10_0
    try clear hcz10_1
    try clear hcz10_2
    try clear hcz10_3
    try clear hcz10_4
    try clear hcz10_5
    try clear hcz10_6
    try clear hcz5_0
    try clear hcz5_1
    try clear hcz5_2
    try clear hcz5_3
    try clear hcz5_4
    try clear hcz5_5
    try clear hcz5_6
    try clear hcz7_0
    try clear hcz7_1
    try clear hcz7_2
    try clear hcz7_3
    try clear hcz7_4
    try clear hcz7_5
    try clear hcz7_6
    try clear hcz9_0
    try clear hcz9_1
    try clear hcz9_2
    try clear hcz9_3
    try clear hcz9_4
    try clear hcz9_5
    try clear hcz9_6
    try clear hfz10_0
    try clear hfz10_1
    try clear hfz10_2
    try clear hfz10_3
    try clear hfz10_4
    try clear hfz10_5
    try clear hfz10_6
    try clear hfz5_0
    try clear hfz5_1
    try clear hfz5_2
    try clear hfz5_3
    try clear hfz5_4
    try clear hfz5_5
    try clear hfz5_6
    try clear hfz7_0
    try clear hfz7_1
    try clear hfz7_2
    try clear hfz7_3
    try clear hfz7_4
    try clear hfz7_5
    try clear hfz7_6
    try clear hfz9_0
    try clear hfz9_1
    try clear hfz9_2
    try clear hfz9_3
    try clear hfz9_4
    try clear hfz9_5
    try clear hfz9_6
    obtain ⟨kq, x20_1, rfl, HA, HJ1, BK375, HB⟩ := hcut
    cases kq with
    | zero => exact absurd HA.out (by simp [parterreref22_Good.j0])
    | succ kj1 =>
      have H := HA.out
      clear HA
      simp only [parterreref22_Good.j0] at H
      by_cases c11 : x20_1 = true
      · subst c11
        have H1 : (some false) = some r := by rw [if_pos rfl] at H; exact H
        clear H
        have H := H1
        clear H1
        obtain rfl := Option.some.inj H
        go_wp2
        go_ret
        exact ⟨by first | rfl | (simp [errW_none, errW_some] <;> rfl) | (simp [*, errW_none, errW_some] <;> rfl), by repeat (first | (with_reducible first | exact HB.out | apply below_alloc | apply pw_below_drewN | apply below_drew1 | refine below_set ?_ GE375.out) | exact HB.out)⟩
      · replace c11 := Bool.eq_false_iff.mpr c11
        subst c11
        have H1 : (if a0_2 < 0 then (parterreref22_Good.j1 kj1 true a0_0 a0_1 a0_2 a0_3 a0_4 a0_5 a0_6) else (if a0_2 > 1073741824 then (parterreref22_Good.j1 kj1 true a0_0 a0_1 a0_2 a0_3 a0_4 a0_5 a0_6) else (if a0_1 = 5 then (parterreref22_Good.j1 kj1 false a0_0 a0_1 a0_2 a0_3 a0_4 a0_5 a0_6) else (parterreref22_Good.j1 kj1 (a0_2 != 0) a0_0 a0_1 a0_2 a0_3 a0_4 a0_5 a0_6)))) = some r := by rw [if_neg (show ¬ (false = true) by decide)] at H; exact H
        clear H
        have H := H1
        clear H1
        have HC12 := Aside0.mk H
        clear H
        go_upto_region 3 with (fail)
        go_cut [38] (fun v38 wc => ∃ (kq : Nat) (x38_11 : Bool), v38 = .bool x38_11 ∧ Aside0 (parterreref22_Good.j1 kq x38_11 a0_0 a0_1 a0_2 a0_3 a0_4 a0_5 a0_6 = some r) ∧ Aside0 (kq ≤ kj1) ∧ Aside0 (wc.heap[gb375]? = some (.cells #[.int .i64 a0_0, .int .i64 a0_1, .int .i64 a0_2, .bool a0_3, .int .i64 a0_4, .int .i64 a0_5, .int .i64 a0_6] 27 (0, 0))) ∧ Aside0 (Below w.heap.size w wc))
        case first =>
          have H := HC12.out
          clear HC12
          by_cases c13 : a0_2 < 0
          · rw [if_pos c13] at H
            have c13b0 : decide (a0_2 < 0) = true := decide_eq_true c13
            clear c13
            (first | rw [c13b0] | (simp only [i64_w, i32_w]; rw [c13b0]) | skip)
            have H' := Aside0.mk H
            clear H
            have hcz14_0 : wc.cell? ⟨gb375, 0, none⟩ = some (.int .i64 a0_0) := (blk_cell BK375.out 0).trans rfl
            have hcz14_1 : wc.cell? ⟨gb375, 1, none⟩ = some (.int .i64 a0_1) := (blk_cell BK375.out 1).trans rfl
            have hcz14_2 : wc.cell? ⟨gb375, 2, none⟩ = some (.int .i64 a0_2) := (blk_cell BK375.out 2).trans rfl
            have hcz14_3 : wc.cell? ⟨gb375, 3, none⟩ = some (.bool a0_3) := (blk_cell BK375.out 3).trans rfl
            have hcz14_4 : wc.cell? ⟨gb375, 4, none⟩ = some (.int .i64 a0_4) := (blk_cell BK375.out 4).trans rfl
            have hcz14_5 : wc.cell? ⟨gb375, 5, none⟩ = some (.int .i64 a0_5) := (blk_cell BK375.out 5).trans rfl
            have hcz14_6 : wc.cell? ⟨gb375, 6, none⟩ = some (.int .i64 a0_6) := (blk_cell BK375.out 6).trans rfl
            have hfz14_0 := blk_frozen BK375.out 0
            have hfz14_1 := blk_frozen BK375.out 1
            have hfz14_2 := blk_frozen BK375.out 2
            have hfz14_3 := blk_frozen BK375.out 3
            have hfz14_4 := blk_frozen BK375.out 4
            have hfz14_5 := blk_frozen BK375.out 5
            have hfz14_6 := blk_frozen BK375.out 6
            go_wp2
            go_meet
            case rel => exact ⟨_, (true), pmAx17_2_, H', ⟨by have := HJ1.out; first | omega | exact Nat.le_refl _⟩, ⟨pmAx17_1_⟩, ⟨pmAx17_0_⟩⟩
          · rw [if_neg c13] at H
            have c13b0 : decide (a0_2 < 0) = false := decide_eq_false c13
            clear c13
            (first | rw [c13b0] | (simp only [i64_w, i32_w]; rw [c13b0]) | skip)
            by_cases c15 : a0_2 > 1073741824
            · rw [if_pos c15] at H
              have c15b0 : decide (1073741824 < a0_2) = true := decide_eq_true c15
              clear c15
              have H' := Aside0.mk H
              clear H
              have hcz16_0 : wc.cell? ⟨gb375, 0, none⟩ = some (.int .i64 a0_0) := (blk_cell BK375.out 0).trans rfl
              have hcz16_1 : wc.cell? ⟨gb375, 1, none⟩ = some (.int .i64 a0_1) := (blk_cell BK375.out 1).trans rfl
              have hcz16_2 : wc.cell? ⟨gb375, 2, none⟩ = some (.int .i64 a0_2) := (blk_cell BK375.out 2).trans rfl
              have hcz16_3 : wc.cell? ⟨gb375, 3, none⟩ = some (.bool a0_3) := (blk_cell BK375.out 3).trans rfl
              have hcz16_4 : wc.cell? ⟨gb375, 4, none⟩ = some (.int .i64 a0_4) := (blk_cell BK375.out 4).trans rfl
              have hcz16_5 : wc.cell? ⟨gb375, 5, none⟩ = some (.int .i64 a0_5) := (blk_cell BK375.out 5).trans rfl
              have hcz16_6 : wc.cell? ⟨gb375, 6, none⟩ = some (.int .i64 a0_6) := (blk_cell BK375.out 6).trans rfl
              have hfz16_0 := blk_frozen BK375.out 0
              have hfz16_1 := blk_frozen BK375.out 1
              have hfz16_2 := blk_frozen BK375.out 2
              have hfz16_3 := blk_frozen BK375.out 3
              have hfz16_4 := blk_frozen BK375.out 4
              have hfz16_5 := blk_frozen BK375.out 5
              have hfz16_6 := blk_frozen BK375.out 6
              go_wp2
              go_meet
              case rel => exact ⟨_, (true), pmAx17_2_, H', ⟨by have := HJ1.out; first | omega | exact Nat.le_refl _⟩, ⟨pmAx17_1_⟩, ⟨pmAx17_0_⟩⟩
            · rw [if_neg c15] at H
              have c15b0 : decide (1073741824 < a0_2) = false := decide_eq_false c15
              clear c15
              by_cases c17 : a0_1 = 5
              · rw [if_pos c17] at H
                have c17b0 : (a0_1 == 5) = true := beq_iff_eq.mpr c17
                have c17b1 : (a0_1 != 5) = false := bne_eq_false_iff_eq.mpr c17
                clear c17
                have H' := Aside0.mk H
                clear H
                have hcz18_0 : wc.cell? ⟨gb375, 0, none⟩ = some (.int .i64 a0_0) := (blk_cell BK375.out 0).trans rfl
                have hcz18_1 : wc.cell? ⟨gb375, 1, none⟩ = some (.int .i64 a0_1) := (blk_cell BK375.out 1).trans rfl
                have hcz18_2 : wc.cell? ⟨gb375, 2, none⟩ = some (.int .i64 a0_2) := (blk_cell BK375.out 2).trans rfl
                have hcz18_3 : wc.cell? ⟨gb375, 3, none⟩ = some (.bool a0_3) := (blk_cell BK375.out 3).trans rfl
                have hcz18_4 : wc.cell? ⟨gb375, 4, none⟩ = some (.int .i64 a0_4) := (blk_cell BK375.out 4).trans rfl
                have hcz18_5 : wc.cell? ⟨gb375, 5, none⟩ = some (.int .i64 a0_5) := (blk_cell BK375.out 5).trans rfl
                have hcz18_6 : wc.cell? ⟨gb375, 6, none⟩ = some (.int .i64 a0_6) := (blk_cell BK375.out 6).trans rfl
                have hfz18_0 := blk_frozen BK375.out 0
                have hfz18_1 := blk_frozen BK375.out 1
                have hfz18_2 := blk_frozen BK375.out 2
                have hfz18_3 := blk_frozen BK375.out 3
                have hfz18_4 := blk_frozen BK375.out 4
                have hfz18_5 := blk_frozen BK375.out 5
                have hfz18_6 := blk_frozen BK375.out 6
                go_wp2
                go_meet
                case rel => exact ⟨_, (false), pmAx17_2_, H', ⟨by have := HJ1.out; first | omega | exact Nat.le_refl _⟩, ⟨pmAx17_1_⟩, ⟨pmAx17_0_⟩⟩
              · rw [if_neg c17] at H
                have c17b0 : (a0_1 == 5) = false := beq_eq_false_iff_ne.mpr c17
                have c17b1 : (a0_1 != 5) = true := bne_iff_ne.mpr c17
                have H' := Aside0.mk H
                clear H
                have hcz19_0 : wc.cell? ⟨gb375, 0, none⟩ = some (.int .i64 a0_0) := (blk_cell BK375.out 0).trans rfl
                have hcz19_1 : wc.cell? ⟨gb375, 1, none⟩ = some (.int .i64 a0_1) := (blk_cell BK375.out 1).trans rfl
                have hcz19_2 : wc.cell? ⟨gb375, 2, none⟩ = some (.int .i64 a0_2) := (blk_cell BK375.out 2).trans rfl
                have hcz19_3 : wc.cell? ⟨gb375, 3, none⟩ = some (.bool a0_3) := (blk_cell BK375.out 3).trans rfl
                have hcz19_4 : wc.cell? ⟨gb375, 4, none⟩ = some (.int .i64 a0_4) := (blk_cell BK375.out 4).trans rfl
                have hcz19_5 : wc.cell? ⟨gb375, 5, none⟩ = some (.int .i64 a0_5) := (blk_cell BK375.out 5).trans rfl
                have hcz19_6 : wc.cell? ⟨gb375, 6, none⟩ = some (.int .i64 a0_6) := (blk_cell BK375.out 6).trans rfl
                have hfz19_0 := blk_frozen BK375.out 0
                have hfz19_1 := blk_frozen BK375.out 1
                have hfz19_2 := blk_frozen BK375.out 2
                have hfz19_3 := blk_frozen BK375.out 3
                have hfz19_4 := blk_frozen BK375.out 4
                have hfz19_5 := blk_frozen BK375.out 5
                have hfz19_6 := blk_frozen BK375.out 6
                go_wp2
                go_meet
                case rel => exact ⟨_, ((a0_2 != 0)), pmAx17_2_, H', ⟨by have := HJ1.out; first | omega | exact Nat.le_refl _⟩, ⟨pmAx17_1_⟩, ⟨pmAx17_0_⟩⟩
        case rest =>
          clear HC12
          try clear c1
          try clear p2
          try clear c4
          try clear c4b0
          try clear c6
          try clear c6b0
          try clear c8
          try clear c8b0
          try clear c10
          try clear c11
          try clear c13
          try clear c13b0
          try clear c15
          try clear c15b0
          try clear c17
          try clear c17b0
          try clear c17b1
          try clear hcz10_0
          try clear hcz10_1
          try clear hcz10_2
          try clear hcz10_3
          try clear hcz10_4
          try clear hcz10_5
          try clear hcz10_6
          try clear hcz14_0
          try clear hcz14_1
          try clear hcz14_2
          try clear hcz14_3
          try clear hcz14_4
          try clear hcz14_5
          try clear hcz14_6
          try clear hcz16_0
          try clear hcz16_1
          try clear hcz16_2
          try clear hcz16_3
          try clear hcz16_4
          try clear hcz16_5
          try clear hcz16_6
          try clear hcz18_0
          try clear hcz18_1
          try clear hcz18_2
          try clear hcz18_3
          try clear hcz18_4
          try clear hcz18_5
          try clear hcz18_6
          try clear hcz19_0
          try clear hcz19_1
          try clear hcz19_2
          try clear hcz19_3
          try clear hcz19_4
          try clear hcz19_5
          try clear hcz19_6
          try clear hcz5_0
          try clear hcz5_1
          try clear hcz5_2
          try clear hcz5_3
          try clear hcz5_4
          try clear hcz5_5
          try clear hcz5_6
          try clear hcz7_0
          try clear hcz7_1
          try clear hcz7_2
          try clear hcz7_3
          try clear hcz7_4
          try clear hcz7_5
          try clear hcz7_6
          try clear hcz9_0
          try clear hcz9_1
          try clear hcz9_2
          try clear hcz9_3
          try clear hcz9_4
          try clear hcz9_5
          try clear hcz9_6
          try clear hfz10_0
          try clear hfz10_1
          try clear hfz10_2
          try clear hfz10_3
          try clear hfz10_4
          try clear hfz10_5
          try clear hfz10_6
          try clear hfz14_0
          try clear hfz14_1
          try clear hfz14_2
          try clear hfz14_3
          try clear hfz14_4
          try clear hfz14_5
          try clear hfz14_6
          try clear hfz16_0
          try clear hfz16_1
          try clear hfz16_2
          try clear hfz16_3
          try clear hfz16_4
          try clear hfz16_5
          try clear hfz16_6
          try clear hfz18_0
          try clear hfz18_1
          try clear hfz18_2
          try clear hfz18_3
          try clear hfz18_4
          try clear hfz18_5
          try clear hfz18_6
          try clear hfz19_0
          try clear hfz19_1
          try clear hfz19_2
          try clear hfz19_3
          try clear hfz19_4
          try clear hfz19_5
          try clear hfz19_6
          try clear hfz5_0
          try clear hfz5_1
          try clear hfz5_2
          try clear hfz5_3
          try clear hfz5_4
          try clear hfz5_5
          try clear hfz5_6
          try clear hfz7_0
          try clear hfz7_1
          try clear hfz7_2
          try clear hfz7_3
          try clear hfz7_4
          try clear hfz7_5
          try clear hfz7_6
          try clear hfz9_0
          try clear hfz9_1
          try clear hfz9_2
          try clear hfz9_3
          try clear hfz9_4
          try clear hfz9_5
          try clear hfz9_6
          try clear p2
          obtain ⟨kq, x38_11, rfl, HA, HJ11, BK375, HB⟩ := hcut
          cases kq with
          | zero => exact absurd HA.out (by simp [parterreref22_Good.j1])
          | succ kj11 =>
            have H := HA.out
            clear HA
            simp only [parterreref22_Good.j1] at H
            by_cases c20 : x38_11 = true
            · subst c20
              have H1 : (some false) = some r := by rw [if_pos rfl] at H; exact H
              clear H
              have H := H1
              clear H1
              obtain rfl := Option.some.inj H
              go_wp2
              go_ret
              exact ⟨by first | rfl | (simp [errW_none, errW_some] <;> rfl) | (simp [*, errW_none, errW_some] <;> rfl), by repeat (first | (with_reducible first | exact HB.out | apply below_alloc | apply pw_below_drewN | apply below_drew1 | refine below_set ?_ GE375.out) | exact HB.out)⟩
            · replace c20 := Bool.eq_false_iff.mpr c20
              subst c20
              have H1 : (if a0_4 < 0 then (some false) else (if a0_4 > 68719476736 then (some false) else (if a0_3 = true then (if a0_0 = 2 then (if a0_1 = 4 then (if a0_5 ≥ 0 then (if a0_5 < 1125899906842624 then (if a0_6 ≥ a0_5 then (some (decide (a0_6 ≤ 1125899906842624))) else (some false)) else (some false)) else (some false)) else (some false)) else (some false)) else (if a0_4 = 0 then (if a0_5 ≥ 0 then (if a0_5 < 1125899906842624 then (if a0_6 ≥ a0_5 then (some (decide (a0_6 ≤ 1125899906842624))) else (some false)) else (some false)) else (some false)) else (some false))))) = some r := by rw [if_neg (show ¬ (false = true) by decide)] at H; exact H
              clear H
              have H := H1
              clear H1
              by_cases c21 : a0_4 < 0
              · rw [if_pos c21] at H
                have c21b0 : decide (a0_4 < 0) = true := decide_eq_true c21
                clear c21
                obtain rfl := Option.some.inj H
                have hcz22_0 : wc.cell? ⟨gb375, 0, none⟩ = some (.int .i64 a0_0) := (blk_cell BK375.out 0).trans rfl
                have hcz22_1 : wc.cell? ⟨gb375, 1, none⟩ = some (.int .i64 a0_1) := (blk_cell BK375.out 1).trans rfl
                have hcz22_2 : wc.cell? ⟨gb375, 2, none⟩ = some (.int .i64 a0_2) := (blk_cell BK375.out 2).trans rfl
                have hcz22_3 : wc.cell? ⟨gb375, 3, none⟩ = some (.bool a0_3) := (blk_cell BK375.out 3).trans rfl
                have hcz22_4 : wc.cell? ⟨gb375, 4, none⟩ = some (.int .i64 a0_4) := (blk_cell BK375.out 4).trans rfl
                have hcz22_5 : wc.cell? ⟨gb375, 5, none⟩ = some (.int .i64 a0_5) := (blk_cell BK375.out 5).trans rfl
                have hcz22_6 : wc.cell? ⟨gb375, 6, none⟩ = some (.int .i64 a0_6) := (blk_cell BK375.out 6).trans rfl
                have hfz22_0 := blk_frozen BK375.out 0
                have hfz22_1 := blk_frozen BK375.out 1
                have hfz22_2 := blk_frozen BK375.out 2
                have hfz22_3 := blk_frozen BK375.out 3
                have hfz22_4 := blk_frozen BK375.out 4
                have hfz22_5 := blk_frozen BK375.out 5
                have hfz22_6 := blk_frozen BK375.out 6
                go_wp2
                go_ret
                exact ⟨by first | rfl | (simp [errW_none, errW_some] <;> rfl) | (simp [*, errW_none, errW_some] <;> rfl), by repeat (first | (with_reducible first | exact HB.out | apply below_alloc | apply pw_below_drewN | apply below_drew1 | refine below_set ?_ GE375.out) | exact HB.out)⟩
              · rw [if_neg c21] at H
                have c21b0 : decide (a0_4 < 0) = false := decide_eq_false c21
                clear c21
                by_cases c23 : a0_4 > 68719476736
                · rw [if_pos c23] at H
                  have c23b0 : decide (68719476736 < a0_4) = true := decide_eq_true c23
                  clear c23
                  obtain rfl := Option.some.inj H
                  have hcz24_0 : wc.cell? ⟨gb375, 0, none⟩ = some (.int .i64 a0_0) := (blk_cell BK375.out 0).trans rfl
                  have hcz24_1 : wc.cell? ⟨gb375, 1, none⟩ = some (.int .i64 a0_1) := (blk_cell BK375.out 1).trans rfl
                  have hcz24_2 : wc.cell? ⟨gb375, 2, none⟩ = some (.int .i64 a0_2) := (blk_cell BK375.out 2).trans rfl
                  have hcz24_3 : wc.cell? ⟨gb375, 3, none⟩ = some (.bool a0_3) := (blk_cell BK375.out 3).trans rfl
                  have hcz24_4 : wc.cell? ⟨gb375, 4, none⟩ = some (.int .i64 a0_4) := (blk_cell BK375.out 4).trans rfl
                  have hcz24_5 : wc.cell? ⟨gb375, 5, none⟩ = some (.int .i64 a0_5) := (blk_cell BK375.out 5).trans rfl
                  have hcz24_6 : wc.cell? ⟨gb375, 6, none⟩ = some (.int .i64 a0_6) := (blk_cell BK375.out 6).trans rfl
                  have hfz24_0 := blk_frozen BK375.out 0
                  have hfz24_1 := blk_frozen BK375.out 1
                  have hfz24_2 := blk_frozen BK375.out 2
                  have hfz24_3 := blk_frozen BK375.out 3
                  have hfz24_4 := blk_frozen BK375.out 4
                  have hfz24_5 := blk_frozen BK375.out 5
                  have hfz24_6 := blk_frozen BK375.out 6
                  go_wp2
                  go_ret
                  exact ⟨by first | rfl | (simp [errW_none, errW_some] <;> rfl) | (simp [*, errW_none, errW_some] <;> rfl), by repeat (first | (with_reducible first | exact HB.out | apply below_alloc | apply pw_below_drewN | apply below_drew1 | refine below_set ?_ GE375.out) | exact HB.out)⟩
                · rw [if_neg c23] at H
                  have c23b0 : decide (68719476736 < a0_4) = false := decide_eq_false c23
                  clear c23
                  by_cases c25 : a0_3 = true
                  · subst c25
                    have H1 : (if a0_0 = 2 then (if a0_1 = 4 then (if a0_5 ≥ 0 then (if a0_5 < 1125899906842624 then (if a0_6 ≥ a0_5 then (some (decide (a0_6 ≤ 1125899906842624))) else (some false)) else (some false)) else (some false)) else (some false)) else (some false)) = some r := by rw [if_pos rfl] at H; exact H
                    clear H
                    have H := H1
                    clear H1
                    by_cases c26 : a0_0 = 2
                    · rw [if_pos c26] at H
                      have c26b0 : (a0_0 == 2) = true := beq_iff_eq.mpr c26
                      have c26b1 : (a0_0 != 2) = false := bne_eq_false_iff_eq.mpr c26
                      clear c26
                      by_cases c27 : a0_1 = 4
                      · rw [if_pos c27] at H
                        have c27b0 : (a0_1 == 4) = true := beq_iff_eq.mpr c27
                        have c27b1 : (a0_1 != 4) = false := bne_eq_false_iff_eq.mpr c27
                        clear c27
                        by_cases c28 : a0_5 ≥ 0
                        · rw [if_pos c28] at H
                          have c28b0 : decide (0 ≤ a0_5) = true := decide_eq_true c28
                          clear c28
                          by_cases c29 : a0_5 < 1125899906842624
                          · rw [if_pos c29] at H
                            have c29b0 : decide (a0_5 < 1125899906842624) = true := decide_eq_true c29
                            clear c29
                            by_cases c30 : a0_6 ≥ a0_5
                            · rw [if_pos c30] at H
                              have c30b0 : decide (a0_5 ≤ a0_6) = true := decide_eq_true c30
                              clear c30
                              obtain rfl := Option.some.inj H
                              have hcz31_0 : wc.cell? ⟨gb375, 0, none⟩ = some (.int .i64 a0_0) := (blk_cell BK375.out 0).trans rfl
                              have hcz31_1 : wc.cell? ⟨gb375, 1, none⟩ = some (.int .i64 a0_1) := (blk_cell BK375.out 1).trans rfl
                              have hcz31_2 : wc.cell? ⟨gb375, 2, none⟩ = some (.int .i64 a0_2) := (blk_cell BK375.out 2).trans rfl
                              have hcz31_3 : wc.cell? ⟨gb375, 3, none⟩ = some (.bool true) := (blk_cell BK375.out 3).trans rfl
                              have hcz31_4 : wc.cell? ⟨gb375, 4, none⟩ = some (.int .i64 a0_4) := (blk_cell BK375.out 4).trans rfl
                              have hcz31_5 : wc.cell? ⟨gb375, 5, none⟩ = some (.int .i64 a0_5) := (blk_cell BK375.out 5).trans rfl
                              have hcz31_6 : wc.cell? ⟨gb375, 6, none⟩ = some (.int .i64 a0_6) := (blk_cell BK375.out 6).trans rfl
                              have hfz31_0 := blk_frozen BK375.out 0
                              have hfz31_1 := blk_frozen BK375.out 1
                              have hfz31_2 := blk_frozen BK375.out 2
                              have hfz31_3 := blk_frozen BK375.out 3
                              have hfz31_4 := blk_frozen BK375.out 4
                              have hfz31_5 := blk_frozen BK375.out 5
                              have hfz31_6 := blk_frozen BK375.out 6
                              go_wp2
                              go_ret
                              exact ⟨by first | rfl | (simp [errW_none, errW_some] <;> rfl) | (simp [*, errW_none, errW_some] <;> rfl), by repeat (first | (with_reducible first | exact HB.out | apply below_alloc | apply pw_below_drewN | apply below_drew1 | refine below_set ?_ GE375.out) | exact HB.out)⟩
                            · rw [if_neg c30] at H
                              have c30b0 : decide (a0_5 ≤ a0_6) = false := decide_eq_false c30
                              clear c30
                              obtain rfl := Option.some.inj H
                              have hcz32_0 : wc.cell? ⟨gb375, 0, none⟩ = some (.int .i64 a0_0) := (blk_cell BK375.out 0).trans rfl
                              have hcz32_1 : wc.cell? ⟨gb375, 1, none⟩ = some (.int .i64 a0_1) := (blk_cell BK375.out 1).trans rfl
                              have hcz32_2 : wc.cell? ⟨gb375, 2, none⟩ = some (.int .i64 a0_2) := (blk_cell BK375.out 2).trans rfl
                              have hcz32_3 : wc.cell? ⟨gb375, 3, none⟩ = some (.bool true) := (blk_cell BK375.out 3).trans rfl
                              have hcz32_4 : wc.cell? ⟨gb375, 4, none⟩ = some (.int .i64 a0_4) := (blk_cell BK375.out 4).trans rfl
                              have hcz32_5 : wc.cell? ⟨gb375, 5, none⟩ = some (.int .i64 a0_5) := (blk_cell BK375.out 5).trans rfl
                              have hcz32_6 : wc.cell? ⟨gb375, 6, none⟩ = some (.int .i64 a0_6) := (blk_cell BK375.out 6).trans rfl
                              have hfz32_0 := blk_frozen BK375.out 0
                              have hfz32_1 := blk_frozen BK375.out 1
                              have hfz32_2 := blk_frozen BK375.out 2
                              have hfz32_3 := blk_frozen BK375.out 3
                              have hfz32_4 := blk_frozen BK375.out 4
                              have hfz32_5 := blk_frozen BK375.out 5
                              have hfz32_6 := blk_frozen BK375.out 6
                              go_wp2
                              go_ret
                              exact ⟨by first | rfl | (simp [errW_none, errW_some] <;> rfl) | (simp [*, errW_none, errW_some] <;> rfl), by repeat (first | (with_reducible first | exact HB.out | apply below_alloc | apply pw_below_drewN | apply below_drew1 | refine below_set ?_ GE375.out) | exact HB.out)⟩
                          · rw [if_neg c29] at H
                            have c29b0 : decide (a0_5 < 1125899906842624) = false := decide_eq_false c29
                            clear c29
                            obtain rfl := Option.some.inj H
                            have hcz33_0 : wc.cell? ⟨gb375, 0, none⟩ = some (.int .i64 a0_0) := (blk_cell BK375.out 0).trans rfl
                            have hcz33_1 : wc.cell? ⟨gb375, 1, none⟩ = some (.int .i64 a0_1) := (blk_cell BK375.out 1).trans rfl
                            have hcz33_2 : wc.cell? ⟨gb375, 2, none⟩ = some (.int .i64 a0_2) := (blk_cell BK375.out 2).trans rfl
                            have hcz33_3 : wc.cell? ⟨gb375, 3, none⟩ = some (.bool true) := (blk_cell BK375.out 3).trans rfl
                            have hcz33_4 : wc.cell? ⟨gb375, 4, none⟩ = some (.int .i64 a0_4) := (blk_cell BK375.out 4).trans rfl
                            have hcz33_5 : wc.cell? ⟨gb375, 5, none⟩ = some (.int .i64 a0_5) := (blk_cell BK375.out 5).trans rfl
                            have hcz33_6 : wc.cell? ⟨gb375, 6, none⟩ = some (.int .i64 a0_6) := (blk_cell BK375.out 6).trans rfl
                            have hfz33_0 := blk_frozen BK375.out 0
                            have hfz33_1 := blk_frozen BK375.out 1
                            have hfz33_2 := blk_frozen BK375.out 2
                            have hfz33_3 := blk_frozen BK375.out 3
                            have hfz33_4 := blk_frozen BK375.out 4
                            have hfz33_5 := blk_frozen BK375.out 5
                            have hfz33_6 := blk_frozen BK375.out 6
                            go_wp2
                            go_ret
                            exact ⟨by first | rfl | (simp [errW_none, errW_some] <;> rfl) | (simp [*, errW_none, errW_some] <;> rfl), by repeat (first | (with_reducible first | exact HB.out | apply below_alloc | apply pw_below_drewN | apply below_drew1 | refine below_set ?_ GE375.out) | exact HB.out)⟩
                        · rw [if_neg c28] at H
                          have c28b0 : decide (0 ≤ a0_5) = false := decide_eq_false c28
                          clear c28
                          obtain rfl := Option.some.inj H
                          have hcz34_0 : wc.cell? ⟨gb375, 0, none⟩ = some (.int .i64 a0_0) := (blk_cell BK375.out 0).trans rfl
                          have hcz34_1 : wc.cell? ⟨gb375, 1, none⟩ = some (.int .i64 a0_1) := (blk_cell BK375.out 1).trans rfl
                          have hcz34_2 : wc.cell? ⟨gb375, 2, none⟩ = some (.int .i64 a0_2) := (blk_cell BK375.out 2).trans rfl
                          have hcz34_3 : wc.cell? ⟨gb375, 3, none⟩ = some (.bool true) := (blk_cell BK375.out 3).trans rfl
                          have hcz34_4 : wc.cell? ⟨gb375, 4, none⟩ = some (.int .i64 a0_4) := (blk_cell BK375.out 4).trans rfl
                          have hcz34_5 : wc.cell? ⟨gb375, 5, none⟩ = some (.int .i64 a0_5) := (blk_cell BK375.out 5).trans rfl
                          have hcz34_6 : wc.cell? ⟨gb375, 6, none⟩ = some (.int .i64 a0_6) := (blk_cell BK375.out 6).trans rfl
                          have hfz34_0 := blk_frozen BK375.out 0
                          have hfz34_1 := blk_frozen BK375.out 1
                          have hfz34_2 := blk_frozen BK375.out 2
                          have hfz34_3 := blk_frozen BK375.out 3
                          have hfz34_4 := blk_frozen BK375.out 4
                          have hfz34_5 := blk_frozen BK375.out 5
                          have hfz34_6 := blk_frozen BK375.out 6
                          go_wp2
                          go_ret
                          exact ⟨by first | rfl | (simp [errW_none, errW_some] <;> rfl) | (simp [*, errW_none, errW_some] <;> rfl), by repeat (first | (with_reducible first | exact HB.out | apply below_alloc | apply pw_below_drewN | apply below_drew1 | refine below_set ?_ GE375.out) | exact HB.out)⟩
                      · rw [if_neg c27] at H
                        have c27b0 : (a0_1 == 4) = false := beq_eq_false_iff_ne.mpr c27
                        have c27b1 : (a0_1 != 4) = true := bne_iff_ne.mpr c27
                        obtain rfl := Option.some.inj H
                        have hcz35_0 : wc.cell? ⟨gb375, 0, none⟩ = some (.int .i64 a0_0) := (blk_cell BK375.out 0).trans rfl
                        have hcz35_1 : wc.cell? ⟨gb375, 1, none⟩ = some (.int .i64 a0_1) := (blk_cell BK375.out 1).trans rfl
                        have hcz35_2 : wc.cell? ⟨gb375, 2, none⟩ = some (.int .i64 a0_2) := (blk_cell BK375.out 2).trans rfl
                        have hcz35_3 : wc.cell? ⟨gb375, 3, none⟩ = some (.bool true) := (blk_cell BK375.out 3).trans rfl
                        have hcz35_4 : wc.cell? ⟨gb375, 4, none⟩ = some (.int .i64 a0_4) := (blk_cell BK375.out 4).trans rfl
                        have hcz35_5 : wc.cell? ⟨gb375, 5, none⟩ = some (.int .i64 a0_5) := (blk_cell BK375.out 5).trans rfl
                        have hcz35_6 : wc.cell? ⟨gb375, 6, none⟩ = some (.int .i64 a0_6) := (blk_cell BK375.out 6).trans rfl
                        have hfz35_0 := blk_frozen BK375.out 0
                        have hfz35_1 := blk_frozen BK375.out 1
                        have hfz35_2 := blk_frozen BK375.out 2
                        have hfz35_3 := blk_frozen BK375.out 3
                        have hfz35_4 := blk_frozen BK375.out 4
                        have hfz35_5 := blk_frozen BK375.out 5
                        have hfz35_6 := blk_frozen BK375.out 6
                        go_wp2
                        go_ret
                        exact ⟨by first | rfl | (simp [errW_none, errW_some] <;> rfl) | (simp [*, errW_none, errW_some] <;> rfl), by repeat (first | (with_reducible first | exact HB.out | apply below_alloc | apply pw_below_drewN | apply below_drew1 | refine below_set ?_ GE375.out) | exact HB.out)⟩
                    · rw [if_neg c26] at H
                      have c26b0 : (a0_0 == 2) = false := beq_eq_false_iff_ne.mpr c26
                      have c26b1 : (a0_0 != 2) = true := bne_iff_ne.mpr c26
                      obtain rfl := Option.some.inj H
                      have hcz36_0 : wc.cell? ⟨gb375, 0, none⟩ = some (.int .i64 a0_0) := (blk_cell BK375.out 0).trans rfl
                      have hcz36_1 : wc.cell? ⟨gb375, 1, none⟩ = some (.int .i64 a0_1) := (blk_cell BK375.out 1).trans rfl
                      have hcz36_2 : wc.cell? ⟨gb375, 2, none⟩ = some (.int .i64 a0_2) := (blk_cell BK375.out 2).trans rfl
                      have hcz36_3 : wc.cell? ⟨gb375, 3, none⟩ = some (.bool true) := (blk_cell BK375.out 3).trans rfl
                      have hcz36_4 : wc.cell? ⟨gb375, 4, none⟩ = some (.int .i64 a0_4) := (blk_cell BK375.out 4).trans rfl
                      have hcz36_5 : wc.cell? ⟨gb375, 5, none⟩ = some (.int .i64 a0_5) := (blk_cell BK375.out 5).trans rfl
                      have hcz36_6 : wc.cell? ⟨gb375, 6, none⟩ = some (.int .i64 a0_6) := (blk_cell BK375.out 6).trans rfl
                      have hfz36_0 := blk_frozen BK375.out 0
                      have hfz36_1 := blk_frozen BK375.out 1
                      have hfz36_2 := blk_frozen BK375.out 2
                      have hfz36_3 := blk_frozen BK375.out 3
                      have hfz36_4 := blk_frozen BK375.out 4
                      have hfz36_5 := blk_frozen BK375.out 5
                      have hfz36_6 := blk_frozen BK375.out 6
                      go_wp2
                      go_ret
                      exact ⟨by first | rfl | (simp [errW_none, errW_some] <;> rfl) | (simp [*, errW_none, errW_some] <;> rfl), by repeat (first | (with_reducible first | exact HB.out | apply below_alloc | apply pw_below_drewN | apply below_drew1 | refine below_set ?_ GE375.out) | exact HB.out)⟩
                  · replace c25 := Bool.eq_false_iff.mpr c25
                    subst c25
                    have H1 : (if a0_4 = 0 then (if a0_5 ≥ 0 then (if a0_5 < 1125899906842624 then (if a0_6 ≥ a0_5 then (some (decide (a0_6 ≤ 1125899906842624))) else (some false)) else (some false)) else (some false)) else (some false)) = some r := by rw [if_neg (show ¬ (false = true) by decide)] at H; exact H
                    clear H
                    have H := H1
                    clear H1
                    by_cases c37 : a0_4 = 0
                    · rw [if_pos c37] at H
                      have c37b0 : (a0_4 == 0) = true := beq_iff_eq.mpr c37
                      have c37b1 : (a0_4 != 0) = false := bne_eq_false_iff_eq.mpr c37
                      clear c37
                      by_cases c38 : a0_5 ≥ 0
                      · rw [if_pos c38] at H
                        have c38b0 : decide (0 ≤ a0_5) = true := decide_eq_true c38
                        clear c38
                        by_cases c39 : a0_5 < 1125899906842624
                        · rw [if_pos c39] at H
                          have c39b0 : decide (a0_5 < 1125899906842624) = true := decide_eq_true c39
                          clear c39
                          by_cases c40 : a0_6 ≥ a0_5
                          · rw [if_pos c40] at H
                            have c40b0 : decide (a0_5 ≤ a0_6) = true := decide_eq_true c40
                            clear c40
                            obtain rfl := Option.some.inj H
                            have hcz41_0 : wc.cell? ⟨gb375, 0, none⟩ = some (.int .i64 a0_0) := (blk_cell BK375.out 0).trans rfl
                            have hcz41_1 : wc.cell? ⟨gb375, 1, none⟩ = some (.int .i64 a0_1) := (blk_cell BK375.out 1).trans rfl
                            have hcz41_2 : wc.cell? ⟨gb375, 2, none⟩ = some (.int .i64 a0_2) := (blk_cell BK375.out 2).trans rfl
                            have hcz41_3 : wc.cell? ⟨gb375, 3, none⟩ = some (.bool false) := (blk_cell BK375.out 3).trans rfl
                            have hcz41_4 : wc.cell? ⟨gb375, 4, none⟩ = some (.int .i64 a0_4) := (blk_cell BK375.out 4).trans rfl
                            have hcz41_5 : wc.cell? ⟨gb375, 5, none⟩ = some (.int .i64 a0_5) := (blk_cell BK375.out 5).trans rfl
                            have hcz41_6 : wc.cell? ⟨gb375, 6, none⟩ = some (.int .i64 a0_6) := (blk_cell BK375.out 6).trans rfl
                            have hfz41_0 := blk_frozen BK375.out 0
                            have hfz41_1 := blk_frozen BK375.out 1
                            have hfz41_2 := blk_frozen BK375.out 2
                            have hfz41_3 := blk_frozen BK375.out 3
                            have hfz41_4 := blk_frozen BK375.out 4
                            have hfz41_5 := blk_frozen BK375.out 5
                            have hfz41_6 := blk_frozen BK375.out 6
                            go_wp2
                            go_ret
                            exact ⟨by first | rfl | (simp [errW_none, errW_some] <;> rfl) | (simp [*, errW_none, errW_some] <;> rfl), by repeat (first | (with_reducible first | exact HB.out | apply below_alloc | apply pw_below_drewN | apply below_drew1 | refine below_set ?_ GE375.out) | exact HB.out)⟩
                          · rw [if_neg c40] at H
                            have c40b0 : decide (a0_5 ≤ a0_6) = false := decide_eq_false c40
                            clear c40
                            obtain rfl := Option.some.inj H
                            have hcz42_0 : wc.cell? ⟨gb375, 0, none⟩ = some (.int .i64 a0_0) := (blk_cell BK375.out 0).trans rfl
                            have hcz42_1 : wc.cell? ⟨gb375, 1, none⟩ = some (.int .i64 a0_1) := (blk_cell BK375.out 1).trans rfl
                            have hcz42_2 : wc.cell? ⟨gb375, 2, none⟩ = some (.int .i64 a0_2) := (blk_cell BK375.out 2).trans rfl
                            have hcz42_3 : wc.cell? ⟨gb375, 3, none⟩ = some (.bool false) := (blk_cell BK375.out 3).trans rfl
                            have hcz42_4 : wc.cell? ⟨gb375, 4, none⟩ = some (.int .i64 a0_4) := (blk_cell BK375.out 4).trans rfl
                            have hcz42_5 : wc.cell? ⟨gb375, 5, none⟩ = some (.int .i64 a0_5) := (blk_cell BK375.out 5).trans rfl
                            have hcz42_6 : wc.cell? ⟨gb375, 6, none⟩ = some (.int .i64 a0_6) := (blk_cell BK375.out 6).trans rfl
                            have hfz42_0 := blk_frozen BK375.out 0
                            have hfz42_1 := blk_frozen BK375.out 1
                            have hfz42_2 := blk_frozen BK375.out 2
                            have hfz42_3 := blk_frozen BK375.out 3
                            have hfz42_4 := blk_frozen BK375.out 4
                            have hfz42_5 := blk_frozen BK375.out 5
                            have hfz42_6 := blk_frozen BK375.out 6
                            go_wp2
                            go_ret
                            exact ⟨by first | rfl | (simp [errW_none, errW_some] <;> rfl) | (simp [*, errW_none, errW_some] <;> rfl), by repeat (first | (with_reducible first | exact HB.out | apply below_alloc | apply pw_below_drewN | apply below_drew1 | refine below_set ?_ GE375.out) | exact HB.out)⟩
                        · rw [if_neg c39] at H
                          have c39b0 : decide (a0_5 < 1125899906842624) = false := decide_eq_false c39
                          clear c39
                          obtain rfl := Option.some.inj H
                          have hcz43_0 : wc.cell? ⟨gb375, 0, none⟩ = some (.int .i64 a0_0) := (blk_cell BK375.out 0).trans rfl
                          have hcz43_1 : wc.cell? ⟨gb375, 1, none⟩ = some (.int .i64 a0_1) := (blk_cell BK375.out 1).trans rfl
                          have hcz43_2 : wc.cell? ⟨gb375, 2, none⟩ = some (.int .i64 a0_2) := (blk_cell BK375.out 2).trans rfl
                          have hcz43_3 : wc.cell? ⟨gb375, 3, none⟩ = some (.bool false) := (blk_cell BK375.out 3).trans rfl
                          have hcz43_4 : wc.cell? ⟨gb375, 4, none⟩ = some (.int .i64 a0_4) := (blk_cell BK375.out 4).trans rfl
                          have hcz43_5 : wc.cell? ⟨gb375, 5, none⟩ = some (.int .i64 a0_5) := (blk_cell BK375.out 5).trans rfl
                          have hcz43_6 : wc.cell? ⟨gb375, 6, none⟩ = some (.int .i64 a0_6) := (blk_cell BK375.out 6).trans rfl
                          have hfz43_0 := blk_frozen BK375.out 0
                          have hfz43_1 := blk_frozen BK375.out 1
                          have hfz43_2 := blk_frozen BK375.out 2
                          have hfz43_3 := blk_frozen BK375.out 3
                          have hfz43_4 := blk_frozen BK375.out 4
                          have hfz43_5 := blk_frozen BK375.out 5
                          have hfz43_6 := blk_frozen BK375.out 6
                          go_wp2
                          go_ret
                          exact ⟨by first | rfl | (simp [errW_none, errW_some] <;> rfl) | (simp [*, errW_none, errW_some] <;> rfl), by repeat (first | (with_reducible first | exact HB.out | apply below_alloc | apply pw_below_drewN | apply below_drew1 | refine below_set ?_ GE375.out) | exact HB.out)⟩
                      · rw [if_neg c38] at H
                        have c38b0 : decide (0 ≤ a0_5) = false := decide_eq_false c38
                        clear c38
                        obtain rfl := Option.some.inj H
                        have hcz44_0 : wc.cell? ⟨gb375, 0, none⟩ = some (.int .i64 a0_0) := (blk_cell BK375.out 0).trans rfl
                        have hcz44_1 : wc.cell? ⟨gb375, 1, none⟩ = some (.int .i64 a0_1) := (blk_cell BK375.out 1).trans rfl
                        have hcz44_2 : wc.cell? ⟨gb375, 2, none⟩ = some (.int .i64 a0_2) := (blk_cell BK375.out 2).trans rfl
                        have hcz44_3 : wc.cell? ⟨gb375, 3, none⟩ = some (.bool false) := (blk_cell BK375.out 3).trans rfl
                        have hcz44_4 : wc.cell? ⟨gb375, 4, none⟩ = some (.int .i64 a0_4) := (blk_cell BK375.out 4).trans rfl
                        have hcz44_5 : wc.cell? ⟨gb375, 5, none⟩ = some (.int .i64 a0_5) := (blk_cell BK375.out 5).trans rfl
                        have hcz44_6 : wc.cell? ⟨gb375, 6, none⟩ = some (.int .i64 a0_6) := (blk_cell BK375.out 6).trans rfl
                        have hfz44_0 := blk_frozen BK375.out 0
                        have hfz44_1 := blk_frozen BK375.out 1
                        have hfz44_2 := blk_frozen BK375.out 2
                        have hfz44_3 := blk_frozen BK375.out 3
                        have hfz44_4 := blk_frozen BK375.out 4
                        have hfz44_5 := blk_frozen BK375.out 5
                        have hfz44_6 := blk_frozen BK375.out 6
                        go_wp2
                        go_ret
                        exact ⟨by first | rfl | (simp [errW_none, errW_some] <;> rfl) | (simp [*, errW_none, errW_some] <;> rfl), by repeat (first | (with_reducible first | exact HB.out | apply below_alloc | apply pw_below_drewN | apply below_drew1 | refine below_set ?_ GE375.out) | exact HB.out)⟩
                    · rw [if_neg c37] at H
                      have c37b0 : (a0_4 == 0) = false := beq_eq_false_iff_ne.mpr c37
                      have c37b1 : (a0_4 != 0) = true := bne_iff_ne.mpr c37
                      obtain rfl := Option.some.inj H
                      have hcz45_0 : wc.cell? ⟨gb375, 0, none⟩ = some (.int .i64 a0_0) := (blk_cell BK375.out 0).trans rfl
                      have hcz45_1 : wc.cell? ⟨gb375, 1, none⟩ = some (.int .i64 a0_1) := (blk_cell BK375.out 1).trans rfl
                      have hcz45_2 : wc.cell? ⟨gb375, 2, none⟩ = some (.int .i64 a0_2) := (blk_cell BK375.out 2).trans rfl
                      have hcz45_3 : wc.cell? ⟨gb375, 3, none⟩ = some (.bool false) := (blk_cell BK375.out 3).trans rfl
                      have hcz45_4 : wc.cell? ⟨gb375, 4, none⟩ = some (.int .i64 a0_4) := (blk_cell BK375.out 4).trans rfl
                      have hcz45_5 : wc.cell? ⟨gb375, 5, none⟩ = some (.int .i64 a0_5) := (blk_cell BK375.out 5).trans rfl
                      have hcz45_6 : wc.cell? ⟨gb375, 6, none⟩ = some (.int .i64 a0_6) := (blk_cell BK375.out 6).trans rfl
                      have hfz45_0 := blk_frozen BK375.out 0
                      have hfz45_1 := blk_frozen BK375.out 1
                      have hfz45_2 := blk_frozen BK375.out 2
                      have hfz45_3 := blk_frozen BK375.out 3
                      have hfz45_4 := blk_frozen BK375.out 4
                      have hfz45_5 := blk_frozen BK375.out 5
                      have hfz45_6 := blk_frozen BK375.out 6
                      go_wp2
                      go_ret
                      exact ⟨by first | rfl | (simp [errW_none, errW_some] <;> rfl) | (simp [*, errW_none, errW_some] <;> rfl), by repeat (first | (with_reducible first | exact HB.out | apply below_alloc | apply pw_below_drewN | apply below_drew1 | refine below_set ?_ GE375.out) | exact HB.out)⟩

end Go.Proofs.Ytmgmidipijpkdaa.PA
