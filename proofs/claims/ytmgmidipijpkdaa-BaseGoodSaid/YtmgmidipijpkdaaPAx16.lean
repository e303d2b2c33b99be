-- written by a program of this session (a print of the translation with changes of its own)
import Derived.Test.YtmgmidipijpkdaaPAx0
import Derived.Test.YtmgmidipijpkdaaPAx3
import Derived.Test.YtmgmidipijpkdaaPAx24
namespace Go.Proofs.Ytmgmidipijpkdaa.PA
open Go.RowKit Go.Proofs.YtmgmidipijpkdaaW.PrintWords Go.Proofs.YtmgmidipijpkdaaW.PrintLast Go.Proofs.YtmgmidipijpkdaaW.PrintMore
theorem pmAx16_0_ {P : Prop} (h : P := by repeat (first | (with_reducible first | exact HB.out | apply below_alloc | apply pw_below_drewN | apply below_drew1 | refine below_set ?_ GE368.out) | exact HB.out)) : P := h
theorem pmAx16_1_ {P : Prop} (h : P := by (with_reducible repeat (first | refine blk_drewN ?_ _ | refine blk_drew ?_ | refine blk_alloc ?_ _)); exact BK368.out) : P := h
theorem pmAx16_2_ {P : Prop} (h : P := by first | rfl | (simp; done) | (simp [*]; done)) : P := h
theorem pmAx16_3_ {P : Prop} (h : P := by repeat (first | (with_reducible first | exact HB.out | apply below_alloc | apply pw_below_drewN | apply below_drew1) | exact HB.out)) : P := h
attribute [local go_sem] run_index_arr max2_int min2_int max_two min_two max_three min_three max_four min_four   -- for this text's walks alone
set_option linter.unusedVariables false
set_option linter.unusedSimpArgs false

attribute [local go_sem high] eqA27
/-! ### base_Good: function 9 -/
mutual
def base_Good.j0 : Nat → Bool → Int → Int → Int → Bool → Int → Int → Int → Option (Bool)
  | 0, _, _, _, _, _, _, _, _ => none
  | k + 1, x4, x369000, x369001, x369002, x369003, x369004, x369005, x369006 => if x4 = true then (some false) else ((base_Good_1.f x369002 0 1073741824).bind fun t371 => (if t371 = true then (if x369001 = 5 then (base_Good.j1 k false x369000 x369001 x369002 x369003 x369004 x369005 x369006) else (base_Good.j1 k (decide (x369002 > 0)) x369000 x369001 x369002 x369003 x369004 x369005 x369006)) else (base_Good.j1 k true x369000 x369001 x369002 x369003 x369004 x369005 x369006)))
def base_Good.j1 : Nat → Bool → Int → Int → Int → Bool → Int → Int → Int → Option (Bool)
  | 0, _, _, _, _, _, _, _, _ => none
  | k + 1, x17, x369000, x369001, x369002, x369003, x369004, x369005, x369006 => if x17 = true then (some false) else ((base_Good_1.f x369004 0 68719476736).bind fun t372 => (if t372 = true then (if x369003 = true then (base_Good.j2 k false x369000 x369001 x369002 x369003 x369004 x369005 x369006) else (base_Good.j2 k (decide (x369004 > 0)) x369000 x369001 x369002 x369003 x369004 x369005 x369006)) else (base_Good.j2 k true x369000 x369001 x369002 x369003 x369004 x369005 x369006)))
def base_Good.j2 : Nat → Bool → Int → Int → Int → Bool → Int → Int → Int → Option (Bool)
  | 0, _, _, _, _, _, _, _, _ => none
  | k + 1, x33, x369000, x369001, x369002, x369003, x369004, x369005, x369006 => if x33 = true then (some false) else (if x369003 = true then (base_Good.j3 k (!(x369000 == 2) || (!(x369001 == 4) || (!(x369002 == 0) || (!x369003)))) x369000 x369001 x369002 x369003 x369004 x369005 x369006) else (base_Good.j3 k false x369000 x369001 x369002 x369003 x369004 x369005 x369006))
def base_Good.j3 : Nat → Bool → Int → Int → Int → Bool → Int → Int → Int → Option (Bool)
  | 0, _, _, _, _, _, _, _, _ => none
  | k + 1, x49, x369000, x369001, x369002, x369003, x369004, x369005, x369006 => if x49 = true then (some false) else ((base_Good_1.f x369005 0 1125899906842623).bind fun t373 => (if t373 = true then ((base_Good_1.f x369006 x369005 1125899906842624).bind fun t374 => (some t374)) else (some false)))
end
def base_Good.f (k : Nat) (a0_0 : Int) (a0_1 : Int) (a0_2 : Int) (a0_3 : Bool) (a0_4 : Int) (a0_5 : Int) (a0_6 : Int) : Option (Bool) := (base_Good_1.f a0_0 1 4).bind fun t369 => (if t369 = true then ((base_Good_1.f a0_1 1 5).bind fun t370 => (base_Good.j0 k (!t370) a0_0 a0_1 a0_2 a0_3 a0_4 a0_5 a0_6)) else (base_Good.j0 k true a0_0 a0_1 a0_2 a0_3 a0_4 a0_5 a0_6))
theorem base_Good.mono_l : ∀ k, (∀ y0 y1 y2 y3 y4 y5 y6 y7, LeO (base_Good.j0 k y0 y1 y2 y3 y4 y5 y6 y7) (base_Good.j0 (k + 1) y0 y1 y2 y3 y4 y5 y6 y7)) ∧ (∀ y0 y1 y2 y3 y4 y5 y6 y7, LeO (base_Good.j1 k y0 y1 y2 y3 y4 y5 y6 y7) (base_Good.j1 (k + 1) y0 y1 y2 y3 y4 y5 y6 y7)) ∧ (∀ y0 y1 y2 y3 y4 y5 y6 y7, LeO (base_Good.j2 k y0 y1 y2 y3 y4 y5 y6 y7) (base_Good.j2 (k + 1) y0 y1 y2 y3 y4 y5 y6 y7)) ∧ (∀ y0 y1 y2 y3 y4 y5 y6 y7, LeO (base_Good.j3 k y0 y1 y2 y3 y4 y5 y6 y7) (base_Good.j3 (k + 1) y0 y1 y2 y3 y4 y5 y6 y7))
  | 0 => ⟨fun _ _ _ _ _ _ _ _ r h => by simp [base_Good.j0] at h, fun _ _ _ _ _ _ _ _ r h => by simp [base_Good.j1] at h, fun _ _ _ _ _ _ _ _ r h => by simp [base_Good.j2] at h, fun _ _ _ _ _ _ _ _ r h => by simp [base_Good.j3] at h⟩
  | k + 1 => by
    obtain ⟨ih0, ih1, ih2, ih3⟩ := base_Good.mono_l k
    refine ⟨?_, ?_, ?_, ?_⟩
    · intro y0 y1 y2 y3 y4 y5 y6 y7
      unfold base_Good.j0
      repeat' first
      | (with_reducible exact ih0 _ _ _ _ _ _ _ _)
      | (with_reducible exact ih1 _ _ _ _ _ _ _ _)
      | (with_reducible exact ih2 _ _ _ _ _ _ _ _)
      | (with_reducible exact ih3 _ _ _ _ _ _ _ _)
      | (with_reducible exact LeO.refl _)
      | (with_reducible exact LeO.none _)
      | (with_reducible refine LeO.ite ?_ ?_)
      | (with_reducible refine LeO.bind ?_ (fun _ => ?_))
      | exact ih0 _ _ _ _ _ _ _ _
      | exact ih1 _ _ _ _ _ _ _ _
      | exact ih2 _ _ _ _ _ _ _ _
      | exact ih3 _ _ _ _ _ _ _ _
      | exact LeO.none _
      | refine LeO.ite ?_ ?_
      | refine LeO.bind ?_ (fun _ => ?_)
    · intro y0 y1 y2 y3 y4 y5 y6 y7
      unfold base_Good.j1
      repeat' first
      | (with_reducible exact ih0 _ _ _ _ _ _ _ _)
      | (with_reducible exact ih1 _ _ _ _ _ _ _ _)
      | (with_reducible exact ih2 _ _ _ _ _ _ _ _)
      | (with_reducible exact ih3 _ _ _ _ _ _ _ _)
      | (with_reducible exact LeO.refl _)
      | (with_reducible exact LeO.none _)
      | (with_reducible refine LeO.ite ?_ ?_)
      | (with_reducible refine LeO.bind ?_ (fun _ => ?_))
      | exact ih0 _ _ _ _ _ _ _ _
      | exact ih1 _ _ _ _ _ _ _ _
      | exact ih2 _ _ _ _ _ _ _ _
      | exact ih3 _ _ _ _ _ _ _ _
      | exact LeO.none _
      | refine LeO.ite ?_ ?_
      | refine LeO.bind ?_ (fun _ => ?_)
    · intro y0 y1 y2 y3 y4 y5 y6 y7
      unfold base_Good.j2
      repeat' first
      | (with_reducible exact ih0 _ _ _ _ _ _ _ _)
      | (with_reducible exact ih1 _ _ _ _ _ _ _ _)
      | (with_reducible exact ih2 _ _ _ _ _ _ _ _)
      | (with_reducible exact ih3 _ _ _ _ _ _ _ _)
      | (with_reducible exact LeO.refl _)
      | (with_reducible exact LeO.none _)
      | (with_reducible refine LeO.ite ?_ ?_)
      | (with_reducible refine LeO.bind ?_ (fun _ => ?_))
      | exact ih0 _ _ _ _ _ _ _ _
      | exact ih1 _ _ _ _ _ _ _ _
      | exact ih2 _ _ _ _ _ _ _ _
      | exact ih3 _ _ _ _ _ _ _ _
      | exact LeO.none _
      | refine LeO.ite ?_ ?_
      | refine LeO.bind ?_ (fun _ => ?_)
    · intro y0 y1 y2 y3 y4 y5 y6 y7
      unfold base_Good.j3
      repeat' first
      | (with_reducible exact ih0 _ _ _ _ _ _ _ _)
      | (with_reducible exact ih1 _ _ _ _ _ _ _ _)
      | (with_reducible exact ih2 _ _ _ _ _ _ _ _)
      | (with_reducible exact ih3 _ _ _ _ _ _ _ _)
      | (with_reducible exact LeO.refl _)
      | (with_reducible exact LeO.none _)
      | (with_reducible refine LeO.ite ?_ ?_)
      | (with_reducible refine LeO.bind ?_ (fun _ => ?_))
      | exact ih0 _ _ _ _ _ _ _ _
      | exact ih1 _ _ _ _ _ _ _ _
      | exact ih2 _ _ _ _ _ _ _ _
      | exact ih3 _ _ _ _ _ _ _ _
      | exact LeO.none _
      | refine LeO.ite ?_ ?_
      | refine LeO.bind ?_ (fun _ => ?_)
theorem base_Good.mono : ∀ a0 a1 a2 a3 a4 a5 a6 k, LeO (base_Good.f k a0 a1 a2 a3 a4 a5 a6) (base_Good.f (k + 1) a0 a1 a2 a3 a4 a5 a6) := by
  intro a0 a1 a2 a3 a4 a5 a6 k
  obtain ⟨ih0, ih1, ih2, ih3⟩ := base_Good.mono_l k
  unfold base_Good.f
  repeat' first
      | (with_reducible exact ih0 _ _ _ _ _ _ _ _)
      | (with_reducible exact ih1 _ _ _ _ _ _ _ _)
      | (with_reducible exact ih2 _ _ _ _ _ _ _ _)
      | (with_reducible exact ih3 _ _ _ _ _ _ _ _)
      | (with_reducible exact LeO.refl _)
      | (with_reducible exact LeO.none _)
      | (with_reducible refine LeO.ite ?_ ?_)
      | (with_reducible refine LeO.bind ?_ (fun _ => ?_))
      | exact ih0 _ _ _ _ _ _ _ _
      | exact ih1 _ _ _ _ _ _ _ _
      | exact ih2 _ _ _ _ _ _ _ _
      | exact ih3 _ _ _ _ _ _ _ _
      | exact LeO.none _
      | refine LeO.ite ?_ ?_
      | refine LeO.bind ?_ (fun _ => ?_)
set_option maxHeartbeats 8000000 in
set_option maxRecDepth 100000 in
theorem base_Good.calls (k : Nat) (a0_0 : Int) (a0_1 : Int) (a0_2 : Int) (a0_3 : Bool) (a0_4 : Int) (a0_5 : Int) (a0_6 : Int) (r : Bool) (w : World) (h : base_Good.f k a0_0 a0_1 a0_2 a0_3 a0_4 a0_5 a0_6 = some r) :
    Calls Try.prog 9 #[.agg #[.int .i64 a0_0, .int .i64 a0_1, .int .i64 a0_2, .bool a0_3, .int .i64 a0_4, .int .i64 a0_5, .int .i64 a0_6]] w fun e w' => e = .returned (.bool r) ∧ Below w.heap.size w w' := by
  have hu27 := Try.underlying27
  have HB := Aside0.mk (Below.refl w.heap.size w)
  have H : ((base_Good_1.f a0_0 1 4).bind fun t369 => (if t369 = true then ((base_Good_1.f a0_1 1 5).bind fun t370 => (base_Good.j0 k (!t370) a0_0 a0_1 a0_2 a0_3 a0_4 a0_5 a0_6)) else (base_Good.j0 k true a0_0 a0_1 a0_2 a0_3 a0_4 a0_5 a0_6))) = some r := h
  clear h
  have HC2 := Aside0.mk H
  clear H
  go_enter Try.func9, Try.ntmps9
  go_upto_region 2 with (first | ((with_reducible refine gate_dst (N := 1) rfl ?_); refine box_event ?hg (N := 1) ?hd (cs := #[.int .i64 a0_0, .int .i64 a0_1, .int .i64 a0_2, .bool a0_3, .int .i64 a0_4, .int .i64 a0_5, .int .i64 a0_6]) (t := 27) ?hr ?_; (case hd => rfl); (case hg => rfl); (case hr => first | (go_simp; done) | (go_simp; rfl)); intro gb368 hg w3 hbox hb; have n0_ := Aside0.mk (below_step pmAx16_3_ hb); have n1_ := Aside0.mk (hbox); have n2_ := Aside0.mk ((by rw [hg]; exact (below_size pmAx16_3_) : w.heap.size ≤ gb368)); have n3_ := Aside0.mk ((by rw [hg]; exact (below_size pmAx16_3_) : w.heap.size ≤ gb368)); clear HB; have HB := n0_; have BK368 := n1_; have GW368 := n2_; have GE368 := n3_; clear n0_ n1_ n2_ n3_; clear hb hbox hg))
  (try simp only [Act.put, List.setIfInBounds_toArray, List.set_cons_zero, List.set_cons_succ])
  go_cut [4] (fun v4 wc => ∃ (kq : Nat) (x4_1 : Bool), v4 = .bool x4_1 ∧ Aside0 (base_Good.j0 kq x4_1 a0_0 a0_1 a0_2 a0_3 a0_4 a0_5 a0_6 = some r) ∧ Aside0 (kq ≤ k) ∧ Aside0 (wc.heap[gb368]? = some (.cells #[.int .i64 a0_0, .int .i64 a0_1, .int .i64 a0_2, .bool a0_3, .int .i64 a0_4, .int .i64 a0_5, .int .i64 a0_6] 27 (0, 0))) ∧ Aside0 (Below w.heap.size w wc))
  case first =>
    have H := HC2.out
    clear HC2
    replace H := Option.bind_eq_some_iff.mp H
    obtain ⟨t369, A40, H⟩ := H
    replace H : (if t369 = true then ((base_Good_1.f a0_1 1 5).bind fun t370 => (base_Good.j0 k (!t370) a0_0 a0_1 a0_2 a0_3 a0_4 a0_5 a0_6)) else (base_Good.j0 k true a0_0 a0_1 a0_2 a0_3 a0_4 a0_5 a0_6)) = some r := H
    have A4 := Aside0.mk A40
    clear A40
    by_cases c5 : t369 = true
    · subst c5
      have H1 : ((base_Good_1.f a0_1 1 5).bind fun t370 => (base_Good.j0 k (!t370) a0_0 a0_1 a0_2 a0_3 a0_4 a0_5 a0_6)) = some r := by rw [if_pos rfl] at H; exact H
      clear H
      have H := H1
      clear H1
      replace H := Option.bind_eq_some_iff.mp H
      obtain ⟨t370, A60, H⟩ := H
      replace H : (base_Good.j0 k (!t370) a0_0 a0_1 a0_2 a0_3 a0_4 a0_5 a0_6) = some r := H
      have A6 := Aside0.mk A60
      clear A60
      have H' := Aside0.mk H
      clear H
      have hcz7_0 : w3.cell? ⟨gb368, 0, none⟩ = some (.int .i64 a0_0) := (blk_cell BK368.out 0).trans rfl
      have hcz7_1 : w3.cell? ⟨gb368, 1, none⟩ = some (.int .i64 a0_1) := (blk_cell BK368.out 1).trans rfl
      have hcz7_2 : w3.cell? ⟨gb368, 2, none⟩ = some (.int .i64 a0_2) := (blk_cell BK368.out 2).trans rfl
      have hcz7_3 : w3.cell? ⟨gb368, 3, none⟩ = some (.bool a0_3) := (blk_cell BK368.out 3).trans rfl
      have hcz7_4 : w3.cell? ⟨gb368, 4, none⟩ = some (.int .i64 a0_4) := (blk_cell BK368.out 4).trans rfl
      have hcz7_5 : w3.cell? ⟨gb368, 5, none⟩ = some (.int .i64 a0_5) := (blk_cell BK368.out 5).trans rfl
      have hcz7_6 : w3.cell? ⟨gb368, 6, none⟩ = some (.int .i64 a0_6) := (blk_cell BK368.out 6).trans rfl
      have hfz7_0 := blk_frozen BK368.out 0
      have hfz7_1 := blk_frozen BK368.out 1
      have hfz7_2 := blk_frozen BK368.out 2
      have hfz7_3 := blk_frozen BK368.out 3
      have hfz7_4 := blk_frozen BK368.out 4
      have hfz7_5 := blk_frozen BK368.out 5
      have hfz7_6 := blk_frozen BK368.out 6
      go_wp2_with (first | (go_at_call 24; (with_reducible refine (base_Good_1.calls a0_0 1 4 true _ A4.out).mono ?_); rintro e w' ⟨rfl, ⟨nd, rfl⟩⟩) | (go_at_call 24; (with_reducible refine (base_Good_1.calls a0_1 1 5 t370 _ A6.out).mono ?_); rintro e w' ⟨rfl, ⟨nd, rfl⟩⟩))
      go_meet
      case rel => exact ⟨_, (!t370), pmAx16_2_, H', ⟨by first | omega | exact Nat.le_refl _⟩, ⟨pmAx16_1_⟩, ⟨pmAx16_0_⟩⟩
    · replace c5 := Bool.eq_false_iff.mpr c5
      subst c5
      have H1 : (base_Good.j0 k true a0_0 a0_1 a0_2 a0_3 a0_4 a0_5 a0_6) = some r := by rw [if_neg (show ¬ (false = true) by decide)] at H; exact H
      clear H
      have H := H1
      clear H1
      have H' := Aside0.mk H
      clear H
      have hcz8_0 : w3.cell? ⟨gb368, 0, none⟩ = some (.int .i64 a0_0) := (blk_cell BK368.out 0).trans rfl
      have hcz8_1 : w3.cell? ⟨gb368, 1, none⟩ = some (.int .i64 a0_1) := (blk_cell BK368.out 1).trans rfl
      have hcz8_2 : w3.cell? ⟨gb368, 2, none⟩ = some (.int .i64 a0_2) := (blk_cell BK368.out 2).trans rfl
      have hcz8_3 : w3.cell? ⟨gb368, 3, none⟩ = some (.bool a0_3) := (blk_cell BK368.out 3).trans rfl
      have hcz8_4 : w3.cell? ⟨gb368, 4, none⟩ = some (.int .i64 a0_4) := (blk_cell BK368.out 4).trans rfl
      have hcz8_5 : w3.cell? ⟨gb368, 5, none⟩ = some (.int .i64 a0_5) := (blk_cell BK368.out 5).trans rfl
      have hcz8_6 : w3.cell? ⟨gb368, 6, none⟩ = some (.int .i64 a0_6) := (blk_cell BK368.out 6).trans rfl
      have hfz8_0 := blk_frozen BK368.out 0
      have hfz8_1 := blk_frozen BK368.out 1
      have hfz8_2 := blk_frozen BK368.out 2
      have hfz8_3 := blk_frozen BK368.out 3
      have hfz8_4 := blk_frozen BK368.out 4
      have hfz8_5 := blk_frozen BK368.out 5
      have hfz8_6 := blk_frozen BK368.out 6
      go_wp2_with (first | (go_at_call 24; (with_reducible refine (base_Good_1.calls a0_0 1 4 false _ A4.out).mono ?_); rintro e w' ⟨rfl, ⟨nd, rfl⟩⟩))
      go_meet
      case rel => exact ⟨_, (true), pmAx16_2_, H', ⟨by first | omega | exact Nat.le_refl _⟩, ⟨pmAx16_1_⟩, ⟨pmAx16_0_⟩⟩
  case rest =>
    clear HC2
    try clear p2
    try clear c5
    try clear hcz7_0
    try clear hcz7_1
    try clear hcz7_2
    try clear hcz7_3
    try clear hcz7_4
    try clear hcz7_5
    try clear hcz7_6
    try clear hcz8_0
    try clear hcz8_1
    try clear hcz8_2
    try clear hcz8_3
    try clear hcz8_4
    try clear hcz8_5
    try clear hcz8_6
    try clear hfz7_0
    try clear hfz7_1
    try clear hfz7_2
    try clear hfz7_3
    try clear hfz7_4
    try clear hfz7_5
    try clear hfz7_6
    try clear hfz8_0
    try clear hfz8_1
    try clear hfz8_2
    try clear hfz8_3
    try clear hfz8_4
    try clear hfz8_5
    try clear hfz8_6
    obtain ⟨kq, x4_1, rfl, HA, HJ1, BK368, HB⟩ := hcut
    cases kq with
    | zero => exact absurd HA.out (by simp [base_Good.j0])
    | succ kj1 =>
      have H := HA.out
      clear HA
      simp only [base_Good.j0] at H
      by_cases c9 : x4_1 = true
      · subst c9
        have H1 : (some false) = some r := by rw [if_pos rfl] at H; exact H
        clear H
        have H := H1
        clear H1
        obtain rfl := Option.some.inj H
        go_wp2
        go_ret
        exact ⟨by first | rfl | (simp [errW_none, errW_some] <;> rfl) | (simp [*, errW_none, errW_some] <;> rfl), by repeat (first | (with_reducible first | exact HB.out | apply below_alloc | apply pw_below_drewN | apply below_drew1 | refine below_set ?_ GE368.out) | exact HB.out)⟩
      · replace c9 := Bool.eq_false_iff.mpr c9
        subst c9
        have H1 : ((base_Good_1.f a0_2 0 1073741824).bind fun t371 => (if t371 = true then (if a0_1 = 5 then (base_Good.j1 kj1 false a0_0 a0_1 a0_2 a0_3 a0_4 a0_5 a0_6) else (base_Good.j1 kj1 (decide (a0_2 > 0)) a0_0 a0_1 a0_2 a0_3 a0_4 a0_5 a0_6)) else (base_Good.j1 kj1 true a0_0 a0_1 a0_2 a0_3 a0_4 a0_5 a0_6))) = some r := by rw [if_neg (show ¬ (false = true) by decide)] at H; exact H
        clear H
        have H := H1
        clear H1
        have HC10 := Aside0.mk H
        clear H
        go_upto_region 4 with (fail)
        go_cut [17] (fun v17 wc => ∃ (kq : Nat) (x17_9 : Bool), v17 = .bool x17_9 ∧ Aside0 (base_Good.j1 kq x17_9 a0_0 a0_1 a0_2 a0_3 a0_4 a0_5 a0_6 = some r) ∧ Aside0 (kq ≤ kj1) ∧ Aside0 (wc.heap[gb368]? = some (.cells #[.int .i64 a0_0, .int .i64 a0_1, .int .i64 a0_2, .bool a0_3, .int .i64 a0_4, .int .i64 a0_5, .int .i64 a0_6] 27 (0, 0))) ∧ Aside0 (Below w.heap.size w wc))
        case first =>
          have H := HC10.out
          clear HC10
          replace H := Option.bind_eq_some_iff.mp H
          obtain ⟨t371, A110, H⟩ := H
          replace H : (if t371 = true then (if a0_1 = 5 then (base_Good.j1 kj1 false a0_0 a0_1 a0_2 a0_3 a0_4 a0_5 a0_6) else (base_Good.j1 kj1 (decide (a0_2 > 0)) a0_0 a0_1 a0_2 a0_3 a0_4 a0_5 a0_6)) else (base_Good.j1 kj1 true a0_0 a0_1 a0_2 a0_3 a0_4 a0_5 a0_6)) = some r := H
          have A11 := Aside0.mk A110
          clear A110
          by_cases c12 : t371 = true
          · subst c12
            have H1 : (if a0_1 = 5 then (base_Good.j1 kj1 false a0_0 a0_1 a0_2 a0_3 a0_4 a0_5 a0_6) else (base_Good.j1 kj1 (decide (a0_2 > 0)) a0_0 a0_1 a0_2 a0_3 a0_4 a0_5 a0_6)) = some r := by rw [if_pos rfl] at H; exact H
            clear H
            have H := H1
            clear H1
            by_cases c13 : a0_1 = 5
            · rw [if_pos c13] at H
              have c13b0 : (a0_1 == 5) = true := beq_iff_eq.mpr c13
              have c13b1 : (a0_1 != 5) = false := bne_eq_false_iff_eq.mpr c13
              clear c13
              (first | rw [c13b0] | (simp only [i64_w, i32_w]; rw [c13b0]) | skip)
              have H' := Aside0.mk H
              clear H
              have hcz14_0 : wc.cell? ⟨gb368, 0, none⟩ = some (.int .i64 a0_0) := (blk_cell BK368.out 0).trans rfl
              have hcz14_1 : wc.cell? ⟨gb368, 1, none⟩ = some (.int .i64 a0_1) := (blk_cell BK368.out 1).trans rfl
              have hcz14_2 : wc.cell? ⟨gb368, 2, none⟩ = some (.int .i64 a0_2) := (blk_cell BK368.out 2).trans rfl
              have hcz14_3 : wc.cell? ⟨gb368, 3, none⟩ = some (.bool a0_3) := (blk_cell BK368.out 3).trans rfl
              have hcz14_4 : wc.cell? ⟨gb368, 4, none⟩ = some (.int .i64 a0_4) := (blk_cell BK368.out 4).trans rfl
              have hcz14_5 : wc.cell? ⟨gb368, 5, none⟩ = some (.int .i64 a0_5) := (blk_cell BK368.out 5).trans rfl
              have hcz14_6 : wc.cell? ⟨gb368, 6, none⟩ = some (.int .i64 a0_6) := (blk_cell BK368.out 6).trans rfl
              have hfz14_0 := blk_frozen BK368.out 0
              have hfz14_1 := blk_frozen BK368.out 1
              have hfz14_2 := blk_frozen BK368.out 2
              have hfz14_3 := blk_frozen BK368.out 3
              have hfz14_4 := blk_frozen BK368.out 4
              have hfz14_5 := blk_frozen BK368.out 5
              have hfz14_6 := blk_frozen BK368.out 6
              go_wp2_with (first | (go_at_call 24; (with_reducible refine (base_Good_1.calls a0_2 0 1073741824 true _ A11.out).mono ?_); rintro e w' ⟨rfl, ⟨nd, rfl⟩⟩))
              go_meet
              case rel => exact ⟨_, (false), pmAx16_2_, H', ⟨by have := HJ1.out; first | omega | exact Nat.le_refl _⟩, ⟨pmAx16_1_⟩, ⟨pmAx16_0_⟩⟩
            · rw [if_neg c13] at H
              have c13b0 : (a0_1 == 5) = false := beq_eq_false_iff_ne.mpr c13
              have c13b1 : (a0_1 != 5) = true := bne_iff_ne.mpr c13
              (first | rw [c13b0] | (simp only [i64_w, i32_w]; rw [c13b0]) | skip)
              have H' := Aside0.mk H
              clear H
              have hcz15_0 : wc.cell? ⟨gb368, 0, none⟩ = some (.int .i64 a0_0) := (blk_cell BK368.out 0).trans rfl
              have hcz15_1 : wc.cell? ⟨gb368, 1, none⟩ = some (.int .i64 a0_1) := (blk_cell BK368.out 1).trans rfl
              have hcz15_2 : wc.cell? ⟨gb368, 2, none⟩ = some (.int .i64 a0_2) := (blk_cell BK368.out 2).trans rfl
              have hcz15_3 : wc.cell? ⟨gb368, 3, none⟩ = some (.bool a0_3) := (blk_cell BK368.out 3).trans rfl
              have hcz15_4 : wc.cell? ⟨gb368, 4, none⟩ = some (.int .i64 a0_4) := (blk_cell BK368.out 4).trans rfl
              have hcz15_5 : wc.cell? ⟨gb368, 5, none⟩ = some (.int .i64 a0_5) := (blk_cell BK368.out 5).trans rfl
              have hcz15_6 : wc.cell? ⟨gb368, 6, none⟩ = some (.int .i64 a0_6) := (blk_cell BK368.out 6).trans rfl
              have hfz15_0 := blk_frozen BK368.out 0
              have hfz15_1 := blk_frozen BK368.out 1
              have hfz15_2 := blk_frozen BK368.out 2
              have hfz15_3 := blk_frozen BK368.out 3
              have hfz15_4 := blk_frozen BK368.out 4
              have hfz15_5 := blk_frozen BK368.out 5
              have hfz15_6 := blk_frozen BK368.out 6
              go_wp2_with (first | (go_at_call 24; (with_reducible refine (base_Good_1.calls a0_2 0 1073741824 true _ A11.out).mono ?_); rintro e w' ⟨rfl, ⟨nd, rfl⟩⟩))
              go_meet
              case rel => exact ⟨_, (decide (a0_2 > 0)), pmAx16_2_, H', ⟨by have := HJ1.out; first | omega | exact Nat.le_refl _⟩, ⟨pmAx16_1_⟩, ⟨pmAx16_0_⟩⟩
          · replace c12 := Bool.eq_false_iff.mpr c12
            subst c12
            have H1 : (base_Good.j1 kj1 true a0_0 a0_1 a0_2 a0_3 a0_4 a0_5 a0_6) = some r := by rw [if_neg (show ¬ (false = true) by decide)] at H; exact H
            clear H
            have H := H1
            clear H1
            have H' := Aside0.mk H
            clear H
            have hcz16_0 : wc.cell? ⟨gb368, 0, none⟩ = some (.int .i64 a0_0) := (blk_cell BK368.out 0).trans rfl
            have hcz16_1 : wc.cell? ⟨gb368, 1, none⟩ = some (.int .i64 a0_1) := (blk_cell BK368.out 1).trans rfl
            have hcz16_2 : wc.cell? ⟨gb368, 2, none⟩ = some (.int .i64 a0_2) := (blk_cell BK368.out 2).trans rfl
            have hcz16_3 : wc.cell? ⟨gb368, 3, none⟩ = some (.bool a0_3) := (blk_cell BK368.out 3).trans rfl
            have hcz16_4 : wc.cell? ⟨gb368, 4, none⟩ = some (.int .i64 a0_4) := (blk_cell BK368.out 4).trans rfl
            have hcz16_5 : wc.cell? ⟨gb368, 5, none⟩ = some (.int .i64 a0_5) := (blk_cell BK368.out 5).trans rfl
            have hcz16_6 : wc.cell? ⟨gb368, 6, none⟩ = some (.int .i64 a0_6) := (blk_cell BK368.out 6).trans rfl
            have hfz16_0 := blk_frozen BK368.out 0
            have hfz16_1 := blk_frozen BK368.out 1
            have hfz16_2 := blk_frozen BK368.out 2
            have hfz16_3 := blk_frozen BK368.out 3
            have hfz16_4 := blk_frozen BK368.out 4
            have hfz16_5 := blk_frozen BK368.out 5
            have hfz16_6 := blk_frozen BK368.out 6
            go_wp2_with (first | (go_at_call 24; (with_reducible refine (base_Good_1.calls a0_2 0 1073741824 false _ A11.out).mono ?_); rintro e w' ⟨rfl, ⟨nd, rfl⟩⟩))
            go_meet
            case rel => exact ⟨_, (true), pmAx16_2_, H', ⟨by have := HJ1.out; first | omega | exact Nat.le_refl _⟩, ⟨pmAx16_1_⟩, ⟨pmAx16_0_⟩⟩
        case rest =>
          clear HC10
          try clear c1
          try clear p2
          try clear c5
          try clear c9
          try clear c12
          try clear c13
          try clear c13b0
          try clear c13b1
          try clear hcz14_0
          try clear hcz14_1
          try clear hcz14_2
          try clear hcz14_3
          try clear hcz14_4
          try clear hcz14_5
          try clear hcz14_6
          try clear hcz15_0
          try clear hcz15_1
          try clear hcz15_2
          try clear hcz15_3
          try clear hcz15_4
          try clear hcz15_5
          try clear hcz15_6
          try clear hcz16_0
          try clear hcz16_1
          try clear hcz16_2
          try clear hcz16_3
          try clear hcz16_4
          try clear hcz16_5
          try clear hcz16_6
          try clear hcz7_0
          try clear hcz7_1
          try clear hcz7_2
          try clear hcz7_3
          try clear hcz7_4
          try clear hcz7_5
          try clear hcz7_6
          try clear hcz8_0
          try clear hcz8_1
          try clear hcz8_2
          try clear hcz8_3
          try clear hcz8_4
          try clear hcz8_5
          try clear hcz8_6
          try clear hfz14_0
          try clear hfz14_1
          try clear hfz14_2
          try clear hfz14_3
          try clear hfz14_4
          try clear hfz14_5
          try clear hfz14_6
          try clear hfz15_0
          try clear hfz15_1
          try clear hfz15_2
          try clear hfz15_3
          try clear hfz15_4
          try clear hfz15_5
          try clear hfz15_6
          try clear hfz16_0
          try clear hfz16_1
          try clear hfz16_2
          try clear hfz16_3
          try clear hfz16_4
          try clear hfz16_5
          try clear hfz16_6
          try clear hfz7_0
          try clear hfz7_1
          try clear hfz7_2
          try clear hfz7_3
          try clear hfz7_4
          try clear hfz7_5
          try clear hfz7_6
          try clear hfz8_0
          try clear hfz8_1
          try clear hfz8_2
          try clear hfz8_3
          try clear hfz8_4
          try clear hfz8_5
          try clear hfz8_6
          try clear p2
          obtain ⟨kq, x17_9, rfl, HA, HJ9, BK368, HB⟩ := hcut
          cases kq with
          | zero => exact absurd HA.out (by simp [base_Good.j1])
          | succ kj9 =>
            have H := HA.out
            clear HA
            simp only [base_Good.j1] at H
            by_cases c17 : x17_9 = true
            · subst c17
              have H1 : (some false) = some r := by rw [if_pos rfl] at H; exact H
              clear H
              have H := H1
              clear H1
              obtain rfl := Option.some.inj H
              go_wp2
              go_ret
              exact ⟨by first | rfl | (simp [errW_none, errW_some] <;> rfl) | (simp [*, errW_none, errW_some] <;> rfl), by repeat (first | (with_reducible first | exact HB.out | apply below_alloc | apply pw_below_drewN | apply below_drew1 | refine below_set ?_ GE368.out) | exact HB.out)⟩
            · replace c17 := Bool.eq_false_iff.mpr c17
              subst c17
              have H1 : ((base_Good_1.f a0_4 0 68719476736).bind fun t372 => (if t372 = true then (if a0_3 = true then (base_Good.j2 kj9 false a0_0 a0_1 a0_2 a0_3 a0_4 a0_5 a0_6) else (base_Good.j2 kj9 (decide (a0_4 > 0)) a0_0 a0_1 a0_2 a0_3 a0_4 a0_5 a0_6)) else (base_Good.j2 kj9 true a0_0 a0_1 a0_2 a0_3 a0_4 a0_5 a0_6))) = some r := by rw [if_neg (show ¬ (false = true) by decide)] at H; exact H
              clear H
              have H := H1
              clear H1
              have HC18 := Aside0.mk H
              clear H
              go_upto_region 6 with (fail)
              go_cut [33] (fun v33 wc => ∃ (kq : Nat) (x33_17 : Bool), v33 = .bool x33_17 ∧ Aside0 (base_Good.j2 kq x33_17 a0_0 a0_1 a0_2 a0_3 a0_4 a0_5 a0_6 = some r) ∧ Aside0 (kq ≤ kj9) ∧ Aside0 (wc.heap[gb368]? = some (.cells #[.int .i64 a0_0, .int .i64 a0_1, .int .i64 a0_2, .bool a0_3, .int .i64 a0_4, .int .i64 a0_5, .int .i64 a0_6] 27 (0, 0))) ∧ Aside0 (Below w.heap.size w wc))
              case first =>
                have H := HC18.out
                clear HC18
                replace H := Option.bind_eq_some_iff.mp H
                obtain ⟨t372, A190, H⟩ := H
                replace H : (if t372 = true then (if a0_3 = true then (base_Good.j2 kj9 false a0_0 a0_1 a0_2 a0_3 a0_4 a0_5 a0_6) else (base_Good.j2 kj9 (decide (a0_4 > 0)) a0_0 a0_1 a0_2 a0_3 a0_4 a0_5 a0_6)) else (base_Good.j2 kj9 true a0_0 a0_1 a0_2 a0_3 a0_4 a0_5 a0_6)) = some r := H
                have A19 := Aside0.mk A190
                clear A190
                by_cases c20 : t372 = true
                · subst c20
                  have H1 : (if a0_3 = true then (base_Good.j2 kj9 false a0_0 a0_1 a0_2 a0_3 a0_4 a0_5 a0_6) else (base_Good.j2 kj9 (decide (a0_4 > 0)) a0_0 a0_1 a0_2 a0_3 a0_4 a0_5 a0_6)) = some r := by rw [if_pos rfl] at H; exact H
                  clear H
                  have H := H1
                  clear H1
                  by_cases c21 : a0_3 = true
                  · subst c21
                    have H1 : (base_Good.j2 kj9 false a0_0 a0_1 a0_2 true a0_4 a0_5 a0_6) = some r := by rw [if_pos rfl] at H; exact H
                    clear H
                    have H := H1
                    clear H1
                    have H' := Aside0.mk H
                    clear H
                    have hcz22_0 : wc.cell? ⟨gb368, 0, none⟩ = some (.int .i64 a0_0) := (blk_cell BK368.out 0).trans rfl
                    have hcz22_1 : wc.cell? ⟨gb368, 1, none⟩ = some (.int .i64 a0_1) := (blk_cell BK368.out 1).trans rfl
                    have hcz22_2 : wc.cell? ⟨gb368, 2, none⟩ = some (.int .i64 a0_2) := (blk_cell BK368.out 2).trans rfl
                    have hcz22_3 : wc.cell? ⟨gb368, 3, none⟩ = some (.bool true) := (blk_cell BK368.out 3).trans rfl
                    have hcz22_4 : wc.cell? ⟨gb368, 4, none⟩ = some (.int .i64 a0_4) := (blk_cell BK368.out 4).trans rfl
                    have hcz22_5 : wc.cell? ⟨gb368, 5, none⟩ = some (.int .i64 a0_5) := (blk_cell BK368.out 5).trans rfl
                    have hcz22_6 : wc.cell? ⟨gb368, 6, none⟩ = some (.int .i64 a0_6) := (blk_cell BK368.out 6).trans rfl
                    have hfz22_0 := blk_frozen BK368.out 0
                    have hfz22_1 := blk_frozen BK368.out 1
                    have hfz22_2 := blk_frozen BK368.out 2
                    have hfz22_3 := blk_frozen BK368.out 3
                    have hfz22_4 := blk_frozen BK368.out 4
                    have hfz22_5 := blk_frozen BK368.out 5
                    have hfz22_6 := blk_frozen BK368.out 6
                    go_wp2_with (first | (go_at_call 24; (with_reducible refine (base_Good_1.calls a0_4 0 68719476736 true _ A19.out).mono ?_); rintro e w' ⟨rfl, ⟨nd, rfl⟩⟩))
                    go_meet
                    case rel => exact ⟨_, (false), pmAx16_2_, H', ⟨by have := HJ1.out; have := HJ9.out; first | omega | exact Nat.le_refl _⟩, ⟨pmAx16_1_⟩, ⟨pmAx16_0_⟩⟩
                  · replace c21 := Bool.eq_false_iff.mpr c21
                    subst c21
                    have H1 : (base_Good.j2 kj9 (decide (a0_4 > 0)) a0_0 a0_1 a0_2 false a0_4 a0_5 a0_6) = some r := by rw [if_neg (show ¬ (false = true) by decide)] at H; exact H
                    clear H
                    have H := H1
                    clear H1
                    have H' := Aside0.mk H
                    clear H
                    have hcz23_0 : wc.cell? ⟨gb368, 0, none⟩ = some (.int .i64 a0_0) := (blk_cell BK368.out 0).trans rfl
                    have hcz23_1 : wc.cell? ⟨gb368, 1, none⟩ = some (.int .i64 a0_1) := (blk_cell BK368.out 1).trans rfl
                    have hcz23_2 : wc.cell? ⟨gb368, 2, none⟩ = some (.int .i64 a0_2) := (blk_cell BK368.out 2).trans rfl
                    have hcz23_3 : wc.cell? ⟨gb368, 3, none⟩ = some (.bool false) := (blk_cell BK368.out 3).trans rfl
                    have hcz23_4 : wc.cell? ⟨gb368, 4, none⟩ = some (.int .i64 a0_4) := (blk_cell BK368.out 4).trans rfl
                    have hcz23_5 : wc.cell? ⟨gb368, 5, none⟩ = some (.int .i64 a0_5) := (blk_cell BK368.out 5).trans rfl
                    have hcz23_6 : wc.cell? ⟨gb368, 6, none⟩ = some (.int .i64 a0_6) := (blk_cell BK368.out 6).trans rfl
                    have hfz23_0 := blk_frozen BK368.out 0
                    have hfz23_1 := blk_frozen BK368.out 1
                    have hfz23_2 := blk_frozen BK368.out 2
                    have hfz23_3 := blk_frozen BK368.out 3
                    have hfz23_4 := blk_frozen BK368.out 4
                    have hfz23_5 := blk_frozen BK368.out 5
                    have hfz23_6 := blk_frozen BK368.out 6
                    go_wp2_with (first | (go_at_call 24; (with_reducible refine (base_Good_1.calls a0_4 0 68719476736 true _ A19.out).mono ?_); rintro e w' ⟨rfl, ⟨nd, rfl⟩⟩))
                    go_meet
                    case rel => exact ⟨_, (decide (a0_4 > 0)), pmAx16_2_, H', ⟨by have := HJ1.out; have := HJ9.out; first | omega | exact Nat.le_refl _⟩, ⟨pmAx16_1_⟩, ⟨pmAx16_0_⟩⟩
                · replace c20 := Bool.eq_false_iff.mpr c20
                  subst c20
                  have H1 : (base_Good.j2 kj9 true a0_0 a0_1 a0_2 a0_3 a0_4 a0_5 a0_6) = some r := by rw [if_neg (show ¬ (false = true) by decide)] at H; exact H
                  clear H
                  have H := H1
                  clear H1
                  have H' := Aside0.mk H
                  clear H
                  have hcz24_0 : wc.cell? ⟨gb368, 0, none⟩ = some (.int .i64 a0_0) := (blk_cell BK368.out 0).trans rfl
                  have hcz24_1 : wc.cell? ⟨gb368, 1, none⟩ = some (.int .i64 a0_1) := (blk_cell BK368.out 1).trans rfl
                  have hcz24_2 : wc.cell? ⟨gb368, 2, none⟩ = some (.int .i64 a0_2) := (blk_cell BK368.out 2).trans rfl
                  have hcz24_3 : wc.cell? ⟨gb368, 3, none⟩ = some (.bool a0_3) := (blk_cell BK368.out 3).trans rfl
                  have hcz24_4 : wc.cell? ⟨gb368, 4, none⟩ = some (.int .i64 a0_4) := (blk_cell BK368.out 4).trans rfl
                  have hcz24_5 : wc.cell? ⟨gb368, 5, none⟩ = some (.int .i64 a0_5) := (blk_cell BK368.out 5).trans rfl
                  have hcz24_6 : wc.cell? ⟨gb368, 6, none⟩ = some (.int .i64 a0_6) := (blk_cell BK368.out 6).trans rfl
                  have hfz24_0 := blk_frozen BK368.out 0
                  have hfz24_1 := blk_frozen BK368.out 1
                  have hfz24_2 := blk_frozen BK368.out 2
                  have hfz24_3 := blk_frozen BK368.out 3
                  have hfz24_4 := blk_frozen BK368.out 4
                  have hfz24_5 := blk_frozen BK368.out 5
                  have hfz24_6 := blk_frozen BK368.out 6
                  go_wp2_with (first | (go_at_call 24; (with_reducible refine (base_Good_1.calls a0_4 0 68719476736 false _ A19.out).mono ?_); rintro e w' ⟨rfl, ⟨nd, rfl⟩⟩))
                  go_meet
                  case rel => exact ⟨_, (true), pmAx16_2_, H', ⟨by have := HJ1.out; have := HJ9.out; first | omega | exact Nat.le_refl _⟩, ⟨pmAx16_1_⟩, ⟨pmAx16_0_⟩⟩
              case rest =>
                clear HC18
                try clear c1
                try clear c2
                try clear p2
                try clear c5
                try clear c9
                try clear c12
                try clear c13
                try clear c13b0
                try clear c13b1
                try clear c17
                try clear c20
                try clear c21
                try clear hcz14_0
                try clear hcz14_1
                try clear hcz14_2
                try clear hcz14_3
                try clear hcz14_4
                try clear hcz14_5
                try clear hcz14_6
                try clear hcz15_0
                try clear hcz15_1
                try clear hcz15_2
                try clear hcz15_3
                try clear hcz15_4
                try clear hcz15_5
                try clear hcz15_6
                try clear hcz16_0
                try clear hcz16_1
                try clear hcz16_2
                try clear hcz16_3
                try clear hcz16_4
                try clear hcz16_5
                try clear hcz16_6
                try clear hcz22_0
                try clear hcz22_1
                try clear hcz22_2
                try clear hcz22_3
                try clear hcz22_4
                try clear hcz22_5
                try clear hcz22_6
                try clear hcz23_0
                try clear hcz23_1
                try clear hcz23_2
                try clear hcz23_3
                try clear hcz23_4
                try clear hcz23_5
                try clear hcz23_6
                try clear hcz24_0
                try clear hcz24_1
                try clear hcz24_2
                try clear hcz24_3
                try clear hcz24_4
                try clear hcz24_5
                try clear hcz24_6
                try clear hcz7_0
                try clear hcz7_1
                try clear hcz7_2
                try clear hcz7_3
                try clear hcz7_4
                try clear hcz7_5
                try clear hcz7_6
                try clear hcz8_0
                try clear hcz8_1
                try clear hcz8_2
                try clear hcz8_3
                try clear hcz8_4
                try clear hcz8_5
                try clear hcz8_6
                try clear hfz14_0
                try clear hfz14_1
                try clear hfz14_2
                try clear hfz14_3
                try clear hfz14_4
                try clear hfz14_5
                try clear hfz14_6
                try clear hfz15_0
                try clear hfz15_1
                try clear hfz15_2
                try clear hfz15_3
                try clear hfz15_4
                try clear hfz15_5
                try clear hfz15_6
                try clear hfz16_0
                try clear hfz16_1
                try clear hfz16_2
                try clear hfz16_3
                try clear hfz16_4
                try clear hfz16_5
                try clear hfz16_6
                try clear hfz22_0
                try clear hfz22_1
                try clear hfz22_2
                try clear hfz22_3
                try clear hfz22_4
                try clear hfz22_5
                try clear hfz22_6
                try clear hfz23_0
                try clear hfz23_1
                try clear hfz23_2
                try clear hfz23_3
                try clear hfz23_4
                try clear hfz23_5
                try clear hfz23_6
                try clear hfz24_0
                try clear hfz24_1
                try clear hfz24_2
                try clear hfz24_3
                try clear hfz24_4
                try clear hfz24_5
                try clear hfz24_6
                try clear hfz7_0
                try clear hfz7_1
                try clear hfz7_2
                try clear hfz7_3
                try clear hfz7_4
                try clear hfz7_5
                try clear hfz7_6
                try clear hfz8_0
                try clear hfz8_1
                try clear hfz8_2
                try clear hfz8_3
                try clear hfz8_4
                try clear hfz8_5
                try clear hfz8_6
                try clear p2
                obtain ⟨kq, x33_17, rfl, HA, HJ17, BK368, HB⟩ := hcut
                cases kq with
                | zero => exact absurd HA.out (by simp [base_Good.j2])
                | succ kj17 =>
                  have H := HA.out
                  clear HA
                  simp only [base_Good.j2] at H
                  by_cases c25 : x33_17 = true
                  · subst c25
                    have H1 : (some false) = some r := by rw [if_pos rfl] at H; exact H
                    clear H
                    have H := H1
                    clear H1
                    obtain rfl := Option.some.inj H
                    go_wp2
                    go_ret
                    exact ⟨by first | rfl | (simp [errW_none, errW_some] <;> rfl) | (simp [*, errW_none, errW_some] <;> rfl), by repeat (first | (with_reducible first | exact HB.out | apply below_alloc | apply pw_below_drewN | apply below_drew1 | refine below_set ?_ GE368.out) | exact HB.out)⟩
                  · replace c25 := Bool.eq_false_iff.mpr c25
                    subst c25
                    have H1 : (if a0_3 = true then (base_Good.j3 kj17 (!(a0_0 == 2) || (!(a0_1 == 4) || (!(a0_2 == 0) || (!a0_3)))) a0_0 a0_1 a0_2 a0_3 a0_4 a0_5 a0_6) else (base_Good.j3 kj17 false a0_0 a0_1 a0_2 a0_3 a0_4 a0_5 a0_6)) = some r := by rw [if_neg (show ¬ (false = true) by decide)] at H; exact H
                    clear H
                    have H := H1
                    clear H1
                    have HC26 := Aside0.mk H
                    clear H
                    go_upto_region 8 with (fail)
                    go_cut [49] (fun v49 wc => ∃ (kq : Nat) (x49_25 : Bool), v49 = .bool x49_25 ∧ Aside0 (base_Good.j3 kq x49_25 a0_0 a0_1 a0_2 a0_3 a0_4 a0_5 a0_6 = some r) ∧ Aside0 (kq ≤ kj17) ∧ Aside0 (wc.heap[gb368]? = some (.cells #[.int .i64 a0_0, .int .i64 a0_1, .int .i64 a0_2, .bool a0_3, .int .i64 a0_4, .int .i64 a0_5, .int .i64 a0_6] 27 (0, 0))) ∧ Aside0 (Below w.heap.size w wc))
                    case first =>
                      have H := HC26.out
                      clear HC26
                      by_cases c27 : a0_3 = true
                      · subst c27
                        have H1 : (base_Good.j3 kj17 (!(a0_0 == 2) || (!(a0_1 == 4) || (!(a0_2 == 0) || (!true)))) a0_0 a0_1 a0_2 true a0_4 a0_5 a0_6) = some r := by rw [if_pos rfl] at H; exact H
                        clear H
                        have H := H1
                        clear H1
                        have H' := Aside0.mk H
                        clear H
                        have hcz28_0 : wc.cell? ⟨gb368, 0, none⟩ = some (.int .i64 a0_0) := (blk_cell BK368.out 0).trans rfl
                        have hcz28_1 : wc.cell? ⟨gb368, 1, none⟩ = some (.int .i64 a0_1) := (blk_cell BK368.out 1).trans rfl
                        have hcz28_2 : wc.cell? ⟨gb368, 2, none⟩ = some (.int .i64 a0_2) := (blk_cell BK368.out 2).trans rfl
                        have hcz28_3 : wc.cell? ⟨gb368, 3, none⟩ = some (.bool true) := (blk_cell BK368.out 3).trans rfl
                        have hcz28_4 : wc.cell? ⟨gb368, 4, none⟩ = some (.int .i64 a0_4) := (blk_cell BK368.out 4).trans rfl
                        have hcz28_5 : wc.cell? ⟨gb368, 5, none⟩ = some (.int .i64 a0_5) := (blk_cell BK368.out 5).trans rfl
                        have hcz28_6 : wc.cell? ⟨gb368, 6, none⟩ = some (.int .i64 a0_6) := (blk_cell BK368.out 6).trans rfl
                        have hfz28_0 := blk_frozen BK368.out 0
                        have hfz28_1 := blk_frozen BK368.out 1
                        have hfz28_2 := blk_frozen BK368.out 2
                        have hfz28_3 := blk_frozen BK368.out 3
                        have hfz28_4 := blk_frozen BK368.out 4
                        have hfz28_5 := blk_frozen BK368.out 5
                        have hfz28_6 := blk_frozen BK368.out 6
                        go_wp2
                        go_meet
                        case rel => exact ⟨_, ((!(a0_0 == 2) || (!(a0_1 == 4) || (!(a0_2 == 0) || (!true))))), pmAx16_2_, H', ⟨by have := HJ1.out; have := HJ9.out; have := HJ17.out; first | omega | exact Nat.le_refl _⟩, ⟨pmAx16_1_⟩, ⟨pmAx16_0_⟩⟩
                      · replace c27 := Bool.eq_false_iff.mpr c27
                        subst c27
                        have H1 : (base_Good.j3 kj17 false a0_0 a0_1 a0_2 false a0_4 a0_5 a0_6) = some r := by rw [if_neg (show ¬ (false = true) by decide)] at H; exact H
                        clear H
                        have H := H1
                        clear H1
                        have H' := Aside0.mk H
                        clear H
                        have hcz29_0 : wc.cell? ⟨gb368, 0, none⟩ = some (.int .i64 a0_0) := (blk_cell BK368.out 0).trans rfl
                        have hcz29_1 : wc.cell? ⟨gb368, 1, none⟩ = some (.int .i64 a0_1) := (blk_cell BK368.out 1).trans rfl
                        have hcz29_2 : wc.cell? ⟨gb368, 2, none⟩ = some (.int .i64 a0_2) := (blk_cell BK368.out 2).trans rfl
                        have hcz29_3 : wc.cell? ⟨gb368, 3, none⟩ = some (.bool false) := (blk_cell BK368.out 3).trans rfl
                        have hcz29_4 : wc.cell? ⟨gb368, 4, none⟩ = some (.int .i64 a0_4) := (blk_cell BK368.out 4).trans rfl
                        have hcz29_5 : wc.cell? ⟨gb368, 5, none⟩ = some (.int .i64 a0_5) := (blk_cell BK368.out 5).trans rfl
                        have hcz29_6 : wc.cell? ⟨gb368, 6, none⟩ = some (.int .i64 a0_6) := (blk_cell BK368.out 6).trans rfl
                        have hfz29_0 := blk_frozen BK368.out 0
                        have hfz29_1 := blk_frozen BK368.out 1
                        have hfz29_2 := blk_frozen BK368.out 2
                        have hfz29_3 := blk_frozen BK368.out 3
                        have hfz29_4 := blk_frozen BK368.out 4
                        have hfz29_5 := blk_frozen BK368.out 5
                        have hfz29_6 := blk_frozen BK368.out 6
                        go_wp2
                        go_meet
                        case rel => exact ⟨_, (false), pmAx16_2_, H', ⟨by have := HJ1.out; have := HJ9.out; have := HJ17.out; first | omega | exact Nat.le_refl _⟩, ⟨pmAx16_1_⟩, ⟨pmAx16_0_⟩⟩
                    case rest =>
                      clear HC26
                      try clear c1
                      try clear c2
                      try clear p2
                      try clear c5
                      try clear c9
                      try clear c12
                      try clear c13
                      try clear c13b0
                      try clear c13b1
                      try clear c17
                      try clear c20
                      try clear c21
                      try clear c25
                      try clear c27
                      try clear hcz14_0
                      try clear hcz14_1
                      try clear hcz14_2
                      try clear hcz14_3
                      try clear hcz14_4
                      try clear hcz14_5
                      try clear hcz14_6
                      try clear hcz15_0
                      try clear hcz15_1
                      try clear hcz15_2
                      try clear hcz15_3
                      try clear hcz15_4
                      try clear hcz15_5
                      try clear hcz15_6
                      try clear hcz16_0
                      try clear hcz16_1
                      try clear hcz16_2
                      try clear hcz16_3
                      try clear hcz16_4
                      try clear hcz16_5
                      try clear hcz16_6
                      try clear hcz22_0
                      try clear hcz22_1
                      try clear hcz22_2
                      try clear hcz22_3
                      try clear hcz22_4
                      try clear hcz22_5
                      try clear hcz22_6
                      try clear hcz23_0
                      try clear hcz23_1
                      try clear hcz23_2
                      try clear hcz23_3
                      try clear hcz23_4
                      try clear hcz23_5
                      try clear hcz23_6
                      try clear hcz24_0
                      try clear hcz24_1
                      try clear hcz24_2
                      try clear hcz24_3
                      try clear hcz24_4
                      try clear hcz24_5
                      try clear hcz24_6
                      try clear hcz28_0
                      try clear hcz28_1
                      try clear hcz28_2
                      try clear hcz28_3
                      try clear hcz28_4
                      try clear hcz28_5
                      try clear hcz28_6
                      try clear hcz29_0
                      try clear hcz29_1
                      try clear hcz29_2
                      try clear hcz29_3
                      try clear hcz29_4
                      try clear hcz29_5
                      try clear hcz29_6
                      try clear hcz7_0
                      try clear hcz7_1
                      try clear hcz7_2
                      try clear hcz7_3
                      try clear hcz7_4
                      try clear hcz7_5
                      try clear hcz7_6
                      try clear hcz8_0
                      try clear hcz8_1
                      try clear hcz8_2
                      try clear hcz8_3
                      try clear hcz8_4
                      try clear hcz8_5
                      try clear hcz8_6
                      try clear hfz14_0
                      try clear hfz14_1
                      try clear hfz14_2
                      try clear hfz14_3
                      try clear hfz14_4
                      try clear hfz14_5
                      try clear hfz14_6
                      try clear hfz15_0
                      try clear hfz15_1
                      try clear hfz15_2
                      try clear hfz15_3
                      try clear hfz15_4
                      try clear hfz15_5
                      try clear hfz15_6
                      try clear hfz16_0
                      try clear hfz16_1
                      try clear hfz16_2
                      try clear hfz16_3
                      try clear hfz16_4
                      try clear hfz16_5
                      try clear hfz16_6
                      try clear hfz22_0
                      try clear hfz22_1
                      try clear hfz22_2
                      try clear hfz22_3
                      try clear hfz22_4
                      try clear hfz22_5
                      try clear hfz22_6
                      try clear hfz23_0
                      try clear hfz23_1
                      try clear hfz23_2
                      try clear hfz23_3
                      try clear hfz23_4
                      try clear hfz23_5
                      try clear hfz23_6
                      try clear hfz24_0
                      try clear hfz24_1
                      try clear hfz24_2
                      try clear hfz24_3
                      try clear hfz24_4
                      try clear hfz24_5
                      try clear hfz24_6
                      try clear hfz28_0
                      try clear hfz28_1
                      try clear hfz28_2
                      try clear hfz28_3
                      try clear hfz28_4
                      try clear hfz28_5
                      try clear hfz28_6
                      try clear hfz29_0
                      try clear hfz29_1
                      try clear hfz29_2
                      try clear hfz29_3
                      try clear hfz29_4
                      try clear hfz29_5
                      try clear hfz29_6
                      try clear hfz7_0
                      try clear hfz7_1
                      try clear hfz7_2
                      try clear hfz7_3
                      try clear hfz7_4
                      try clear hfz7_5
                      try clear hfz7_6
                      try clear hfz8_0
                      try clear hfz8_1
                      try clear hfz8_2
                      try clear hfz8_3
                      try clear hfz8_4
                      try clear hfz8_5
                      try clear hfz8_6
                      try clear p2
                      obtain ⟨kq, x49_25, rfl, HA, HJ25, BK368, HB⟩ := hcut
                      cases kq with
                      | zero => exact absurd HA.out (by simp [base_Good.j3])
                      | succ kj25 =>
                        have H := HA.out
                        clear HA
                        simp only [base_Good.j3] at H
                        by_cases c30 : x49_25 = true
                        · subst c30
                          have H1 : (some false) = some r := by rw [if_pos rfl] at H; exact H
                          clear H
                          have H := H1
                          clear H1
                          obtain rfl := Option.some.inj H
                          go_wp2
                          go_ret
                          exact ⟨by first | rfl | (simp [errW_none, errW_some] <;> rfl) | (simp [*, errW_none, errW_some] <;> rfl), by repeat (first | (with_reducible first | exact HB.out | apply below_alloc | apply pw_below_drewN | apply below_drew1 | refine below_set ?_ GE368.out) | exact HB.out)⟩
                        · replace c30 := Bool.eq_false_iff.mpr c30
                          subst c30
                          have H1 : ((base_Good_1.f a0_5 0 1125899906842623).bind fun t373 => (if t373 = true then ((base_Good_1.f a0_6 a0_5 1125899906842624).bind fun t374 => (some t374)) else (some false))) = some r := by rw [if_neg (show ¬ (false = true) by decide)] at H; exact H
                          clear H
                          have H := H1
                          clear H1
                          replace H := Option.bind_eq_some_iff.mp H
                          obtain ⟨t373, A310, H⟩ := H
                          replace H : (if t373 = true then ((base_Good_1.f a0_6 a0_5 1125899906842624).bind fun t374 => (some t374)) else (some false)) = some r := H
                          have A31 := Aside0.mk A310
                          clear A310
                          by_cases c32 : t373 = true
                          · subst c32
                            have H1 : ((base_Good_1.f a0_6 a0_5 1125899906842624).bind fun t374 => (some t374)) = some r := by rw [if_pos rfl] at H; exact H
                            clear H
                            have H := H1
                            clear H1
                            replace H := Option.bind_eq_some_iff.mp H
                            obtain ⟨t374, A330, H⟩ := H
                            replace H : (some t374) = some r := H
                            have A33 := Aside0.mk A330
                            clear A330
                            obtain rfl := Option.some.inj H
                            have hcz34_0 : wc.cell? ⟨gb368, 0, none⟩ = some (.int .i64 a0_0) := (blk_cell BK368.out 0).trans rfl
                            have hcz34_1 : wc.cell? ⟨gb368, 1, none⟩ = some (.int .i64 a0_1) := (blk_cell BK368.out 1).trans rfl
                            have hcz34_2 : wc.cell? ⟨gb368, 2, none⟩ = some (.int .i64 a0_2) := (blk_cell BK368.out 2).trans rfl
                            have hcz34_3 : wc.cell? ⟨gb368, 3, none⟩ = some (.bool a0_3) := (blk_cell BK368.out 3).trans rfl
                            have hcz34_4 : wc.cell? ⟨gb368, 4, none⟩ = some (.int .i64 a0_4) := (blk_cell BK368.out 4).trans rfl
                            have hcz34_5 : wc.cell? ⟨gb368, 5, none⟩ = some (.int .i64 a0_5) := (blk_cell BK368.out 5).trans rfl
                            have hcz34_6 : wc.cell? ⟨gb368, 6, none⟩ = some (.int .i64 a0_6) := (blk_cell BK368.out 6).trans rfl
                            have hfz34_0 := blk_frozen BK368.out 0
                            have hfz34_1 := blk_frozen BK368.out 1
                            have hfz34_2 := blk_frozen BK368.out 2
                            have hfz34_3 := blk_frozen BK368.out 3
                            have hfz34_4 := blk_frozen BK368.out 4
                            have hfz34_5 := blk_frozen BK368.out 5
                            have hfz34_6 := blk_frozen BK368.out 6
                            go_wp2_with (first | (go_at_call 24; (with_reducible refine (base_Good_1.calls a0_5 0 1125899906842623 true _ A31.out).mono ?_); rintro e w' ⟨rfl, ⟨nd, rfl⟩⟩) | (go_at_call 24; (with_reducible refine (base_Good_1.calls a0_6 a0_5 1125899906842624 t374 _ A33.out).mono ?_); rintro e w' ⟨rfl, ⟨nd, rfl⟩⟩))
                            go_ret
                            exact ⟨by first | rfl | (simp [errW_none, errW_some] <;> rfl) | (simp [*, errW_none, errW_some] <;> rfl), by repeat (first | (with_reducible first | exact HB.out | apply below_alloc | apply pw_below_drewN | apply below_drew1 | refine below_set ?_ GE368.out) | exact HB.out)⟩
                          · replace c32 := Bool.eq_false_iff.mpr c32
                            subst c32
                            have H1 : (some false) = some r := by rw [if_neg (show ¬ (false = true) by decide)] at H; exact H
                            clear H
                            have H := H1
                            clear H1
                            obtain rfl := Option.some.inj H
                            have hcz35_0 : wc.cell? ⟨gb368, 0, none⟩ = some (.int .i64 a0_0) := (blk_cell BK368.out 0).trans rfl
                            have hcz35_1 : wc.cell? ⟨gb368, 1, none⟩ = some (.int .i64 a0_1) := (blk_cell BK368.out 1).trans rfl
                            have hcz35_2 : wc.cell? ⟨gb368, 2, none⟩ = some (.int .i64 a0_2) := (blk_cell BK368.out 2).trans rfl
                            have hcz35_3 : wc.cell? ⟨gb368, 3, none⟩ = some (.bool a0_3) := (blk_cell BK368.out 3).trans rfl
                            have hcz35_4 : wc.cell? ⟨gb368, 4, none⟩ = some (.int .i64 a0_4) := (blk_cell BK368.out 4).trans rfl
                            have hcz35_5 : wc.cell? ⟨gb368, 5, none⟩ = some (.int .i64 a0_5) := (blk_cell BK368.out 5).trans rfl
                            have hcz35_6 : wc.cell? ⟨gb368, 6, none⟩ = some (.int .i64 a0_6) := (blk_cell BK368.out 6).trans rfl
                            have hfz35_0 := blk_frozen BK368.out 0
                            have hfz35_1 := blk_frozen BK368.out 1
                            have hfz35_2 := blk_frozen BK368.out 2
                            have hfz35_3 := blk_frozen BK368.out 3
                            have hfz35_4 := blk_frozen BK368.out 4
                            have hfz35_5 := blk_frozen BK368.out 5
                            have hfz35_6 := blk_frozen BK368.out 6
                            go_wp2_with (first | (go_at_call 24; (with_reducible refine (base_Good_1.calls a0_5 0 1125899906842623 false _ A31.out).mono ?_); rintro e w' ⟨rfl, ⟨nd, rfl⟩⟩))
                            go_ret
                            exact ⟨by first | rfl | (simp [errW_none, errW_some] <;> rfl) | (simp [*, errW_none, errW_some] <;> rfl), by repeat (first | (with_reducible first | exact HB.out | apply below_alloc | apply pw_below_drewN | apply below_drew1 | refine below_set ?_ GE368.out) | exact HB.out)⟩

end Go.Proofs.Ytmgmidipijpkdaa.PA
