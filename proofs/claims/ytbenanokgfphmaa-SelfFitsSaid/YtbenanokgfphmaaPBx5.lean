-- written by a program of this session (a print of the translation with changes of its own)
import Derived.Test.YtbenanokgfphmaaPBx0
import Derived.Test.YtbenanokgfphmaaPBx3
import Derived.Test.YtbenanokgfphmaaShelf
namespace Go.Proofs.Ytbenanokgfphmaa.PB
open Go.RowKit Go.Proofs.YtbenanokgfphmaaW.PrintWords Go.Proofs.YtbenanokgfphmaaW.PrintLast Go.Proofs.YtbenanokgfphmaaW.PrintMore
theorem pmBx5_0_ {P : Prop} (h : P := by repeat (first | (with_reducible first | exact HB.out | apply below_alloc | apply pw_below_drewN | apply below_drew1) | exact HB.out)) : P := h
theorem pmBx5_1_ {P : Prop} (h : P := by repeat (first | (with_reducible first | exact HB.out | apply below_alloc | apply pw_below_drewN | apply below_drew1 | refine below_set ?_ GE104.out | refine below_set ?_ GE105.out) | exact HB.out)) : P := h
theorem pmBx5_2_ {P : Prop} (h : P := by (with_reducible repeat (first | refine blk_drewN ?_ _ | refine blk_drew ?_ | refine blk_alloc ?_ _)); refine blk_far ?_ NB111_112.out _; (with_reducible repeat (first | refine blk_drewN ?_ _ | refine blk_drew ?_ | refine blk_alloc ?_ _)); refine blk_far ?_ NB111_112.out _; (with_reducible repeat (first | refine blk_drewN ?_ _ | refine blk_drew ?_ | refine blk_alloc ?_ _)); refine blk_put (cs := #[.bool false, .int .i64 0]) ?_ 1 _ rfl; (with_reducible repeat (first | refine blk_drewN ?_ _ | refine blk_drew ?_ | refine blk_alloc ?_ _)); refine blk_put (cs := #[.bool false, .int .i64 0]) ?_ 0 _ rfl; (with_reducible repeat (first | refine blk_drewN ?_ _ | refine blk_drew ?_ | refine blk_alloc ?_ _)); exact BK111.out) : P := h
theorem pmBx5_3_ {P : Prop} (h : P := by (with_reducible repeat (first | refine blk_drewN ?_ _ | refine blk_drew ?_ | refine blk_alloc ?_ _)); refine blk_put (cs := #[.bool true, .int .i64 0]) ?_ 1 _ rfl; (with_reducible repeat (first | refine blk_drewN ?_ _ | refine blk_drew ?_ | refine blk_alloc ?_ _)); refine blk_put (cs := #[.bool false, .int .i64 0]) ?_ 0 _ rfl; (with_reducible repeat (first | refine blk_drewN ?_ _ | refine blk_drew ?_ | refine blk_alloc ?_ _)); refine blk_far ?_ NB112_111.out _; (with_reducible repeat (first | refine blk_drewN ?_ _ | refine blk_drew ?_ | refine blk_alloc ?_ _)); refine blk_far ?_ NB112_111.out _; (with_reducible repeat (first | refine blk_drewN ?_ _ | refine blk_drew ?_ | refine blk_alloc ?_ _)); exact BK112.out) : P := h
theorem pmBx5_4_ {P : Prop} (h : P := by (try simp only [List.map_toArray, List.map_cons, List.map_nil]); first | done | rfl | (simp only [List.length_drop, List.length_take]; rfl)) : P := h
theorem pmBx5_5_ {P : Prop} (h : P := by repeat (first | (with_reducible first | exact HB.out | apply below_alloc | apply pw_below_drewN | apply below_drew1 | refine below_set ?_ GE111.out) | exact HB.out)) : P := h
theorem pmBx5_6_ {P : Prop} (h : P := by (with_reducible repeat (first | refine blk_drewN ?_ _ | refine blk_drew ?_ | refine blk_alloc ?_ _)); exact BK104.out) : P := h
theorem pmBx5_7_ {P : Prop} (h : P := by (with_reducible repeat (first | refine blk_drewN ?_ _ | refine blk_drew ?_ | refine blk_alloc ?_ _)); exact BK111.out) : P := h
theorem pmBx5_8_ {P : Prop} (h : P := by repeat (first | (with_reducible first | exact HB.out | apply below_alloc | apply pw_below_drewN | apply below_drew1 | refine below_set ?_ GE111.out | refine below_set ?_ GE112.out) | exact HB.out)) : P := h
theorem pmBx5_9_ {P : Prop} (h : P := by (with_reducible repeat (first | refine blk_drewN ?_ _ | refine blk_drew ?_ | refine blk_alloc ?_ _)); exact BK105.out) : P := h
theorem pmBx5_10_ {P : Prop} (h : P := by rw [hg]; exact (below_size pmBx5_0_)) : P := h
theorem pmBx5_11_ {P : Prop} (h : P := by repeat (first | (with_reducible first | exact HB.out | apply below_alloc | apply pw_below_drewN | apply below_drew1 | refine below_set ?_ GE104.out) | exact HB.out)) : P := h
theorem pmBx5_12_ {P : Prop} (h : P := by (with_reducible repeat (first | refine blk_drewN ?_ _ | refine blk_drew ?_ | refine blk_alloc ?_ _)); exact BK112.out) : P := h
theorem pmBx5_13_ {P : Prop} (h : P := by rw [hg]; exact Nat.ne_of_lt (blk_lt (g := gb111) (o := .cells #[.bool false, .int .i64 0] 23 (0, 0)) pmBx5_7_)) : P := h
theorem pmBx5_14_ {P : Prop} (h : P := by rw [hg]; exact Nat.ne_of_gt (blk_lt (g := gb111) (o := .cells #[.bool false, .int .i64 0] 23 (0, 0)) pmBx5_7_)) : P := h
attribute [local go_sem] max2_int min2_int max_two min_two max_three min_three max_four min_four   -- for this text's walks alone
set_option linter.unusedVariables false
set_option linter.unusedSimpArgs false

attribute [local go_sem high] eqA65
/-! ### fixed_Is: function 35 -/
def fixed_Is.f (a0 : Int) : Option (Bool) := if a0 ≥ (-68719476736) then (some (decide (a0 ≤ 68719476736))) else (some false)
set_option maxHeartbeats 8000000 in
set_option maxRecDepth 100000 in
theorem fixed_Is.calls (a0 : Int) (r : Bool) (w : World) (h : fixed_Is.f a0 = some r) :
    Calls Try.prog 35 #[.int .i64 a0] w fun e w' => e = .returned (.bool r) ∧ Drawn0 w w' := by
  have H : (if a0 ≥ (-68719476736) then (some (decide (a0 ≤ 68719476736))) else (some false)) = some r := h
  clear h
  by_cases c2 : a0 ≥ (-68719476736)
  · rw [if_pos c2] at H
    have c2b0 : decide ((-68719476736) ≤ a0) = true := decide_eq_true c2
    clear c2
    obtain rfl := Option.some.inj H
    go_enter Try.func35, Try.ntmps35
    go_wp2
    go_ret
    exact ⟨by first | rfl | (simp; done) | (simp [*]; done), by repeat (first | exact Drawn0.refl _ | apply Drawn0.step)⟩
  · rw [if_neg c2] at H
    have c2b0 : decide ((-68719476736) ≤ a0) = false := decide_eq_false c2
    clear c2
    obtain rfl := Option.some.inj H
    go_enter Try.func35, Try.ntmps35
    go_wp2
    go_ret
    exact ⟨by first | rfl | (simp; done) | (simp [*]; done), by repeat (first | exact Drawn0.refl _ | apply Drawn0.step)⟩

/-! ### self_isSize: function 22 -/
def self_isSize.f (a0 : Int) : Option (Bool) := if a0 ≥ 0 then ((fixed_Is.f a0).bind fun t101 => (some t101)) else (some false)
set_option maxHeartbeats 8000000 in
set_option maxRecDepth 100000 in
theorem self_isSize.calls (a0 : Int) (r : Bool) (w : World) (h : self_isSize.f a0 = some r) :
    Calls Try.prog 22 #[.int .i64 a0] w fun e w' => e = .returned (.bool r) ∧ Drawn0 w w' := by
  have H : (if a0 ≥ 0 then ((fixed_Is.f a0).bind fun t101 => (some t101)) else (some false)) = some r := h
  clear h
  by_cases c2 : a0 ≥ 0
  · rw [if_pos c2] at H
    have c2b0 : decide (0 ≤ a0) = true := decide_eq_true c2
    clear c2
    replace H := Option.bind_eq_some_iff.mp H
    obtain ⟨t101, A30, H⟩ := H
    replace H : (some t101) = some r := H
    have A3 := Aside0.mk A30
    clear A30
    obtain rfl := Option.some.inj H
    go_enter Try.func22, Try.ntmps22
    go_wp2_with (first | (go_at_call 35; (with_reducible refine (fixed_Is.calls a0 t101 _ A3.out).mono ?_); rintro e w' ⟨rfl, ⟨nd, rfl⟩⟩))
    go_ret
    exact ⟨by first | rfl | (simp; done) | (simp [*]; done), by repeat (first | exact Drawn0.refl _ | apply Drawn0.step)⟩
  · rw [if_neg c2] at H
    have c2b0 : decide (0 ≤ a0) = false := decide_eq_false c2
    clear c2
    obtain rfl := Option.some.inj H
    go_enter Try.func22, Try.ntmps22
    go_wp2
    go_ret
    exact ⟨by first | rfl | (simp; done) | (simp [*]; done), by repeat (first | exact Drawn0.refl _ | apply Drawn0.step)⟩

/-! ### self_isMargin: function 23 -/
def self_isMargin.f (a0_0 : Bool) (a0_1 : Int) : Option (Bool) := (fixed_Is.f a0_1).bind fun t103 => (if t103 = true then (if a0_0 = true then (some (a0_1 == 0)) else (some true)) else (some false))
set_option maxHeartbeats 8000000 in
set_option maxRecDepth 100000 in
theorem self_isMargin.calls (a0_0 : Bool) (a0_1 : Int) (r : Bool) (w : World) (h : self_isMargin.f a0_0 a0_1 = some r) :
    Calls Try.prog 23 #[.agg #[.bool a0_0, .int .i64 a0_1]] w fun e w' => e = .returned (.bool r) ∧ Below w.heap.size w w' := by
  have hu23 := Try.underlying23
  have HB := Aside0.mk (Below.refl w.heap.size w)
  have H : ((fixed_Is.f a0_1).bind fun t103 => (if t103 = true then (if a0_0 = true then (some (a0_1 == 0)) else (some true)) else (some false))) = some r := h
  clear h
  replace H := Option.bind_eq_some_iff.mp H
  obtain ⟨t103, A20, H⟩ := H
  replace H : (if t103 = true then (if a0_0 = true then (some (a0_1 == 0)) else (some true)) else (some false)) = some r := H
  have A2 := Aside0.mk A20
  clear A20
  by_cases c3 : t103 = true
  · subst c3
    have H1 : (if a0_0 = true then (some (a0_1 == 0)) else (some true)) = some r := by rw [if_pos rfl] at H; exact H
    clear H
    have H := H1
    clear H1
    by_cases c4 : a0_0 = true
    · subst c4
      have H1 : (some (a0_1 == 0)) = some r := by rw [if_pos rfl] at H; exact H
      clear H
      have H := H1
      clear H1
      obtain rfl := Option.some.inj H
      go_enter Try.func23, Try.ntmps23
      go_wp2_with (first | ((with_reducible refine gate_dst (N := 1) rfl ?_); refine box_event ?hg (N := 1) ?hd (cs := #[.bool true, .int .i64 a0_1]) (t := 23) ?hr ?_; (case hd => rfl); (case hg => rfl); (case hr => first | (go_simp; done) | (go_simp; rfl)); intro gb102 hg w5 hbox hb; have n0_ := Aside0.mk (below_step pmBx5_0_ hb); have n1_ := Aside0.mk (hbox); have n2_ := Aside0.mk ((pmBx5_10_ : w.heap.size ≤ gb102)); have n3_ := Aside0.mk ((pmBx5_10_ : w.heap.size ≤ gb102)); clear HB; have HB := n0_; have BK102 := n1_; have GW102 := n2_; have GE102 := n3_; clear n0_ n1_ n2_ n3_; clear hb hbox hg; have hcz6_0 : w5.cell? ⟨gb102, 0, none⟩ = some (.bool true) := (blk_cell BK102.out 0).trans rfl; have hcz6_1 : w5.cell? ⟨gb102, 1, none⟩ = some (.int .i64 a0_1) := (blk_cell BK102.out 1).trans rfl; have hfz6_0 := blk_frozen BK102.out 0; have hfz6_1 := blk_frozen BK102.out 1) | ((with_reducible refine gate_callee (f := 35) rfl ?_); refine goesL_ (some 5) rfl rfl Try.func35 (by kernel_rfl) rfl #[.int .i64 a0_1] rfl pmBx5_4_ ?_; (with_reducible refine (fixed_Is.calls a0_1 true _ A2.out).mono ?_); rintro e w' ⟨rfl, ⟨nd, rfl⟩⟩; refine ⟨_, rfl, ?_⟩))
      go_ret
      exact ⟨by first | rfl | (simp [errW_none, errW_some] <;> rfl) | (simp [*, errW_none, errW_some] <;> rfl), by repeat (first | (with_reducible first | exact HB.out | apply below_alloc | apply pw_below_drewN | apply below_drew1 | refine below_set ?_ GE102.out) | exact HB.out)⟩
    · replace c4 := Bool.eq_false_iff.mpr c4
      subst c4
      have H1 : (some true) = some r := by rw [if_neg (show ¬ (false = true) by decide)] at H; exact H
      clear H
      have H := H1
      clear H1
      obtain rfl := Option.some.inj H
      go_enter Try.func23, Try.ntmps23
      go_wp2_with (first | ((with_reducible refine gate_dst (N := 1) rfl ?_); refine box_event ?hg (N := 1) ?hd (cs := #[.bool false, .int .i64 a0_1]) (t := 23) ?hr ?_; (case hd => rfl); (case hg => rfl); (case hr => first | (go_simp; done) | (go_simp; rfl)); intro gb102 hg w7 hbox hb; have n0_ := Aside0.mk (below_step pmBx5_0_ hb); have n1_ := Aside0.mk (hbox); have n2_ := Aside0.mk ((pmBx5_10_ : w.heap.size ≤ gb102)); have n3_ := Aside0.mk ((pmBx5_10_ : w.heap.size ≤ gb102)); clear HB; have HB := n0_; have BK102 := n1_; have GW102 := n2_; have GE102 := n3_; clear n0_ n1_ n2_ n3_; clear hb hbox hg; have hcz8_0 : w7.cell? ⟨gb102, 0, none⟩ = some (.bool false) := (blk_cell BK102.out 0).trans rfl; have hcz8_1 : w7.cell? ⟨gb102, 1, none⟩ = some (.int .i64 a0_1) := (blk_cell BK102.out 1).trans rfl; have hfz8_0 := blk_frozen BK102.out 0; have hfz8_1 := blk_frozen BK102.out 1) | ((with_reducible refine gate_callee (f := 35) rfl ?_); refine goesL_ (some 5) rfl rfl Try.func35 (by kernel_rfl) rfl #[.int .i64 a0_1] rfl pmBx5_4_ ?_; (with_reducible refine (fixed_Is.calls a0_1 true _ A2.out).mono ?_); rintro e w' ⟨rfl, ⟨nd, rfl⟩⟩; refine ⟨_, rfl, ?_⟩))
      go_ret
      exact ⟨by first | rfl | (simp [errW_none, errW_some] <;> rfl) | (simp [*, errW_none, errW_some] <;> rfl), by repeat (first | (with_reducible first | exact HB.out | apply below_alloc | apply pw_below_drewN | apply below_drew1 | refine below_set ?_ GE102.out) | exact HB.out)⟩
  · replace c3 := Bool.eq_false_iff.mpr c3
    subst c3
    have H1 : (some false) = some r := by rw [if_neg (show ¬ (false = true) by decide)] at H; exact H
    clear H
    have H := H1
    clear H1
    obtain rfl := Option.some.inj H
    go_enter Try.func23, Try.ntmps23
    go_wp2_with (first | ((with_reducible refine gate_dst (N := 1) rfl ?_); refine box_event ?hg (N := 1) ?hd (cs := #[.bool a0_0, .int .i64 a0_1]) (t := 23) ?hr ?_; (case hd => rfl); (case hg => rfl); (case hr => first | (go_simp; done) | (go_simp; rfl)); intro gb102 hg w9 hbox hb; have n0_ := Aside0.mk (below_step pmBx5_0_ hb); have n1_ := Aside0.mk (hbox); have n2_ := Aside0.mk ((pmBx5_10_ : w.heap.size ≤ gb102)); have n3_ := Aside0.mk ((pmBx5_10_ : w.heap.size ≤ gb102)); clear HB; have HB := n0_; have BK102 := n1_; have GW102 := n2_; have GE102 := n3_; clear n0_ n1_ n2_ n3_; clear hb hbox hg; have hcz10_0 : w9.cell? ⟨gb102, 0, none⟩ = some (.bool a0_0) := (blk_cell BK102.out 0).trans rfl; have hcz10_1 : w9.cell? ⟨gb102, 1, none⟩ = some (.int .i64 a0_1) := (blk_cell BK102.out 1).trans rfl; have hfz10_0 := blk_frozen BK102.out 0; have hfz10_1 := blk_frozen BK102.out 1) | ((with_reducible refine gate_callee (f := 35) rfl ?_); refine goesL_ (some 5) rfl rfl Try.func35 (by kernel_rfl) rfl #[.int .i64 a0_1] rfl pmBx5_4_ ?_; (with_reducible refine (fixed_Is.calls a0_1 false _ A2.out).mono ?_); rintro e w' ⟨rfl, ⟨nd, rfl⟩⟩; refine ⟨_, rfl, ?_⟩))
    go_ret
    exact ⟨by first | rfl | (simp [errW_none, errW_some] <;> rfl) | (simp [*, errW_none, errW_some] <;> rfl), by repeat (first | (with_reducible first | exact HB.out | apply below_alloc | apply pw_below_drewN | apply below_drew1 | refine below_set ?_ GE102.out) | exact HB.out)⟩

/-! ### fixed_Div: function 24 -/
def fixed_Div.f (a0 : Int) (a1 : Int) : Option (Int) := if a1 = 0 then (some 0) else (if a1 = (-1) then (some (wrap64 (-a0))) else (if (Int.tmod a0 a1) = 0 then (some (wrap64 (Int.tdiv a0 a1))) else (if ((decide (a0 < 0)) != (decide (a1 < 0))) = true then (some (wrap64 ((wrap64 (Int.tdiv a0 a1)) - 1))) else (some (wrap64 (Int.tdiv a0 a1))))))
set_option maxHeartbeats 8000000 in
set_option maxRecDepth 100000 in
theorem fixed_Div.calls (a0 : Int) (a1 : Int) (r : Int) (w : World) (h : fixed_Div.f a0 a1 = some r) :
    Calls Try.prog 24 #[.int .i64 a0, .int .i64 a1] w fun e w' => e = .returned (.int .i64 r) ∧ Drawn0 w w' := by
  have H : (if a1 = 0 then (some 0) else (if a1 = (-1) then (some (wrap64 (-a0))) else (if (Int.tmod a0 a1) = 0 then (some (wrap64 (Int.tdiv a0 a1))) else (if ((decide (a0 < 0)) != (decide (a1 < 0))) = true then (some (wrap64 ((wrap64 (Int.tdiv a0 a1)) - 1))) else (some (wrap64 (Int.tdiv a0 a1))))))) = some r := h
  clear h
  by_cases c3 : a1 = 0
  · rw [if_pos c3] at H
    have c3b0 : (a1 == 0) = true := beq_iff_eq.mpr c3
    have c3b1 : (a1 != 0) = false := bne_eq_false_iff_eq.mpr c3
    clear c3
    obtain rfl := Option.some.inj H
    go_enter Try.func24, Try.ntmps24
    go_wp2
    go_ret
    exact ⟨by first | rfl | (simp; done) | (simp [*]; done), by repeat (first | exact Drawn0.refl _ | apply Drawn0.step)⟩
  · rw [if_neg c3] at H
    have c3b0 : (a1 == 0) = false := beq_eq_false_iff_ne.mpr c3
    have c3b1 : (a1 != 0) = true := bne_iff_ne.mpr c3
    by_cases c4 : a1 = (-1)
    · rw [if_pos c4] at H
      have c4b0 : (a1 == (-1)) = true := beq_iff_eq.mpr c4
      have c4b1 : (a1 != (-1)) = false := bne_eq_false_iff_eq.mpr c4
      clear c4
      obtain rfl := Option.some.inj H
      go_enter Try.func24, Try.ntmps24
      go_wp2
      go_ret
      exact ⟨by first | rfl | (simp; done) | (simp [*]; done), by repeat (first | exact Drawn0.refl _ | apply Drawn0.step)⟩
    · rw [if_neg c4] at H
      have c4b0 : (a1 == (-1)) = false := beq_eq_false_iff_ne.mpr c4
      have c4b1 : (a1 != (-1)) = true := bne_iff_ne.mpr c4
      by_cases c5 : (Int.tmod a0 a1) = 0
      · rw [if_pos c5] at H
        have c5b0 : ((Int.tmod a0 a1) == 0) = true := beq_iff_eq.mpr c5
        have c5b1 : ((Int.tmod a0 a1) != 0) = false := bne_eq_false_iff_eq.mpr c5
        clear c5
        obtain rfl := Option.some.inj H
        go_enter Try.func24, Try.ntmps24
        go_wp2
        go_ret
        exact ⟨by first | rfl | (simp; done) | (simp [*]; done), by repeat (first | exact Drawn0.refl _ | apply Drawn0.step)⟩
      · rw [if_neg c5] at H
        have c5b0 : ((Int.tmod a0 a1) == 0) = false := beq_eq_false_iff_ne.mpr c5
        have c5b1 : ((Int.tmod a0 a1) != 0) = true := bne_iff_ne.mpr c5
        by_cases c6 : ((decide (a0 < 0)) != (decide (a1 < 0))) = true
        · rw [if_pos c6] at H
          have c6b0 : ((decide (a0 < 0)) != (decide (a1 < 0))) = true := c6
          (try (have c6b1 : decide ((decide (a0 < 0)) = (decide (a1 < 0))) = false := by simpa using c6))
          (try (have c6b2 : ((decide (a0 < 0)) == (decide (a1 < 0))) = false := by simpa using c6))
          (try (have c6b3 : ¬ ((decide (a0 < 0)) = (decide (a1 < 0))) := by simpa using c6))
          clear c6
          obtain rfl := Option.some.inj H
          go_enter Try.func24, Try.ntmps24
          go_wp2
          go_ret
          exact ⟨by first | rfl | (simp; done) | (simp [*]; done), by repeat (first | exact Drawn0.refl _ | apply Drawn0.step)⟩
        · rw [if_neg c6] at H
          have c6b0 : ((decide (a0 < 0)) != (decide (a1 < 0))) = false := by simpa using c6
          (try (have c6b1 : decide ((decide (a0 < 0)) = (decide (a1 < 0))) = true := by simpa using c6))
          (try (have c6b2 : ((decide (a0 < 0)) == (decide (a1 < 0))) = true := by simpa using c6))
          clear c6
          obtain rfl := Option.some.inj H
          go_enter Try.func24, Try.ntmps24
          go_wp2
          go_ret
          exact ⟨by first | rfl | (simp; done) | (simp [*]; done), by repeat (first | exact Drawn0.refl _ | apply Drawn0.step)⟩

/-! ### self_Place: function 8 -/
mutual
def self_Place.j0 : Nat → Int → Int → Int → Bool → Bool → Int → Bool → Int → Option (Int)
  | 0, _, _, _, _, _, _, _, _ => none
  | k + 1, x0, x1, x4, x30, x105000, x105001, x106000, x106001 => if x30 = true then (some 0) else ((fixed_Div.f (wrap64 ((wrap64 ((wrap64 (x0 - x1)) - x105001)) - x106001)) 2).bind fun t110 => (if (wrap64 ((wrap64 ((wrap64 (x0 - x1)) - x105001)) - x106001)) > 0 then (if (x105000 && (x106000)) = true then (some t110) else (if (x105000 && (!x106000)) = true then (some (wrap64 ((wrap64 ((wrap64 (x0 - x1)) - x105001)) - x106001))) else (if (!x105000 && (x106000)) = true then (some x105001) else (self_Place.j1 k x4 (wrap64 ((wrap64 ((wrap64 (x0 - x1)) - x105001)) - x106001)) t110 x105000 x105001)))) else (self_Place.j1 k x4 (wrap64 ((wrap64 ((wrap64 (x0 - x1)) - x105001)) - x106001)) t110 x105000 x105001)))
def self_Place.j1 : Nat → Int → Int → Int → Bool → Int → Option (Int)
  | 0, _, _, _, _, _ => none
  | k + 1, x4, x11, x12, x105000, x105001 => if x4 = 4 then (some (wrap64 (x105001 + x11))) else (if x4 = 5 then (some (wrap64 (x105001 + x12))) else (some x105001))
end
def self_Place.f (k : Nat) (a0 : Int) (a1 : Int) (a2_0 : Bool) (a2_1 : Int) (a3_0 : Bool) (a3_1 : Int) (a4 : Int) : Option (Int) := (self_isSize.f a0).bind fun t106 => (if t106 = true then ((self_isSize.f a1).bind fun t107 => (if t107 = true then ((self_isMargin.f a2_0 a2_1).bind fun t108 => (if t108 = true then ((self_isMargin.f a3_0 a3_1).bind fun t109 => (self_Place.j0 k a0 a1 a4 (!t109) a2_0 a2_1 a3_0 a3_1)) else (self_Place.j0 k a0 a1 a4 true a2_0 a2_1 a3_0 a3_1))) else (self_Place.j0 k a0 a1 a4 true a2_0 a2_1 a3_0 a3_1))) else (self_Place.j0 k a0 a1 a4 true a2_0 a2_1 a3_0 a3_1))
theorem self_Place.mono_l : ∀ k, (∀ y0 y1 y2 y3 y4 y5 y6 y7, LeO (self_Place.j0 k y0 y1 y2 y3 y4 y5 y6 y7) (self_Place.j0 (k + 1) y0 y1 y2 y3 y4 y5 y6 y7)) ∧ (∀ y0 y1 y2 y3 y4, LeO (self_Place.j1 k y0 y1 y2 y3 y4) (self_Place.j1 (k + 1) y0 y1 y2 y3 y4))
  | 0 => ⟨fun _ _ _ _ _ _ _ _ r h => by simp [self_Place.j0] at h, fun _ _ _ _ _ r h => by simp [self_Place.j1] at h⟩
  | k + 1 => by
    obtain ⟨ih0, ih1⟩ := self_Place.mono_l k
    refine ⟨?_, ?_⟩
    · intro y0 y1 y2 y3 y4 y5 y6 y7
      unfold self_Place.j0
      repeat' first
      | (with_reducible exact ih0 _ _ _ _ _ _ _ _)
      | (with_reducible exact ih1 _ _ _ _ _)
      | (with_reducible exact LeO.refl _)
      | (with_reducible exact LeO.none _)
      | (with_reducible refine LeO.ite ?_ ?_)
      | (with_reducible refine LeO.bind ?_ (fun _ => ?_))
      | exact ih0 _ _ _ _ _ _ _ _
      | exact ih1 _ _ _ _ _
      | exact LeO.none _
      | refine LeO.ite ?_ ?_
      | refine LeO.bind ?_ (fun _ => ?_)
    · intro y0 y1 y2 y3 y4
      unfold self_Place.j1
      repeat' first
      | (with_reducible exact ih0 _ _ _ _ _ _ _ _)
      | (with_reducible exact ih1 _ _ _ _ _)
      | (with_reducible exact LeO.refl _)
      | (with_reducible exact LeO.none _)
      | (with_reducible refine LeO.ite ?_ ?_)
      | (with_reducible refine LeO.bind ?_ (fun _ => ?_))
      | exact ih0 _ _ _ _ _ _ _ _
      | exact ih1 _ _ _ _ _
      | exact LeO.none _
      | refine LeO.ite ?_ ?_
      | refine LeO.bind ?_ (fun _ => ?_)
theorem self_Place.mono : ∀ a0 a1 a2 a3 a4 a5 a6 k, LeO (self_Place.f k a0 a1 a2 a3 a4 a5 a6) (self_Place.f (k + 1) a0 a1 a2 a3 a4 a5 a6) := by
  intro a0 a1 a2 a3 a4 a5 a6 k
  obtain ⟨ih0, ih1⟩ := self_Place.mono_l k
  unfold self_Place.f
  repeat' first
      | (with_reducible exact ih0 _ _ _ _ _ _ _ _)
      | (with_reducible exact ih1 _ _ _ _ _)
      | (with_reducible exact LeO.refl _)
      | (with_reducible exact LeO.none _)
      | (with_reducible refine LeO.ite ?_ ?_)
      | (with_reducible refine LeO.bind ?_ (fun _ => ?_))
      | exact ih0 _ _ _ _ _ _ _ _
      | exact ih1 _ _ _ _ _
      | exact LeO.none _
      | refine LeO.ite ?_ ?_
      | refine LeO.bind ?_ (fun _ => ?_)
set_option maxHeartbeats 8000000 in
set_option maxRecDepth 100000 in
theorem self_Place.calls (k : Nat) (a0 : Int) (a1 : Int) (a2_0 : Bool) (a2_1 : Int) (a3_0 : Bool) (a3_1 : Int) (a4 : Int) (r : Int) (w : World) (h : self_Place.f k a0 a1 a2_0 a2_1 a3_0 a3_1 a4 = some r) :
    Calls Try.prog 8 #[.int .i64 a0, .int .i64 a1, .agg #[.bool a2_0, .int .i64 a2_1], .agg #[.bool a3_0, .int .i64 a3_1], .int .i64 a4] w fun e w' => e = .returned (.int .i64 r) ∧ Below w.heap.size w w' := by
  have hu23 := Try.underlying23
  have hu65 := Try.underlying65
  have HB := Aside0.mk (Below.refl w.heap.size w)
  have H : ((self_isSize.f a0).bind fun t106 => (if t106 = true then ((self_isSize.f a1).bind fun t107 => (if t107 = true then ((self_isMargin.f a2_0 a2_1).bind fun t108 => (if t108 = true then ((self_isMargin.f a3_0 a3_1).bind fun t109 => (self_Place.j0 k a0 a1 a4 (!t109) a2_0 a2_1 a3_0 a3_1)) else (self_Place.j0 k a0 a1 a4 true a2_0 a2_1 a3_0 a3_1))) else (self_Place.j0 k a0 a1 a4 true a2_0 a2_1 a3_0 a3_1))) else (self_Place.j0 k a0 a1 a4 true a2_0 a2_1 a3_0 a3_1))) = some r := h
  clear h
  have HC6 := Aside0.mk H
  clear H
  go_enter Try.func8, Try.ntmps8
  go_upto_region 1 with (first | ((with_reducible refine gate_dst (N := 7) rfl ?_); refine box_event ?hg (N := 7) ?hd (cs := #[.bool a2_0, .int .i64 a2_1]) (t := 23) ?hr ?_; (case hd => rfl); (case hg => rfl); (case hr => first | (go_simp; done) | (go_simp; rfl)); intro gb104 hg w7 hbox hb; have n0_ := Aside0.mk (below_step pmBx5_0_ hb); have n1_ := Aside0.mk (hbox); have n2_ := Aside0.mk ((pmBx5_10_ : w.heap.size ≤ gb104)); have n3_ := Aside0.mk ((pmBx5_10_ : w.heap.size ≤ gb104)); clear HB; have HB := n0_; have BK104 := n1_; have GW104 := n2_; have GE104 := n3_; clear n0_ n1_ n2_ n3_; clear hb hbox hg) | ((with_reducible refine gate_dst (N := 8) rfl ?_); refine box_event ?hg (N := 8) ?hd (cs := #[.bool a3_0, .int .i64 a3_1]) (t := 23) ?hr ?_; (case hd => rfl); (case hg => rfl); (case hr => first | (go_simp; done) | (go_simp; rfl)); intro gb105 hg w8 hbox hb; have n0_ := Aside0.mk (blk_below (g := gb104) (o := .cells #[.bool a2_0, .int .i64 a2_1] 23 (0, 0)) pmBx5_6_ hb); have n1_ := Aside0.mk (below_step pmBx5_11_ hb); have n2_ := Aside0.mk (hbox); have n3_ := Aside0.mk ((by rw [hg]; exact (below_size pmBx5_11_) : w.heap.size ≤ gb105)); have n4_ := Aside0.mk ((by rw [hg]; exact (below_size pmBx5_11_) : w.heap.size ≤ gb105)); have n5_ := Aside0.mk ((by rw [hg]; exact Nat.ne_of_lt (blk_lt (g := gb104) (o := .cells #[.bool a2_0, .int .i64 a2_1] 23 (0, 0)) pmBx5_6_) : gb104 ≠ gb105)); have n6_ := Aside0.mk ((by rw [hg]; exact Nat.ne_of_gt (blk_lt (g := gb104) (o := .cells #[.bool a2_0, .int .i64 a2_1] 23 (0, 0)) pmBx5_6_) : gb105 ≠ gb104)); clear BK104; clear HB; have BK104 := n0_; have HB := n1_; have BK105 := n2_; have GW105 := n3_; have GE105 := n4_; have NB104_105 := n5_; have NB105_104 := n6_; clear n0_ n1_ n2_ n3_ n4_ n5_ n6_; clear hb hbox hg))
  (try simp only [Act.put, List.setIfInBounds_toArray, List.set_cons_zero, List.set_cons_succ])
  go_cut [30] (fun v30 wc => ∃ (kq : Nat) (x30_5 : Bool), v30 = .bool x30_5 ∧ Aside0 (self_Place.j0 kq a0 a1 a4 x30_5 a2_0 a2_1 a3_0 a3_1 = some r) ∧ Aside0 (kq ≤ k) ∧ Aside0 (wc.heap[gb104]? = some (.cells #[.bool a2_0, .int .i64 a2_1] 23 (0, 0))) ∧ Aside0 (wc.heap[gb105]? = some (.cells #[.bool a3_0, .int .i64 a3_1] 23 (0, 0))) ∧ Aside0 (Below w.heap.size w wc))
  case first =>
    have H := HC6.out
    clear HC6
    replace H := Option.bind_eq_some_iff.mp H
    obtain ⟨t106, A90, H⟩ := H
    replace H : (if t106 = true then ((self_isSize.f a1).bind fun t107 => (if t107 = true then ((self_isMargin.f a2_0 a2_1).bind fun t108 => (if t108 = true then ((self_isMargin.f a3_0 a3_1).bind fun t109 => (self_Place.j0 k a0 a1 a4 (!t109) a2_0 a2_1 a3_0 a3_1)) else (self_Place.j0 k a0 a1 a4 true a2_0 a2_1 a3_0 a3_1))) else (self_Place.j0 k a0 a1 a4 true a2_0 a2_1 a3_0 a3_1))) else (self_Place.j0 k a0 a1 a4 true a2_0 a2_1 a3_0 a3_1)) = some r := H
    have A9 := Aside0.mk A90
    clear A90
    by_cases c10 : t106 = true
    · subst c10
      have H1 : ((self_isSize.f a1).bind fun t107 => (if t107 = true then ((self_isMargin.f a2_0 a2_1).bind fun t108 => (if t108 = true then ((self_isMargin.f a3_0 a3_1).bind fun t109 => (self_Place.j0 k a0 a1 a4 (!t109) a2_0 a2_1 a3_0 a3_1)) else (self_Place.j0 k a0 a1 a4 true a2_0 a2_1 a3_0 a3_1))) else (self_Place.j0 k a0 a1 a4 true a2_0 a2_1 a3_0 a3_1))) = some r := by rw [if_pos rfl] at H; exact H
      clear H
      have H := H1
      clear H1
      replace H := Option.bind_eq_some_iff.mp H
      obtain ⟨t107, A110, H⟩ := H
      replace H : (if t107 = true then ((self_isMargin.f a2_0 a2_1).bind fun t108 => (if t108 = true then ((self_isMargin.f a3_0 a3_1).bind fun t109 => (self_Place.j0 k a0 a1 a4 (!t109) a2_0 a2_1 a3_0 a3_1)) else (self_Place.j0 k a0 a1 a4 true a2_0 a2_1 a3_0 a3_1))) else (self_Place.j0 k a0 a1 a4 true a2_0 a2_1 a3_0 a3_1)) = some r := H
      have A11 := Aside0.mk A110
      clear A110
      by_cases c12 : t107 = true
      · subst c12
        have H1 : ((self_isMargin.f a2_0 a2_1).bind fun t108 => (if t108 = true then ((self_isMargin.f a3_0 a3_1).bind fun t109 => (self_Place.j0 k a0 a1 a4 (!t109) a2_0 a2_1 a3_0 a3_1)) else (self_Place.j0 k a0 a1 a4 true a2_0 a2_1 a3_0 a3_1))) = some r := by rw [if_pos rfl] at H; exact H
        clear H
        have H := H1
        clear H1
        replace H := Option.bind_eq_some_iff.mp H
        obtain ⟨t108, A130, H⟩ := H
        replace H : (if t108 = true then ((self_isMargin.f a3_0 a3_1).bind fun t109 => (self_Place.j0 k a0 a1 a4 (!t109) a2_0 a2_1 a3_0 a3_1)) else (self_Place.j0 k a0 a1 a4 true a2_0 a2_1 a3_0 a3_1)) = some r := H
        have A13 := Aside0.mk A130
        clear A130
        by_cases c14 : t108 = true
        · subst c14
          have H1 : ((self_isMargin.f a3_0 a3_1).bind fun t109 => (self_Place.j0 k a0 a1 a4 (!t109) a2_0 a2_1 a3_0 a3_1)) = some r := by rw [if_pos rfl] at H; exact H
          clear H
          have H := H1
          clear H1
          replace H := Option.bind_eq_some_iff.mp H
          obtain ⟨t109, A150, H⟩ := H
          replace H : (self_Place.j0 k a0 a1 a4 (!t109) a2_0 a2_1 a3_0 a3_1) = some r := H
          have A15 := Aside0.mk A150
          clear A150
          have H' := Aside0.mk H
          clear H
          go_wp2_with (first | ((with_reducible refine gate_callee (f := 22) rfl ?_); refine goesL_ (some 14) rfl rfl Try.func22 (by kernel_rfl) rfl #[.int .i64 a0] rfl pmBx5_4_ ?_; (with_reducible refine (self_isSize.calls a0 true _ A9.out).mono ?_); rintro e w' ⟨rfl, ⟨nd, rfl⟩⟩; refine ⟨_, rfl, ?_⟩) | (go_at_call 22; (with_reducible refine (self_isSize.calls a1 true _ A11.out).mono ?_); rintro e w' ⟨rfl, ⟨nd, rfl⟩⟩; have hnb16 := NB104_105.out; have hnc16 := NB105_104.out; have hcz17_0 : w8.cell? ⟨gb104, 0, none⟩ = some (.bool a2_0) := (blk_cell BK104.out 0).trans rfl; have hcz17_1 : w8.cell? ⟨gb104, 1, none⟩ = some (.int .i64 a2_1) := (blk_cell BK104.out 1).trans rfl; have hfz17_0 := blk_frozen BK104.out 0; have hfz17_1 := blk_frozen BK104.out 1) | (go_at_call 23; (with_reducible refine (self_isMargin.calls a2_0 a2_1 true _ A13.out).mono ?_); rintro e w18 ⟨rfl, hb⟩; have n0_ := Aside0.mk (blk_below (g := gb104) (o := .cells #[.bool a2_0, .int .i64 a2_1] 23 (0, 0)) pmBx5_6_ hb); have n1_ := Aside0.mk (blk_below (g := gb105) (o := .cells #[.bool a3_0, .int .i64 a3_1] 23 (0, 0)) pmBx5_9_ hb); have n2_ := Aside0.mk (below_step pmBx5_1_ hb); clear BK104; clear BK105; clear HB; have BK104 := n0_; have BK105 := n1_; have HB := n2_; clear n0_ n1_ n2_; (try clear hb); (try clear hb2); (try clear hk); (try clear hi); have hcz19_0 : w18.cell? ⟨gb105, 0, none⟩ = some (.bool a3_0) := (blk_cell BK105.out 0).trans rfl; have hcz19_1 : w18.cell? ⟨gb105, 1, none⟩ = some (.int .i64 a3_1) := (blk_cell BK105.out 1).trans rfl; have hfz19_0 := blk_frozen BK105.out 0; have hfz19_1 := blk_frozen BK105.out 1) | (go_at_call 23; (with_reducible refine (self_isMargin.calls a3_0 a3_1 t109 _ A15.out).mono ?_); rintro e w20 ⟨rfl, hb⟩; have n0_ := Aside0.mk (blk_below (g := gb104) (o := .cells #[.bool a2_0, .int .i64 a2_1] 23 (0, 0)) pmBx5_6_ hb); have n1_ := Aside0.mk (blk_below (g := gb105) (o := .cells #[.bool a3_0, .int .i64 a3_1] 23 (0, 0)) pmBx5_9_ hb); have n2_ := Aside0.mk (below_step pmBx5_1_ hb); clear BK104; clear BK105; clear HB; have BK104 := n0_; have BK105 := n1_; have HB := n2_; clear n0_ n1_ n2_; (try clear hb); (try clear hb2); (try clear hk); (try clear hi)))
          go_meet
          case rel => exact ⟨_, (!t109), (by first | rfl | (simp; done) | (simp [*]; done)), H', ⟨by first | omega | exact Nat.le_refl _⟩, ⟨pmBx5_6_⟩, ⟨pmBx5_9_⟩, ⟨pmBx5_1_⟩⟩
        · replace c14 := Bool.eq_false_iff.mpr c14
          subst c14
          have H1 : (self_Place.j0 k a0 a1 a4 true a2_0 a2_1 a3_0 a3_1) = some r := by rw [if_neg (show ¬ (false = true) by decide)] at H; exact H
          clear H
          have H := H1
          clear H1
          have H' := Aside0.mk H
          clear H
          go_wp2_with (first | ((with_reducible refine gate_callee (f := 22) rfl ?_); refine goesL_ (some 14) rfl rfl Try.func22 (by kernel_rfl) rfl #[.int .i64 a0] rfl pmBx5_4_ ?_; (with_reducible refine (self_isSize.calls a0 true _ A9.out).mono ?_); rintro e w' ⟨rfl, ⟨nd, rfl⟩⟩; refine ⟨_, rfl, ?_⟩) | (go_at_call 22; (with_reducible refine (self_isSize.calls a1 true _ A11.out).mono ?_); rintro e w' ⟨rfl, ⟨nd, rfl⟩⟩; have hnb21 := NB104_105.out; have hnc21 := NB105_104.out; have hcz22_0 : w8.cell? ⟨gb104, 0, none⟩ = some (.bool a2_0) := (blk_cell BK104.out 0).trans rfl; have hcz22_1 : w8.cell? ⟨gb104, 1, none⟩ = some (.int .i64 a2_1) := (blk_cell BK104.out 1).trans rfl; have hfz22_0 := blk_frozen BK104.out 0; have hfz22_1 := blk_frozen BK104.out 1) | (go_at_call 23; (with_reducible refine (self_isMargin.calls a2_0 a2_1 false _ A13.out).mono ?_); rintro e w23 ⟨rfl, hb⟩; have n0_ := Aside0.mk (blk_below (g := gb104) (o := .cells #[.bool a2_0, .int .i64 a2_1] 23 (0, 0)) pmBx5_6_ hb); have n1_ := Aside0.mk (blk_below (g := gb105) (o := .cells #[.bool a3_0, .int .i64 a3_1] 23 (0, 0)) pmBx5_9_ hb); have n2_ := Aside0.mk (below_step pmBx5_1_ hb); clear BK104; clear BK105; clear HB; have BK104 := n0_; have BK105 := n1_; have HB := n2_; clear n0_ n1_ n2_; (try clear hb); (try clear hb2); (try clear hk); (try clear hi)))
          go_meet
          case rel => exact ⟨_, (true), (by first | rfl | (simp; done) | (simp [*]; done)), H', ⟨by first | omega | exact Nat.le_refl _⟩, ⟨pmBx5_6_⟩, ⟨pmBx5_9_⟩, ⟨pmBx5_1_⟩⟩
      · replace c12 := Bool.eq_false_iff.mpr c12
        subst c12
        have H1 : (self_Place.j0 k a0 a1 a4 true a2_0 a2_1 a3_0 a3_1) = some r := by rw [if_neg (show ¬ (false = true) by decide)] at H; exact H
        clear H
        have H := H1
        clear H1
        have H' := Aside0.mk H
        clear H
        go_wp2_with (first | ((with_reducible refine gate_callee (f := 22) rfl ?_); refine goesL_ (some 14) rfl rfl Try.func22 (by kernel_rfl) rfl #[.int .i64 a0] rfl pmBx5_4_ ?_; (with_reducible refine (self_isSize.calls a0 true _ A9.out).mono ?_); rintro e w' ⟨rfl, ⟨nd, rfl⟩⟩; refine ⟨_, rfl, ?_⟩) | (go_at_call 22; (with_reducible refine (self_isSize.calls a1 false _ A11.out).mono ?_); rintro e w' ⟨rfl, ⟨nd, rfl⟩⟩))
        go_meet
        case rel => exact ⟨_, (true), (by first | rfl | (simp; done) | (simp [*]; done)), H', ⟨by first | omega | exact Nat.le_refl _⟩, ⟨pmBx5_6_⟩, ⟨pmBx5_9_⟩, ⟨pmBx5_1_⟩⟩
    · replace c10 := Bool.eq_false_iff.mpr c10
      subst c10
      have H1 : (self_Place.j0 k a0 a1 a4 true a2_0 a2_1 a3_0 a3_1) = some r := by rw [if_neg (show ¬ (false = true) by decide)] at H; exact H
      clear H
      have H := H1
      clear H1
      have H' := Aside0.mk H
      clear H
      go_wp2_with (first | ((with_reducible refine gate_callee (f := 22) rfl ?_); refine goesL_ (some 14) rfl rfl Try.func22 (by kernel_rfl) rfl #[.int .i64 a0] rfl pmBx5_4_ ?_; (with_reducible refine (self_isSize.calls a0 false _ A9.out).mono ?_); rintro e w' ⟨rfl, ⟨nd, rfl⟩⟩; refine ⟨_, rfl, ?_⟩))
      go_meet
      case rel => exact ⟨_, (true), (by first | rfl | (simp; done) | (simp [*]; done)), H', ⟨by first | omega | exact Nat.le_refl _⟩, ⟨pmBx5_6_⟩, ⟨pmBx5_9_⟩, ⟨pmBx5_1_⟩⟩
  case rest =>
    clear HC6
    try clear c1
    try clear c2
    try clear p2
    try clear c8
    try clear c10
    try clear c12
    try clear c14
    try clear c16
    try clear c21
    try clear c22
    try clear hcz17_0
    try clear hcz17_1
    try clear hcz19_0
    try clear hcz19_1
    try clear hcz22_0
    try clear hcz22_1
    try clear hfz17_0
    try clear hfz17_1
    try clear hfz19_0
    try clear hfz19_1
    try clear hfz22_0
    try clear hfz22_1
    obtain ⟨kq, x30_5, rfl, HA, HJ5, BK104, BK105, HB⟩ := hcut
    cases kq with
    | zero => exact absurd HA.out (by simp [self_Place.j0])
    | succ kj5 =>
      have H := HA.out
      clear HA
      simp only [self_Place.j0] at H
      by_cases c24 : x30_5 = true
      · subst c24
        have H1 : (some 0) = some r := by rw [if_pos rfl] at H; exact H
        clear H
        have H := H1
        clear H1
        obtain rfl := Option.some.inj H
        go_wp2
        go_ret
        exact ⟨by first | rfl | (simp [errW_none, errW_some] <;> rfl) | (simp [*, errW_none, errW_some] <;> rfl), by repeat (first | (with_reducible first | exact HB.out | apply below_alloc | apply pw_below_drewN | apply below_drew1 | refine below_set ?_ GE104.out | refine below_set ?_ GE105.out) | exact HB.out)⟩
      · replace c24 := Bool.eq_false_iff.mpr c24
        subst c24
        have H1 : ((fixed_Div.f (wrap64 ((wrap64 ((wrap64 (a0 - a1)) - a2_1)) - a3_1)) 2).bind fun t110 => (if (wrap64 ((wrap64 ((wrap64 (a0 - a1)) - a2_1)) - a3_1)) > 0 then (if (a2_0 && (a3_0)) = true then (some t110) else (if (a2_0 && (!a3_0)) = true then (some (wrap64 ((wrap64 ((wrap64 (a0 - a1)) - a2_1)) - a3_1))) else (if (!a2_0 && (a3_0)) = true then (some a2_1) else (self_Place.j1 kj5 a4 (wrap64 ((wrap64 ((wrap64 (a0 - a1)) - a2_1)) - a3_1)) t110 a2_0 a2_1)))) else (self_Place.j1 kj5 a4 (wrap64 ((wrap64 ((wrap64 (a0 - a1)) - a2_1)) - a3_1)) t110 a2_0 a2_1))) = some r := by rw [if_neg (show ¬ (false = true) by decide)] at H; exact H
        clear H
        have H := H1
        clear H1
        replace H := Option.bind_eq_some_iff.mp H
        obtain ⟨t110, A250, H⟩ := H
        replace H : (if (wrap64 ((wrap64 ((wrap64 (a0 - a1)) - a2_1)) - a3_1)) > 0 then (if (a2_0 && (a3_0)) = true then (some t110) else (if (a2_0 && (!a3_0)) = true then (some (wrap64 ((wrap64 ((wrap64 (a0 - a1)) - a2_1)) - a3_1))) else (if (!a2_0 && (a3_0)) = true then (some a2_1) else (self_Place.j1 kj5 a4 (wrap64 ((wrap64 ((wrap64 (a0 - a1)) - a2_1)) - a3_1)) t110 a2_0 a2_1)))) else (self_Place.j1 kj5 a4 (wrap64 ((wrap64 ((wrap64 (a0 - a1)) - a2_1)) - a3_1)) t110 a2_0 a2_1)) = some r := H
        have A25 := Aside0.mk A250
        clear A250
        have HC26 := Aside0.mk H
        clear H
        have hnb27 := NB104_105.out
        have hnc27 := NB105_104.out
        have hcz28_0 : wc.cell? ⟨gb104, 0, none⟩ = some (.bool a2_0) := (blk_cell BK104.out 0).trans rfl
        have hcz28_1 : wc.cell? ⟨gb104, 1, none⟩ = some (.int .i64 a2_1) := (blk_cell BK104.out 1).trans rfl
        have hfz28_0 := blk_frozen BK104.out 0
        have hfz28_1 := blk_frozen BK104.out 1
        have hcz29_0 : wc.cell? ⟨gb105, 0, none⟩ = some (.bool a3_0) := (blk_cell BK105.out 0).trans rfl
        have hcz29_1 : wc.cell? ⟨gb105, 1, none⟩ = some (.int .i64 a3_1) := (blk_cell BK105.out 1).trans rfl
        have hfz29_0 := blk_frozen BK105.out 0
        have hfz29_1 := blk_frozen BK105.out 1
        go_upto_if 43 with (first | ((with_reducible refine gate_callee (f := 24) rfl ?_); refine goesL_ (some 41) rfl rfl Try.func24 (by kernel_rfl) rfl #[.int .i64 (wrap64 ((wrap64 ((wrap64 (a0 - a1)) - a2_1)) - a3_1)), .int .i64 2] rfl pmBx5_4_ ?_; (with_reducible refine (fixed_Div.calls (wrap64 ((wrap64 ((wrap64 (a0 - a1)) - a2_1)) - a3_1)) 2 t110 _ A25.out).mono ?_); rintro e w' ⟨rfl, ⟨nd, rfl⟩⟩; refine ⟨_, rfl, ?_⟩))
        (try simp only [Act.put, List.setIfInBounds_toArray, List.set_cons_zero, List.set_cons_succ])
        go_cut [] (fun wc => ∃ (kq : Nat), Aside0 (self_Place.j1 kq a4 (wrap64 ((wrap64 ((wrap64 (a0 - a1)) - a2_1)) - a3_1)) t110 a2_0 a2_1 = some r) ∧ Aside0 (kq ≤ kj5) ∧ Aside0 (wc.heap[gb104]? = some (.cells #[.bool a2_0, .int .i64 a2_1] 23 (0, 0))) ∧ Aside0 (wc.heap[gb105]? = some (.cells #[.bool a3_0, .int .i64 a3_1] 23 (0, 0))) ∧ Aside0 (Below w.heap.size w wc))
        case first =>
          have H := HC26.out
          clear HC26
          by_cases c30 : (wrap64 ((wrap64 ((wrap64 (a0 - a1)) - a2_1)) - a3_1)) > 0
          · rw [if_pos c30] at H
            have c30b0 : decide (0 < (wrap64 ((wrap64 ((wrap64 (a0 - a1)) - a2_1)) - a3_1))) = true := decide_eq_true c30
            clear c30
            (first | rw [c30b0] | (simp only [i64_w, i32_w]; rw [c30b0]) | skip)
            by_cases c31 : (a2_0 && (a3_0)) = true
            · rw [if_pos c31] at H
              have c31b0 : (a2_0 && (a3_0)) = true := c31
              clear c31
              obtain rfl := Option.some.inj H
              have hnb32 := NB104_105.out
              have hnc32 := NB105_104.out
              have hcz33_0 : wc.cell? ⟨gb104, 0, none⟩ = some (.bool a2_0) := (blk_cell BK104.out 0).trans rfl
              have hcz33_1 : wc.cell? ⟨gb104, 1, none⟩ = some (.int .i64 a2_1) := (blk_cell BK104.out 1).trans rfl
              have hfz33_0 := blk_frozen BK104.out 0
              have hfz33_1 := blk_frozen BK104.out 1
              have hcz34_0 : wc.cell? ⟨gb105, 0, none⟩ = some (.bool a3_0) := (blk_cell BK105.out 0).trans rfl
              have hcz34_1 : wc.cell? ⟨gb105, 1, none⟩ = some (.int .i64 a3_1) := (blk_cell BK105.out 1).trans rfl
              have hfz34_0 := blk_frozen BK105.out 0
              have hfz34_1 := blk_frozen BK105.out 1
              go_wp2
              go_ret
              exact ⟨by first | rfl | (simp [errW_none, errW_some] <;> rfl) | (simp [*, errW_none, errW_some] <;> rfl), by repeat (first | (with_reducible first | exact HB.out | apply below_alloc | apply pw_below_drewN | apply below_drew1 | refine below_set ?_ GE104.out | refine below_set ?_ GE105.out) | exact HB.out)⟩
            · rw [if_neg c31] at H
              have c31b0 : (a2_0 && (a3_0)) = false := by simpa using c31
              clear c31
              by_cases c35 : (a2_0 && (!a3_0)) = true
              · rw [if_pos c35] at H
                have c35b0 : (a2_0 && (!a3_0)) = true := c35
                clear c35
                obtain rfl := Option.some.inj H
                have hnb36 := NB104_105.out
                have hnc36 := NB105_104.out
                have hcz37_0 : wc.cell? ⟨gb104, 0, none⟩ = some (.bool a2_0) := (blk_cell BK104.out 0).trans rfl
                have hcz37_1 : wc.cell? ⟨gb104, 1, none⟩ = some (.int .i64 a2_1) := (blk_cell BK104.out 1).trans rfl
                have hfz37_0 := blk_frozen BK104.out 0
                have hfz37_1 := blk_frozen BK104.out 1
                have hcz38_0 : wc.cell? ⟨gb105, 0, none⟩ = some (.bool a3_0) := (blk_cell BK105.out 0).trans rfl
                have hcz38_1 : wc.cell? ⟨gb105, 1, none⟩ = some (.int .i64 a3_1) := (blk_cell BK105.out 1).trans rfl
                have hfz38_0 := blk_frozen BK105.out 0
                have hfz38_1 := blk_frozen BK105.out 1
                go_wp2
                go_ret
                exact ⟨by first | rfl | (simp [errW_none, errW_some] <;> rfl) | (simp [*, errW_none, errW_some] <;> rfl), by repeat (first | (with_reducible first | exact HB.out | apply below_alloc | apply pw_below_drewN | apply below_drew1 | refine below_set ?_ GE104.out | refine below_set ?_ GE105.out) | exact HB.out)⟩
              · rw [if_neg c35] at H
                have c35b0 : (a2_0 && (!a3_0)) = false := by simpa using c35
                clear c35
                by_cases c39 : (!a2_0 && (a3_0)) = true
                · rw [if_pos c39] at H
                  have c39b0 : (!a2_0 && (a3_0)) = true := c39
                  clear c39
                  obtain rfl := Option.some.inj H
                  have hnb40 := NB104_105.out
                  have hnc40 := NB105_104.out
                  have hcz41_0 : wc.cell? ⟨gb104, 0, none⟩ = some (.bool a2_0) := (blk_cell BK104.out 0).trans rfl
                  have hcz41_1 : wc.cell? ⟨gb104, 1, none⟩ = some (.int .i64 a2_1) := (blk_cell BK104.out 1).trans rfl
                  have hfz41_0 := blk_frozen BK104.out 0
                  have hfz41_1 := blk_frozen BK104.out 1
                  have hcz42_0 : wc.cell? ⟨gb105, 0, none⟩ = some (.bool a3_0) := (blk_cell BK105.out 0).trans rfl
                  have hcz42_1 : wc.cell? ⟨gb105, 1, none⟩ = some (.int .i64 a3_1) := (blk_cell BK105.out 1).trans rfl
                  have hfz42_0 := blk_frozen BK105.out 0
                  have hfz42_1 := blk_frozen BK105.out 1
                  go_wp2
                  go_ret
                  exact ⟨by first | rfl | (simp [errW_none, errW_some] <;> rfl) | (simp [*, errW_none, errW_some] <;> rfl), by repeat (first | (with_reducible first | exact HB.out | apply below_alloc | apply pw_below_drewN | apply below_drew1 | refine below_set ?_ GE104.out | refine below_set ?_ GE105.out) | exact HB.out)⟩
                · rw [if_neg c39] at H
                  have c39b0 : (!a2_0 && (a3_0)) = false := by simpa using c39
                  clear c39
                  have H' := Aside0.mk H
                  clear H
                  have hnb43 := NB104_105.out
                  have hnc43 := NB105_104.out
                  have hcz44_0 : wc.cell? ⟨gb104, 0, none⟩ = some (.bool a2_0) := (blk_cell BK104.out 0).trans rfl
                  have hcz44_1 : wc.cell? ⟨gb104, 1, none⟩ = some (.int .i64 a2_1) := (blk_cell BK104.out 1).trans rfl
                  have hfz44_0 := blk_frozen BK104.out 0
                  have hfz44_1 := blk_frozen BK104.out 1
                  have hcz45_0 : wc.cell? ⟨gb105, 0, none⟩ = some (.bool a3_0) := (blk_cell BK105.out 0).trans rfl
                  have hcz45_1 : wc.cell? ⟨gb105, 1, none⟩ = some (.int .i64 a3_1) := (blk_cell BK105.out 1).trans rfl
                  have hfz45_0 := blk_frozen BK105.out 0
                  have hfz45_1 := blk_frozen BK105.out 1
                  go_wp2
                  go_meet
                  case rel => exact ⟨_, H', ⟨by have := HJ5.out; first | omega | exact Nat.le_refl _⟩, ⟨pmBx5_6_⟩, ⟨pmBx5_9_⟩, ⟨pmBx5_1_⟩⟩
          · rw [if_neg c30] at H
            have c30b0 : decide (0 < (wrap64 ((wrap64 ((wrap64 (a0 - a1)) - a2_1)) - a3_1))) = false := decide_eq_false c30
            clear c30
            (first | rw [c30b0] | (simp only [i64_w, i32_w]; rw [c30b0]) | skip)
            have H' := Aside0.mk H
            clear H
            go_wp2
            go_meet
            case rel => exact ⟨_, H', ⟨by have := HJ5.out; first | omega | exact Nat.le_refl _⟩, ⟨pmBx5_6_⟩, ⟨pmBx5_9_⟩, ⟨pmBx5_1_⟩⟩
        case rest =>
          clear HC26
          try clear c1
          try clear c2
          try clear p2
          try clear c3
          try clear c4
          try clear p6
          try clear c8
          try clear c10
          try clear c12
          try clear c14
          try clear c16
          try clear c21
          try clear c22
          try clear c24
          try clear c27
          try clear c30
          try clear c30b0
          try clear c31
          try clear c31b0
          try clear c32
          try clear c35
          try clear c35b0
          try clear c36
          try clear c39
          try clear c39b0
          try clear c40
          try clear c43
          try clear hcz17_0
          try clear hcz17_1
          try clear hcz19_0
          try clear hcz19_1
          try clear hcz22_0
          try clear hcz22_1
          try clear hcz28_0
          try clear hcz28_1
          try clear hcz29_0
          try clear hcz29_1
          try clear hcz33_0
          try clear hcz33_1
          try clear hcz34_0
          try clear hcz34_1
          try clear hcz37_0
          try clear hcz37_1
          try clear hcz38_0
          try clear hcz38_1
          try clear hcz41_0
          try clear hcz41_1
          try clear hcz42_0
          try clear hcz42_1
          try clear hcz44_0
          try clear hcz44_1
          try clear hcz45_0
          try clear hcz45_1
          try clear hfz17_0
          try clear hfz17_1
          try clear hfz19_0
          try clear hfz19_1
          try clear hfz22_0
          try clear hfz22_1
          try clear hfz28_0
          try clear hfz28_1
          try clear hfz29_0
          try clear hfz29_1
          try clear hfz33_0
          try clear hfz33_1
          try clear hfz34_0
          try clear hfz34_1
          try clear hfz37_0
          try clear hfz37_1
          try clear hfz38_0
          try clear hfz38_1
          try clear hfz41_0
          try clear hfz41_1
          try clear hfz42_0
          try clear hfz42_1
          try clear hfz44_0
          try clear hfz44_1
          try clear hfz45_0
          try clear hfz45_1
          try clear p2
          obtain ⟨kq, HA, HJ25, BK104, BK105, HB⟩ := hcut
          cases kq with
          | zero => exact absurd HA.out (by simp [self_Place.j1])
          | succ kj25 =>
            have H := HA.out
            clear HA
            simp only [self_Place.j1] at H
            by_cases c46 : a4 = 4
            · rw [if_pos c46] at H
              have c46b0 : (a4 == 4) = true := beq_iff_eq.mpr c46
              have c46b1 : (a4 != 4) = false := bne_eq_false_iff_eq.mpr c46
              clear c46
              obtain rfl := Option.some.inj H
              have hnb47 := NB104_105.out
              have hnc47 := NB105_104.out
              have hcz48_0 : wc.cell? ⟨gb104, 0, none⟩ = some (.bool a2_0) := (blk_cell BK104.out 0).trans rfl
              have hcz48_1 : wc.cell? ⟨gb104, 1, none⟩ = some (.int .i64 a2_1) := (blk_cell BK104.out 1).trans rfl
              have hfz48_0 := blk_frozen BK104.out 0
              have hfz48_1 := blk_frozen BK104.out 1
              go_wp2
              go_ret
              exact ⟨by first | rfl | (simp [errW_none, errW_some] <;> rfl) | (simp [*, errW_none, errW_some] <;> rfl), by repeat (first | (with_reducible first | exact HB.out | apply below_alloc | apply pw_below_drewN | apply below_drew1 | refine below_set ?_ GE104.out | refine below_set ?_ GE105.out) | exact HB.out)⟩
            · rw [if_neg c46] at H
              have c46b0 : (a4 == 4) = false := beq_eq_false_iff_ne.mpr c46
              have c46b1 : (a4 != 4) = true := bne_iff_ne.mpr c46
              by_cases c49 : a4 = 5
              · rw [if_pos c49] at H
                have c49b0 : (a4 == 5) = true := beq_iff_eq.mpr c49
                have c49b1 : (a4 != 5) = false := bne_eq_false_iff_eq.mpr c49
                clear c49
                obtain rfl := Option.some.inj H
                have hnb50 := NB104_105.out
                have hnc50 := NB105_104.out
                have hcz51_0 : wc.cell? ⟨gb104, 0, none⟩ = some (.bool a2_0) := (blk_cell BK104.out 0).trans rfl
                have hcz51_1 : wc.cell? ⟨gb104, 1, none⟩ = some (.int .i64 a2_1) := (blk_cell BK104.out 1).trans rfl
                have hfz51_0 := blk_frozen BK104.out 0
                have hfz51_1 := blk_frozen BK104.out 1
                go_wp2
                go_ret
                exact ⟨by first | rfl | (simp [errW_none, errW_some] <;> rfl) | (simp [*, errW_none, errW_some] <;> rfl), by repeat (first | (with_reducible first | exact HB.out | apply below_alloc | apply pw_below_drewN | apply below_drew1 | refine below_set ?_ GE104.out | refine below_set ?_ GE105.out) | exact HB.out)⟩
              · rw [if_neg c49] at H
                have c49b0 : (a4 == 5) = false := beq_eq_false_iff_ne.mpr c49
                have c49b1 : (a4 != 5) = true := bne_iff_ne.mpr c49
                obtain rfl := Option.some.inj H
                have hnb52 := NB104_105.out
                have hnc52 := NB105_104.out
                have hcz53_0 : wc.cell? ⟨gb104, 0, none⟩ = some (.bool a2_0) := (blk_cell BK104.out 0).trans rfl
                have hcz53_1 : wc.cell? ⟨gb104, 1, none⟩ = some (.int .i64 a2_1) := (blk_cell BK104.out 1).trans rfl
                have hfz53_0 := blk_frozen BK104.out 0
                have hfz53_1 := blk_frozen BK104.out 1
                go_wp2
                go_ret
                exact ⟨by first | rfl | (simp [errW_none, errW_some] <;> rfl) | (simp [*, errW_none, errW_some] <;> rfl), by repeat (first | (with_reducible first | exact HB.out | apply below_alloc | apply pw_below_drewN | apply below_drew1 | refine below_set ?_ GE104.out | refine below_set ?_ GE105.out) | exact HB.out)⟩

/-! ### parterrelaw29_lives: function 10 -/
def parterrelaw29_lives.f (k : Nat)  : Option (Bool) := (self_Place.f k 100 41 false 0 false 0 5).bind fun t113 => (if t113 = 29 then ((self_Place.f k 100 41 false 0 false 0 4).bind fun t114 => (if t114 = 59 then ((self_Place.f k 100 41 true 0 true 0 4).bind fun t115 => (some (t115 == 29))) else (some false))) else (some false))
theorem parterrelaw29_lives.mono : ∀ k, LeO (parterrelaw29_lives.f k ) (parterrelaw29_lives.f (k + 1) ) := by
  intro  k
  unfold parterrelaw29_lives.f
  repeat' first
      | (with_reducible exact self_Place.mono _ _ _ _ _ _ _ _)
      | (with_reducible exact LeO.refl _)
      | (with_reducible exact LeO.none _)
      | (with_reducible refine LeO.ite ?_ ?_)
      | (with_reducible refine LeO.bind ?_ (fun _ => ?_))
      | exact self_Place.mono _ _ _ _ _ _ _ _
      | exact LeO.none _
      | refine LeO.ite ?_ ?_
      | refine LeO.bind ?_ (fun _ => ?_)
set_option maxHeartbeats 8000000 in
set_option maxRecDepth 100000 in
theorem parterrelaw29_lives.calls (k : Nat)  (r : Bool) (w : World) (h : parterrelaw29_lives.f k  = some r) :
    Calls Try.prog 10 #[] w fun e w' => e = .returned (.bool r) ∧ Below w.heap.size w w' := by
  have hu23 := Try.underlying23
  have HB := Aside0.mk (Below.refl w.heap.size w)
  have H : ((self_Place.f k 100 41 false 0 false 0 5).bind fun t113 => (if t113 = 29 then ((self_Place.f k 100 41 false 0 false 0 4).bind fun t114 => (if t114 = 59 then ((self_Place.f k 100 41 true 0 true 0 4).bind fun t115 => (some (t115 == 29))) else (some false))) else (some false))) = some r := h
  clear h
  replace H := Option.bind_eq_some_iff.mp H
  obtain ⟨t113, A10, H⟩ := H
  replace H : (if t113 = 29 then ((self_Place.f k 100 41 false 0 false 0 4).bind fun t114 => (if t114 = 59 then ((self_Place.f k 100 41 true 0 true 0 4).bind fun t115 => (some (t115 == 29))) else (some false))) else (some false)) = some r := H
  have A1 := Aside0.mk A10
  clear A10
  by_cases c2 : t113 = 29
  · rw [if_pos c2] at H
    have c2b0 : (t113 == 29) = true := beq_iff_eq.mpr c2
    have c2b1 : (t113 != 29) = false := bne_eq_false_iff_eq.mpr c2
    clear c2
    replace H := Option.bind_eq_some_iff.mp H
    obtain ⟨t114, A30, H⟩ := H
    replace H : (if t114 = 59 then ((self_Place.f k 100 41 true 0 true 0 4).bind fun t115 => (some (t115 == 29))) else (some false)) = some r := H
    have A3 := Aside0.mk A30
    clear A30
    by_cases c4 : t114 = 59
    · rw [if_pos c4] at H
      have c4b0 : (t114 == 59) = true := beq_iff_eq.mpr c4
      have c4b1 : (t114 != 59) = false := bne_eq_false_iff_eq.mpr c4
      clear c4
      replace H := Option.bind_eq_some_iff.mp H
      obtain ⟨t115, A50, H⟩ := H
      replace H : (some (t115 == 29)) = some r := H
      have A5 := Aside0.mk A50
      clear A50
      obtain rfl := Option.some.inj H
      go_enter Try.func10, Try.ntmps10
      go_wp2_with (first | ((with_reducible refine gate_dst (N := 1) rfl ?_); refine box_event ?hg (N := 1) ?hd (cs := #[.bool false, .int .i64 0]) (t := 23) ?hr ?_; (case hd => rfl); (case hg => rfl); (case hr => first | (go_simp; done) | (go_simp; rfl)); intro gb111 hg w6 hbox hb; have n0_ := Aside0.mk (below_step pmBx5_0_ hb); have n1_ := Aside0.mk (hbox); have n2_ := Aside0.mk ((pmBx5_10_ : w.heap.size ≤ gb111)); have n3_ := Aside0.mk ((pmBx5_10_ : w.heap.size ≤ gb111)); clear HB; have HB := n0_; have BK111 := n1_; have GW111 := n2_; have GE111 := n3_; clear n0_ n1_ n2_ n3_; clear hb hbox hg) | ((with_reducible refine gate_dst (N := 2) rfl ?_); refine box_event ?hg (N := 2) ?hd (cs := #[.bool false, .int .i64 0]) (t := 23) ?hr ?_; (case hd => rfl); (case hg => rfl); (case hr => first | (go_simp; done) | (go_simp; rfl)); intro gb112 hg w7 hbox hb; have n0_ := Aside0.mk (blk_below (g := gb111) (o := .cells #[.bool false, .int .i64 0] 23 (0, 0)) pmBx5_7_ hb); have n1_ := Aside0.mk (below_step pmBx5_5_ hb); have n2_ := Aside0.mk (hbox); have n3_ := Aside0.mk ((by rw [hg]; exact (below_size pmBx5_5_) : w.heap.size ≤ gb112)); have n4_ := Aside0.mk ((by rw [hg]; exact (below_size pmBx5_5_) : w.heap.size ≤ gb112)); have n5_ := Aside0.mk ((pmBx5_13_ : gb111 ≠ gb112)); have n6_ := Aside0.mk ((pmBx5_14_ : gb112 ≠ gb111)); clear BK111; clear HB; have BK111 := n0_; have HB := n1_; have BK112 := n2_; have GW112 := n3_; have GE112 := n4_; have NB111_112 := n5_; have NB112_111 := n6_; clear n0_ n1_ n2_ n3_ n4_ n5_ n6_; clear hb hbox hg; have hnb8 := NB111_112.out; have hnc8 := NB112_111.out; have hcz9_0 : w7.cell? ⟨gb111, 0, none⟩ = some (.bool false) := (blk_cell BK111.out 0).trans rfl; have hcz9_1 : w7.cell? ⟨gb111, 1, none⟩ = some (.int .i64 0) := (blk_cell BK111.out 1).trans rfl; have hfz9_0 := blk_frozen BK111.out 0; have hfz9_1 := blk_frozen BK111.out 1; have hcz10_0 : w7.cell? ⟨gb112, 0, none⟩ = some (.bool false) := (blk_cell BK112.out 0).trans rfl; have hcz10_1 : w7.cell? ⟨gb112, 1, none⟩ = some (.int .i64 0) := (blk_cell BK112.out 1).trans rfl; have hfz10_0 := blk_frozen BK112.out 0; have hfz10_1 := blk_frozen BK112.out 1) | ((with_reducible refine gate_callee (f := 8) rfl ?_); refine goesL_ (some 7) rfl rfl Try.func8 (by kernel_rfl) rfl #[.int .i64 100, .int .i64 41, .agg #[.bool false, .int .i64 0], .agg #[.bool false, .int .i64 0], .int .i64 5] rfl pmBx5_4_ ?_; (with_reducible refine (self_Place.calls k 100 41 false 0 false 0 5 t113 _ A1.out).mono ?_); rintro e w11 ⟨rfl, hb⟩; refine ⟨_, rfl, ?_⟩; have n0_ := Aside0.mk (blk_below (g := gb111) (o := .cells #[.bool false, .int .i64 0] 23 (0, 0)) pmBx5_2_ hb); have n1_ := Aside0.mk (blk_below (g := gb112) (o := .cells #[.bool true, .int .i64 0] 23 (0, 0)) pmBx5_3_ hb); have n2_ := Aside0.mk (below_step pmBx5_8_ hb); clear BK111; clear BK112; clear HB; have BK111 := n0_; have BK112 := n1_; have HB := n2_; clear n0_ n1_ n2_; (try clear hb); (try clear hb2); (try clear hk); (try clear hi); have hcz12_0 : w11.cell? ⟨gb111, 0, none⟩ = some (.bool false) := (blk_cell BK111.out 0).trans rfl; have hcz12_1 : w11.cell? ⟨gb111, 1, none⟩ = some (.int .i64 0) := (blk_cell BK111.out 1).trans rfl; have hfz12_0 := blk_frozen BK111.out 0; have hfz12_1 := blk_frozen BK111.out 1) | (go_at_call 8; (with_reducible refine (self_Place.calls k 100 41 false 0 false 0 4 t114 _ A3.out).mono ?_); rintro e w13 ⟨rfl, hb⟩; have n0_ := Aside0.mk (blk_below (g := gb111) (o := .cells #[.bool false, .int .i64 0] 23 (0, 0)) pmBx5_7_ hb); have n1_ := Aside0.mk (blk_below (g := gb112) (o := .cells #[.bool true, .int .i64 0] 23 (0, 0)) pmBx5_12_ hb); have n2_ := Aside0.mk (below_step pmBx5_8_ hb); clear BK111; clear BK112; clear HB; have BK111 := n0_; have BK112 := n1_; have HB := n2_; clear n0_ n1_ n2_; (try clear hb); (try clear hb2); (try clear hk); (try clear hi); have hcz14_0 : w13.cell? ⟨gb112, 0, none⟩ = some (.bool true) := (blk_cell BK112.out 0).trans rfl; have hcz14_1 : w13.cell? ⟨gb112, 1, none⟩ = some (.int .i64 0) := (blk_cell BK112.out 1).trans rfl; have hfz14_0 := blk_frozen BK112.out 0; have hfz14_1 := blk_frozen BK112.out 1) | (go_at_call 8; (with_reducible refine (self_Place.calls k 100 41 true 0 true 0 4 t115 _ A5.out).mono ?_); rintro e w15 ⟨rfl, hb⟩; have n0_ := Aside0.mk (blk_below (g := gb111) (o := .cells #[.bool false, .int .i64 0] 23 (0, 0)) pmBx5_7_ hb); have n1_ := Aside0.mk (blk_below (g := gb112) (o := .cells #[.bool true, .int .i64 0] 23 (0, 0)) pmBx5_12_ hb); have n2_ := Aside0.mk (below_step pmBx5_8_ hb); clear BK111; clear BK112; clear HB; have BK111 := n0_; have BK112 := n1_; have HB := n2_; clear n0_ n1_ n2_; (try clear hb); (try clear hb2); (try clear hk); (try clear hi)))
      go_ret
      exact ⟨by first | rfl | (simp [errW_none, errW_some] <;> rfl) | (simp [*, errW_none, errW_some] <;> rfl), by repeat (first | (with_reducible first | exact HB.out | apply below_alloc | apply pw_below_drewN | apply below_drew1 | refine below_set ?_ GE111.out | refine below_set ?_ GE112.out) | exact HB.out)⟩
    · rw [if_neg c4] at H
      have c4b0 : (t114 == 59) = false := beq_eq_false_iff_ne.mpr c4
      have c4b1 : (t114 != 59) = true := bne_iff_ne.mpr c4
      obtain rfl := Option.some.inj H
      go_enter Try.func10, Try.ntmps10
      go_wp2_with (first | ((with_reducible refine gate_dst (N := 1) rfl ?_); refine box_event ?hg (N := 1) ?hd (cs := #[.bool false, .int .i64 0]) (t := 23) ?hr ?_; (case hd => rfl); (case hg => rfl); (case hr => first | (go_simp; done) | (go_simp; rfl)); intro gb111 hg w16 hbox hb; have n0_ := Aside0.mk (below_step pmBx5_0_ hb); have n1_ := Aside0.mk (hbox); have n2_ := Aside0.mk ((pmBx5_10_ : w.heap.size ≤ gb111)); have n3_ := Aside0.mk ((pmBx5_10_ : w.heap.size ≤ gb111)); clear HB; have HB := n0_; have BK111 := n1_; have GW111 := n2_; have GE111 := n3_; clear n0_ n1_ n2_ n3_; clear hb hbox hg) | ((with_reducible refine gate_dst (N := 2) rfl ?_); refine box_event ?hg (N := 2) ?hd (cs := #[.bool false, .int .i64 0]) (t := 23) ?hr ?_; (case hd => rfl); (case hg => rfl); (case hr => first | (go_simp; done) | (go_simp; rfl)); intro gb112 hg w17 hbox hb; have n0_ := Aside0.mk (blk_below (g := gb111) (o := .cells #[.bool false, .int .i64 0] 23 (0, 0)) pmBx5_7_ hb); have n1_ := Aside0.mk (below_step pmBx5_5_ hb); have n2_ := Aside0.mk (hbox); have n3_ := Aside0.mk ((by rw [hg]; exact (below_size pmBx5_5_) : w.heap.size ≤ gb112)); have n4_ := Aside0.mk ((by rw [hg]; exact (below_size pmBx5_5_) : w.heap.size ≤ gb112)); have n5_ := Aside0.mk ((pmBx5_13_ : gb111 ≠ gb112)); have n6_ := Aside0.mk ((pmBx5_14_ : gb112 ≠ gb111)); clear BK111; clear HB; have BK111 := n0_; have HB := n1_; have BK112 := n2_; have GW112 := n3_; have GE112 := n4_; have NB111_112 := n5_; have NB112_111 := n6_; clear n0_ n1_ n2_ n3_ n4_ n5_ n6_; clear hb hbox hg; have hnb18 := NB111_112.out; have hnc18 := NB112_111.out; have hcz19_0 : w17.cell? ⟨gb111, 0, none⟩ = some (.bool false) := (blk_cell BK111.out 0).trans rfl; have hcz19_1 : w17.cell? ⟨gb111, 1, none⟩ = some (.int .i64 0) := (blk_cell BK111.out 1).trans rfl; have hfz19_0 := blk_frozen BK111.out 0; have hfz19_1 := blk_frozen BK111.out 1; have hcz20_0 : w17.cell? ⟨gb112, 0, none⟩ = some (.bool false) := (blk_cell BK112.out 0).trans rfl; have hcz20_1 : w17.cell? ⟨gb112, 1, none⟩ = some (.int .i64 0) := (blk_cell BK112.out 1).trans rfl; have hfz20_0 := blk_frozen BK112.out 0; have hfz20_1 := blk_frozen BK112.out 1) | ((with_reducible refine gate_callee (f := 8) rfl ?_); refine goesL_ (some 7) rfl rfl Try.func8 (by kernel_rfl) rfl #[.int .i64 100, .int .i64 41, .agg #[.bool false, .int .i64 0], .agg #[.bool false, .int .i64 0], .int .i64 5] rfl pmBx5_4_ ?_; (with_reducible refine (self_Place.calls k 100 41 false 0 false 0 5 t113 _ A1.out).mono ?_); rintro e w21 ⟨rfl, hb⟩; refine ⟨_, rfl, ?_⟩; have n0_ := Aside0.mk (blk_below (g := gb111) (o := .cells #[.bool false, .int .i64 0] 23 (0, 0)) pmBx5_2_ hb); have n1_ := Aside0.mk (blk_below (g := gb112) (o := .cells #[.bool true, .int .i64 0] 23 (0, 0)) pmBx5_3_ hb); have n2_ := Aside0.mk (below_step pmBx5_8_ hb); clear BK111; clear BK112; clear HB; have BK111 := n0_; have BK112 := n1_; have HB := n2_; clear n0_ n1_ n2_; (try clear hb); (try clear hb2); (try clear hk); (try clear hi); have hcz22_0 : w21.cell? ⟨gb111, 0, none⟩ = some (.bool false) := (blk_cell BK111.out 0).trans rfl; have hcz22_1 : w21.cell? ⟨gb111, 1, none⟩ = some (.int .i64 0) := (blk_cell BK111.out 1).trans rfl; have hfz22_0 := blk_frozen BK111.out 0; have hfz22_1 := blk_frozen BK111.out 1) | (go_at_call 8; (with_reducible refine (self_Place.calls k 100 41 false 0 false 0 4 t114 _ A3.out).mono ?_); rintro e w23 ⟨rfl, hb⟩; have n0_ := Aside0.mk (blk_below (g := gb111) (o := .cells #[.bool false, .int .i64 0] 23 (0, 0)) pmBx5_7_ hb); have n1_ := Aside0.mk (blk_below (g := gb112) (o := .cells #[.bool true, .int .i64 0] 23 (0, 0)) pmBx5_12_ hb); have n2_ := Aside0.mk (below_step pmBx5_8_ hb); clear BK111; clear BK112; clear HB; have BK111 := n0_; have BK112 := n1_; have HB := n2_; clear n0_ n1_ n2_; (try clear hb); (try clear hb2); (try clear hk); (try clear hi)))
      go_ret
      exact ⟨by first | rfl | (simp [errW_none, errW_some] <;> rfl) | (simp [*, errW_none, errW_some] <;> rfl), by repeat (first | (with_reducible first | exact HB.out | apply below_alloc | apply pw_below_drewN | apply below_drew1 | refine below_set ?_ GE111.out | refine below_set ?_ GE112.out) | exact HB.out)⟩
  · rw [if_neg c2] at H
    have c2b0 : (t113 == 29) = false := beq_eq_false_iff_ne.mpr c2
    have c2b1 : (t113 != 29) = true := bne_iff_ne.mpr c2
    obtain rfl := Option.some.inj H
    go_enter Try.func10, Try.ntmps10
    go_wp2_with (first | ((with_reducible refine gate_dst (N := 1) rfl ?_); refine box_event ?hg (N := 1) ?hd (cs := #[.bool false, .int .i64 0]) (t := 23) ?hr ?_; (case hd => rfl); (case hg => rfl); (case hr => first | (go_simp; done) | (go_simp; rfl)); intro gb111 hg w24 hbox hb; have n0_ := Aside0.mk (below_step pmBx5_0_ hb); have n1_ := Aside0.mk (hbox); have n2_ := Aside0.mk ((pmBx5_10_ : w.heap.size ≤ gb111)); have n3_ := Aside0.mk ((pmBx5_10_ : w.heap.size ≤ gb111)); clear HB; have HB := n0_; have BK111 := n1_; have GW111 := n2_; have GE111 := n3_; clear n0_ n1_ n2_ n3_; clear hb hbox hg) | ((with_reducible refine gate_dst (N := 2) rfl ?_); refine box_event ?hg (N := 2) ?hd (cs := #[.bool false, .int .i64 0]) (t := 23) ?hr ?_; (case hd => rfl); (case hg => rfl); (case hr => first | (go_simp; done) | (go_simp; rfl)); intro gb112 hg w25 hbox hb; have n0_ := Aside0.mk (blk_below (g := gb111) (o := .cells #[.bool false, .int .i64 0] 23 (0, 0)) pmBx5_7_ hb); have n1_ := Aside0.mk (below_step pmBx5_5_ hb); have n2_ := Aside0.mk (hbox); have n3_ := Aside0.mk ((by rw [hg]; exact (below_size pmBx5_5_) : w.heap.size ≤ gb112)); have n4_ := Aside0.mk ((by rw [hg]; exact (below_size pmBx5_5_) : w.heap.size ≤ gb112)); have n5_ := Aside0.mk ((pmBx5_13_ : gb111 ≠ gb112)); have n6_ := Aside0.mk ((pmBx5_14_ : gb112 ≠ gb111)); clear BK111; clear HB; have BK111 := n0_; have HB := n1_; have BK112 := n2_; have GW112 := n3_; have GE112 := n4_; have NB111_112 := n5_; have NB112_111 := n6_; clear n0_ n1_ n2_ n3_ n4_ n5_ n6_; clear hb hbox hg; have hnb26 := NB111_112.out; have hnc26 := NB112_111.out; have hcz27_0 : w25.cell? ⟨gb111, 0, none⟩ = some (.bool false) := (blk_cell BK111.out 0).trans rfl; have hcz27_1 : w25.cell? ⟨gb111, 1, none⟩ = some (.int .i64 0) := (blk_cell BK111.out 1).trans rfl; have hfz27_0 := blk_frozen BK111.out 0; have hfz27_1 := blk_frozen BK111.out 1; have hcz28_0 : w25.cell? ⟨gb112, 0, none⟩ = some (.bool false) := (blk_cell BK112.out 0).trans rfl; have hcz28_1 : w25.cell? ⟨gb112, 1, none⟩ = some (.int .i64 0) := (blk_cell BK112.out 1).trans rfl; have hfz28_0 := blk_frozen BK112.out 0; have hfz28_1 := blk_frozen BK112.out 1) | ((with_reducible refine gate_callee (f := 8) rfl ?_); refine goesL_ (some 7) rfl rfl Try.func8 (by kernel_rfl) rfl #[.int .i64 100, .int .i64 41, .agg #[.bool false, .int .i64 0], .agg #[.bool false, .int .i64 0], .int .i64 5] rfl pmBx5_4_ ?_; (with_reducible refine (self_Place.calls k 100 41 false 0 false 0 5 t113 _ A1.out).mono ?_); rintro e w29 ⟨rfl, hb⟩; refine ⟨_, rfl, ?_⟩; have n0_ := Aside0.mk (blk_below (g := gb111) (o := .cells #[.bool false, .int .i64 0] 23 (0, 0)) pmBx5_2_ hb); have n1_ := Aside0.mk (blk_below (g := gb112) (o := .cells #[.bool true, .int .i64 0] 23 (0, 0)) pmBx5_3_ hb); have n2_ := Aside0.mk (below_step pmBx5_8_ hb); clear BK111; clear BK112; clear HB; have BK111 := n0_; have BK112 := n1_; have HB := n2_; clear n0_ n1_ n2_; (try clear hb); (try clear hb2); (try clear hk); (try clear hi)))
    go_ret
    exact ⟨by first | rfl | (simp [errW_none, errW_some] <;> rfl) | (simp [*, errW_none, errW_some] <;> rfl), by repeat (first | (with_reducible first | exact HB.out | apply below_alloc | apply pw_below_drewN | apply below_drew1 | refine below_set ?_ GE111.out | refine below_set ?_ GE112.out) | exact HB.out)⟩

/-! ### bits_Mul64: function 41 -/
-- IMPORT YtbenanokgfphmaaShelf
/-- The whole product of two numbers of 64 bits: its high half, its low half. -/
def bits_Mul64.f (a0 : Int) (a1 : Int) : Option (Int × Int) := if 0 ≤ a0 ∧ a0 < 18446744073709551616 ∧ 0 ≤ a1 ∧ a1 < 18446744073709551616 then some (a0 * a1 / 18446744073709551616, a0 * a1 % 18446744073709551616) else none
theorem bits_Mul64.calls (a0 : Int) (a1 : Int) (r1 : Int) (r2 : Int) (w : World) (h : bits_Mul64.f a0 a1 = some (r1, r2)) :
    Calls Try.prog 41 #[.int .u64 a0, .int .u64 a1] w fun e w' => e = .returned (.tuple #[.int .u64 r1, .int .u64 r2]) ∧ Drawn0 w w' := by
  unfold bits_Mul64.f at h
  split at h
  · rename_i hb
    obtain ⟨h0, h1, h2, h3⟩ := hb
    obtain ⟨rfl, rfl⟩ := Prod.mk.inj (Option.some.inj h)
    obtain ⟨x, rfl⟩ := Int.eq_ofNat_of_zero_le h0
    obtain ⟨y, rfl⟩ := Int.eq_ofNat_of_zero_le h2
    refine (Try.bits_Mul64 x y (by omega) (by omega) w).mono ?_
    rintro e w' ⟨rfl, rfl⟩
    exact ⟨by simp, Drawn0.refl _⟩
  · cases h


/-! ### fixed_size: function 42 -/
def fixed_size.f (a0 : Int) : Option (Int) := if a0 < 0 then (some (IntKind.u64.wrap (-(IntKind.u64.wrap (a0))))) else (some (IntKind.u64.wrap (a0)))
set_option maxHeartbeats 8000000 in
set_option maxRecDepth 100000 in
theorem fixed_size.calls (a0 : Int) (r : Int) (w : World) (h : fixed_size.f a0 = some r) :
    Calls Try.prog 42 #[.int .i64 a0] w fun e w' => e = .returned (.int .u64 r) ∧ Drawn0 w w' := by
  have H : (if a0 < 0 then (some (IntKind.u64.wrap (-(IntKind.u64.wrap (a0))))) else (some (IntKind.u64.wrap (a0)))) = some r := h
  clear h
  by_cases c2 : a0 < 0
  · rw [if_pos c2] at H
    have c2b0 : decide (a0 < 0) = true := decide_eq_true c2
    clear c2
    obtain rfl := Option.some.inj H
    go_enter Try.func42, Try.ntmps42
    go_wp2
    go_ret
    exact ⟨by first | rfl | (simp; done) | (simp [*]; done), by repeat (first | exact Drawn0.refl _ | apply Drawn0.step)⟩
  · rw [if_neg c2] at H
    have c2b0 : decide (a0 < 0) = false := decide_eq_false c2
    clear c2
    obtain rfl := Option.some.inj H
    go_enter Try.func42, Try.ntmps42
    go_wp2
    go_ret
    exact ⟨by first | rfl | (simp; done) | (simp [*]; done), by repeat (first | exact Drawn0.refl _ | apply Drawn0.step)⟩

/-! ### bits_LeadingZeros64: function 48 -/
-- IMPORT YtbenanokgfphmaaShelf
/-- How many zero bits lead. -/
def bits_LeadingZeros64.f (a0 : Int) : Option (Int) := if 0 ≤ a0 ∧ a0 < 18446744073709551616 then some (64 - (Lib.bitLen a0.toNat : Int)) else none
theorem bits_LeadingZeros64.calls (a0 : Int) (r : Int) (w : World) (h : bits_LeadingZeros64.f a0 = some r) :
    Calls Try.prog 48 #[.int .u64 a0] w fun e w' => e = .returned (.int .i64 r) ∧ Drawn0 w w' := by
  unfold bits_LeadingZeros64.f at h
  split at h
  · rename_i hb
    obtain rfl := Option.some.inj h
    refine (Try.bits_LeadingZeros64 a0 w hb.1 (by omega)).mono ?_
    rintro e w' ⟨rfl, rfl⟩
    exact ⟨rfl, Drawn0.refl _⟩
  · cases h


end Go.Proofs.Ytbenanokgfphmaa.PB
