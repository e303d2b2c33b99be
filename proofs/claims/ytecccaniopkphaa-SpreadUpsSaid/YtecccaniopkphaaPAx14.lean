-- written by a program of this session (a print of the translation with changes of its own)
import Derived.Test.YtecccaniopkphaaPAx0
import Derived.Test.YtecccaniopkphaaPAx3
import Derived.Test.YtecccaniopkphaaPAx4
import Derived.Test.YtecccaniopkphaaPAx5
import Derived.Test.YtecccaniopkphaaPAx8
import Derived.Test.YtecccaniopkphaaPAx9
import Derived.Test.YtecccaniopkphaaPAx11
import Derived.Test.YtecccaniopkphaaPAx13
namespace Go.Proofs.Ytecccaniopkphaa.PA
open Go.RowKit Go.Proofs.YtecccaniopkphaaW.PrintWords Go.Proofs.YtecccaniopkphaaW.PrintLast Go.Proofs.YtecccaniopkphaaW.PrintMore
theorem pmAx14_0_ {P : Prop} (h : P := by repeat (first | (with_reducible first | exact HB.out | apply below_alloc | apply pw_below_drewN | apply below_drew1) | exact HB.out)) : P := h
theorem pmAx14_1_ {P : Prop} (h : P := by (with_reducible repeat (first | apply Kd.R_alloc | apply Kd.R_drewN | apply Kd.R_drew)); exact HO327.out) : P := h
theorem pmAx14_2_ {P : Prop} (h : P := by (try simp only [List.map_toArray, List.map_cons, List.map_nil]); first | done | rfl | (simp only [List.length_drop, List.length_take]; rfl)) : P := h
theorem pmAx14_3_ {P : Prop} (h : P := by (with_reducible repeat (first | apply Kd.R_alloc | apply Kd.R_drewN | apply Kd.R_drew)); exact HO330.out) : P := h
theorem pmAx14_4_ {P : Prop} (h : P := by (with_reducible repeat (first | apply Kd.R_alloc | apply Kd.R_drewN | apply Kd.R_drew)); exact HO334.out) : P := h
theorem pmAx14_5_ {P : Prop} (h : P := by (with_reducible repeat (first | apply Kd.R_alloc | apply Kd.R_drewN | apply Kd.R_drew)); exact HO_5.out) : P := h
theorem pmAx14_6_ {P : Prop} (h : P := by (with_reducible repeat (first | apply Kd.R_alloc | apply Kd.R_drewN | apply Kd.R_drew)); exact HO337.out) : P := h
theorem pmAx14_7_ {P : Prop} (h : P := by first | rfl | (simp; done) | (simp [*]; done)) : P := h
theorem pmAx14_8_ {P : Prop} (h : P := by first | (with_reducible assumption) | assumption) : P := h
theorem pmAx14_9_ {P : Prop} (h : P := by (with_reducible repeat (first | apply Kd.R_alloc | apply Kd.R_drewN | apply Kd.R_drew)); exact HO341.out) : P := h
theorem pmAx14_10_ {P : Prop} (h : P := by (try simp only [List.map_toArray, List.map_cons, List.map_nil]); first | done | (simp only [hji11]; rfl) | rfl | (simp only [List.length_drop, List.length_take]; rfl)) : P := h
theorem pmAx14_11_ {P : Prop} (h : P := by (with_reducible repeat (first | apply Kd.R_alloc | apply Kd.R_drewN | apply Kd.R_drew)); exact HO320.out) : P := h
attribute [local go_sem] max2_int min2_int max_two min_two max_three min_three max_four min_four   -- for this text's walks alone
set_option linter.unusedVariables false
set_option linter.unusedSimpArgs false

/-! ### parterreref01_Share: function 22 -/
mutual
def parterreref01_Share.j0 : Nat → Int → List Int → Bool → Option (List Int)
  | 0, _, _, _ => none
  | k + 1, x0, x1, x28 => if x28 = true then (some ([] : List Int)) else (parterreref01_Share.l0 k x0 x1 0 0)
def parterreref01_Share.l0 : Nat → Int → List Int → Int → Int → Option (List Int)
  | 0, _, _, _, _ => none
  | k + 1, x0, x1, x5, x6 => if x6 < (x1.length : Int) then (if 0 ≤ x6 then (if (rd x1 x6) < 0 then (some ([] : List Int)) else (if (rd x1 x6) > 1073741824 then (some ([] : List Int)) else (parterreref01_Share.l0 k x0 x1 (wrap64 (x5 + (rd x1 x6))) (wrap64 (x6 + 1))))) else (none)) else (if x5 = 0 then (some ([] : List Int)) else (parterreref01_Share.l1 k x0 x1 x5 ([] : List Int) 0 0 0))
def parterreref01_Share.l1 : Nat → Int → List Int → Int → List Int → Int → Int → Int → Option (List Int)
  | 0, _, _, _, _, _, _, _ => none
  | k + 1, x0, x1, x5, x7, x8, x9, x10 => if x10 < (x1.length : Int) then (if 0 ≤ x10 then ((parterreref01_MulDiv.f k x0 (wrap64 (x8 + (rd x1 x10))) x5).bind fun bt310 => (if x7.length < 17592186044416 then (parterreref01_Share.l1 k x0 x1 x5 (x7 ++ [wrap64 (bt310.1 - x9)]) (wrap64 (x8 + (rd x1 x10))) bt310.1 (wrap64 (x10 + 1))) else (none))) else (none)) else (some x7)
end
def parterreref01_Share.f (k : Nat) (a0 : Int) (l1 : List Int) : Option (List Int) := if a0 < 0 then (parterreref01_Share.j0 k a0 l1 true) else (if a0 > 68719476736 then (parterreref01_Share.j0 k a0 l1 true) else (if (l1.length : Int) = 0 then (parterreref01_Share.j0 k a0 l1 true) else (parterreref01_Share.j0 k a0 l1 (decide ((l1.length : Int) > 65536)))))
theorem parterreref01_Share.mono_l : ∀ k, (∀ y0 y1 y2, LeO (parterreref01_Share.j0 k y0 y1 y2) (parterreref01_Share.j0 (k + 1) y0 y1 y2)) ∧ (∀ y0 y1 y2 y3, LeO (parterreref01_Share.l0 k y0 y1 y2 y3) (parterreref01_Share.l0 (k + 1) y0 y1 y2 y3)) ∧ (∀ y0 y1 y2 y3 y4 y5 y6, LeO (parterreref01_Share.l1 k y0 y1 y2 y3 y4 y5 y6) (parterreref01_Share.l1 (k + 1) y0 y1 y2 y3 y4 y5 y6))
  | 0 => ⟨fun _ _ _ r h => by simp [parterreref01_Share.j0] at h, fun _ _ _ _ r h => by simp [parterreref01_Share.l0] at h, fun _ _ _ _ _ _ _ r h => by simp [parterreref01_Share.l1] at h⟩
  | k + 1 => by
    obtain ⟨ih0, ih1, ih2⟩ := parterreref01_Share.mono_l k
    refine ⟨?_, ?_, ?_⟩
    · intro y0 y1 y2
      unfold parterreref01_Share.j0
      repeat' first
      | (with_reducible exact ih0 _ _ _)
      | (with_reducible exact ih1 _ _ _ _)
      | (with_reducible exact ih2 _ _ _ _ _ _ _)
      | (with_reducible exact parterreref01_MulDiv.mono _ _ _ _)
      | (with_reducible exact LeO.refl _)
      | (with_reducible exact LeO.none _)
      | (with_reducible refine LeO.ite ?_ ?_)
      | (with_reducible refine LeO.bind ?_ (fun _ => ?_))
      | exact ih0 _ _ _
      | exact ih1 _ _ _ _
      | exact ih2 _ _ _ _ _ _ _
      | exact parterreref01_MulDiv.mono _ _ _ _
      | exact LeO.none _
      | refine LeO.ite ?_ ?_
      | refine LeO.bind ?_ (fun _ => ?_)
    · intro y0 y1 y2 y3
      unfold parterreref01_Share.l0
      repeat' first
      | (with_reducible exact ih0 _ _ _)
      | (with_reducible exact ih1 _ _ _ _)
      | (with_reducible exact ih2 _ _ _ _ _ _ _)
      | (with_reducible exact parterreref01_MulDiv.mono _ _ _ _)
      | (with_reducible exact LeO.refl _)
      | (with_reducible exact LeO.none _)
      | (with_reducible refine LeO.ite ?_ ?_)
      | (with_reducible refine LeO.bind ?_ (fun _ => ?_))
      | exact ih0 _ _ _
      | exact ih1 _ _ _ _
      | exact ih2 _ _ _ _ _ _ _
      | exact parterreref01_MulDiv.mono _ _ _ _
      | exact LeO.none _
      | refine LeO.ite ?_ ?_
      | refine LeO.bind ?_ (fun _ => ?_)
    · intro y0 y1 y2 y3 y4 y5 y6
      unfold parterreref01_Share.l1
      repeat' first
      | (with_reducible exact ih0 _ _ _)
      | (with_reducible exact ih1 _ _ _ _)
      | (with_reducible exact ih2 _ _ _ _ _ _ _)
      | (with_reducible exact parterreref01_MulDiv.mono _ _ _ _)
      | (with_reducible exact LeO.refl _)
      | (with_reducible exact LeO.none _)
      | (with_reducible refine LeO.ite ?_ ?_)
      | (with_reducible refine LeO.bind ?_ (fun _ => ?_))
      | exact ih0 _ _ _
      | exact ih1 _ _ _ _
      | exact ih2 _ _ _ _ _ _ _
      | exact parterreref01_MulDiv.mono _ _ _ _
      | exact LeO.none _
      | refine LeO.ite ?_ ?_
      | refine LeO.bind ?_ (fun _ => ?_)
theorem parterreref01_Share.mono : ∀ a0 a1 k, LeO (parterreref01_Share.f k a0 a1) (parterreref01_Share.f (k + 1) a0 a1) := by
  intro a0 a1 k
  obtain ⟨ih0, ih1, ih2⟩ := parterreref01_Share.mono_l k
  unfold parterreref01_Share.f
  repeat' first
      | (with_reducible exact ih0 _ _ _)
      | (with_reducible exact ih1 _ _ _ _)
      | (with_reducible exact ih2 _ _ _ _ _ _ _)
      | (with_reducible exact parterreref01_MulDiv.mono _ _ _ _)
      | (with_reducible exact LeO.refl _)
      | (with_reducible exact LeO.none _)
      | (with_reducible refine LeO.ite ?_ ?_)
      | (with_reducible refine LeO.bind ?_ (fun _ => ?_))
      | exact ih0 _ _ _
      | exact ih1 _ _ _ _
      | exact ih2 _ _ _ _ _ _ _
      | exact parterreref01_MulDiv.mono _ _ _ _
      | exact LeO.none _
      | refine LeO.ite ?_ ?_
      | refine LeO.bind ?_ (fun _ => ?_)
set_option maxHeartbeats 8000000 in
set_option maxRecDepth 100000 in
theorem parterreref01_Share.calls (k : Nat) (a0 : Int) (A1 : Option Addr) (c1 : Nat) (l1 : List Int) (r : List Int) (w : World) (hr1 : Kd.C (Kd.int .i64) w A1 l1.length l1) (hc1 : l1.length ≤ c1) (h : parterreref01_Share.f k a0 l1 = some r) :
    Calls Try.prog 22 #[.int .i64 a0, .slice A1 l1.length c1] w fun e w' => ∃ v0_ : Value, e = .returned (v0_) ∧ Kd.R (Kd.int .i64) 3 w' w.heap.size (fun _ => True) v0_ r ∧ Below w.heap.size w w' := by
  have HR1 := Aside0.mk hr1
  have HC1 := Aside0.mk hc1
  clear hr1 hc1
  have HB := Aside0.mk (Below.refl w.heap.size w)
  have H : (if a0 < 0 then (parterreref01_Share.j0 k a0 l1 true) else (if a0 > 68719476736 then (parterreref01_Share.j0 k a0 l1 true) else (if (l1.length : Int) = 0 then (parterreref01_Share.j0 k a0 l1 true) else (parterreref01_Share.j0 k a0 l1 (decide ((l1.length : Int) > 65536)))))) = some r := h
  clear h
  have HC3 := Aside0.mk H
  clear H
  go_enter Try.func22, Try.ntmps22
  go_upto_region 1 with (fail)
  go_cut [28] (fun v28 wc => ∃ (kq : Nat) (x28_2 : Bool), v28 = .bool x28_2 ∧ Aside0 (parterreref01_Share.j0 kq a0 l1 x28_2 = some r) ∧ Aside0 (kq ≤ k) ∧ Aside0 (Below w.heap.size w wc))
  case first =>
    have H := HC3.out
    clear HC3
    by_cases c4 : a0 < 0
    · rw [if_pos c4] at H
      have c4b0 : decide (a0 < 0) = true := decide_eq_true c4
      clear c4
      (first | rw [c4b0] | (simp only [i64_w, i32_w]; rw [c4b0]) | skip)
      have H' := Aside0.mk H
      clear H
      go_wp2
      go_meet
      case rel => exact ⟨_, (true), pmAx14_7_, H', ⟨by first | omega | exact Nat.le_refl _⟩, ⟨by repeat (first | (with_reducible first | exact HB.out | apply below_alloc | apply pw_below_drewN | apply below_drew1) | exact HB.out)⟩⟩
    · rw [if_neg c4] at H
      have c4b0 : decide (a0 < 0) = false := decide_eq_false c4
      clear c4
      (first | rw [c4b0] | (simp only [i64_w, i32_w]; rw [c4b0]) | skip)
      by_cases c5 : a0 > 68719476736
      · rw [if_pos c5] at H
        have c5b0 : decide (68719476736 < a0) = true := decide_eq_true c5
        clear c5
        have H' := Aside0.mk H
        clear H
        go_wp2
        go_meet
        case rel => exact ⟨_, (true), pmAx14_7_, H', ⟨by first | omega | exact Nat.le_refl _⟩, ⟨by repeat (first | (with_reducible first | exact HB.out | apply below_alloc | apply pw_below_drewN | apply below_drew1) | exact HB.out)⟩⟩
      · rw [if_neg c5] at H
        have c5b0 : decide (68719476736 < a0) = false := decide_eq_false c5
        clear c5
        by_cases c6 : (l1.length : Int) = 0
        · rw [if_pos c6] at H
          have c6b0 : ((l1.length : Int) == 0) = true := beq_iff_eq.mpr c6
          have c6b1 : ((l1.length : Int) != 0) = false := bne_eq_false_iff_eq.mpr c6
          clear c6
          have H' := Aside0.mk H
          clear H
          go_wp2
          go_meet
          case rel => exact ⟨_, (true), pmAx14_7_, H', ⟨by first | omega | exact Nat.le_refl _⟩, ⟨by repeat (first | (with_reducible first | exact HB.out | apply below_alloc | apply pw_below_drewN | apply below_drew1) | exact HB.out)⟩⟩
        · rw [if_neg c6] at H
          have c6b0 : ((l1.length : Int) == 0) = false := beq_eq_false_iff_ne.mpr c6
          have c6b1 : ((l1.length : Int) != 0) = true := bne_iff_ne.mpr c6
          have c6b2 : ¬ (l1 = []) := fun h_ => c6 (by rw [h_]; rfl)
          have H' := Aside0.mk H
          clear H
          go_wp2
          go_meet
          case rel => exact ⟨_, (decide ((l1.length : Int) > 65536)), pmAx14_7_, H', ⟨by first | omega | exact Nat.le_refl _⟩, ⟨by repeat (first | (with_reducible first | exact HB.out | apply below_alloc | apply pw_below_drewN | apply below_drew1) | exact HB.out)⟩⟩
  case rest =>
    clear HC3
    try clear c1
    try clear c2
    try clear p2
    try clear c4
    try clear c4b0
    try clear c5
    try clear c5b0
    try clear c6
    try clear c6b0
    try clear c6b1
    try clear c6b2
    obtain ⟨kq, x28_2, rfl, HA, HJ2, HB⟩ := hcut
    cases kq with
    | zero => exact absurd HA.out (by simp [parterreref01_Share.j0])
    | succ kj2 =>
      have H := HA.out
      clear HA
      simp only [parterreref01_Share.j0] at H
      by_cases c7 : x28_2 = true
      · subst c7
        have H1 : (some ([] : List Int)) = some r := by rw [if_pos rfl] at H; exact H
        clear H
        have H := H1
        clear H1
        obtain rfl := Option.some.inj H
        go_wp2
        go_ret
        exact ⟨_, by first | rfl | (simp [errW_none, errW_some] <;> rfl) | (simp [*, errW_none, errW_some] <;> rfl), by first | exact Kd.R_nil _ _ _ _ _ | exact Kd.N_nil _ _ _ _ _ | exact Kd.V_nil _ _ _ _ _ | exact Kd.Q_nil _ _ _ _ _ | exact Kd.S_nil _ _ _ _ _, by repeat (first | (with_reducible first | exact HB.out | apply below_alloc | apply pw_below_drewN | apply below_drew1) | exact HB.out)⟩
      · replace c7 := Bool.eq_false_iff.mpr c7
        subst c7
        have H1 : (parterreref01_Share.l0 kj2 a0 l1 0 0) = some r := by rw [if_neg (show ¬ (false = true) by decide)] at H; exact H
        clear H
        have H := H1
        clear H1
        have H' := Aside0.mk H
        clear H
        go_wp2
        go_loopg [5, 6] kj2 (fun kq v5 v6 w' => ∃ (x5_2 : Int) (x6_2 : Int), v5 = .int .i64 x5_2 ∧ v6 = .int .i64 x6_2 ∧ Aside0 (parterreref01_Share.l0 kq a0 l1 x5_2 x6_2 = some r) ∧ Aside0 (kq ≤ kj2) ∧ Aside0 (Below w.heap.size w w'))
        case atStart => exact ⟨(0), (0), pmAx14_7_, pmAx14_7_, H', ⟨Nat.le_refl _⟩, ⟨by repeat (first | (with_reducible first | exact HB.out | apply below_alloc | apply pw_below_drewN | apply below_drew1) | exact HB.out)⟩⟩
        case round =>
          clear H'
          try clear c1
          try clear c2
          try clear p2
          try clear c4
          try clear c4b0
          try clear c5
          try clear c5b0
          try clear c6
          try clear c6b0
          try clear c6b1
          try clear c6b2
          try clear c7
          try clear p2
          obtain ⟨x5_2, x6_2, rfl, rfl, HA, HK2, HB⟩ := hrel
          cases gk with
          | zero => exact absurd HA.out (by simp [parterreref01_Share.l0])
          | succ k2 =>
            have H := HA.out
            clear HA
            simp only [parterreref01_Share.l0] at H
            by_cases c8 : x6_2 < (l1.length : Int)
            · rw [if_pos c8] at H
              have c8b0 : decide (x6_2 < (l1.length : Int)) = true := decide_eq_true c8
              clear c8
              by_cases c9 : 0 ≤ x6_2
              · rw [if_pos c9] at H
                have c9b0 : decide (0 ≤ x6_2) = true := decide_eq_true c9
                clear c9
                by_cases c10 : (rd l1 x6_2) < 0
                · rw [if_pos c10] at H
                  have c10b0 : decide ((rd l1 x6_2) < 0) = true := decide_eq_true c10
                  clear c10
                  obtain rfl := Option.some.inj H
                  have p306 : 0 ≤ (x6_2 : Int) := of_decide_eq_true pmAx14_8_
                  have q306 : x6_2 < (l1.length : Int) := of_decide_eq_true pmAx14_8_
                  obtain ⟨ad306, e306, hx306_0⟩ := Kd.at_int HR1.out x6_2 p306 q306
                  cases e306
                  replace hx306_0 := (HB.out.cell (World.block_lt_of_cell? w _ hx306_0)).trans hx306_0
                  replace p306 := eq_true p306
                  replace q306 := eq_true q306
                  go_wp2
                  go_ret
                  exact ⟨_, by first | rfl | (simp [errW_none, errW_some] <;> rfl) | (simp [*, errW_none, errW_some] <;> rfl), by first | exact Kd.R_nil _ _ _ _ _ | exact Kd.N_nil _ _ _ _ _ | exact Kd.V_nil _ _ _ _ _ | exact Kd.Q_nil _ _ _ _ _ | exact Kd.S_nil _ _ _ _ _, by repeat (first | (with_reducible first | exact HB.out | apply below_alloc | apply pw_below_drewN | apply below_drew1) | exact HB.out)⟩
                · rw [if_neg c10] at H
                  have c10b0 : decide ((rd l1 x6_2) < 0) = false := decide_eq_false c10
                  clear c10
                  by_cases c11 : (rd l1 x6_2) > 1073741824
                  · rw [if_pos c11] at H
                    have c11b0 : decide (1073741824 < (rd l1 x6_2)) = true := decide_eq_true c11
                    clear c11
                    obtain rfl := Option.some.inj H
                    have p306 : 0 ≤ (x6_2 : Int) := of_decide_eq_true pmAx14_8_
                    have q306 : x6_2 < (l1.length : Int) := of_decide_eq_true pmAx14_8_
                    obtain ⟨ad306, e306, hx306_0⟩ := Kd.at_int HR1.out x6_2 p306 q306
                    cases e306
                    replace hx306_0 := (HB.out.cell (World.block_lt_of_cell? w _ hx306_0)).trans hx306_0
                    replace p306 := eq_true p306
                    replace q306 := eq_true q306
                    have p307 : 0 ≤ (x6_2 : Int) := of_decide_eq_true pmAx14_8_
                    have q307 : x6_2 < (l1.length : Int) := of_decide_eq_true pmAx14_8_
                    obtain ⟨ad307, e307, hx307_0⟩ := Kd.at_int HR1.out x6_2 p307 q307
                    obtain rfl : ad306 = ad307 := (by injection e307)
                    replace hx307_0 := (HB.out.cell (World.block_lt_of_cell? w _ hx307_0)).trans hx307_0
                    replace p307 := eq_true p307
                    replace q307 := eq_true q307
                    go_wp2
                    go_ret
                    exact ⟨_, by first | rfl | (simp [errW_none, errW_some] <;> rfl) | (simp [*, errW_none, errW_some] <;> rfl), by first | exact Kd.R_nil _ _ _ _ _ | exact Kd.N_nil _ _ _ _ _ | exact Kd.V_nil _ _ _ _ _ | exact Kd.Q_nil _ _ _ _ _ | exact Kd.S_nil _ _ _ _ _, by repeat (first | (with_reducible first | exact HB.out | apply below_alloc | apply pw_below_drewN | apply below_drew1) | exact HB.out)⟩
                  · rw [if_neg c11] at H
                    have c11b0 : decide (1073741824 < (rd l1 x6_2)) = false := decide_eq_false c11
                    clear c11
                    have H' := Aside0.mk H
                    clear H
                    have p306 : 0 ≤ (x6_2 : Int) := of_decide_eq_true pmAx14_8_
                    have q306 : x6_2 < (l1.length : Int) := of_decide_eq_true pmAx14_8_
                    obtain ⟨ad306, e306, hx306_0⟩ := Kd.at_int HR1.out x6_2 p306 q306
                    cases e306
                    replace hx306_0 := (HB.out.cell (World.block_lt_of_cell? w _ hx306_0)).trans hx306_0
                    replace p306 := eq_true p306
                    replace q306 := eq_true q306
                    have p307 : 0 ≤ (x6_2 : Int) := of_decide_eq_true pmAx14_8_
                    have q307 : x6_2 < (l1.length : Int) := of_decide_eq_true pmAx14_8_
                    obtain ⟨ad307, e307, hx307_0⟩ := Kd.at_int HR1.out x6_2 p307 q307
                    obtain rfl : ad306 = ad307 := (by injection e307)
                    replace hx307_0 := (HB.out.cell (World.block_lt_of_cell? w _ hx307_0)).trans hx307_0
                    replace p307 := eq_true p307
                    replace q307 := eq_true q307
                    have p308 : 0 ≤ (x6_2 : Int) := of_decide_eq_true pmAx14_8_
                    have q308 : x6_2 < (l1.length : Int) := of_decide_eq_true pmAx14_8_
                    obtain ⟨ad308, e308, hx308_0⟩ := Kd.at_int HR1.out x6_2 p308 q308
                    obtain rfl : ad306 = ad308 := (by injection e308)
                    replace hx308_0 := (HB.out.cell (World.block_lt_of_cell? w _ hx308_0)).trans hx308_0
                    replace p308 := eq_true p308
                    replace q308 := eq_true q308
                    go_wp2
                    go_roundg k2
                    case measure => have := HJ2.out; have := HK2.out; omega
                    case rel => exact ⟨(wrap64 (x5_2 + (rd l1 x6_2))), (wrap64 (x6_2 + 1)), pmAx14_7_, pmAx14_7_, H', ⟨by have := HJ2.out; have := HK2.out; omega⟩, ⟨by repeat (first | (with_reducible first | exact HB.out | apply below_alloc | apply pw_below_drewN | apply below_drew1) | exact HB.out)⟩⟩
              · rw [if_neg c9] at H
                exact absurd H (by simp)
            · rw [if_neg c8] at H
              have c8b0 : decide (x6_2 < (l1.length : Int)) = false := decide_eq_false c8
              clear c8
              by_cases c12 : x5_2 = 0
              · rw [if_pos c12] at H
                have c12b0 : (x5_2 == 0) = true := beq_iff_eq.mpr c12
                have c12b1 : (x5_2 != 0) = false := bne_eq_false_iff_eq.mpr c12
                clear c12
                obtain rfl := Option.some.inj H
                go_wp2
                go_ret
                exact ⟨_, by first | rfl | (simp [errW_none, errW_some] <;> rfl) | (simp [*, errW_none, errW_some] <;> rfl), by first | exact Kd.R_nil _ _ _ _ _ | exact Kd.N_nil _ _ _ _ _ | exact Kd.V_nil _ _ _ _ _ | exact Kd.Q_nil _ _ _ _ _ | exact Kd.S_nil _ _ _ _ _, by repeat (first | (with_reducible first | exact HB.out | apply below_alloc | apply pw_below_drewN | apply below_drew1) | exact HB.out)⟩
              · rw [if_neg c12] at H
                have c12b0 : (x5_2 == 0) = false := beq_eq_false_iff_ne.mpr c12
                have c12b1 : (x5_2 != 0) = true := bne_iff_ne.mpr c12
                have H' := Aside0.mk H
                clear H
                go_wp2
                go_loopg [7, 8, 9, 10] k2 (fun kq v7 v8 v9 v10 w' => ∃ (x7_3 : List Int) (x8_3 : Int) (x9_3 : Int) (x10_3 : Int), v8 = .int .i64 x8_3 ∧ v9 = .int .i64 x9_3 ∧ v10 = .int .i64 x10_3 ∧ Aside0 (parterreref01_Share.l1 kq a0 l1 x5_2 x7_3 x8_3 x9_3 x10_3 = some r) ∧ Aside0 (kq ≤ k2) ∧ Aside0 (Kd.R (Kd.int .i64) 3 w' w.heap.size (fun _ => True) v7 x7_3) ∧ Aside0 (Below w.heap.size w w'))
                case atStart => exact ⟨(([] : List Int)), (0), (0), (0), pmAx14_7_, pmAx14_7_, pmAx14_7_, H', ⟨Nat.le_refl _⟩, ⟨by first | exact Kd.R_nil _ _ _ _ _ | exact Kd.N_nil _ _ _ _ _ | exact Kd.V_nil _ _ _ _ _ | exact Kd.Q_nil _ _ _ _ _ | exact Kd.S_nil _ _ _ _ _⟩, ⟨by repeat (first | (with_reducible first | exact HB.out | apply below_alloc | apply pw_below_drewN | apply below_drew1) | exact HB.out)⟩⟩
                case round =>
                  clear H'
                  try clear c1
                  try clear c2
                  try clear p2
                  try clear p3
                  try clear q3
                  try clear hx3
                  try clear c4
                  try clear c4b0
                  try clear c5
                  try clear c5b0
                  try clear c6
                  try clear c6b0
                  try clear c6b1
                  try clear c6b2
                  try clear p6
                  try clear c7
                  try clear c8
                  try clear c8b0
                  try clear c9
                  try clear c9b0
                  try clear c10
                  try clear c10b0
                  try clear c11
                  try clear c11b0
                  try clear c12
                  try clear c12b0
                  try clear c12b1
                  try clear hx306_0
                  try clear hx307_0
                  try clear hx308_0
                  try clear p2
                  try clear p306
                  try clear p307
                  try clear p308
                  try clear q306
                  try clear q307
                  try clear q308
                  obtain ⟨x7_3, x8_3, x9_3, x10_3, rfl, rfl, rfl, HA, HK3, HO_7, HB⟩ := hrel
                  cases gk with
                  | zero => exact absurd HA.out (by simp [parterreref01_Share.l1])
                  | succ k3 =>
                    have H := HA.out
                    clear HA
                    simp only [parterreref01_Share.l1] at H
                    by_cases c13 : x10_3 < (l1.length : Int)
                    · rw [if_pos c13] at H
                      have c13b0 : decide (x10_3 < (l1.length : Int)) = true := decide_eq_true c13
                      clear c13
                      by_cases c14 : 0 ≤ x10_3
                      · rw [if_pos c14] at H
                        have c14b0 : decide (0 ≤ x10_3) = true := decide_eq_true c14
                        clear c14
                        replace H := Option.bind_eq_some_iff.mp H
                        obtain ⟨⟨t310, t311⟩, A150, H⟩ := H
                        replace H : (if x7_3.length < 17592186044416 then (parterreref01_Share.l1 k3 a0 l1 x5_2 (x7_3 ++ [wrap64 (t310 - x9_3)]) (wrap64 (x8_3 + (rd l1 x10_3))) t310 (wrap64 (x10_3 + 1))) else (none)) = some r := H
                        have A15 := Aside0.mk A150
                        clear A150
                        by_cases c16 : x7_3.length < 17592186044416
                        · rw [if_pos c16] at H
                          have LMc16 := Aside0.mk c16
                          clear c16
                          obtain ⟨y312, hy312⟩ : ∃ y_ : List Int, y_ = (x7_3 ++ [wrap64 (t310 - x9_3)]) := ⟨_, rfl⟩
                          replace H : (parterreref01_Share.l1 k3 a0 l1 x5_2 y312 (wrap64 (x8_3 + (rd l1 x10_3))) t310 (wrap64 (x10_3 + 1))) = some r := by first | (rw [hy312]; with_reducible exact H) | (have H2_ := (Option.bind_some _ _).symm.trans H; rw [hy312]; with_reducible exact H2_) | (have H2_ := (Option.bind_some _ _).symm.trans H; with_reducible exact H2_) | with_reducible exact H | (rw [hy312]; exact H) | exact H
                          have Ny312 := Aside0.mk hy312
                          clear hy312
                          have H' := Aside0.mk H
                          clear H
                          have p309 : 0 ≤ (x10_3 : Int) := of_decide_eq_true pmAx14_8_
                          have q309 : x10_3 < (l1.length : Int) := of_decide_eq_true pmAx14_8_
                          obtain ⟨ad309, e309, hx309_0⟩ := Kd.at_int HR1.out x10_3 p309 q309
                          cases e309
                          replace hx309_0 := (HB.out.cell (World.block_lt_of_cell? w _ hx309_0)).trans hx309_0
                          replace p309 := eq_true p309
                          replace q309 := eq_true q309
                          go_wp2_with (first | ((with_reducible refine gate_callee (f := 24) rfl ?_); refine goesL_ (some 71) rfl rfl Try.func24 (by kernel_rfl) rfl #[.int .i64 a0, .int .i64 (wrap64 (x8_3 + (rd l1 x10_3))), .int .i64 x5_2] rfl pmAx14_2_ ?_; (with_reducible refine (parterreref01_MulDiv.calls k3 a0 (wrap64 (x8_3 + (rd l1 x10_3))) x5_2 t310 t311 _ A15.out).mono ?_); rintro e w17 ⟨rfl, hb⟩; refine ⟨_, rfl, ?_⟩; have n0_ := Aside0.mk (Kd.R_below (by (with_reducible repeat (first | apply Kd.R_alloc | apply Kd.R_drewN | apply Kd.R_drew)); exact HO_7.out) hb); have n1_ := Aside0.mk (below_step pmAx14_0_ hb); clear HO_7; clear HB; have HO_7 := n0_; have HB := n1_; clear n0_ n1_; (try clear hb); (try clear hb2); (try clear hk); (try clear hi)) | ((with_reducible refine gate_builtin (b := .append) (xs := #[.tmp 74, .tmp 78]) rfl ?_); (try (refine gate_guard (by rfl) ?_; dsimp only)); at_builtin; refine Kd.R_append (Kd.int .i64) (w0 := w) w.heap.size rfl (.tmp 74) (.tmp 78) 22 3 (.int .i64 0) 8 rfl Try.underlying22 info3 rfl (by decide) (by omega) u7 x7_3 (wrap64 (t310 - x9_3)) [.int .i64 (wrap64 (t310 - x9_3))] (fun _ => True) (fun _ => False) rfl rfl ?aP (fun _ hk => hk.elim) ?aF ?aO ?aB ?aS ?aL ?_; (case aP => exact rfl); (case aB => exact pmAx14_0_); (case aF => exact (fun _ _ => trivial)); (case aO => exact (by (with_reducible repeat (first | apply Kd.R_alloc | apply Kd.R_drewN | apply Kd.R_drew)); exact HO_7.out)); (case aS => exact (below_size pmAx14_0_)); (case aL => have := LMc16.out; omega); intro v313 w18 ho hb hg hat; rw [← Ny312.out] at ho; have n0_ := Aside0.mk (hb); have n1_ := Aside0.mk (ho); clear HB; clear HO_7; have HB := n0_; have HO314 := n1_; clear n0_ n1_; clear ho hb hg hat))
                          go_roundg k3
                          case measure => have := HJ2.out; have := HK2.out; have := HK3.out; omega
                          case rel => exact ⟨(y312), (wrap64 (x8_3 + (rd l1 x10_3))), (t310), (wrap64 (x10_3 + 1)), pmAx14_7_, pmAx14_7_, pmAx14_7_, H', ⟨by have := HJ2.out; have := HK2.out; have := HK3.out; omega⟩, ⟨by (with_reducible repeat (first | apply Kd.R_alloc | apply Kd.R_drewN | apply Kd.R_drew)); exact HO314.out⟩, ⟨by repeat (first | (with_reducible first | exact HB.out | apply below_alloc | apply pw_below_drewN | apply below_drew1) | exact HB.out)⟩⟩
                        · rw [if_neg c16] at H
                          exact absurd H (by simp)
                      · rw [if_neg c14] at H
                        exact absurd H (by simp)
                    · rw [if_neg c13] at H
                      have c13b0 : decide (x10_3 < (l1.length : Int)) = false := decide_eq_false c13
                      clear c13
                      obtain rfl := Option.some.inj H
                      go_wp2
                      go_ret
                      exact ⟨_, by first | rfl | (simp [errW_none, errW_some] <;> rfl) | (simp [*, errW_none, errW_some] <;> rfl), by (with_reducible repeat (first | apply Kd.R_alloc | apply Kd.R_drewN | apply Kd.R_drew)); exact HO_7.out, by repeat (first | (with_reducible first | exact HB.out | apply below_alloc | apply pw_below_drewN | apply below_drew1) | exact HB.out)⟩

/-! ### parterreref23_By: function 14 -/
def parterreref23_By.j0 : Nat → Int → List Int → List Int → Bool → Option (List Int)
  | 0, _, _, _, _ => none
  | k + 1, x0, x1, x5, x20 => if x20 = true then (some x5) else ((parterreref01_Share.f k (mn x0 68719476736) x1).bind fun t318 => (if (t318.length : Int) > 0 then (some t318) else ((parterreref01_Split.f k x0 (x1.length : Int)).bind fun t321 => (if (t321.length : Int) > 0 then (some t321) else (some x5)))))
def parterreref23_By.f (k : Nat) (a0 : Int) (l1 : List Int) : Option (List Int) := if 0 ≤ (l1.length : Int) then (if ((l1.length : Int) : Int).toNat ≤ 35184372088832 then ((some (List.replicate ((l1.length : Int) : Int).toNat 0 : List Int)).bind fun y315 => (if a0 < 0 then (parterreref23_By.j0 k a0 l1 y315 true) else (if a0 ≥ 1125899906842624 then (parterreref23_By.j0 k a0 l1 y315 true) else (parterreref23_By.j0 k a0 l1 y315 (decide ((l1.length : Int) > 65536)))))) else (none)) else (none)
theorem parterreref23_By.mono_l : ∀ k, (∀ y0 y1 y2 y3, LeO (parterreref23_By.j0 k y0 y1 y2 y3) (parterreref23_By.j0 (k + 1) y0 y1 y2 y3))
  | 0 => fun _ _ _ _ r h => by simp [parterreref23_By.j0] at h
  | k + 1 => by
    have ih0 := parterreref23_By.mono_l k
    · intro y0 y1 y2 y3
      unfold parterreref23_By.j0
      repeat' first
      | (with_reducible exact ih0 _ _ _ _)
      | (with_reducible exact parterreref01_Share.mono _ _ _)
      | (with_reducible exact parterreref01_Split.mono _ _ _)
      | (with_reducible exact LeO.refl _)
      | (with_reducible exact LeO.none _)
      | (with_reducible refine LeO.ite ?_ ?_)
      | (with_reducible refine LeO.bind ?_ (fun _ => ?_))
      | exact ih0 _ _ _ _
      | exact parterreref01_Share.mono _ _ _
      | exact parterreref01_Split.mono _ _ _
      | exact LeO.none _
      | refine LeO.ite ?_ ?_
      | refine LeO.bind ?_ (fun _ => ?_)
theorem parterreref23_By.mono : ∀ a0 a1 k, LeO (parterreref23_By.f k a0 a1) (parterreref23_By.f (k + 1) a0 a1) := by
  intro a0 a1 k
  have ih0 := parterreref23_By.mono_l k
  unfold parterreref23_By.f
  repeat' first
      | (with_reducible exact ih0 _ _ _ _)
      | (with_reducible exact parterreref01_Share.mono _ _ _)
      | (with_reducible exact parterreref01_Split.mono _ _ _)
      | (with_reducible exact LeO.refl _)
      | (with_reducible exact LeO.none _)
      | (with_reducible refine LeO.ite ?_ ?_)
      | (with_reducible refine LeO.bind ?_ (fun _ => ?_))
      | exact ih0 _ _ _ _
      | exact parterreref01_Share.mono _ _ _
      | exact parterreref01_Split.mono _ _ _
      | exact LeO.none _
      | refine LeO.ite ?_ ?_
      | refine LeO.bind ?_ (fun _ => ?_)
set_option maxHeartbeats 8000000 in
set_option maxRecDepth 100000 in
theorem parterreref23_By.calls (k : Nat) (a0 : Int) (A1 : Option Addr) (c1 : Nat) (l1 : List Int) (r : List Int) (w : World) (hr1 : Kd.C (Kd.int .i64) w A1 l1.length l1) (hc1 : l1.length ≤ c1) (h : parterreref23_By.f k a0 l1 = some r) :
    Calls Try.prog 14 #[.int .i64 a0, .slice A1 l1.length c1] w fun e w' => ∃ v0_ : Value, e = .returned (v0_) ∧ Kd.R (Kd.int .i64) 3 w' w.heap.size (fun _ => True) v0_ r ∧ Below w.heap.size w w' := by
  have HR1 := Aside0.mk hr1
  have HC1 := Aside0.mk hc1
  clear hr1 hc1
  have HB := Aside0.mk (Below.refl w.heap.size w)
  have H : (if 0 ≤ (l1.length : Int) then (if ((l1.length : Int) : Int).toNat ≤ 35184372088832 then ((some (List.replicate ((l1.length : Int) : Int).toNat 0 : List Int)).bind fun y315 => (if a0 < 0 then (parterreref23_By.j0 k a0 l1 y315 true) else (if a0 ≥ 1125899906842624 then (parterreref23_By.j0 k a0 l1 y315 true) else (parterreref23_By.j0 k a0 l1 y315 (decide ((l1.length : Int) > 65536)))))) else (none)) else (none)) = some r := h
  clear h
  by_cases c3 : 0 ≤ (l1.length : Int)
  · rw [if_pos c3] at H
    have c3b0 := eq_true c3
    have c3b1 : decide (0 ≤ (l1.length : Int)) = true := decide_eq_true c3
    clear c3
    by_cases c4 : ((l1.length : Int) : Int).toNat ≤ 35184372088832
    · rw [if_pos c4] at H
      have c4b0 := eq_true c4
      have c4b1 : decide (((l1.length : Int) : Int).toNat ≤ 35184372088832) = true := decide_eq_true c4
      clear c4
      obtain ⟨y315, hy315⟩ : ∃ y_ : List Int, y_ = (List.replicate ((l1.length : Int) : Int).toNat 0) := ⟨_, rfl⟩
      replace H : (if a0 < 0 then (parterreref23_By.j0 k a0 l1 y315 true) else (if a0 ≥ 1125899906842624 then (parterreref23_By.j0 k a0 l1 y315 true) else (parterreref23_By.j0 k a0 l1 y315 (decide ((l1.length : Int) > 65536))))) = some r := by first | (rw [hy315]; with_reducible exact H) | (have H2_ := (Option.bind_some _ _).symm.trans H; rw [hy315]; with_reducible exact H2_) | (have H2_ := (Option.bind_some _ _).symm.trans H; with_reducible exact H2_) | with_reducible exact H | (rw [hy315]; exact H) | exact H
      have Ny315 := Aside0.mk hy315
      clear hy315
      have HC5 := Aside0.mk H
      clear H
      go_enter Try.func14, Try.ntmps14
      go_upto_region 2 with (first | ((with_reducible refine gate_dst (N := 9) rfl ?_); (try (refine gate_guard (by rfl) ?_; dsimp only)); refine Kd.R_make (Kd.int .i64) _ 3 rfl (N := 9) rfl 22 _ _ rfl (l1.length : Int) rfl rfl Try.underlying22 (.int .i64 0) 8 info3 rfl (by decide) (by omega) 0 (ok := fun _ => True) (okp := fun _ => True) rfl (fun _ hk => hk) trivial (of_decide_eq_true pmAx14_8_) (Nat.le_trans (Nat.mul_le_mul_right _ (of_decide_eq_true pmAx14_8_ : (l1.length : Int).toNat ≤ 35184372088832)) (by omega)) (Below.refl _ _) (Nat.le_refl _) ?_; intro v316 w6 ho7 hb hg_ hnew_; clear hg_ hnew_; (first | rw [← Ny315.out] at ho7 | (simp only [Int.reduceToNat] at ho7; rw [← Ny315.out] at ho7)); have n0_ := Aside0.mk (Kd.R_lower ho7 (below_size pmAx14_0_)); have n1_ := Aside0.mk (below_step pmAx14_0_ hb); clear HB; have HO317 := n0_; have HB := n1_; clear n0_ n1_; clear hb ho7))
      (try simp only [Act.put, List.setIfInBounds_toArray, List.set_cons_zero, List.set_cons_succ])
      go_cut [20] (fun v20 wc => ∃ (kq : Nat) (x20_4 : Bool), v20 = .bool x20_4 ∧ Aside0 (parterreref23_By.j0 kq a0 l1 y315 x20_4 = some r) ∧ Aside0 (kq ≤ k) ∧ Aside0 (Kd.R (Kd.int .i64) 3 wc w.heap.size (fun _ => True) v316 y315) ∧ Aside0 (Below w.heap.size w wc))
      case first =>
        have H := HC5.out
        clear HC5
        by_cases c8 : a0 < 0
        · rw [if_pos c8] at H
          have c8b0 : decide (a0 < 0) = true := decide_eq_true c8
          clear c8
          (first | rw [c8b0] | (simp only [i64_w, i32_w]; rw [c8b0]) | skip)
          have H' := Aside0.mk H
          clear H
          go_wp2
          go_meet
          case rel => exact ⟨_, (true), pmAx14_7_, H', ⟨by first | omega | exact Nat.le_refl _⟩, ⟨by (with_reducible repeat (first | apply Kd.R_alloc | apply Kd.R_drewN | apply Kd.R_drew)); exact HO317.out⟩, ⟨by repeat (first | (with_reducible first | exact HB.out | apply below_alloc | apply pw_below_drewN | apply below_drew1) | exact HB.out)⟩⟩
        · rw [if_neg c8] at H
          have c8b0 : decide (a0 < 0) = false := decide_eq_false c8
          clear c8
          (first | rw [c8b0] | (simp only [i64_w, i32_w]; rw [c8b0]) | skip)
          by_cases c9 : a0 ≥ 1125899906842624
          · rw [if_pos c9] at H
            have c9b0 : decide (1125899906842624 ≤ a0) = true := decide_eq_true c9
            clear c9
            have H' := Aside0.mk H
            clear H
            go_wp2
            go_meet
            case rel => exact ⟨_, (true), pmAx14_7_, H', ⟨by first | omega | exact Nat.le_refl _⟩, ⟨by (with_reducible repeat (first | apply Kd.R_alloc | apply Kd.R_drewN | apply Kd.R_drew)); exact HO317.out⟩, ⟨by repeat (first | (with_reducible first | exact HB.out | apply below_alloc | apply pw_below_drewN | apply below_drew1) | exact HB.out)⟩⟩
          · rw [if_neg c9] at H
            have c9b0 : decide (1125899906842624 ≤ a0) = false := decide_eq_false c9
            clear c9
            have H' := Aside0.mk H
            clear H
            go_wp2
            go_meet
            case rel => exact ⟨_, (decide ((l1.length : Int) > 65536)), pmAx14_7_, H', ⟨by first | omega | exact Nat.le_refl _⟩, ⟨by (with_reducible repeat (first | apply Kd.R_alloc | apply Kd.R_drewN | apply Kd.R_drew)); exact HO317.out⟩, ⟨by repeat (first | (with_reducible first | exact HB.out | apply below_alloc | apply pw_below_drewN | apply below_drew1) | exact HB.out)⟩⟩
      case rest =>
        clear HC5
        try clear c1
        try clear p2
        try clear c3
        try clear c3b0
        try clear c3b1
        try clear c4
        try clear c4b0
        try clear c4b1
        try clear c8
        try clear c8b0
        try clear c9
        try clear c9b0
        obtain ⟨kq, x20_4, rfl, HA, HJ4, HO_5, HB⟩ := hcut
        cases kq with
        | zero => exact absurd HA.out (by simp [parterreref23_By.j0])
        | succ kj4 =>
          have H := HA.out
          clear HA
          simp only [parterreref23_By.j0] at H
          by_cases c10 : x20_4 = true
          · subst c10
            have H1 : (some y315) = some r := by rw [if_pos rfl] at H; exact H
            clear H
            have H := H1
            clear H1
            obtain rfl := Option.some.inj H
            go_wp2
            go_ret
            exact ⟨_, by first | rfl | (simp [errW_none, errW_some] <;> rfl) | (simp [*, errW_none, errW_some] <;> rfl), by (with_reducible repeat (first | apply Kd.R_alloc | apply Kd.R_drewN | apply Kd.R_drew)); exact HO_5.out, by repeat (first | (with_reducible first | exact HB.out | apply below_alloc | apply pw_below_drewN | apply below_drew1) | exact HB.out)⟩
          · replace c10 := Bool.eq_false_iff.mpr c10
            subst c10
            have H1 : ((parterreref01_Share.f kj4 (mn a0 68719476736) l1).bind fun t318 => (if (t318.length : Int) > 0 then (some t318) else ((parterreref01_Split.f kj4 a0 (l1.length : Int)).bind fun t321 => (if (t321.length : Int) > 0 then (some t321) else (some y315))))) = some r := by rw [if_neg (show ¬ (false = true) by decide)] at H; exact H
            clear H
            have H := H1
            clear H1
            obtain ⟨ji11, hji11⟩ : ∃ j_ : Int, (mn a0 68719476736) = j_ := ⟨_, rfl⟩
            replace H : ((parterreref01_Share.f kj4 (ji11) l1).bind fun t318 => (if (t318.length : Int) > 0 then (some t318) else ((parterreref01_Split.f kj4 a0 (l1.length : Int)).bind fun t321 => (if (t321.length : Int) > 0 then (some t321) else (some y315))))) = some r := by first | (rw [hji11] at H; exact H) | (simp only [hji11] at H ⊢; exact H)
            (try (have hji11h : ji11 ≤ 68719476736 := by (rw [← hji11]; unfold mn; (repeat' split) <;> omega)))
            (try (have hji11g : ji11 ≤ 64 := by omega))
            have hji11_ : (if 68719476736 < a0 then 68719476736 else a0) = ji11 := hji11
            replace H := Option.bind_eq_some_iff.mp H
            obtain ⟨t318, A120, H⟩ := H
            replace H : (if (t318.length : Int) > 0 then (some t318) else ((parterreref01_Split.f kj4 a0 (l1.length : Int)).bind fun t321 => (if (t321.length : Int) > 0 then (some t321) else (some y315)))) = some r := H
            have A12 := Aside0.mk A120
            clear A120
            by_cases c13 : (t318.length : Int) > 0
            · rw [if_pos c13] at H
              have c13b0 : decide (0 < (t318.length : Int)) = true := decide_eq_true c13
              have c13b1 : decide (0 < t318.length) = true := decide_eq_true (by omega)
              clear c13
              obtain rfl := Option.some.inj H
              go_wp2_with (first | ((with_reducible refine gate_callee (f := 22) rfl ?_); refine goesL_ (some 25) rfl rfl Try.func22 (by kernel_rfl) rfl #[.int .i64 ji11, .slice A1 l1.length c1] rfl pmAx14_10_ ?_; (with_reducible refine (parterreref01_Share.calls kj4 ji11 _ _ l1 t318 _ ?side1 ?side2 A12.out).mono ?_); (case side1 => repeat (first | exact (Kd.C_below HR1.out HB.out) | (with_reducible refine Kd.C_alloc ?_ _) | (with_reducible refine Kd.C_drewN ?_ _) | (with_reducible refine Kd.C_drew ?_))); (case side2 => exact HC1.out); rintro e w14 ⟨v319, rfl, ho0, hb⟩; refine ⟨_, rfl, ?_⟩; have n0_ := Aside0.mk (Kd.R_elder' pmAx14_5_ (Kd.R_base ho0) hb); have n1_ := Aside0.mk (Kd.R_lower (Kd.R_new' ho0 (Kd.R_lt pmAx14_5_)) (below_size pmAx14_0_)); have n2_ := Aside0.mk (below_step pmAx14_0_ hb); clear HO_5; clear HB; have HO_5 := n0_; have HO320 := n1_; have HB := n2_; clear n0_ n1_ n2_; (try clear hb); (try clear hb2); (try clear hk); (try clear hi); (try clear ho0); obtain ⟨Ao15, co15, eo15⟩ := Kd.R_slice HO320.out; subst eo15))
              go_ret
              exact ⟨_, by first | rfl | (simp [errW_none, errW_some] <;> rfl) | (simp only [← hji11]; first | rfl | (simp [errW_none, errW_some] <;> rfl)) | (simp [*, errW_none, errW_some] <;> rfl), by (with_reducible repeat (first | apply Kd.R_alloc | apply Kd.R_drewN | apply Kd.R_drew)); exact Kd.R_mono HO320.out (fun _ hk => trivial), by repeat (first | (with_reducible first | exact HB.out | apply below_alloc | apply pw_below_drewN | apply below_drew1) | exact HB.out)⟩
            · rw [if_neg c13] at H
              have c13b0 : decide (0 < (t318.length : Int)) = false := decide_eq_false c13
              have c13b1 : decide (0 < t318.length) = false := decide_eq_false (by omega)
              clear c13
              replace H := Option.bind_eq_some_iff.mp H
              obtain ⟨t321, A160, H⟩ := H
              replace H : (if (t321.length : Int) > 0 then (some t321) else (some y315)) = some r := H
              have A16 := Aside0.mk A160
              clear A160
              by_cases c17 : (t321.length : Int) > 0
              · rw [if_pos c17] at H
                have c17b0 : decide (0 < (t321.length : Int)) = true := decide_eq_true c17
                have c17b1 : decide (0 < t321.length) = true := decide_eq_true (by omega)
                clear c17
                obtain rfl := Option.some.inj H
                go_wp2_with (first | ((with_reducible refine gate_callee (f := 22) rfl ?_); refine goesL_ (some 25) rfl rfl Try.func22 (by kernel_rfl) rfl #[.int .i64 ji11, .slice A1 l1.length c1] rfl pmAx14_10_ ?_; (with_reducible refine (parterreref01_Share.calls kj4 ji11 _ _ l1 t318 _ ?side1 ?side2 A12.out).mono ?_); (case side1 => repeat (first | exact (Kd.C_below HR1.out HB.out) | (with_reducible refine Kd.C_alloc ?_ _) | (with_reducible refine Kd.C_drewN ?_ _) | (with_reducible refine Kd.C_drew ?_))); (case side2 => exact HC1.out); rintro e w18 ⟨v319, rfl, ho0, hb⟩; refine ⟨_, rfl, ?_⟩; have n0_ := Aside0.mk (Kd.R_elder' pmAx14_5_ (Kd.R_base ho0) hb); have n1_ := Aside0.mk (Kd.R_lower (Kd.R_new' ho0 (Kd.R_lt pmAx14_5_)) (below_size pmAx14_0_)); have n2_ := Aside0.mk (below_step pmAx14_0_ hb); clear HO_5; clear HB; have HO_5 := n0_; have HO320 := n1_; have HB := n2_; clear n0_ n1_ n2_; (try clear hb); (try clear hb2); (try clear hk); (try clear hi); (try clear ho0); obtain ⟨Ao19, co19, eo19⟩ := Kd.R_slice HO320.out; subst eo19) | ((with_reducible refine gate_callee (f := 20) rfl ?_); refine goesL_ (some 33) rfl rfl Try.func20 (by kernel_rfl) rfl #[.int .i64 a0, .int .i64 (l1.length : Int)] rfl pmAx14_2_ ?_; (with_reducible refine (parterreref01_Split.calls kj4 a0 (l1.length : Int) t321 _ A16.out).mono ?_); rintro e w20 ⟨v322, rfl, ho0, hb⟩; refine ⟨_, rfl, ?_⟩; have n0_ := Aside0.mk (Kd.R_elder' pmAx14_5_ (Kd.R_base ho0) hb); have n1_ := Aside0.mk (Kd.R_elder' pmAx14_11_ (Kd.R_base ho0) hb); have n2_ := Aside0.mk (Kd.R_lower (Kd.R_new' (Kd.R_new' ho0 (Kd.R_lt pmAx14_5_)) (Kd.R_lt pmAx14_11_)) (below_size pmAx14_0_)); have n3_ := Aside0.mk (below_step pmAx14_0_ hb); clear HO_5; clear HO320; clear HB; have HO_5 := n0_; have HO320 := n1_; have HO323 := n2_; have HB := n3_; clear n0_ n1_ n2_ n3_; (try clear hb); (try clear hb2); (try clear hk); (try clear hi); (try clear ho0); obtain ⟨Ao21, co21, eo21⟩ := Kd.R_slice HO323.out; subst eo21))
                go_ret
                exact ⟨_, by first | rfl | (simp [errW_none, errW_some] <;> rfl) | (simp only [← hji11]; first | rfl | (simp [errW_none, errW_some] <;> rfl)) | (simp [*, errW_none, errW_some] <;> rfl), by (with_reducible repeat (first | apply Kd.R_alloc | apply Kd.R_drewN | apply Kd.R_drew)); exact Kd.R_mono HO323.out (fun _ hk => trivial), by repeat (first | (with_reducible first | exact HB.out | apply below_alloc | apply pw_below_drewN | apply below_drew1) | exact HB.out)⟩
              · rw [if_neg c17] at H
                have c17b0 : decide (0 < (t321.length : Int)) = false := decide_eq_false c17
                have c17b1 : decide (0 < t321.length) = false := decide_eq_false (by omega)
                clear c17
                obtain rfl := Option.some.inj H
                go_wp2_with (first | ((with_reducible refine gate_callee (f := 22) rfl ?_); refine goesL_ (some 25) rfl rfl Try.func22 (by kernel_rfl) rfl #[.int .i64 ji11, .slice A1 l1.length c1] rfl pmAx14_10_ ?_; (with_reducible refine (parterreref01_Share.calls kj4 ji11 _ _ l1 t318 _ ?side1 ?side2 A12.out).mono ?_); (case side1 => repeat (first | exact (Kd.C_below HR1.out HB.out) | (with_reducible refine Kd.C_alloc ?_ _) | (with_reducible refine Kd.C_drewN ?_ _) | (with_reducible refine Kd.C_drew ?_))); (case side2 => exact HC1.out); rintro e w22 ⟨v319, rfl, ho0, hb⟩; refine ⟨_, rfl, ?_⟩; have n0_ := Aside0.mk (Kd.R_elder' pmAx14_5_ (Kd.R_base ho0) hb); have n1_ := Aside0.mk (Kd.R_lower (Kd.R_new' ho0 (Kd.R_lt pmAx14_5_)) (below_size pmAx14_0_)); have n2_ := Aside0.mk (below_step pmAx14_0_ hb); clear HO_5; clear HB; have HO_5 := n0_; have HO320 := n1_; have HB := n2_; clear n0_ n1_ n2_; (try clear hb); (try clear hb2); (try clear hk); (try clear hi); (try clear ho0); obtain ⟨Ao23, co23, eo23⟩ := Kd.R_slice HO320.out; subst eo23) | ((with_reducible refine gate_callee (f := 20) rfl ?_); refine goesL_ (some 33) rfl rfl Try.func20 (by kernel_rfl) rfl #[.int .i64 a0, .int .i64 (l1.length : Int)] rfl pmAx14_2_ ?_; (with_reducible refine (parterreref01_Split.calls kj4 a0 (l1.length : Int) t321 _ A16.out).mono ?_); rintro e w24 ⟨v322, rfl, ho0, hb⟩; refine ⟨_, rfl, ?_⟩; have n0_ := Aside0.mk (Kd.R_elder' pmAx14_5_ (Kd.R_base ho0) hb); have n1_ := Aside0.mk (Kd.R_elder' pmAx14_11_ (Kd.R_base ho0) hb); have n2_ := Aside0.mk (Kd.R_lower (Kd.R_new' (Kd.R_new' ho0 (Kd.R_lt pmAx14_5_)) (Kd.R_lt pmAx14_11_)) (below_size pmAx14_0_)); have n3_ := Aside0.mk (below_step pmAx14_0_ hb); clear HO_5; clear HO320; clear HB; have HO_5 := n0_; have HO320 := n1_; have HO323 := n2_; have HB := n3_; clear n0_ n1_ n2_ n3_; (try clear hb); (try clear hb2); (try clear hk); (try clear hi); (try clear ho0); obtain ⟨Ao25, co25, eo25⟩ := Kd.R_slice HO323.out; subst eo25))
                go_ret
                exact ⟨_, by first | rfl | (simp [errW_none, errW_some] <;> rfl) | (simp only [← hji11]; first | rfl | (simp [errW_none, errW_some] <;> rfl)) | (simp [*, errW_none, errW_some] <;> rfl), by (with_reducible repeat (first | apply Kd.R_alloc | apply Kd.R_drewN | apply Kd.R_drew)); exact Kd.R_mono HO_5.out (fun _ hk => trivial), by repeat (first | (with_reducible first | exact HB.out | apply below_alloc | apply pw_below_drewN | apply below_drew1) | exact HB.out)⟩
    · rw [if_neg c4] at H
      exact absurd H (by simp)
  · rw [if_neg c3] at H
    exact absurd H (by simp)

/-! ### parterrelaw23_SpreadUps: function 5 -/
def parterrelaw23_SpreadUps.j0 : Nat → Int → List Int → List Bool → Bool → Option (Bool)
  | 0, _, _, _, _ => none
  | k + 1, x0, x1, x2, x14 => if x14 = true then ((parterrelaw23_lives.f k).bind fun t324 => (some t324)) else ((spread_Up.f k x0 x1).bind fun t325 => ((parterreref23_Up.f k x0 x1).bind fun t328 => ((parterreref01_Ints.f k t325 t328).bind fun t331 => (if t331 = true then ((spread_Fill.f k x0 x1 x2).bind fun t332 => ((parterreref23_Fill.f k x0 x1 x2).bind fun t335 => ((parterreref01_Ints.f k t332 t335).bind fun t338 => (if t338 = true then ((spread_By.f k x0 x1).bind fun t339 => ((parterreref23_By.f k x0 x1).bind fun t342 => ((parterreref01_Ints.f k t339 t342).bind fun t345 => (if t345 = true then ((parterrelaw23_lives.f k).bind fun t346 => (some t346)) else (some false))))) else (some false))))) else (some false)))))
def parterrelaw23_SpreadUps.f (k : Nat) (a0 : Int) (l1 : List Int) (l2 : List Bool) : Option (Bool) := if (l1.length : Int) > 300 then (parterrelaw23_SpreadUps.j0 k a0 l1 l2 true) else (parterrelaw23_SpreadUps.j0 k a0 l1 l2 (decide ((l2.length : Int) > 300)))
theorem parterrelaw23_SpreadUps.mono_l : ∀ k, (∀ y0 y1 y2 y3, LeO (parterrelaw23_SpreadUps.j0 k y0 y1 y2 y3) (parterrelaw23_SpreadUps.j0 (k + 1) y0 y1 y2 y3))
  | 0 => fun _ _ _ _ r h => by simp [parterrelaw23_SpreadUps.j0] at h
  | k + 1 => by
    have ih0 := parterrelaw23_SpreadUps.mono_l k
    · intro y0 y1 y2 y3
      unfold parterrelaw23_SpreadUps.j0
      repeat' first
      | (with_reducible exact ih0 _ _ _ _)
      | (with_reducible exact parterrelaw23_lives.mono _)
      | (with_reducible exact parterreref01_Ints.mono _ _ _)
      | (with_reducible exact parterreref23_By.mono _ _ _)
      | (with_reducible exact parterreref23_Fill.mono _ _ _ _)
      | (with_reducible exact parterreref23_Up.mono _ _ _)
      | (with_reducible exact spread_By.mono _ _ _)
      | (with_reducible exact spread_Fill.mono _ _ _ _)
      | (with_reducible exact spread_Up.mono _ _ _)
      | (with_reducible exact LeO.refl _)
      | (with_reducible exact LeO.none _)
      | (with_reducible refine LeO.ite ?_ ?_)
      | (with_reducible refine LeO.bind ?_ (fun _ => ?_))
      | exact ih0 _ _ _ _
      | exact parterrelaw23_lives.mono _
      | exact parterreref01_Ints.mono _ _ _
      | exact parterreref23_By.mono _ _ _
      | exact parterreref23_Fill.mono _ _ _ _
      | exact parterreref23_Up.mono _ _ _
      | exact spread_By.mono _ _ _
      | exact spread_Fill.mono _ _ _ _
      | exact spread_Up.mono _ _ _
      | exact LeO.none _
      | refine LeO.ite ?_ ?_
      | refine LeO.bind ?_ (fun _ => ?_)
theorem parterrelaw23_SpreadUps.mono : ∀ a0 a1 a2 k, LeO (parterrelaw23_SpreadUps.f k a0 a1 a2) (parterrelaw23_SpreadUps.f (k + 1) a0 a1 a2) := by
  intro a0 a1 a2 k
  have ih0 := parterrelaw23_SpreadUps.mono_l k
  unfold parterrelaw23_SpreadUps.f
  repeat' first
      | (with_reducible exact ih0 _ _ _ _)
      | (with_reducible exact parterrelaw23_lives.mono _)
      | (with_reducible exact parterreref01_Ints.mono _ _ _)
      | (with_reducible exact parterreref23_By.mono _ _ _)
      | (with_reducible exact parterreref23_Fill.mono _ _ _ _)
      | (with_reducible exact parterreref23_Up.mono _ _ _)
      | (with_reducible exact spread_By.mono _ _ _)
      | (with_reducible exact spread_Fill.mono _ _ _ _)
      | (with_reducible exact spread_Up.mono _ _ _)
      | (with_reducible exact LeO.refl _)
      | (with_reducible exact LeO.none _)
      | (with_reducible refine LeO.ite ?_ ?_)
      | (with_reducible refine LeO.bind ?_ (fun _ => ?_))
      | exact ih0 _ _ _ _
      | exact parterrelaw23_lives.mono _
      | exact parterreref01_Ints.mono _ _ _
      | exact parterreref23_By.mono _ _ _
      | exact parterreref23_Fill.mono _ _ _ _
      | exact parterreref23_Up.mono _ _ _
      | exact spread_By.mono _ _ _
      | exact spread_Fill.mono _ _ _ _
      | exact spread_Up.mono _ _ _
      | exact LeO.none _
      | refine LeO.ite ?_ ?_
      | refine LeO.bind ?_ (fun _ => ?_)
set_option maxHeartbeats 8000000 in
set_option maxRecDepth 100000 in
theorem parterrelaw23_SpreadUps.calls (k : Nat) (a0 : Int) (A1 : Option Addr) (c1 : Nat) (l1 : List Int) (A2 : Option Addr) (c2 : Nat) (l2 : List Bool) (r : Bool) (w : World) (hr1 : Kd.C (Kd.int .i64) w A1 l1.length l1) (hc1 : l1.length ≤ c1) (hr2 : Kd.C Kd.bool w A2 l2.length l2) (hc2 : l2.length ≤ c2) (h : parterrelaw23_SpreadUps.f k a0 l1 l2 = some r) :
    Calls Try.prog 5 #[.int .i64 a0, .slice A1 l1.length c1, .slice A2 l2.length c2] w fun e w' => e = .returned (.bool r) ∧ Below w.heap.size w w' := by
  have HR1 := Aside0.mk hr1
  have HC1 := Aside0.mk hc1
  clear hr1 hc1
  have HR2 := Aside0.mk hr2
  have HC2 := Aside0.mk hc2
  clear hr2 hc2
  have HB := Aside0.mk (Below.refl w.heap.size w)
  have H : (if (l1.length : Int) > 300 then (parterrelaw23_SpreadUps.j0 k a0 l1 l2 true) else (parterrelaw23_SpreadUps.j0 k a0 l1 l2 (decide ((l2.length : Int) > 300)))) = some r := h
  clear h
  have HC4 := Aside0.mk H
  clear H
  go_enter Try.func5, Try.ntmps5
  go_upto_region 1 with (fail)
  go_cut [14] (fun v14 wc => ∃ (kq : Nat) (x14_3 : Bool), v14 = .bool x14_3 ∧ Aside0 (parterrelaw23_SpreadUps.j0 kq a0 l1 l2 x14_3 = some r) ∧ Aside0 (kq ≤ k) ∧ Aside0 (Below w.heap.size w wc))
  case first =>
    have H := HC4.out
    clear HC4
    by_cases c5 : (l1.length : Int) > 300
    · rw [if_pos c5] at H
      have c5b0 : decide (300 < (l1.length : Int)) = true := decide_eq_true c5
      have c5b1 : decide (300 < l1.length) = true := decide_eq_true (by omega)
      clear c5
      (first | rw [c5b0] | (simp only [i64_w, i32_w]; rw [c5b0]) | skip)
      have H' := Aside0.mk H
      clear H
      go_wp2
      go_meet
      case rel => exact ⟨_, (true), pmAx14_7_, H', ⟨by first | omega | exact Nat.le_refl _⟩, ⟨by repeat (first | (with_reducible first | exact HB.out | apply below_alloc | apply pw_below_drewN | apply below_drew1) | exact HB.out)⟩⟩
    · rw [if_neg c5] at H
      have c5b0 : decide (300 < (l1.length : Int)) = false := decide_eq_false c5
      have c5b1 : decide (300 < l1.length) = false := decide_eq_false (by omega)
      clear c5
      (first | rw [c5b0] | (simp only [i64_w, i32_w]; rw [c5b0]) | skip)
      have H' := Aside0.mk H
      clear H
      go_wp2
      go_meet
      case rel => exact ⟨_, (decide ((l2.length : Int) > 300)), pmAx14_7_, H', ⟨by first | omega | exact Nat.le_refl _⟩, ⟨by repeat (first | (with_reducible first | exact HB.out | apply below_alloc | apply pw_below_drewN | apply below_drew1) | exact HB.out)⟩⟩
  case rest =>
    clear HC4
    try clear c1
    try clear c2
    try clear p2
    try clear c5
    try clear c5b0
    try clear c5b1
    obtain ⟨kq, x14_3, rfl, HA, HJ3, HB⟩ := hcut
    cases kq with
    | zero => exact absurd HA.out (by simp [parterrelaw23_SpreadUps.j0])
    | succ kj3 =>
      have H := HA.out
      clear HA
      simp only [parterrelaw23_SpreadUps.j0] at H
      by_cases c6 : x14_3 = true
      · subst c6
        have H1 : ((parterrelaw23_lives.f kj3).bind fun t324 => (some t324)) = some r := by rw [if_pos rfl] at H; exact H
        clear H
        have H := H1
        clear H1
        replace H := Option.bind_eq_some_iff.mp H
        obtain ⟨t324, A70, H⟩ := H
        replace H : (some t324) = some r := H
        have A7 := Aside0.mk A70
        clear A70
        obtain rfl := Option.some.inj H
        go_wp2_with (first | ((with_reducible refine gate_callee (f := 7) rfl ?_); refine goesL_ (some 15) rfl rfl Try.func7 (by kernel_rfl) rfl #[] rfl pmAx14_2_ ?_; (with_reducible refine (parterrelaw23_lives.calls kj3  t324 _ A7.out).mono ?_); rintro e w8 ⟨rfl, hb⟩; refine ⟨_, rfl, ?_⟩; have n0_ := Aside0.mk (below_step pmAx14_0_ hb); clear HB; have HB := n0_; clear n0_; (try clear hb); (try clear hb2); (try clear hk); (try clear hi)))
        go_ret
        exact ⟨by first | rfl | (simp [errW_none, errW_some] <;> rfl) | (simp [*, errW_none, errW_some] <;> rfl), by repeat (first | (with_reducible first | exact HB.out | apply below_alloc | apply pw_below_drewN | apply below_drew1) | exact HB.out)⟩
      · replace c6 := Bool.eq_false_iff.mpr c6
        subst c6
        have H1 : ((spread_Up.f kj3 a0 l1).bind fun t325 => ((parterreref23_Up.f kj3 a0 l1).bind fun t328 => ((parterreref01_Ints.f kj3 t325 t328).bind fun t331 => (if t331 = true then ((spread_Fill.f kj3 a0 l1 l2).bind fun t332 => ((parterreref23_Fill.f kj3 a0 l1 l2).bind fun t335 => ((parterreref01_Ints.f kj3 t332 t335).bind fun t338 => (if t338 = true then ((spread_By.f kj3 a0 l1).bind fun t339 => ((parterreref23_By.f kj3 a0 l1).bind fun t342 => ((parterreref01_Ints.f kj3 t339 t342).bind fun t345 => (if t345 = true then ((parterrelaw23_lives.f kj3).bind fun t346 => (some t346)) else (some false))))) else (some false))))) else (some false))))) = some r := by rw [if_neg (show ¬ (false = true) by decide)] at H; exact H
        clear H
        have H := H1
        clear H1
        replace H := Option.bind_eq_some_iff.mp H
        obtain ⟨t325, A90, H⟩ := H
        replace H : ((parterreref23_Up.f kj3 a0 l1).bind fun t328 => ((parterreref01_Ints.f kj3 t325 t328).bind fun t331 => (if t331 = true then ((spread_Fill.f kj3 a0 l1 l2).bind fun t332 => ((parterreref23_Fill.f kj3 a0 l1 l2).bind fun t335 => ((parterreref01_Ints.f kj3 t332 t335).bind fun t338 => (if t338 = true then ((spread_By.f kj3 a0 l1).bind fun t339 => ((parterreref23_By.f kj3 a0 l1).bind fun t342 => ((parterreref01_Ints.f kj3 t339 t342).bind fun t345 => (if t345 = true then ((parterrelaw23_lives.f kj3).bind fun t346 => (some t346)) else (some false))))) else (some false))))) else (some false)))) = some r := H
        have A9 := Aside0.mk A90
        clear A90
        replace H := Option.bind_eq_some_iff.mp H
        obtain ⟨t328, A100, H⟩ := H
        replace H : ((parterreref01_Ints.f kj3 t325 t328).bind fun t331 => (if t331 = true then ((spread_Fill.f kj3 a0 l1 l2).bind fun t332 => ((parterreref23_Fill.f kj3 a0 l1 l2).bind fun t335 => ((parterreref01_Ints.f kj3 t332 t335).bind fun t338 => (if t338 = true then ((spread_By.f kj3 a0 l1).bind fun t339 => ((parterreref23_By.f kj3 a0 l1).bind fun t342 => ((parterreref01_Ints.f kj3 t339 t342).bind fun t345 => (if t345 = true then ((parterrelaw23_lives.f kj3).bind fun t346 => (some t346)) else (some false))))) else (some false))))) else (some false))) = some r := H
        have A10 := Aside0.mk A100
        clear A100
        replace H := Option.bind_eq_some_iff.mp H
        obtain ⟨t331, A110, H⟩ := H
        replace H : (if t331 = true then ((spread_Fill.f kj3 a0 l1 l2).bind fun t332 => ((parterreref23_Fill.f kj3 a0 l1 l2).bind fun t335 => ((parterreref01_Ints.f kj3 t332 t335).bind fun t338 => (if t338 = true then ((spread_By.f kj3 a0 l1).bind fun t339 => ((parterreref23_By.f kj3 a0 l1).bind fun t342 => ((parterreref01_Ints.f kj3 t339 t342).bind fun t345 => (if t345 = true then ((parterrelaw23_lives.f kj3).bind fun t346 => (some t346)) else (some false))))) else (some false))))) else (some false)) = some r := H
        have A11 := Aside0.mk A110
        clear A110
        by_cases c12 : t331 = true
        · subst c12
          have H1 : ((spread_Fill.f kj3 a0 l1 l2).bind fun t332 => ((parterreref23_Fill.f kj3 a0 l1 l2).bind fun t335 => ((parterreref01_Ints.f kj3 t332 t335).bind fun t338 => (if t338 = true then ((spread_By.f kj3 a0 l1).bind fun t339 => ((parterreref23_By.f kj3 a0 l1).bind fun t342 => ((parterreref01_Ints.f kj3 t339 t342).bind fun t345 => (if t345 = true then ((parterrelaw23_lives.f kj3).bind fun t346 => (some t346)) else (some false))))) else (some false))))) = some r := by rw [if_pos rfl] at H; exact H
          clear H
          have H := H1
          clear H1
          replace H := Option.bind_eq_some_iff.mp H
          obtain ⟨t332, A130, H⟩ := H
          replace H : ((parterreref23_Fill.f kj3 a0 l1 l2).bind fun t335 => ((parterreref01_Ints.f kj3 t332 t335).bind fun t338 => (if t338 = true then ((spread_By.f kj3 a0 l1).bind fun t339 => ((parterreref23_By.f kj3 a0 l1).bind fun t342 => ((parterreref01_Ints.f kj3 t339 t342).bind fun t345 => (if t345 = true then ((parterrelaw23_lives.f kj3).bind fun t346 => (some t346)) else (some false))))) else (some false)))) = some r := H
          have A13 := Aside0.mk A130
          clear A130
          replace H := Option.bind_eq_some_iff.mp H
          obtain ⟨t335, A140, H⟩ := H
          replace H : ((parterreref01_Ints.f kj3 t332 t335).bind fun t338 => (if t338 = true then ((spread_By.f kj3 a0 l1).bind fun t339 => ((parterreref23_By.f kj3 a0 l1).bind fun t342 => ((parterreref01_Ints.f kj3 t339 t342).bind fun t345 => (if t345 = true then ((parterrelaw23_lives.f kj3).bind fun t346 => (some t346)) else (some false))))) else (some false))) = some r := H
          have A14 := Aside0.mk A140
          clear A140
          replace H := Option.bind_eq_some_iff.mp H
          obtain ⟨t338, A150, H⟩ := H
          replace H : (if t338 = true then ((spread_By.f kj3 a0 l1).bind fun t339 => ((parterreref23_By.f kj3 a0 l1).bind fun t342 => ((parterreref01_Ints.f kj3 t339 t342).bind fun t345 => (if t345 = true then ((parterrelaw23_lives.f kj3).bind fun t346 => (some t346)) else (some false))))) else (some false)) = some r := H
          have A15 := Aside0.mk A150
          clear A150
          by_cases c16 : t338 = true
          · subst c16
            have H1 : ((spread_By.f kj3 a0 l1).bind fun t339 => ((parterreref23_By.f kj3 a0 l1).bind fun t342 => ((parterreref01_Ints.f kj3 t339 t342).bind fun t345 => (if t345 = true then ((parterrelaw23_lives.f kj3).bind fun t346 => (some t346)) else (some false))))) = some r := by rw [if_pos rfl] at H; exact H
            clear H
            have H := H1
            clear H1
            replace H := Option.bind_eq_some_iff.mp H
            obtain ⟨t339, A170, H⟩ := H
            replace H : ((parterreref23_By.f kj3 a0 l1).bind fun t342 => ((parterreref01_Ints.f kj3 t339 t342).bind fun t345 => (if t345 = true then ((parterrelaw23_lives.f kj3).bind fun t346 => (some t346)) else (some false)))) = some r := H
            have A17 := Aside0.mk A170
            clear A170
            replace H := Option.bind_eq_some_iff.mp H
            obtain ⟨t342, A180, H⟩ := H
            replace H : ((parterreref01_Ints.f kj3 t339 t342).bind fun t345 => (if t345 = true then ((parterrelaw23_lives.f kj3).bind fun t346 => (some t346)) else (some false))) = some r := H
            have A18 := Aside0.mk A180
            clear A180
            replace H := Option.bind_eq_some_iff.mp H
            obtain ⟨t345, A190, H⟩ := H
            replace H : (if t345 = true then ((parterrelaw23_lives.f kj3).bind fun t346 => (some t346)) else (some false)) = some r := H
            have A19 := Aside0.mk A190
            clear A190
            by_cases c20 : t345 = true
            · subst c20
              have H1 : ((parterrelaw23_lives.f kj3).bind fun t346 => (some t346)) = some r := by rw [if_pos rfl] at H; exact H
              clear H
              have H := H1
              clear H1
              replace H := Option.bind_eq_some_iff.mp H
              obtain ⟨t346, A210, H⟩ := H
              replace H : (some t346) = some r := H
              have A21 := Aside0.mk A210
              clear A210
              obtain rfl := Option.some.inj H
              go_wp2_with (first | ((with_reducible refine gate_callee (f := 9) rfl ?_); refine goesL_ (some 18) rfl rfl Try.func9 (by kernel_rfl) rfl #[.int .i64 a0, .slice A1 l1.length c1] rfl pmAx14_2_ ?_; (with_reducible refine (spread_Up.calls kj3 a0 _ _ l1 t325 _ ?side1 ?side2 A9.out).mono ?_); (case side1 => repeat (first | exact (Kd.C_below HR1.out HB.out) | (with_reducible refine Kd.C_alloc ?_ _) | (with_reducible refine Kd.C_drewN ?_ _) | (with_reducible refine Kd.C_drew ?_))); (case side2 => exact HC1.out); rintro e w22 ⟨v326, rfl, ho0, hb⟩; refine ⟨_, rfl, ?_⟩; have n0_ := Aside0.mk (Kd.R_lower ho0 (below_size pmAx14_0_)); have n1_ := Aside0.mk (below_step pmAx14_0_ hb); clear HB; have HO327 := n0_; have HB := n1_; clear n0_ n1_; (try clear hb); (try clear hb2); (try clear hk); (try clear hi); (try clear ho0)) | ((with_reducible refine gate_callee (f := 11) rfl ?_); refine goesL_ (some 21) rfl rfl Try.func11 (by kernel_rfl) rfl #[.int .i64 a0, .slice A1 l1.length c1] rfl pmAx14_2_ ?_; (with_reducible refine (parterreref23_Up.calls kj3 a0 _ _ l1 t328 _ ?side1 ?side2 A10.out).mono ?_); (case side1 => repeat (first | exact (Kd.C_below HR1.out HB.out) | (with_reducible refine Kd.C_alloc ?_ _) | (with_reducible refine Kd.C_drewN ?_ _) | (with_reducible refine Kd.C_drew ?_))); (case side2 => exact HC1.out); rintro e w23 ⟨v329, rfl, ho0, hb⟩; refine ⟨_, rfl, ?_⟩; have n0_ := Aside0.mk (Kd.R_elder' pmAx14_1_ (Kd.R_base ho0) hb); have n1_ := Aside0.mk (Kd.R_lower (Kd.R_new' ho0 (Kd.R_lt pmAx14_1_)) (below_size pmAx14_0_)); have n2_ := Aside0.mk (below_step pmAx14_0_ hb); clear HO327; clear HB; have HO327 := n0_; have HO330 := n1_; have HB := n2_; clear n0_ n1_ n2_; (try clear hb); (try clear hb2); (try clear hk); (try clear hi); (try clear ho0); obtain ⟨Ao24, co24, eo24⟩ := Kd.R_slice HO327.out; subst eo24; obtain ⟨Ao25, co25, eo25⟩ := Kd.R_slice HO330.out; subst eo25) | ((with_reducible refine gate_callee (f := 10) rfl ?_); refine goesL_ (some 22) rfl rfl Try.func10 (by kernel_rfl) rfl #[.slice Ao24 t325.length co24, .slice Ao25 t328.length co25] rfl pmAx14_2_ ?_; (with_reducible refine (parterreref01_Ints.calls kj3 _ _ t325 _ _ t328 true _ ?side1 ?side2 ?side3 ?side4 A11.out).mono ?_); (case side1 => repeat (first | exact (Kd.R_reads' HO327.out).2.2 | (with_reducible refine Kd.C_alloc ?_ _) | (with_reducible refine Kd.C_drewN ?_ _) | (with_reducible refine Kd.C_drew ?_))); (case side2 => exact (Kd.R_reads' HO327.out).2.1); (case side3 => repeat (first | exact (Kd.R_reads' HO330.out).2.2 | (with_reducible refine Kd.C_alloc ?_ _) | (with_reducible refine Kd.C_drewN ?_ _) | (with_reducible refine Kd.C_drew ?_))); (case side4 => exact (Kd.R_reads' HO330.out).2.1); rintro e w' ⟨rfl, ⟨nd, rfl⟩⟩; refine ⟨_, rfl, ?_⟩) | (go_at_call 8; (with_reducible refine (spread_Fill.calls kj3 a0 _ _ l1 _ _ l2 t332 _ ?side1 ?side2 ?side3 ?side4 A13.out).mono ?_); (case side1 => repeat (first | exact (Kd.C_below HR1.out pmAx14_0_) | (with_reducible refine Kd.C_alloc ?_ _) | (with_reducible refine Kd.C_drewN ?_ _) | (with_reducible refine Kd.C_drew ?_))); (case side2 => exact HC1.out); (case side3 => repeat (first | exact (Kd.C_below HR2.out pmAx14_0_) | (with_reducible refine Kd.C_alloc ?_ _) | (with_reducible refine Kd.C_drewN ?_ _) | (with_reducible refine Kd.C_drew ?_))); (case side4 => exact HC2.out); rintro e w26 ⟨v333, rfl, ho0, hb⟩; have n0_ := Aside0.mk (Kd.R_elder' pmAx14_1_ (Kd.R_base ho0) hb); have n1_ := Aside0.mk (Kd.R_elder' pmAx14_3_ (Kd.R_base ho0) hb); have n2_ := Aside0.mk (Kd.R_lower (Kd.R_new' (Kd.R_new' ho0 (Kd.R_lt pmAx14_1_)) (Kd.R_lt pmAx14_3_)) (below_size pmAx14_0_)); have n3_ := Aside0.mk (below_step pmAx14_0_ hb); clear HO327; clear HO330; clear HB; have HO327 := n0_; have HO330 := n1_; have HO334 := n2_; have HB := n3_; clear n0_ n1_ n2_ n3_; (try clear hb); (try clear hb2); (try clear hk); (try clear hi); (try clear ho0)) | (go_at_call 12; (with_reducible refine (parterreref23_Fill.calls kj3 a0 _ _ l1 _ _ l2 t335 _ ?side1 ?side2 ?side3 ?side4 A14.out).mono ?_); (case side1 => repeat (first | exact (Kd.C_below HR1.out HB.out) | (with_reducible refine Kd.C_alloc ?_ _) | (with_reducible refine Kd.C_drewN ?_ _) | (with_reducible refine Kd.C_drew ?_))); (case side2 => exact HC1.out); (case side3 => repeat (first | exact (Kd.C_below HR2.out HB.out) | (with_reducible refine Kd.C_alloc ?_ _) | (with_reducible refine Kd.C_drewN ?_ _) | (with_reducible refine Kd.C_drew ?_))); (case side4 => exact HC2.out); rintro e w27 ⟨v336, rfl, ho0, hb⟩; have n0_ := Aside0.mk (Kd.R_elder' pmAx14_1_ (Kd.R_base ho0) hb); have n1_ := Aside0.mk (Kd.R_elder' pmAx14_3_ (Kd.R_base ho0) hb); have n2_ := Aside0.mk (Kd.R_elder' pmAx14_4_ (Kd.R_base ho0) hb); have n3_ := Aside0.mk (Kd.R_lower (Kd.R_new' (Kd.R_new' (Kd.R_new' ho0 (Kd.R_lt pmAx14_1_)) (Kd.R_lt pmAx14_3_)) (Kd.R_lt pmAx14_4_)) (below_size pmAx14_0_)); have n4_ := Aside0.mk (below_step pmAx14_0_ hb); clear HO327; clear HO330; clear HO334; clear HB; have HO327 := n0_; have HO330 := n1_; have HO334 := n2_; have HO337 := n3_; have HB := n4_; clear n0_ n1_ n2_ n3_ n4_; (try clear hb); (try clear hb2); (try clear hk); (try clear hi); (try clear ho0); obtain ⟨Ao28, co28, eo28⟩ := Kd.R_slice HO334.out; subst eo28; obtain ⟨Ao29, co29, eo29⟩ := Kd.R_slice HO337.out; subst eo29) | (go_at_call 10; (with_reducible refine (parterreref01_Ints.calls kj3 _ _ t332 _ _ t335 true _ ?side1 ?side2 ?side3 ?side4 A15.out).mono ?_); (case side1 => repeat (first | exact (Kd.R_reads' HO334.out).2.2 | (with_reducible refine Kd.C_alloc ?_ _) | (with_reducible refine Kd.C_drewN ?_ _) | (with_reducible refine Kd.C_drew ?_))); (case side2 => exact (Kd.R_reads' HO334.out).2.1); (case side3 => repeat (first | exact (Kd.R_reads' HO337.out).2.2 | (with_reducible refine Kd.C_alloc ?_ _) | (with_reducible refine Kd.C_drewN ?_ _) | (with_reducible refine Kd.C_drew ?_))); (case side4 => exact (Kd.R_reads' HO337.out).2.1); rintro e w' ⟨rfl, ⟨nd, rfl⟩⟩) | (go_at_call 13; (with_reducible refine (spread_By.calls kj3 a0 _ _ l1 t339 _ ?side1 ?side2 A17.out).mono ?_); (case side1 => repeat (first | exact (Kd.C_below HR1.out pmAx14_0_) | (with_reducible refine Kd.C_alloc ?_ _) | (with_reducible refine Kd.C_drewN ?_ _) | (with_reducible refine Kd.C_drew ?_))); (case side2 => exact HC1.out); rintro e w30 ⟨v340, rfl, ho0, hb⟩; have n0_ := Aside0.mk (Kd.R_elder' pmAx14_1_ (Kd.R_base ho0) hb); have n1_ := Aside0.mk (Kd.R_elder' pmAx14_3_ (Kd.R_base ho0) hb); have n2_ := Aside0.mk (Kd.R_elder' pmAx14_4_ (Kd.R_base ho0) hb); have n3_ := Aside0.mk (Kd.R_elder' pmAx14_6_ (Kd.R_base ho0) hb); have n4_ := Aside0.mk (Kd.R_lower (Kd.R_new' (Kd.R_new' (Kd.R_new' (Kd.R_new' ho0 (Kd.R_lt pmAx14_1_)) (Kd.R_lt pmAx14_3_)) (Kd.R_lt pmAx14_4_)) (Kd.R_lt pmAx14_6_)) (below_size pmAx14_0_)); have n5_ := Aside0.mk (below_step pmAx14_0_ hb); clear HO327; clear HO330; clear HO334; clear HO337; clear HB; have HO327 := n0_; have HO330 := n1_; have HO334 := n2_; have HO337 := n3_; have HO341 := n4_; have HB := n5_; clear n0_ n1_ n2_ n3_ n4_ n5_; (try clear hb); (try clear hb2); (try clear hk); (try clear hi); (try clear ho0)) | (go_at_call 14; (with_reducible refine (parterreref23_By.calls kj3 a0 _ _ l1 t342 _ ?side1 ?side2 A18.out).mono ?_); (case side1 => repeat (first | exact (Kd.C_below HR1.out HB.out) | (with_reducible refine Kd.C_alloc ?_ _) | (with_reducible refine Kd.C_drewN ?_ _) | (with_reducible refine Kd.C_drew ?_))); (case side2 => exact HC1.out); rintro e w31 ⟨v343, rfl, ho0, hb⟩; have n0_ := Aside0.mk (Kd.R_elder' pmAx14_1_ (Kd.R_base ho0) hb); have n1_ := Aside0.mk (Kd.R_elder' pmAx14_3_ (Kd.R_base ho0) hb); have n2_ := Aside0.mk (Kd.R_elder' pmAx14_4_ (Kd.R_base ho0) hb); have n3_ := Aside0.mk (Kd.R_elder' pmAx14_6_ (Kd.R_base ho0) hb); have n4_ := Aside0.mk (Kd.R_elder' pmAx14_9_ (Kd.R_base ho0) hb); have n5_ := Aside0.mk (Kd.R_lower (Kd.R_new' (Kd.R_new' (Kd.R_new' (Kd.R_new' (Kd.R_new' ho0 (Kd.R_lt pmAx14_1_)) (Kd.R_lt pmAx14_3_)) (Kd.R_lt pmAx14_4_)) (Kd.R_lt pmAx14_6_)) (Kd.R_lt pmAx14_9_)) (below_size pmAx14_0_)); have n6_ := Aside0.mk (below_step pmAx14_0_ hb); clear HO327; clear HO330; clear HO334; clear HO337; clear HO341; clear HB; have HO327 := n0_; have HO330 := n1_; have HO334 := n2_; have HO337 := n3_; have HO341 := n4_; have HO344 := n5_; have HB := n6_; clear n0_ n1_ n2_ n3_ n4_ n5_ n6_; (try clear hb); (try clear hb2); (try clear hk); (try clear hi); (try clear ho0); obtain ⟨Ao32, co32, eo32⟩ := Kd.R_slice HO341.out; subst eo32; obtain ⟨Ao33, co33, eo33⟩ := Kd.R_slice HO344.out; subst eo33) | (go_at_call 10; (with_reducible refine (parterreref01_Ints.calls kj3 _ _ t339 _ _ t342 true _ ?side1 ?side2 ?side3 ?side4 A19.out).mono ?_); (case side1 => repeat (first | exact (Kd.R_reads' HO341.out).2.2 | (with_reducible refine Kd.C_alloc ?_ _) | (with_reducible refine Kd.C_drewN ?_ _) | (with_reducible refine Kd.C_drew ?_))); (case side2 => exact (Kd.R_reads' HO341.out).2.1); (case side3 => repeat (first | exact (Kd.R_reads' HO344.out).2.2 | (with_reducible refine Kd.C_alloc ?_ _) | (with_reducible refine Kd.C_drewN ?_ _) | (with_reducible refine Kd.C_drew ?_))); (case side4 => exact (Kd.R_reads' HO344.out).2.1); rintro e w' ⟨rfl, ⟨nd, rfl⟩⟩) | (go_at_call 7; (with_reducible refine (parterrelaw23_lives.calls kj3  t346 _ A21.out).mono ?_); rintro e w34 ⟨rfl, hb⟩; have n0_ := Aside0.mk (Kd.R_below pmAx14_1_ hb); have n1_ := Aside0.mk (Kd.R_below pmAx14_3_ hb); have n2_ := Aside0.mk (Kd.R_below pmAx14_4_ hb); have n3_ := Aside0.mk (Kd.R_below pmAx14_6_ hb); have n4_ := Aside0.mk (Kd.R_below pmAx14_9_ hb); have n5_ := Aside0.mk (Kd.R_below (by (with_reducible repeat (first | apply Kd.R_alloc | apply Kd.R_drewN | apply Kd.R_drew)); exact HO344.out) hb); have n6_ := Aside0.mk (below_step pmAx14_0_ hb); clear HO327; clear HO330; clear HO334; clear HO337; clear HO341; clear HO344; clear HB; have HO327 := n0_; have HO330 := n1_; have HO334 := n2_; have HO337 := n3_; have HO341 := n4_; have HO344 := n5_; have HB := n6_; clear n0_ n1_ n2_ n3_ n4_ n5_ n6_; (try clear hb); (try clear hb2); (try clear hk); (try clear hi)))
              go_ret
              exact ⟨by first | rfl | (simp [errW_none, errW_some] <;> rfl) | (simp [*, errW_none, errW_some] <;> rfl), by repeat (first | (with_reducible first | exact HB.out | apply below_alloc | apply pw_below_drewN | apply below_drew1) | exact HB.out)⟩
            · replace c20 := Bool.eq_false_iff.mpr c20
              subst c20
              have H1 : (some false) = some r := by rw [if_neg (show ¬ (false = true) by decide)] at H; exact H
              clear H
              have H := H1
              clear H1
              obtain rfl := Option.some.inj H
              go_wp2_with (first | ((with_reducible refine gate_callee (f := 9) rfl ?_); refine goesL_ (some 18) rfl rfl Try.func9 (by kernel_rfl) rfl #[.int .i64 a0, .slice A1 l1.length c1] rfl pmAx14_2_ ?_; (with_reducible refine (spread_Up.calls kj3 a0 _ _ l1 t325 _ ?side1 ?side2 A9.out).mono ?_); (case side1 => repeat (first | exact (Kd.C_below HR1.out HB.out) | (with_reducible refine Kd.C_alloc ?_ _) | (with_reducible refine Kd.C_drewN ?_ _) | (with_reducible refine Kd.C_drew ?_))); (case side2 => exact HC1.out); rintro e w35 ⟨v326, rfl, ho0, hb⟩; refine ⟨_, rfl, ?_⟩; have n0_ := Aside0.mk (Kd.R_lower ho0 (below_size pmAx14_0_)); have n1_ := Aside0.mk (below_step pmAx14_0_ hb); clear HB; have HO327 := n0_; have HB := n1_; clear n0_ n1_; (try clear hb); (try clear hb2); (try clear hk); (try clear hi); (try clear ho0)) | ((with_reducible refine gate_callee (f := 11) rfl ?_); refine goesL_ (some 21) rfl rfl Try.func11 (by kernel_rfl) rfl #[.int .i64 a0, .slice A1 l1.length c1] rfl pmAx14_2_ ?_; (with_reducible refine (parterreref23_Up.calls kj3 a0 _ _ l1 t328 _ ?side1 ?side2 A10.out).mono ?_); (case side1 => repeat (first | exact (Kd.C_below HR1.out HB.out) | (with_reducible refine Kd.C_alloc ?_ _) | (with_reducible refine Kd.C_drewN ?_ _) | (with_reducible refine Kd.C_drew ?_))); (case side2 => exact HC1.out); rintro e w36 ⟨v329, rfl, ho0, hb⟩; refine ⟨_, rfl, ?_⟩; have n0_ := Aside0.mk (Kd.R_elder' pmAx14_1_ (Kd.R_base ho0) hb); have n1_ := Aside0.mk (Kd.R_lower (Kd.R_new' ho0 (Kd.R_lt pmAx14_1_)) (below_size pmAx14_0_)); have n2_ := Aside0.mk (below_step pmAx14_0_ hb); clear HO327; clear HB; have HO327 := n0_; have HO330 := n1_; have HB := n2_; clear n0_ n1_ n2_; (try clear hb); (try clear hb2); (try clear hk); (try clear hi); (try clear ho0); obtain ⟨Ao37, co37, eo37⟩ := Kd.R_slice HO327.out; subst eo37; obtain ⟨Ao38, co38, eo38⟩ := Kd.R_slice HO330.out; subst eo38) | ((with_reducible refine gate_callee (f := 10) rfl ?_); refine goesL_ (some 22) rfl rfl Try.func10 (by kernel_rfl) rfl #[.slice Ao37 t325.length co37, .slice Ao38 t328.length co38] rfl pmAx14_2_ ?_; (with_reducible refine (parterreref01_Ints.calls kj3 _ _ t325 _ _ t328 true _ ?side1 ?side2 ?side3 ?side4 A11.out).mono ?_); (case side1 => repeat (first | exact (Kd.R_reads' HO327.out).2.2 | (with_reducible refine Kd.C_alloc ?_ _) | (with_reducible refine Kd.C_drewN ?_ _) | (with_reducible refine Kd.C_drew ?_))); (case side2 => exact (Kd.R_reads' HO327.out).2.1); (case side3 => repeat (first | exact (Kd.R_reads' HO330.out).2.2 | (with_reducible refine Kd.C_alloc ?_ _) | (with_reducible refine Kd.C_drewN ?_ _) | (with_reducible refine Kd.C_drew ?_))); (case side4 => exact (Kd.R_reads' HO330.out).2.1); rintro e w' ⟨rfl, ⟨nd, rfl⟩⟩; refine ⟨_, rfl, ?_⟩) | (go_at_call 8; (with_reducible refine (spread_Fill.calls kj3 a0 _ _ l1 _ _ l2 t332 _ ?side1 ?side2 ?side3 ?side4 A13.out).mono ?_); (case side1 => repeat (first | exact (Kd.C_below HR1.out pmAx14_0_) | (with_reducible refine Kd.C_alloc ?_ _) | (with_reducible refine Kd.C_drewN ?_ _) | (with_reducible refine Kd.C_drew ?_))); (case side2 => exact HC1.out); (case side3 => repeat (first | exact (Kd.C_below HR2.out pmAx14_0_) | (with_reducible refine Kd.C_alloc ?_ _) | (with_reducible refine Kd.C_drewN ?_ _) | (with_reducible refine Kd.C_drew ?_))); (case side4 => exact HC2.out); rintro e w39 ⟨v333, rfl, ho0, hb⟩; have n0_ := Aside0.mk (Kd.R_elder' pmAx14_1_ (Kd.R_base ho0) hb); have n1_ := Aside0.mk (Kd.R_elder' pmAx14_3_ (Kd.R_base ho0) hb); have n2_ := Aside0.mk (Kd.R_lower (Kd.R_new' (Kd.R_new' ho0 (Kd.R_lt pmAx14_1_)) (Kd.R_lt pmAx14_3_)) (below_size pmAx14_0_)); have n3_ := Aside0.mk (below_step pmAx14_0_ hb); clear HO327; clear HO330; clear HB; have HO327 := n0_; have HO330 := n1_; have HO334 := n2_; have HB := n3_; clear n0_ n1_ n2_ n3_; (try clear hb); (try clear hb2); (try clear hk); (try clear hi); (try clear ho0)) | (go_at_call 12; (with_reducible refine (parterreref23_Fill.calls kj3 a0 _ _ l1 _ _ l2 t335 _ ?side1 ?side2 ?side3 ?side4 A14.out).mono ?_); (case side1 => repeat (first | exact (Kd.C_below HR1.out HB.out) | (with_reducible refine Kd.C_alloc ?_ _) | (with_reducible refine Kd.C_drewN ?_ _) | (with_reducible refine Kd.C_drew ?_))); (case side2 => exact HC1.out); (case side3 => repeat (first | exact (Kd.C_below HR2.out HB.out) | (with_reducible refine Kd.C_alloc ?_ _) | (with_reducible refine Kd.C_drewN ?_ _) | (with_reducible refine Kd.C_drew ?_))); (case side4 => exact HC2.out); rintro e w40 ⟨v336, rfl, ho0, hb⟩; have n0_ := Aside0.mk (Kd.R_elder' pmAx14_1_ (Kd.R_base ho0) hb); have n1_ := Aside0.mk (Kd.R_elder' pmAx14_3_ (Kd.R_base ho0) hb); have n2_ := Aside0.mk (Kd.R_elder' pmAx14_4_ (Kd.R_base ho0) hb); have n3_ := Aside0.mk (Kd.R_lower (Kd.R_new' (Kd.R_new' (Kd.R_new' ho0 (Kd.R_lt pmAx14_1_)) (Kd.R_lt pmAx14_3_)) (Kd.R_lt pmAx14_4_)) (below_size pmAx14_0_)); have n4_ := Aside0.mk (below_step pmAx14_0_ hb); clear HO327; clear HO330; clear HO334; clear HB; have HO327 := n0_; have HO330 := n1_; have HO334 := n2_; have HO337 := n3_; have HB := n4_; clear n0_ n1_ n2_ n3_ n4_; (try clear hb); (try clear hb2); (try clear hk); (try clear hi); (try clear ho0); obtain ⟨Ao41, co41, eo41⟩ := Kd.R_slice HO334.out; subst eo41; obtain ⟨Ao42, co42, eo42⟩ := Kd.R_slice HO337.out; subst eo42) | (go_at_call 10; (with_reducible refine (parterreref01_Ints.calls kj3 _ _ t332 _ _ t335 true _ ?side1 ?side2 ?side3 ?side4 A15.out).mono ?_); (case side1 => repeat (first | exact (Kd.R_reads' HO334.out).2.2 | (with_reducible refine Kd.C_alloc ?_ _) | (with_reducible refine Kd.C_drewN ?_ _) | (with_reducible refine Kd.C_drew ?_))); (case side2 => exact (Kd.R_reads' HO334.out).2.1); (case side3 => repeat (first | exact (Kd.R_reads' HO337.out).2.2 | (with_reducible refine Kd.C_alloc ?_ _) | (with_reducible refine Kd.C_drewN ?_ _) | (with_reducible refine Kd.C_drew ?_))); (case side4 => exact (Kd.R_reads' HO337.out).2.1); rintro e w' ⟨rfl, ⟨nd, rfl⟩⟩) | (go_at_call 13; (with_reducible refine (spread_By.calls kj3 a0 _ _ l1 t339 _ ?side1 ?side2 A17.out).mono ?_); (case side1 => repeat (first | exact (Kd.C_below HR1.out pmAx14_0_) | (with_reducible refine Kd.C_alloc ?_ _) | (with_reducible refine Kd.C_drewN ?_ _) | (with_reducible refine Kd.C_drew ?_))); (case side2 => exact HC1.out); rintro e w43 ⟨v340, rfl, ho0, hb⟩; have n0_ := Aside0.mk (Kd.R_elder' pmAx14_1_ (Kd.R_base ho0) hb); have n1_ := Aside0.mk (Kd.R_elder' pmAx14_3_ (Kd.R_base ho0) hb); have n2_ := Aside0.mk (Kd.R_elder' pmAx14_4_ (Kd.R_base ho0) hb); have n3_ := Aside0.mk (Kd.R_elder' pmAx14_6_ (Kd.R_base ho0) hb); have n4_ := Aside0.mk (Kd.R_lower (Kd.R_new' (Kd.R_new' (Kd.R_new' (Kd.R_new' ho0 (Kd.R_lt pmAx14_1_)) (Kd.R_lt pmAx14_3_)) (Kd.R_lt pmAx14_4_)) (Kd.R_lt pmAx14_6_)) (below_size pmAx14_0_)); have n5_ := Aside0.mk (below_step pmAx14_0_ hb); clear HO327; clear HO330; clear HO334; clear HO337; clear HB; have HO327 := n0_; have HO330 := n1_; have HO334 := n2_; have HO337 := n3_; have HO341 := n4_; have HB := n5_; clear n0_ n1_ n2_ n3_ n4_ n5_; (try clear hb); (try clear hb2); (try clear hk); (try clear hi); (try clear ho0)) | (go_at_call 14; (with_reducible refine (parterreref23_By.calls kj3 a0 _ _ l1 t342 _ ?side1 ?side2 A18.out).mono ?_); (case side1 => repeat (first | exact (Kd.C_below HR1.out HB.out) | (with_reducible refine Kd.C_alloc ?_ _) | (with_reducible refine Kd.C_drewN ?_ _) | (with_reducible refine Kd.C_drew ?_))); (case side2 => exact HC1.out); rintro e w44 ⟨v343, rfl, ho0, hb⟩; have n0_ := Aside0.mk (Kd.R_elder' pmAx14_1_ (Kd.R_base ho0) hb); have n1_ := Aside0.mk (Kd.R_elder' pmAx14_3_ (Kd.R_base ho0) hb); have n2_ := Aside0.mk (Kd.R_elder' pmAx14_4_ (Kd.R_base ho0) hb); have n3_ := Aside0.mk (Kd.R_elder' pmAx14_6_ (Kd.R_base ho0) hb); have n4_ := Aside0.mk (Kd.R_elder' pmAx14_9_ (Kd.R_base ho0) hb); have n5_ := Aside0.mk (Kd.R_lower (Kd.R_new' (Kd.R_new' (Kd.R_new' (Kd.R_new' (Kd.R_new' ho0 (Kd.R_lt pmAx14_1_)) (Kd.R_lt pmAx14_3_)) (Kd.R_lt pmAx14_4_)) (Kd.R_lt pmAx14_6_)) (Kd.R_lt pmAx14_9_)) (below_size pmAx14_0_)); have n6_ := Aside0.mk (below_step pmAx14_0_ hb); clear HO327; clear HO330; clear HO334; clear HO337; clear HO341; clear HB; have HO327 := n0_; have HO330 := n1_; have HO334 := n2_; have HO337 := n3_; have HO341 := n4_; have HO344 := n5_; have HB := n6_; clear n0_ n1_ n2_ n3_ n4_ n5_ n6_; (try clear hb); (try clear hb2); (try clear hk); (try clear hi); (try clear ho0); obtain ⟨Ao45, co45, eo45⟩ := Kd.R_slice HO341.out; subst eo45; obtain ⟨Ao46, co46, eo46⟩ := Kd.R_slice HO344.out; subst eo46) | (go_at_call 10; (with_reducible refine (parterreref01_Ints.calls kj3 _ _ t339 _ _ t342 false _ ?side1 ?side2 ?side3 ?side4 A19.out).mono ?_); (case side1 => repeat (first | exact (Kd.R_reads' HO341.out).2.2 | (with_reducible refine Kd.C_alloc ?_ _) | (with_reducible refine Kd.C_drewN ?_ _) | (with_reducible refine Kd.C_drew ?_))); (case side2 => exact (Kd.R_reads' HO341.out).2.1); (case side3 => repeat (first | exact (Kd.R_reads' HO344.out).2.2 | (with_reducible refine Kd.C_alloc ?_ _) | (with_reducible refine Kd.C_drewN ?_ _) | (with_reducible refine Kd.C_drew ?_))); (case side4 => exact (Kd.R_reads' HO344.out).2.1); rintro e w' ⟨rfl, ⟨nd, rfl⟩⟩))
              go_ret
              exact ⟨by first | rfl | (simp [errW_none, errW_some] <;> rfl) | (simp [*, errW_none, errW_some] <;> rfl), by repeat (first | (with_reducible first | exact HB.out | apply below_alloc | apply pw_below_drewN | apply below_drew1) | exact HB.out)⟩
          · replace c16 := Bool.eq_false_iff.mpr c16
            subst c16
            have H1 : (some false) = some r := by rw [if_neg (show ¬ (false = true) by decide)] at H; exact H
            clear H
            have H := H1
            clear H1
            obtain rfl := Option.some.inj H
            go_wp2_with (first | ((with_reducible refine gate_callee (f := 9) rfl ?_); refine goesL_ (some 18) rfl rfl Try.func9 (by kernel_rfl) rfl #[.int .i64 a0, .slice A1 l1.length c1] rfl pmAx14_2_ ?_; (with_reducible refine (spread_Up.calls kj3 a0 _ _ l1 t325 _ ?side1 ?side2 A9.out).mono ?_); (case side1 => repeat (first | exact (Kd.C_below HR1.out HB.out) | (with_reducible refine Kd.C_alloc ?_ _) | (with_reducible refine Kd.C_drewN ?_ _) | (with_reducible refine Kd.C_drew ?_))); (case side2 => exact HC1.out); rintro e w47 ⟨v326, rfl, ho0, hb⟩; refine ⟨_, rfl, ?_⟩; have n0_ := Aside0.mk (Kd.R_lower ho0 (below_size pmAx14_0_)); have n1_ := Aside0.mk (below_step pmAx14_0_ hb); clear HB; have HO327 := n0_; have HB := n1_; clear n0_ n1_; (try clear hb); (try clear hb2); (try clear hk); (try clear hi); (try clear ho0)) | ((with_reducible refine gate_callee (f := 11) rfl ?_); refine goesL_ (some 21) rfl rfl Try.func11 (by kernel_rfl) rfl #[.int .i64 a0, .slice A1 l1.length c1] rfl pmAx14_2_ ?_; (with_reducible refine (parterreref23_Up.calls kj3 a0 _ _ l1 t328 _ ?side1 ?side2 A10.out).mono ?_); (case side1 => repeat (first | exact (Kd.C_below HR1.out HB.out) | (with_reducible refine Kd.C_alloc ?_ _) | (with_reducible refine Kd.C_drewN ?_ _) | (with_reducible refine Kd.C_drew ?_))); (case side2 => exact HC1.out); rintro e w48 ⟨v329, rfl, ho0, hb⟩; refine ⟨_, rfl, ?_⟩; have n0_ := Aside0.mk (Kd.R_elder' pmAx14_1_ (Kd.R_base ho0) hb); have n1_ := Aside0.mk (Kd.R_lower (Kd.R_new' ho0 (Kd.R_lt pmAx14_1_)) (below_size pmAx14_0_)); have n2_ := Aside0.mk (below_step pmAx14_0_ hb); clear HO327; clear HB; have HO327 := n0_; have HO330 := n1_; have HB := n2_; clear n0_ n1_ n2_; (try clear hb); (try clear hb2); (try clear hk); (try clear hi); (try clear ho0); obtain ⟨Ao49, co49, eo49⟩ := Kd.R_slice HO327.out; subst eo49; obtain ⟨Ao50, co50, eo50⟩ := Kd.R_slice HO330.out; subst eo50) | ((with_reducible refine gate_callee (f := 10) rfl ?_); refine goesL_ (some 22) rfl rfl Try.func10 (by kernel_rfl) rfl #[.slice Ao49 t325.length co49, .slice Ao50 t328.length co50] rfl pmAx14_2_ ?_; (with_reducible refine (parterreref01_Ints.calls kj3 _ _ t325 _ _ t328 true _ ?side1 ?side2 ?side3 ?side4 A11.out).mono ?_); (case side1 => repeat (first | exact (Kd.R_reads' HO327.out).2.2 | (with_reducible refine Kd.C_alloc ?_ _) | (with_reducible refine Kd.C_drewN ?_ _) | (with_reducible refine Kd.C_drew ?_))); (case side2 => exact (Kd.R_reads' HO327.out).2.1); (case side3 => repeat (first | exact (Kd.R_reads' HO330.out).2.2 | (with_reducible refine Kd.C_alloc ?_ _) | (with_reducible refine Kd.C_drewN ?_ _) | (with_reducible refine Kd.C_drew ?_))); (case side4 => exact (Kd.R_reads' HO330.out).2.1); rintro e w' ⟨rfl, ⟨nd, rfl⟩⟩; refine ⟨_, rfl, ?_⟩) | (go_at_call 8; (with_reducible refine (spread_Fill.calls kj3 a0 _ _ l1 _ _ l2 t332 _ ?side1 ?side2 ?side3 ?side4 A13.out).mono ?_); (case side1 => repeat (first | exact (Kd.C_below HR1.out pmAx14_0_) | (with_reducible refine Kd.C_alloc ?_ _) | (with_reducible refine Kd.C_drewN ?_ _) | (with_reducible refine Kd.C_drew ?_))); (case side2 => exact HC1.out); (case side3 => repeat (first | exact (Kd.C_below HR2.out pmAx14_0_) | (with_reducible refine Kd.C_alloc ?_ _) | (with_reducible refine Kd.C_drewN ?_ _) | (with_reducible refine Kd.C_drew ?_))); (case side4 => exact HC2.out); rintro e w51 ⟨v333, rfl, ho0, hb⟩; have n0_ := Aside0.mk (Kd.R_elder' pmAx14_1_ (Kd.R_base ho0) hb); have n1_ := Aside0.mk (Kd.R_elder' pmAx14_3_ (Kd.R_base ho0) hb); have n2_ := Aside0.mk (Kd.R_lower (Kd.R_new' (Kd.R_new' ho0 (Kd.R_lt pmAx14_1_)) (Kd.R_lt pmAx14_3_)) (below_size pmAx14_0_)); have n3_ := Aside0.mk (below_step pmAx14_0_ hb); clear HO327; clear HO330; clear HB; have HO327 := n0_; have HO330 := n1_; have HO334 := n2_; have HB := n3_; clear n0_ n1_ n2_ n3_; (try clear hb); (try clear hb2); (try clear hk); (try clear hi); (try clear ho0)) | (go_at_call 12; (with_reducible refine (parterreref23_Fill.calls kj3 a0 _ _ l1 _ _ l2 t335 _ ?side1 ?side2 ?side3 ?side4 A14.out).mono ?_); (case side1 => repeat (first | exact (Kd.C_below HR1.out HB.out) | (with_reducible refine Kd.C_alloc ?_ _) | (with_reducible refine Kd.C_drewN ?_ _) | (with_reducible refine Kd.C_drew ?_))); (case side2 => exact HC1.out); (case side3 => repeat (first | exact (Kd.C_below HR2.out HB.out) | (with_reducible refine Kd.C_alloc ?_ _) | (with_reducible refine Kd.C_drewN ?_ _) | (with_reducible refine Kd.C_drew ?_))); (case side4 => exact HC2.out); rintro e w52 ⟨v336, rfl, ho0, hb⟩; have n0_ := Aside0.mk (Kd.R_elder' pmAx14_1_ (Kd.R_base ho0) hb); have n1_ := Aside0.mk (Kd.R_elder' pmAx14_3_ (Kd.R_base ho0) hb); have n2_ := Aside0.mk (Kd.R_elder' pmAx14_4_ (Kd.R_base ho0) hb); have n3_ := Aside0.mk (Kd.R_lower (Kd.R_new' (Kd.R_new' (Kd.R_new' ho0 (Kd.R_lt pmAx14_1_)) (Kd.R_lt pmAx14_3_)) (Kd.R_lt pmAx14_4_)) (below_size pmAx14_0_)); have n4_ := Aside0.mk (below_step pmAx14_0_ hb); clear HO327; clear HO330; clear HO334; clear HB; have HO327 := n0_; have HO330 := n1_; have HO334 := n2_; have HO337 := n3_; have HB := n4_; clear n0_ n1_ n2_ n3_ n4_; (try clear hb); (try clear hb2); (try clear hk); (try clear hi); (try clear ho0); obtain ⟨Ao53, co53, eo53⟩ := Kd.R_slice HO334.out; subst eo53; obtain ⟨Ao54, co54, eo54⟩ := Kd.R_slice HO337.out; subst eo54) | (go_at_call 10; (with_reducible refine (parterreref01_Ints.calls kj3 _ _ t332 _ _ t335 false _ ?side1 ?side2 ?side3 ?side4 A15.out).mono ?_); (case side1 => repeat (first | exact (Kd.R_reads' HO334.out).2.2 | (with_reducible refine Kd.C_alloc ?_ _) | (with_reducible refine Kd.C_drewN ?_ _) | (with_reducible refine Kd.C_drew ?_))); (case side2 => exact (Kd.R_reads' HO334.out).2.1); (case side3 => repeat (first | exact (Kd.R_reads' HO337.out).2.2 | (with_reducible refine Kd.C_alloc ?_ _) | (with_reducible refine Kd.C_drewN ?_ _) | (with_reducible refine Kd.C_drew ?_))); (case side4 => exact (Kd.R_reads' HO337.out).2.1); rintro e w' ⟨rfl, ⟨nd, rfl⟩⟩))
            go_ret
            exact ⟨by first | rfl | (simp [errW_none, errW_some] <;> rfl) | (simp [*, errW_none, errW_some] <;> rfl), by repeat (first | (with_reducible first | exact HB.out | apply below_alloc | apply pw_below_drewN | apply below_drew1) | exact HB.out)⟩
        · replace c12 := Bool.eq_false_iff.mpr c12
          subst c12
          have H1 : (some false) = some r := by rw [if_neg (show ¬ (false = true) by decide)] at H; exact H
          clear H
          have H := H1
          clear H1
          obtain rfl := Option.some.inj H
          go_wp2_with (first | ((with_reducible refine gate_callee (f := 9) rfl ?_); refine goesL_ (some 18) rfl rfl Try.func9 (by kernel_rfl) rfl #[.int .i64 a0, .slice A1 l1.length c1] rfl pmAx14_2_ ?_; (with_reducible refine (spread_Up.calls kj3 a0 _ _ l1 t325 _ ?side1 ?side2 A9.out).mono ?_); (case side1 => repeat (first | exact (Kd.C_below HR1.out HB.out) | (with_reducible refine Kd.C_alloc ?_ _) | (with_reducible refine Kd.C_drewN ?_ _) | (with_reducible refine Kd.C_drew ?_))); (case side2 => exact HC1.out); rintro e w55 ⟨v326, rfl, ho0, hb⟩; refine ⟨_, rfl, ?_⟩; have n0_ := Aside0.mk (Kd.R_lower ho0 (below_size pmAx14_0_)); have n1_ := Aside0.mk (below_step pmAx14_0_ hb); clear HB; have HO327 := n0_; have HB := n1_; clear n0_ n1_; (try clear hb); (try clear hb2); (try clear hk); (try clear hi); (try clear ho0)) | ((with_reducible refine gate_callee (f := 11) rfl ?_); refine goesL_ (some 21) rfl rfl Try.func11 (by kernel_rfl) rfl #[.int .i64 a0, .slice A1 l1.length c1] rfl pmAx14_2_ ?_; (with_reducible refine (parterreref23_Up.calls kj3 a0 _ _ l1 t328 _ ?side1 ?side2 A10.out).mono ?_); (case side1 => repeat (first | exact (Kd.C_below HR1.out HB.out) | (with_reducible refine Kd.C_alloc ?_ _) | (with_reducible refine Kd.C_drewN ?_ _) | (with_reducible refine Kd.C_drew ?_))); (case side2 => exact HC1.out); rintro e w56 ⟨v329, rfl, ho0, hb⟩; refine ⟨_, rfl, ?_⟩; have n0_ := Aside0.mk (Kd.R_elder' pmAx14_1_ (Kd.R_base ho0) hb); have n1_ := Aside0.mk (Kd.R_lower (Kd.R_new' ho0 (Kd.R_lt pmAx14_1_)) (below_size pmAx14_0_)); have n2_ := Aside0.mk (below_step pmAx14_0_ hb); clear HO327; clear HB; have HO327 := n0_; have HO330 := n1_; have HB := n2_; clear n0_ n1_ n2_; (try clear hb); (try clear hb2); (try clear hk); (try clear hi); (try clear ho0); obtain ⟨Ao57, co57, eo57⟩ := Kd.R_slice HO327.out; subst eo57; obtain ⟨Ao58, co58, eo58⟩ := Kd.R_slice HO330.out; subst eo58) | ((with_reducible refine gate_callee (f := 10) rfl ?_); refine goesL_ (some 22) rfl rfl Try.func10 (by kernel_rfl) rfl #[.slice Ao57 t325.length co57, .slice Ao58 t328.length co58] rfl pmAx14_2_ ?_; (with_reducible refine (parterreref01_Ints.calls kj3 _ _ t325 _ _ t328 false _ ?side1 ?side2 ?side3 ?side4 A11.out).mono ?_); (case side1 => repeat (first | exact (Kd.R_reads' HO327.out).2.2 | (with_reducible refine Kd.C_alloc ?_ _) | (with_reducible refine Kd.C_drewN ?_ _) | (with_reducible refine Kd.C_drew ?_))); (case side2 => exact (Kd.R_reads' HO327.out).2.1); (case side3 => repeat (first | exact (Kd.R_reads' HO330.out).2.2 | (with_reducible refine Kd.C_alloc ?_ _) | (with_reducible refine Kd.C_drewN ?_ _) | (with_reducible refine Kd.C_drew ?_))); (case side4 => exact (Kd.R_reads' HO330.out).2.1); rintro e w' ⟨rfl, ⟨nd, rfl⟩⟩; refine ⟨_, rfl, ?_⟩))
          go_ret
          exact ⟨by first | rfl | (simp [errW_none, errW_some] <;> rfl) | (simp [*, errW_none, errW_some] <;> rfl), by repeat (first | (with_reducible first | exact HB.out | apply below_alloc | apply pw_below_drewN | apply below_drew1) | exact HB.out)⟩
/-- THE ONE PURE STATEMENT of parterrelaw23_SpreadUps. -/
def parterrelaw23_SpreadUps.Pure : Prop := ∀ (a0 : Int) (l1 : List Int) (l2 : List Bool), (Lit.int .i64 a0).wf = true → l1.length ≤ 9223372036854775807 → l1.length * 8 ≤ 140737488351232 → (∀ e_ ∈ l1, (Lit.int .i64 e_).wf = true) → l2.length ≤ 9223372036854775807 → l2.length * 1 ≤ 140737488351232 → (∀ e_ ∈ l2, True) → ∃ k, parterrelaw23_SpreadUps.f k a0 l1 l2 = some true

end Go.Proofs.Ytecccaniopkphaa.PA
