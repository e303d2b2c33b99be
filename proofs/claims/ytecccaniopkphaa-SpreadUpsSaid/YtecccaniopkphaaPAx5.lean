-- written by a program of this session (a print of the translation with changes of its own)
import Derived.Test.YtecccaniopkphaaPAx0
import Derived.Test.YtecccaniopkphaaPAx3
import Derived.Test.YtecccaniopkphaaPAx4
namespace Go.Proofs.Ytecccaniopkphaa.PA
open Go.RowKit Go.Proofs.YtecccaniopkphaaW.PrintWords Go.Proofs.YtecccaniopkphaaW.PrintLast Go.Proofs.YtecccaniopkphaaW.PrintMore
theorem pmAx5_0_ {P : Prop} (h : P := by repeat (first | (with_reducible first | exact HB.out | apply below_alloc | apply pw_below_drewN | apply below_drew1) | exact HB.out)) : P := h
theorem pmAx5_1_ {P : Prop} (h : P := by (with_reducible repeat (first | apply Kd.R_alloc | apply Kd.R_drewN | apply Kd.R_drew)); exact HO148.out) : P := h
theorem pmAx5_2_ {P : Prop} (h : P := by (with_reducible repeat (first | apply Kd.R_alloc | apply Kd.R_drewN | apply Kd.R_drew)); exact HO151.out) : P := h
theorem pmAx5_3_ {P : Prop} (h : P := by (with_reducible repeat (first | apply Kd.R_alloc | apply Kd.R_drewN | apply Kd.R_drew)); exact HO154.out) : P := h
theorem pmAx5_4_ {P : Prop} (h : P := by (with_reducible repeat (first | apply Kd.R_alloc | apply Kd.R_drewN | apply Kd.R_drew)); exact HO158.out) : P := h
theorem pmAx5_5_ {P : Prop} (h : P := by (with_reducible repeat (first | apply Kd.R_alloc | apply Kd.R_drewN | apply Kd.R_drew)); exact HO161.out) : P := h
theorem pmAx5_6_ {P : Prop} (h : P := by (try simp only [List.map_toArray, List.map_cons, List.map_nil]); first | done | rfl | (simp only [List.length_drop, List.length_take]; rfl)) : P := h
theorem pmAx5_7_ {P : Prop} (h : P := by (with_reducible repeat (first | apply Kd.R_alloc | apply Kd.R_drewN | apply Kd.R_drew)); exact HO164.out) : P := h
theorem pmAx5_8_ {P : Prop} (h : P := by (with_reducible repeat (first | apply Kd.R_alloc | apply Kd.R_drewN | apply Kd.R_drew)); exact HO168.out) : P := h
theorem pmAx5_9_ {P : Prop} (h : P := by first | (with_reducible assumption) | assumption) : P := h
attribute [local go_sem] max2_int min2_int max_two min_two max_three min_three max_four min_four   -- for this text's walks alone
set_option linter.unusedVariables false
set_option linter.unusedSimpArgs false

/-! ### parterreref01_Ints: function 10 -/
def parterreref01_Ints.l0 : Nat → List Int → List Int → Int → Option (Bool)
  | 0, _, _, _ => none
  | k + 1, x0, x1, x5 => if x5 < (x0.length : Int) then (if 0 ≤ x5 then (if x5 < (x1.length : Int) then (if (rd x0 x5) = (rd x1 x5) then (parterreref01_Ints.l0 k x0 x1 (wrap64 (x5 + 1))) else (some false)) else (none)) else (none)) else (some true)
def parterreref01_Ints.f (k : Nat) (l0 : List Int) (l1 : List Int) : Option (Bool) := if (l0.length : Int) = (l1.length : Int) then (parterreref01_Ints.l0 k l0 l1 0) else (some false)
theorem parterreref01_Ints.mono_l : ∀ k, (∀ y0 y1 y2, LeO (parterreref01_Ints.l0 k y0 y1 y2) (parterreref01_Ints.l0 (k + 1) y0 y1 y2))
  | 0 => fun _ _ _ r h => by simp [parterreref01_Ints.l0] at h
  | k + 1 => by
    have ih0 := parterreref01_Ints.mono_l k
    · intro y0 y1 y2
      unfold parterreref01_Ints.l0
      repeat' first
      | (with_reducible exact ih0 _ _ _)
      | (with_reducible exact LeO.refl _)
      | (with_reducible exact LeO.none _)
      | (with_reducible refine LeO.ite ?_ ?_)
      | (with_reducible refine LeO.bind ?_ (fun _ => ?_))
      | exact ih0 _ _ _
      | exact LeO.none _
      | refine LeO.ite ?_ ?_
      | refine LeO.bind ?_ (fun _ => ?_)
theorem parterreref01_Ints.mono : ∀ a0 a1 k, LeO (parterreref01_Ints.f k a0 a1) (parterreref01_Ints.f (k + 1) a0 a1) := by
  intro a0 a1 k
  have ih0 := parterreref01_Ints.mono_l k
  unfold parterreref01_Ints.f
  repeat' first
      | (with_reducible exact ih0 _ _ _)
      | (with_reducible exact LeO.refl _)
      | (with_reducible exact LeO.none _)
      | (with_reducible refine LeO.ite ?_ ?_)
      | (with_reducible refine LeO.bind ?_ (fun _ => ?_))
      | exact ih0 _ _ _
      | exact LeO.none _
      | refine LeO.ite ?_ ?_
      | refine LeO.bind ?_ (fun _ => ?_)
set_option maxHeartbeats 8000000 in
set_option maxRecDepth 100000 in
theorem parterreref01_Ints.calls (k : Nat) (A0 : Option Addr) (c0 : Nat) (l0 : List Int) (A1 : Option Addr) (c1 : Nat) (l1 : List Int) (r : Bool) (w : World) (hr0 : Kd.C (Kd.int .i64) w A0 l0.length l0) (hc0 : l0.length ≤ c0) (hr1 : Kd.C (Kd.int .i64) w A1 l1.length l1) (hc1 : l1.length ≤ c1) (h : parterreref01_Ints.f k l0 l1 = some r) :
    Calls Try.prog 10 #[.slice A0 l0.length c0, .slice A1 l1.length c1] w fun e w' => e = .returned (.bool r) ∧ Drawn0 w w' := by
  have HR0 := Aside0.mk hr0
  have HC0 := Aside0.mk hc0
  clear hr0 hc0
  have HR1 := Aside0.mk hr1
  have HC1 := Aside0.mk hc1
  clear hr1 hc1
  have H : (if (l0.length : Int) = (l1.length : Int) then (parterreref01_Ints.l0 k l0 l1 0) else (some false)) = some r := h
  clear h
  by_cases c3 : (l0.length : Int) = (l1.length : Int)
  · rw [if_pos c3] at H
    have c3b0 : ((l0.length : Int) == (l1.length : Int)) = true := beq_iff_eq.mpr c3
    have c3b1 : ((l0.length : Int) != (l1.length : Int)) = false := bne_eq_false_iff_eq.mpr c3
    have c3b2 : (l0.length == l1.length) = true := by first | simpa using c3 | (simp at c3 ⊢; omega)
    clear c3
    have H' := Aside0.mk H
    clear H
    go_enter Try.func10, Try.ntmps10
    go_wp2
    repeat (go_quiet (fail); try go_wp2)
    go_loopg [5] k (fun kq v5 w' => ∃ (x5_1 : Int), v5 = .int .i64 x5_1 ∧ Aside0 (parterreref01_Ints.l0 kq l0 l1 x5_1 = some r) ∧ Aside0 (kq ≤ k) ∧ Drawn0 w w')
    case atStart => exact ⟨(0), (by first | rfl | (simp; done) | (simp [*]; done)), H', ⟨Nat.le_refl _⟩, by repeat (first | exact Drawn0.refl _ | apply Drawn0.step)⟩
    case round =>
      clear H'
      try clear c1
      try clear p2
      try clear c3
      try clear c3b0
      try clear c3b1
      try clear c3b2
      obtain ⟨x5_1, rfl, HA, HK1, ⟨m1, rfl⟩⟩ := hrel
      cases gk with
      | zero => exact absurd HA.out (by simp [parterreref01_Ints.l0])
      | succ k1 =>
        have H := HA.out
        clear HA
        simp only [parterreref01_Ints.l0] at H
        by_cases c4 : x5_1 < (l0.length : Int)
        · rw [if_pos c4] at H
          have c4b0 : decide (x5_1 < (l0.length : Int)) = true := decide_eq_true c4
          clear c4
          by_cases c5 : 0 ≤ x5_1
          · rw [if_pos c5] at H
            have c5b0 : decide (0 ≤ x5_1) = true := decide_eq_true c5
            clear c5
            by_cases c6 : x5_1 < (l1.length : Int)
            · rw [if_pos c6] at H
              have c6b0 : decide (x5_1 < (l1.length : Int)) = true := decide_eq_true c6
              clear c6
              by_cases c7 : (rd l0 x5_1) = (rd l1 x5_1)
              · rw [if_pos c7] at H
                have c7b0 : ((rd l0 x5_1) == (rd l1 x5_1)) = true := beq_iff_eq.mpr c7
                have c7b1 : ((rd l0 x5_1) != (rd l1 x5_1)) = false := bne_eq_false_iff_eq.mpr c7
                clear c7
                have H' := Aside0.mk H
                clear H
                have p144 : 0 ≤ (x5_1 : Int) := of_decide_eq_true pmAx5_9_
                have q144 : x5_1 < (l0.length : Int) := of_decide_eq_true pmAx5_9_
                obtain ⟨ad144, e144, hx144_0⟩ := Kd.at_int HR0.out x5_1 p144 q144
                cases e144
                replace p144 := eq_true p144
                replace q144 := eq_true q144
                have p145 : 0 ≤ (x5_1 : Int) := of_decide_eq_true pmAx5_9_
                have q145 : x5_1 < (l1.length : Int) := of_decide_eq_true pmAx5_9_
                obtain ⟨ad145, e145, hx145_0⟩ := Kd.at_int HR1.out x5_1 p145 q145
                cases e145
                replace p145 := eq_true p145
                replace q145 := eq_true q145
                go_wp2
                repeat (go_quiet (fail); try go_wp2)
                go_roundg k1
                case measure => have := HK1.out; omega
                case rel => exact ⟨(wrap64 (x5_1 + 1)), (by first | rfl | (simp; done) | (simp [*]; done)), H', ⟨by have := HK1.out; omega⟩, by repeat (first | exact Drawn0.refl _ | apply Drawn0.step)⟩
              · rw [if_neg c7] at H
                have c7b0 : ((rd l0 x5_1) == (rd l1 x5_1)) = false := beq_eq_false_iff_ne.mpr c7
                have c7b1 : ((rd l0 x5_1) != (rd l1 x5_1)) = true := bne_iff_ne.mpr c7
                obtain rfl := Option.some.inj H
                have p144 : 0 ≤ (x5_1 : Int) := of_decide_eq_true pmAx5_9_
                have q144 : x5_1 < (l0.length : Int) := of_decide_eq_true pmAx5_9_
                obtain ⟨ad144, e144, hx144_0⟩ := Kd.at_int HR0.out x5_1 p144 q144
                cases e144
                replace p144 := eq_true p144
                replace q144 := eq_true q144
                have p145 : 0 ≤ (x5_1 : Int) := of_decide_eq_true pmAx5_9_
                have q145 : x5_1 < (l1.length : Int) := of_decide_eq_true pmAx5_9_
                obtain ⟨ad145, e145, hx145_0⟩ := Kd.at_int HR1.out x5_1 p145 q145
                cases e145
                replace p145 := eq_true p145
                replace q145 := eq_true q145
                go_wp2
                repeat (go_quiet (fail); try go_wp2)
                go_ret
                exact ⟨by first | rfl | (simp; done) | (simp [*]; done), by repeat (first | exact Drawn0.refl _ | apply Drawn0.step)⟩
            · rw [if_neg c6] at H
              exact absurd H (by simp)
          · rw [if_neg c5] at H
            exact absurd H (by simp)
        · rw [if_neg c4] at H
          have c4b0 : decide (x5_1 < (l0.length : Int)) = false := decide_eq_false c4
          clear c4
          obtain rfl := Option.some.inj H
          go_wp2
          repeat (go_quiet (fail); try go_wp2)
          go_ret
          exact ⟨by first | rfl | (simp; done) | (simp [*]; done), by repeat (first | exact Drawn0.refl _ | apply Drawn0.step)⟩
  · rw [if_neg c3] at H
    have c3b0 : ((l0.length : Int) == (l1.length : Int)) = false := beq_eq_false_iff_ne.mpr c3
    have c3b1 : ((l0.length : Int) != (l1.length : Int)) = true := bne_iff_ne.mpr c3
    have c3b2 : (l0.length == l1.length) = false := by first | simpa using c3 | (simp at c3 ⊢; omega)
    obtain rfl := Option.some.inj H
    go_enter Try.func10, Try.ntmps10
    go_wp2
    repeat (go_quiet (fail); try go_wp2)
    go_ret
    exact ⟨by first | rfl | (simp; done) | (simp [*]; done), by repeat (first | exact Drawn0.refl _ | apply Drawn0.step)⟩

/-! ### parterrelaw23_lives: function 7 -/
def parterrelaw23_lives.f (k : Nat)  : Option (Bool) := (spread_Up.f k 10 (([2, 100, 100] : List Int))).bind fun t149 => ((parterreref01_Ints.f k t149 (([2, 4, 4] : List Int))).bind fun t155 => (if t155 = true then ((spread_Up.f k 11 (([2, 100, 100] : List Int))).bind fun t159 => ((parterreref01_Ints.f k t159 (([2, 5, 4] : List Int))).bind fun t165 => (if t165 = true then ((spread_Fill.f k 10 (([2, 3] : List Int)) (([true, false] : List Bool))).bind fun t172 => ((parterreref01_Ints.f k t172 (([7, 3] : List Int))).bind fun t178 => (some t178))) else (some false)))) else (some false)))
theorem parterrelaw23_lives.mono : ∀ k, LeO (parterrelaw23_lives.f k ) (parterrelaw23_lives.f (k + 1) ) := by
  intro  k
  unfold parterrelaw23_lives.f
  repeat' first
      | (with_reducible exact parterreref01_Ints.mono _ _ _)
      | (with_reducible exact spread_Fill.mono _ _ _ _)
      | (with_reducible exact spread_Up.mono _ _ _)
      | (with_reducible exact LeO.refl _)
      | (with_reducible exact LeO.none _)
      | (with_reducible refine LeO.ite ?_ ?_)
      | (with_reducible refine LeO.bind ?_ (fun _ => ?_))
      | exact parterreref01_Ints.mono _ _ _
      | exact spread_Fill.mono _ _ _ _
      | exact spread_Up.mono _ _ _
      | exact LeO.none _
      | refine LeO.ite ?_ ?_
      | refine LeO.bind ?_ (fun _ => ?_)
set_option maxHeartbeats 8000000 in
set_option maxRecDepth 100000 in
theorem parterrelaw23_lives.calls (k : Nat)  (r : Bool) (w : World) (h : parterrelaw23_lives.f k  = some r) :
    Calls Try.prog 7 #[] w fun e w' => e = .returned (.bool r) ∧ Below w.heap.size w w' := by
  have HB := Aside0.mk (Below.refl w.heap.size w)
  have H : ((spread_Up.f k 10 (([2, 100, 100] : List Int))).bind fun t149 => ((parterreref01_Ints.f k t149 (([2, 4, 4] : List Int))).bind fun t155 => (if t155 = true then ((spread_Up.f k 11 (([2, 100, 100] : List Int))).bind fun t159 => ((parterreref01_Ints.f k t159 (([2, 5, 4] : List Int))).bind fun t165 => (if t165 = true then ((spread_Fill.f k 10 (([2, 3] : List Int)) (([true, false] : List Bool))).bind fun t172 => ((parterreref01_Ints.f k t172 (([7, 3] : List Int))).bind fun t178 => (some t178))) else (some false)))) else (some false)))) = some r := h
  clear h
  obtain ⟨y146, hy146⟩ : ∃ y_ : List Int, y_ = (([2, 100, 100] : List Int)) := ⟨_, rfl⟩
  replace H : ((spread_Up.f k 10 y146).bind fun t149 => ((parterreref01_Ints.f k t149 (([2, 4, 4] : List Int))).bind fun t155 => (if t155 = true then ((spread_Up.f k 11 (([2, 100, 100] : List Int))).bind fun t159 => ((parterreref01_Ints.f k t159 (([2, 5, 4] : List Int))).bind fun t165 => (if t165 = true then ((spread_Fill.f k 10 (([2, 3] : List Int)) (([true, false] : List Bool))).bind fun t172 => ((parterreref01_Ints.f k t172 (([7, 3] : List Int))).bind fun t178 => (some t178))) else (some false)))) else (some false)))) = some r := by first | (rw [hy146]; with_reducible exact H) | (have H2_ := (Option.bind_some _ _).symm.trans H; rw [hy146]; with_reducible exact H2_) | (have H2_ := (Option.bind_some _ _).symm.trans H; with_reducible exact H2_) | with_reducible exact H | (rw [hy146]; exact H) | exact H
  have Ny146 := Aside0.mk hy146
  clear hy146
  replace H := Option.bind_eq_some_iff.mp H
  obtain ⟨t149, A10, H⟩ := H
  replace H : ((parterreref01_Ints.f k t149 (([2, 4, 4] : List Int))).bind fun t155 => (if t155 = true then ((spread_Up.f k 11 (([2, 100, 100] : List Int))).bind fun t159 => ((parterreref01_Ints.f k t159 (([2, 5, 4] : List Int))).bind fun t165 => (if t165 = true then ((spread_Fill.f k 10 (([2, 3] : List Int)) (([true, false] : List Bool))).bind fun t172 => ((parterreref01_Ints.f k t172 (([7, 3] : List Int))).bind fun t178 => (some t178))) else (some false)))) else (some false))) = some r := H
  have A1 := Aside0.mk A10
  clear A10
  obtain ⟨y152, hy152⟩ : ∃ y_ : List Int, y_ = (([2, 4, 4] : List Int)) := ⟨_, rfl⟩
  replace H : ((parterreref01_Ints.f k t149 y152).bind fun t155 => (if t155 = true then ((spread_Up.f k 11 (([2, 100, 100] : List Int))).bind fun t159 => ((parterreref01_Ints.f k t159 (([2, 5, 4] : List Int))).bind fun t165 => (if t165 = true then ((spread_Fill.f k 10 (([2, 3] : List Int)) (([true, false] : List Bool))).bind fun t172 => ((parterreref01_Ints.f k t172 (([7, 3] : List Int))).bind fun t178 => (some t178))) else (some false)))) else (some false))) = some r := by first | (rw [hy152]; with_reducible exact H) | (have H2_ := (Option.bind_some _ _).symm.trans H; rw [hy152]; with_reducible exact H2_) | (have H2_ := (Option.bind_some _ _).symm.trans H; with_reducible exact H2_) | with_reducible exact H | (rw [hy152]; exact H) | exact H
  have Ny152 := Aside0.mk hy152
  clear hy152
  replace H := Option.bind_eq_some_iff.mp H
  obtain ⟨t155, A20, H⟩ := H
  replace H : (if t155 = true then ((spread_Up.f k 11 (([2, 100, 100] : List Int))).bind fun t159 => ((parterreref01_Ints.f k t159 (([2, 5, 4] : List Int))).bind fun t165 => (if t165 = true then ((spread_Fill.f k 10 (([2, 3] : List Int)) (([true, false] : List Bool))).bind fun t172 => ((parterreref01_Ints.f k t172 (([7, 3] : List Int))).bind fun t178 => (some t178))) else (some false)))) else (some false)) = some r := H
  have A2 := Aside0.mk A20
  clear A20
  by_cases c3 : t155 = true
  · subst c3
    have H1 : ((spread_Up.f k 11 (([2, 100, 100] : List Int))).bind fun t159 => ((parterreref01_Ints.f k t159 (([2, 5, 4] : List Int))).bind fun t165 => (if t165 = true then ((spread_Fill.f k 10 (([2, 3] : List Int)) (([true, false] : List Bool))).bind fun t172 => ((parterreref01_Ints.f k t172 (([7, 3] : List Int))).bind fun t178 => (some t178))) else (some false)))) = some r := by rw [if_pos rfl] at H; exact H
    clear H
    have H := H1
    clear H1
    obtain ⟨y156, hy156⟩ : ∃ y_ : List Int, y_ = (([2, 100, 100] : List Int)) := ⟨_, rfl⟩
    replace H : ((spread_Up.f k 11 y156).bind fun t159 => ((parterreref01_Ints.f k t159 (([2, 5, 4] : List Int))).bind fun t165 => (if t165 = true then ((spread_Fill.f k 10 (([2, 3] : List Int)) (([true, false] : List Bool))).bind fun t172 => ((parterreref01_Ints.f k t172 (([7, 3] : List Int))).bind fun t178 => (some t178))) else (some false)))) = some r := by first | (rw [hy156]; with_reducible exact H) | (have H2_ := (Option.bind_some _ _).symm.trans H; rw [hy156]; with_reducible exact H2_) | (have H2_ := (Option.bind_some _ _).symm.trans H; with_reducible exact H2_) | with_reducible exact H | (rw [hy156]; exact H) | exact H
    have Ny156 := Aside0.mk hy156
    clear hy156
    replace H := Option.bind_eq_some_iff.mp H
    obtain ⟨t159, A40, H⟩ := H
    replace H : ((parterreref01_Ints.f k t159 (([2, 5, 4] : List Int))).bind fun t165 => (if t165 = true then ((spread_Fill.f k 10 (([2, 3] : List Int)) (([true, false] : List Bool))).bind fun t172 => ((parterreref01_Ints.f k t172 (([7, 3] : List Int))).bind fun t178 => (some t178))) else (some false))) = some r := H
    have A4 := Aside0.mk A40
    clear A40
    obtain ⟨y162, hy162⟩ : ∃ y_ : List Int, y_ = (([2, 5, 4] : List Int)) := ⟨_, rfl⟩
    replace H : ((parterreref01_Ints.f k t159 y162).bind fun t165 => (if t165 = true then ((spread_Fill.f k 10 (([2, 3] : List Int)) (([true, false] : List Bool))).bind fun t172 => ((parterreref01_Ints.f k t172 (([7, 3] : List Int))).bind fun t178 => (some t178))) else (some false))) = some r := by first | (rw [hy162]; with_reducible exact H) | (have H2_ := (Option.bind_some _ _).symm.trans H; rw [hy162]; with_reducible exact H2_) | (have H2_ := (Option.bind_some _ _).symm.trans H; with_reducible exact H2_) | with_reducible exact H | (rw [hy162]; exact H) | exact H
    have Ny162 := Aside0.mk hy162
    clear hy162
    replace H := Option.bind_eq_some_iff.mp H
    obtain ⟨t165, A50, H⟩ := H
    replace H : (if t165 = true then ((spread_Fill.f k 10 (([2, 3] : List Int)) (([true, false] : List Bool))).bind fun t172 => ((parterreref01_Ints.f k t172 (([7, 3] : List Int))).bind fun t178 => (some t178))) else (some false)) = some r := H
    have A5 := Aside0.mk A50
    clear A50
    by_cases c6 : t165 = true
    · subst c6
      have H1 : ((spread_Fill.f k 10 (([2, 3] : List Int)) (([true, false] : List Bool))).bind fun t172 => ((parterreref01_Ints.f k t172 (([7, 3] : List Int))).bind fun t178 => (some t178))) = some r := by rw [if_pos rfl] at H; exact H
      clear H
      have H := H1
      clear H1
      obtain ⟨y166, hy166⟩ : ∃ y_ : List Int, y_ = (([2, 3] : List Int)) := ⟨_, rfl⟩
      replace H : ((spread_Fill.f k 10 y166 (([true, false] : List Bool))).bind fun t172 => ((parterreref01_Ints.f k t172 (([7, 3] : List Int))).bind fun t178 => (some t178))) = some r := by first | (rw [hy166]; with_reducible exact H) | (have H2_ := (Option.bind_some _ _).symm.trans H; rw [hy166]; with_reducible exact H2_) | (have H2_ := (Option.bind_some _ _).symm.trans H; with_reducible exact H2_) | with_reducible exact H | (rw [hy166]; exact H) | exact H
      have Ny166 := Aside0.mk hy166
      clear hy166
      obtain ⟨y169, hy169⟩ : ∃ y_ : List Bool, y_ = (([true, false] : List Bool)) := ⟨_, rfl⟩
      replace H : ((spread_Fill.f k 10 y166 y169).bind fun t172 => ((parterreref01_Ints.f k t172 (([7, 3] : List Int))).bind fun t178 => (some t178))) = some r := by first | (rw [hy169]; with_reducible exact H) | (have H2_ := (Option.bind_some _ _).symm.trans H; rw [hy169]; with_reducible exact H2_) | (have H2_ := (Option.bind_some _ _).symm.trans H; with_reducible exact H2_) | with_reducible exact H | (rw [hy169]; exact H) | exact H
      have Ny169 := Aside0.mk hy169
      clear hy169
      replace H := Option.bind_eq_some_iff.mp H
      obtain ⟨t172, A70, H⟩ := H
      replace H : ((parterreref01_Ints.f k t172 (([7, 3] : List Int))).bind fun t178 => (some t178)) = some r := H
      have A7 := Aside0.mk A70
      clear A70
      obtain ⟨y175, hy175⟩ : ∃ y_ : List Int, y_ = (([7, 3] : List Int)) := ⟨_, rfl⟩
      replace H : ((parterreref01_Ints.f k t172 y175).bind fun t178 => (some t178)) = some r := by first | (rw [hy175]; with_reducible exact H) | (have H2_ := (Option.bind_some _ _).symm.trans H; rw [hy175]; with_reducible exact H2_) | (have H2_ := (Option.bind_some _ _).symm.trans H; with_reducible exact H2_) | with_reducible exact H | (rw [hy175]; exact H) | exact H
      have Ny175 := Aside0.mk hy175
      clear hy175
      replace H := Option.bind_eq_some_iff.mp H
      obtain ⟨t178, A80, H⟩ := H
      replace H : (some t178) = some r := H
      have A8 := Aside0.mk A80
      clear A80
      obtain rfl := Option.some.inj H
      go_enter Try.func7, Try.ntmps7
      go_wp2_with (first | ((with_reducible refine gate_dst (N := 1) rfl ?_); (try (refine gate_guard (by rfl) ?_; dsimp only)); refine Kd.R_lit (Kd.int .i64) _ 3 ?hg (N := 1) ?hd (xs := ([2, 100, 100] : List Int)) (inner := [.int .i64 2, .int .i64 100, .int .i64 100]) (ok := fun _ => True) (okp := fun _ => True) ?hr ?hp (fun _ hk => hk) trivial (Below.refl _ _) (Nat.le_refl _) (by simp) ?_; (case hd => rfl); (case hg => rfl); (case hr => first | (go_simp; done) | (go_simp; rfl)); (case hp => exact (Reps.one (show Kd.M (Kd.int .i64) _ _ _ 2 [.int .i64 2] from rfl) (Reps.one (show Kd.M (Kd.int .i64) _ _ _ 100 [.int .i64 100] from rfl) (Reps.one (show Kd.M (Kd.int .i64) _ _ _ 100 [.int .i64 100] from rfl) (Reps.none _ _))))); intro v147 w9 ho10 hb hg_ hnew_; clear hg_ hnew_; (first | rw [← Ny146.out] at ho10 | (simp only [Int.reduceToNat] at ho10; rw [← Ny146.out] at ho10)); have n0_ := Aside0.mk (Kd.R_lower ho10 (below_size pmAx5_0_)); have n1_ := Aside0.mk (below_step pmAx5_0_ hb); clear HB; have HO148 := n0_; have HB := n1_; clear n0_ n1_; clear hb ho10; obtain ⟨Ao11, co11, eo11⟩ := Kd.R_slice HO148.out; subst eo11) | ((with_reducible refine gate_callee (f := 9) rfl ?_); refine goesL_ (some 2) rfl rfl Try.func9 (by kernel_rfl) rfl #[.int .i64 10, .slice Ao11 y146.length co11] rfl pmAx5_6_ ?_; (with_reducible refine (spread_Up.calls k 10 _ _ y146 t149 _ ?side1 ?side2 A1.out).mono ?_); (case side1 => repeat (first | exact (Kd.R_reads' HO148.out).2.2 | (with_reducible refine Kd.C_alloc ?_ _) | (with_reducible refine Kd.C_drewN ?_ _) | (with_reducible refine Kd.C_drew ?_))); (case side2 => exact (Kd.R_reads' HO148.out).2.1); rintro e w12 ⟨v150, rfl, ho0, hb⟩; refine ⟨_, rfl, ?_⟩; have n0_ := Aside0.mk (Kd.R_elder' pmAx5_1_ (Kd.R_base ho0) hb); have n1_ := Aside0.mk (Kd.R_lower (Kd.R_new' ho0 (Kd.R_lt pmAx5_1_)) (below_size pmAx5_0_)); have n2_ := Aside0.mk (below_step pmAx5_0_ hb); clear HO148; clear HB; have HO148 := n0_; have HO151 := n1_; have HB := n2_; clear n0_ n1_ n2_; (try clear hb); (try clear hb2); (try clear hk); (try clear hi); (try clear ho0)) | ((with_reducible refine gate_dst (N := 3) rfl ?_); (try (refine gate_guard (by rfl) ?_; dsimp only)); refine Kd.R_lit (Kd.int .i64) _ 3 ?hg (N := 3) ?hd (xs := ([2, 4, 4] : List Int)) (inner := [.int .i64 2, .int .i64 4, .int .i64 4]) (ok := fun _ => True) (okp := fun _ => True) ?hr ?hp (fun _ hk => hk) trivial (Below.refl _ _) (Nat.le_refl _) (by simp) ?_; (case hd => rfl); (case hg => rfl); (case hr => first | (go_simp; done) | (go_simp; rfl)); (case hp => exact (Reps.one (show Kd.M (Kd.int .i64) _ _ _ 2 [.int .i64 2] from rfl) (Reps.one (show Kd.M (Kd.int .i64) _ _ _ 4 [.int .i64 4] from rfl) (Reps.one (show Kd.M (Kd.int .i64) _ _ _ 4 [.int .i64 4] from rfl) (Reps.none _ _))))); intro v153 w13 ho14 hb hg_ hnew_; clear hg_ hnew_; (first | rw [← Ny152.out] at ho14 | (simp only [Int.reduceToNat] at ho14; rw [← Ny152.out] at ho14)); have n0_ := Aside0.mk (Kd.R_elder' pmAx5_1_ (Kd.R_base ho14) hb); have n1_ := Aside0.mk (Kd.R_elder' pmAx5_2_ (Kd.R_base ho14) hb); have n2_ := Aside0.mk (Kd.R_lower (Kd.R_new' (Kd.R_new' ho14 (Kd.R_lt pmAx5_1_)) (Kd.R_lt pmAx5_2_)) (below_size pmAx5_0_)); have n3_ := Aside0.mk (below_step pmAx5_0_ hb); clear HO148; clear HO151; clear HB; have HO148 := n0_; have HO151 := n1_; have HO154 := n2_; have HB := n3_; clear n0_ n1_ n2_ n3_; clear hb ho14; obtain ⟨Ao15, co15, eo15⟩ := Kd.R_slice HO151.out; subst eo15; obtain ⟨Ao16, co16, eo16⟩ := Kd.R_slice HO154.out; subst eo16) | ((with_reducible refine gate_callee (f := 10) rfl ?_); refine goesL_ (some 4) rfl rfl Try.func10 (by kernel_rfl) rfl #[.slice Ao15 t149.length co15, .slice Ao16 y152.length co16] rfl pmAx5_6_ ?_; (with_reducible refine (parterreref01_Ints.calls k _ _ t149 _ _ y152 true _ ?side1 ?side2 ?side3 ?side4 A2.out).mono ?_); (case side1 => repeat (first | exact (Kd.R_reads' HO151.out).2.2 | (with_reducible refine Kd.C_alloc ?_ _) | (with_reducible refine Kd.C_drewN ?_ _) | (with_reducible refine Kd.C_drew ?_))); (case side2 => exact (Kd.R_reads' HO151.out).2.1); (case side3 => repeat (first | exact (Kd.R_reads' HO154.out).2.2 | (with_reducible refine Kd.C_alloc ?_ _) | (with_reducible refine Kd.C_drewN ?_ _) | (with_reducible refine Kd.C_drew ?_))); (case side4 => exact (Kd.R_reads' HO154.out).2.1); rintro e w' ⟨rfl, ⟨nd, rfl⟩⟩; refine ⟨_, rfl, ?_⟩) | ((with_reducible refine gate_dst (N := 6) rfl ?_); (try (refine gate_guard (by rfl) ?_; dsimp only)); refine Kd.R_lit (Kd.int .i64) _ 3 ?hg (N := 6) ?hd (xs := ([2, 100, 100] : List Int)) (inner := [.int .i64 2, .int .i64 100, .int .i64 100]) (ok := fun _ => True) (okp := fun _ => True) ?hr ?hp (fun _ hk => hk) trivial (Below.refl _ _) (Nat.le_refl _) (by simp) ?_; (case hd => rfl); (case hg => rfl); (case hr => first | (go_simp; done) | (go_simp; rfl)); (case hp => exact (Reps.one (show Kd.M (Kd.int .i64) _ _ _ 2 [.int .i64 2] from rfl) (Reps.one (show Kd.M (Kd.int .i64) _ _ _ 100 [.int .i64 100] from rfl) (Reps.one (show Kd.M (Kd.int .i64) _ _ _ 100 [.int .i64 100] from rfl) (Reps.none _ _))))); intro v157 w17 ho18 hb hg_ hnew_; clear hg_ hnew_; (first | rw [← Ny156.out] at ho18 | (simp only [Int.reduceToNat] at ho18; rw [← Ny156.out] at ho18)); have n0_ := Aside0.mk (Kd.R_elder' pmAx5_1_ (Kd.R_base ho18) hb); have n1_ := Aside0.mk (Kd.R_elder' pmAx5_2_ (Kd.R_base ho18) hb); have n2_ := Aside0.mk (Kd.R_elder' pmAx5_3_ (Kd.R_base ho18) hb); have n3_ := Aside0.mk (Kd.R_lower (Kd.R_new' (Kd.R_new' (Kd.R_new' ho18 (Kd.R_lt pmAx5_1_)) (Kd.R_lt pmAx5_2_)) (Kd.R_lt pmAx5_3_)) (below_size pmAx5_0_)); have n4_ := Aside0.mk (below_step pmAx5_0_ hb); clear HO148; clear HO151; clear HO154; clear HB; have HO148 := n0_; have HO151 := n1_; have HO154 := n2_; have HO158 := n3_; have HB := n4_; clear n0_ n1_ n2_ n3_ n4_; clear hb ho18; obtain ⟨Ao19, co19, eo19⟩ := Kd.R_slice HO158.out; subst eo19) | (go_at_call 9; (with_reducible refine (spread_Up.calls k 11 _ _ y156 t159 _ ?side1 ?side2 A4.out).mono ?_); (case side1 => repeat (first | exact (Kd.R_reads' HO158.out).2.2 | (with_reducible refine Kd.C_alloc ?_ _) | (with_reducible refine Kd.C_drewN ?_ _) | (with_reducible refine Kd.C_drew ?_))); (case side2 => exact (Kd.R_reads' HO158.out).2.1); rintro e w20 ⟨v160, rfl, ho0, hb⟩; have n0_ := Aside0.mk (Kd.R_elder' pmAx5_1_ (Kd.R_base ho0) hb); have n1_ := Aside0.mk (Kd.R_elder' pmAx5_2_ (Kd.R_base ho0) hb); have n2_ := Aside0.mk (Kd.R_elder' pmAx5_3_ (Kd.R_base ho0) hb); have n3_ := Aside0.mk (Kd.R_elder' pmAx5_4_ (Kd.R_base ho0) hb); have n4_ := Aside0.mk (Kd.R_lower (Kd.R_new' (Kd.R_new' (Kd.R_new' (Kd.R_new' ho0 (Kd.R_lt pmAx5_1_)) (Kd.R_lt pmAx5_2_)) (Kd.R_lt pmAx5_3_)) (Kd.R_lt pmAx5_4_)) (below_size pmAx5_0_)); have n5_ := Aside0.mk (below_step pmAx5_0_ hb); clear HO148; clear HO151; clear HO154; clear HO158; clear HB; have HO148 := n0_; have HO151 := n1_; have HO154 := n2_; have HO158 := n3_; have HO161 := n4_; have HB := n5_; clear n0_ n1_ n2_ n3_ n4_ n5_; (try clear hb); (try clear hb2); (try clear hk); (try clear hi); (try clear ho0)) | ((with_reducible refine gate_dst (N := 8) rfl ?_); (try (refine gate_guard (by rfl) ?_; dsimp only)); refine Kd.R_lit (Kd.int .i64) _ 3 ?hg (N := 8) ?hd (xs := ([2, 5, 4] : List Int)) (inner := [.int .i64 2, .int .i64 5, .int .i64 4]) (ok := fun _ => True) (okp := fun _ => True) ?hr ?hp (fun _ hk => hk) trivial (Below.refl _ _) (Nat.le_refl _) (by simp) ?_; (case hd => rfl); (case hg => rfl); (case hr => first | (go_simp; done) | (go_simp; rfl)); (case hp => exact (Reps.one (show Kd.M (Kd.int .i64) _ _ _ 2 [.int .i64 2] from rfl) (Reps.one (show Kd.M (Kd.int .i64) _ _ _ 5 [.int .i64 5] from rfl) (Reps.one (show Kd.M (Kd.int .i64) _ _ _ 4 [.int .i64 4] from rfl) (Reps.none _ _))))); intro v163 w21 ho22 hb hg_ hnew_; clear hg_ hnew_; (first | rw [← Ny162.out] at ho22 | (simp only [Int.reduceToNat] at ho22; rw [← Ny162.out] at ho22)); have n0_ := Aside0.mk (Kd.R_elder' pmAx5_1_ (Kd.R_base ho22) hb); have n1_ := Aside0.mk (Kd.R_elder' pmAx5_2_ (Kd.R_base ho22) hb); have n2_ := Aside0.mk (Kd.R_elder' pmAx5_3_ (Kd.R_base ho22) hb); have n3_ := Aside0.mk (Kd.R_elder' pmAx5_4_ (Kd.R_base ho22) hb); have n4_ := Aside0.mk (Kd.R_elder' pmAx5_5_ (Kd.R_base ho22) hb); have n5_ := Aside0.mk (Kd.R_lower (Kd.R_new' (Kd.R_new' (Kd.R_new' (Kd.R_new' (Kd.R_new' ho22 (Kd.R_lt pmAx5_1_)) (Kd.R_lt pmAx5_2_)) (Kd.R_lt pmAx5_3_)) (Kd.R_lt pmAx5_4_)) (Kd.R_lt pmAx5_5_)) (below_size pmAx5_0_)); have n6_ := Aside0.mk (below_step pmAx5_0_ hb); clear HO148; clear HO151; clear HO154; clear HO158; clear HO161; clear HB; have HO148 := n0_; have HO151 := n1_; have HO154 := n2_; have HO158 := n3_; have HO161 := n4_; have HO164 := n5_; have HB := n6_; clear n0_ n1_ n2_ n3_ n4_ n5_ n6_; clear hb ho22; obtain ⟨Ao23, co23, eo23⟩ := Kd.R_slice HO161.out; subst eo23; obtain ⟨Ao24, co24, eo24⟩ := Kd.R_slice HO164.out; subst eo24) | (go_at_call 10; (with_reducible refine (parterreref01_Ints.calls k _ _ t159 _ _ y162 true _ ?side1 ?side2 ?side3 ?side4 A5.out).mono ?_); (case side1 => repeat (first | exact (Kd.R_reads' HO161.out).2.2 | (with_reducible refine Kd.C_alloc ?_ _) | (with_reducible refine Kd.C_drewN ?_ _) | (with_reducible refine Kd.C_drew ?_))); (case side2 => exact (Kd.R_reads' HO161.out).2.1); (case side3 => repeat (first | exact (Kd.R_reads' HO164.out).2.2 | (with_reducible refine Kd.C_alloc ?_ _) | (with_reducible refine Kd.C_drewN ?_ _) | (with_reducible refine Kd.C_drew ?_))); (case side4 => exact (Kd.R_reads' HO164.out).2.1); rintro e w' ⟨rfl, ⟨nd, rfl⟩⟩) | ((with_reducible refine gate_dst (N := 12) rfl ?_); (try (refine gate_guard (by rfl) ?_; dsimp only)); refine Kd.R_lit (Kd.int .i64) _ 3 ?hg (N := 12) ?hd (xs := ([2, 3] : List Int)) (inner := [.int .i64 2, .int .i64 3]) (ok := fun _ => True) (okp := fun _ => True) ?hr ?hp (fun _ hk => hk) trivial (Below.refl _ _) (Nat.le_refl _) (by simp) ?_; (case hd => rfl); (case hg => rfl); (case hr => first | (go_simp; done) | (go_simp; rfl)); (case hp => exact (Reps.one (show Kd.M (Kd.int .i64) _ _ _ 2 [.int .i64 2] from rfl) (Reps.one (show Kd.M (Kd.int .i64) _ _ _ 3 [.int .i64 3] from rfl) (Reps.none _ _)))); intro v167 w25 ho26 hb hg_ hnew_; clear hg_ hnew_; (first | rw [← Ny166.out] at ho26 | (simp only [Int.reduceToNat] at ho26; rw [← Ny166.out] at ho26)); have n0_ := Aside0.mk (Kd.R_elder' pmAx5_1_ (Kd.R_base ho26) hb); have n1_ := Aside0.mk (Kd.R_elder' pmAx5_2_ (Kd.R_base ho26) hb); have n2_ := Aside0.mk (Kd.R_elder' pmAx5_3_ (Kd.R_base ho26) hb); have n3_ := Aside0.mk (Kd.R_elder' pmAx5_4_ (Kd.R_base ho26) hb); have n4_ := Aside0.mk (Kd.R_elder' pmAx5_5_ (Kd.R_base ho26) hb); have n5_ := Aside0.mk (Kd.R_elder' pmAx5_7_ (Kd.R_base ho26) hb); have n6_ := Aside0.mk (Kd.R_lower (Kd.R_new' (Kd.R_new' (Kd.R_new' (Kd.R_new' (Kd.R_new' (Kd.R_new' ho26 (Kd.R_lt pmAx5_1_)) (Kd.R_lt pmAx5_2_)) (Kd.R_lt pmAx5_3_)) (Kd.R_lt pmAx5_4_)) (Kd.R_lt pmAx5_5_)) (Kd.R_lt pmAx5_7_)) (below_size pmAx5_0_)); have n7_ := Aside0.mk (below_step pmAx5_0_ hb); clear HO148; clear HO151; clear HO154; clear HO158; clear HO161; clear HO164; clear HB; have HO148 := n0_; have HO151 := n1_; have HO154 := n2_; have HO158 := n3_; have HO161 := n4_; have HO164 := n5_; have HO168 := n6_; have HB := n7_; clear n0_ n1_ n2_ n3_ n4_ n5_ n6_ n7_; clear hb ho26) | ((with_reducible refine gate_dst (N := 13) rfl ?_); (try (refine gate_guard (by rfl) ?_; dsimp only)); refine Kd.R_lit Kd.bool _ 4 ?hg (N := 13) ?hd (xs := ([true, false] : List Bool)) (inner := [.bool true, .bool false]) (ok := fun _ => True) (okp := fun _ => True) ?hr ?hp (fun _ hk => hk) trivial (Below.refl _ _) (Nat.le_refl _) (by simp) ?_; (case hd => rfl); (case hg => rfl); (case hr => first | (go_simp; done) | (go_simp; rfl)); (case hp => exact (Reps.one (show Kd.M Kd.bool _ _ _ true [.bool true] from rfl) (Reps.one (show Kd.M Kd.bool _ _ _ false [.bool false] from rfl) (Reps.none _ _)))); intro v170 w27 ho28 hb hg_ hnew_; clear hg_ hnew_; (first | rw [← Ny169.out] at ho28 | (simp only [Int.reduceToNat] at ho28; rw [← Ny169.out] at ho28)); have n0_ := Aside0.mk (Kd.R_below pmAx5_1_ hb); have n1_ := Aside0.mk (Kd.R_below pmAx5_2_ hb); have n2_ := Aside0.mk (Kd.R_below pmAx5_3_ hb); have n3_ := Aside0.mk (Kd.R_below pmAx5_4_ hb); have n4_ := Aside0.mk (Kd.R_below pmAx5_5_ hb); have n5_ := Aside0.mk (Kd.R_below pmAx5_7_ hb); have n6_ := Aside0.mk (Kd.R_below pmAx5_8_ hb); have n7_ := Aside0.mk (Kd.R_lower ho28 (below_size pmAx5_0_)); have n8_ := Aside0.mk (below_step pmAx5_0_ hb); clear HO148; clear HO151; clear HO154; clear HO158; clear HO161; clear HO164; clear HO168; clear HB; have HO148 := n0_; have HO151 := n1_; have HO154 := n2_; have HO158 := n3_; have HO161 := n4_; have HO164 := n5_; have HO168 := n6_; have HO171 := n7_; have HB := n8_; clear n0_ n1_ n2_ n3_ n4_ n5_ n6_ n7_ n8_; clear hb ho28; obtain ⟨Ao29, co29, eo29⟩ := Kd.R_slice HO168.out; subst eo29; obtain ⟨Ao30, co30, eo30⟩ := Kd.R_slice HO171.out; subst eo30) | (go_at_call 8; (with_reducible refine (spread_Fill.calls k 10 _ _ y166 _ _ y169 t172 _ ?side1 ?side2 ?side3 ?side4 A7.out).mono ?_); (case side1 => repeat (first | exact (Kd.R_reads' HO168.out).2.2 | (with_reducible refine Kd.C_alloc ?_ _) | (with_reducible refine Kd.C_drewN ?_ _) | (with_reducible refine Kd.C_drew ?_))); (case side2 => exact (Kd.R_reads' HO168.out).2.1); (case side3 => repeat (first | exact (Kd.R_reads' HO171.out).2.2 | (with_reducible refine Kd.C_alloc ?_ _) | (with_reducible refine Kd.C_drewN ?_ _) | (with_reducible refine Kd.C_drew ?_))); (case side4 => exact (Kd.R_reads' HO171.out).2.1); rintro e w31 ⟨v173, rfl, ho0, hb⟩; have n0_ := Aside0.mk (Kd.R_elder' pmAx5_1_ (Kd.R_base ho0) hb); have n1_ := Aside0.mk (Kd.R_elder' pmAx5_2_ (Kd.R_base ho0) hb); have n2_ := Aside0.mk (Kd.R_elder' pmAx5_3_ (Kd.R_base ho0) hb); have n3_ := Aside0.mk (Kd.R_elder' pmAx5_4_ (Kd.R_base ho0) hb); have n4_ := Aside0.mk (Kd.R_elder' pmAx5_5_ (Kd.R_base ho0) hb); have n5_ := Aside0.mk (Kd.R_elder' pmAx5_7_ (Kd.R_base ho0) hb); have n6_ := Aside0.mk (Kd.R_elder' pmAx5_8_ (Kd.R_base ho0) hb); have n7_ := Aside0.mk (Kd.R_below (by (with_reducible repeat (first | apply Kd.R_alloc | apply Kd.R_drewN | apply Kd.R_drew)); exact HO171.out) hb); have n8_ := Aside0.mk (Kd.R_lower (Kd.R_new' (Kd.R_new' (Kd.R_new' (Kd.R_new' (Kd.R_new' (Kd.R_new' (Kd.R_new' ho0 (Kd.R_lt pmAx5_1_)) (Kd.R_lt pmAx5_2_)) (Kd.R_lt pmAx5_3_)) (Kd.R_lt pmAx5_4_)) (Kd.R_lt pmAx5_5_)) (Kd.R_lt pmAx5_7_)) (Kd.R_lt pmAx5_8_)) (below_size pmAx5_0_)); have n9_ := Aside0.mk (below_step pmAx5_0_ hb); clear HO148; clear HO151; clear HO154; clear HO158; clear HO161; clear HO164; clear HO168; clear HO171; clear HB; have HO148 := n0_; have HO151 := n1_; have HO154 := n2_; have HO158 := n3_; have HO161 := n4_; have HO164 := n5_; have HO168 := n6_; have HO171 := n7_; have HO174 := n8_; have HB := n9_; clear n0_ n1_ n2_ n3_ n4_ n5_ n6_ n7_ n8_ n9_; (try clear hb); (try clear hb2); (try clear hk); (try clear hi); (try clear ho0)) | ((with_reducible refine gate_dst (N := 15) rfl ?_); (try (refine gate_guard (by rfl) ?_; dsimp only)); refine Kd.R_lit (Kd.int .i64) _ 3 ?hg (N := 15) ?hd (xs := ([7, 3] : List Int)) (inner := [.int .i64 7, .int .i64 3]) (ok := fun _ => True) (okp := fun _ => True) ?hr ?hp (fun _ hk => hk) trivial (Below.refl _ _) (Nat.le_refl _) (by simp) ?_; (case hd => rfl); (case hg => rfl); (case hr => first | (go_simp; done) | (go_simp; rfl)); (case hp => exact (Reps.one (show Kd.M (Kd.int .i64) _ _ _ 7 [.int .i64 7] from rfl) (Reps.one (show Kd.M (Kd.int .i64) _ _ _ 3 [.int .i64 3] from rfl) (Reps.none _ _)))); intro v176 w32 ho33 hb hg_ hnew_; clear hg_ hnew_; (first | rw [← Ny175.out] at ho33 | (simp only [Int.reduceToNat] at ho33; rw [← Ny175.out] at ho33)); have n0_ := Aside0.mk (Kd.R_elder' pmAx5_1_ (Kd.R_base ho33) hb); have n1_ := Aside0.mk (Kd.R_elder' pmAx5_2_ (Kd.R_base ho33) hb); have n2_ := Aside0.mk (Kd.R_elder' pmAx5_3_ (Kd.R_base ho33) hb); have n3_ := Aside0.mk (Kd.R_elder' pmAx5_4_ (Kd.R_base ho33) hb); have n4_ := Aside0.mk (Kd.R_elder' pmAx5_5_ (Kd.R_base ho33) hb); have n5_ := Aside0.mk (Kd.R_elder' pmAx5_7_ (Kd.R_base ho33) hb); have n6_ := Aside0.mk (Kd.R_elder' pmAx5_8_ (Kd.R_base ho33) hb); have n7_ := Aside0.mk (Kd.R_below (by (with_reducible repeat (first | apply Kd.R_alloc | apply Kd.R_drewN | apply Kd.R_drew)); exact HO171.out) hb); have n8_ := Aside0.mk (Kd.R_elder' (by (with_reducible repeat (first | apply Kd.R_alloc | apply Kd.R_drewN | apply Kd.R_drew)); exact HO174.out) (Kd.R_base ho33) hb); have n9_ := Aside0.mk (Kd.R_lower (Kd.R_new' (Kd.R_new' (Kd.R_new' (Kd.R_new' (Kd.R_new' (Kd.R_new' (Kd.R_new' (Kd.R_new' ho33 (Kd.R_lt pmAx5_1_)) (Kd.R_lt pmAx5_2_)) (Kd.R_lt pmAx5_3_)) (Kd.R_lt pmAx5_4_)) (Kd.R_lt pmAx5_5_)) (Kd.R_lt pmAx5_7_)) (Kd.R_lt pmAx5_8_)) (Kd.R_lt (by (with_reducible repeat (first | apply Kd.R_alloc | apply Kd.R_drewN | apply Kd.R_drew)); exact HO174.out))) (below_size pmAx5_0_)); have n10_ := Aside0.mk (below_step pmAx5_0_ hb); clear HO148; clear HO151; clear HO154; clear HO158; clear HO161; clear HO164; clear HO168; clear HO171; clear HO174; clear HB; have HO148 := n0_; have HO151 := n1_; have HO154 := n2_; have HO158 := n3_; have HO161 := n4_; have HO164 := n5_; have HO168 := n6_; have HO171 := n7_; have HO174 := n8_; have HO177 := n9_; have HB := n10_; clear n0_ n1_ n2_ n3_ n4_ n5_ n6_ n7_ n8_ n9_ n10_; clear hb ho33; obtain ⟨Ao34, co34, eo34⟩ := Kd.R_slice HO174.out; subst eo34; obtain ⟨Ao35, co35, eo35⟩ := Kd.R_slice HO177.out; subst eo35) | (go_at_call 10; (with_reducible refine (parterreref01_Ints.calls k _ _ t172 _ _ y175 t178 _ ?side1 ?side2 ?side3 ?side4 A8.out).mono ?_); (case side1 => repeat (first | exact (Kd.R_reads' HO174.out).2.2 | (with_reducible refine Kd.C_alloc ?_ _) | (with_reducible refine Kd.C_drewN ?_ _) | (with_reducible refine Kd.C_drew ?_))); (case side2 => exact (Kd.R_reads' HO174.out).2.1); (case side3 => repeat (first | exact (Kd.R_reads' HO177.out).2.2 | (with_reducible refine Kd.C_alloc ?_ _) | (with_reducible refine Kd.C_drewN ?_ _) | (with_reducible refine Kd.C_drew ?_))); (case side4 => exact (Kd.R_reads' HO177.out).2.1); rintro e w' ⟨rfl, ⟨nd, rfl⟩⟩))
      go_ret
      exact ⟨by first | rfl | (simp [errW_none, errW_some] <;> rfl) | (simp [*, errW_none, errW_some] <;> rfl), by repeat (first | (with_reducible first | exact HB.out | apply below_alloc | apply pw_below_drewN | apply below_drew1) | exact HB.out)⟩
    · replace c6 := Bool.eq_false_iff.mpr c6
      subst c6
      have H1 : (some false) = some r := by rw [if_neg (show ¬ (false = true) by decide)] at H; exact H
      clear H
      have H := H1
      clear H1
      obtain rfl := Option.some.inj H
      go_enter Try.func7, Try.ntmps7
      go_wp2_with (first | ((with_reducible refine gate_dst (N := 1) rfl ?_); (try (refine gate_guard (by rfl) ?_; dsimp only)); refine Kd.R_lit (Kd.int .i64) _ 3 ?hg (N := 1) ?hd (xs := ([2, 100, 100] : List Int)) (inner := [.int .i64 2, .int .i64 100, .int .i64 100]) (ok := fun _ => True) (okp := fun _ => True) ?hr ?hp (fun _ hk => hk) trivial (Below.refl _ _) (Nat.le_refl _) (by simp) ?_; (case hd => rfl); (case hg => rfl); (case hr => first | (go_simp; done) | (go_simp; rfl)); (case hp => exact (Reps.one (show Kd.M (Kd.int .i64) _ _ _ 2 [.int .i64 2] from rfl) (Reps.one (show Kd.M (Kd.int .i64) _ _ _ 100 [.int .i64 100] from rfl) (Reps.one (show Kd.M (Kd.int .i64) _ _ _ 100 [.int .i64 100] from rfl) (Reps.none _ _))))); intro v147 w36 ho37 hb hg_ hnew_; clear hg_ hnew_; (first | rw [← Ny146.out] at ho37 | (simp only [Int.reduceToNat] at ho37; rw [← Ny146.out] at ho37)); have n0_ := Aside0.mk (Kd.R_lower ho37 (below_size pmAx5_0_)); have n1_ := Aside0.mk (below_step pmAx5_0_ hb); clear HB; have HO148 := n0_; have HB := n1_; clear n0_ n1_; clear hb ho37; obtain ⟨Ao38, co38, eo38⟩ := Kd.R_slice HO148.out; subst eo38) | ((with_reducible refine gate_callee (f := 9) rfl ?_); refine goesL_ (some 2) rfl rfl Try.func9 (by kernel_rfl) rfl #[.int .i64 10, .slice Ao38 y146.length co38] rfl pmAx5_6_ ?_; (with_reducible refine (spread_Up.calls k 10 _ _ y146 t149 _ ?side1 ?side2 A1.out).mono ?_); (case side1 => repeat (first | exact (Kd.R_reads' HO148.out).2.2 | (with_reducible refine Kd.C_alloc ?_ _) | (with_reducible refine Kd.C_drewN ?_ _) | (with_reducible refine Kd.C_drew ?_))); (case side2 => exact (Kd.R_reads' HO148.out).2.1); rintro e w39 ⟨v150, rfl, ho0, hb⟩; refine ⟨_, rfl, ?_⟩; have n0_ := Aside0.mk (Kd.R_elder' pmAx5_1_ (Kd.R_base ho0) hb); have n1_ := Aside0.mk (Kd.R_lower (Kd.R_new' ho0 (Kd.R_lt pmAx5_1_)) (below_size pmAx5_0_)); have n2_ := Aside0.mk (below_step pmAx5_0_ hb); clear HO148; clear HB; have HO148 := n0_; have HO151 := n1_; have HB := n2_; clear n0_ n1_ n2_; (try clear hb); (try clear hb2); (try clear hk); (try clear hi); (try clear ho0)) | ((with_reducible refine gate_dst (N := 3) rfl ?_); (try (refine gate_guard (by rfl) ?_; dsimp only)); refine Kd.R_lit (Kd.int .i64) _ 3 ?hg (N := 3) ?hd (xs := ([2, 4, 4] : List Int)) (inner := [.int .i64 2, .int .i64 4, .int .i64 4]) (ok := fun _ => True) (okp := fun _ => True) ?hr ?hp (fun _ hk => hk) trivial (Below.refl _ _) (Nat.le_refl _) (by simp) ?_; (case hd => rfl); (case hg => rfl); (case hr => first | (go_simp; done) | (go_simp; rfl)); (case hp => exact (Reps.one (show Kd.M (Kd.int .i64) _ _ _ 2 [.int .i64 2] from rfl) (Reps.one (show Kd.M (Kd.int .i64) _ _ _ 4 [.int .i64 4] from rfl) (Reps.one (show Kd.M (Kd.int .i64) _ _ _ 4 [.int .i64 4] from rfl) (Reps.none _ _))))); intro v153 w40 ho41 hb hg_ hnew_; clear hg_ hnew_; (first | rw [← Ny152.out] at ho41 | (simp only [Int.reduceToNat] at ho41; rw [← Ny152.out] at ho41)); have n0_ := Aside0.mk (Kd.R_elder' pmAx5_1_ (Kd.R_base ho41) hb); have n1_ := Aside0.mk (Kd.R_elder' pmAx5_2_ (Kd.R_base ho41) hb); have n2_ := Aside0.mk (Kd.R_lower (Kd.R_new' (Kd.R_new' ho41 (Kd.R_lt pmAx5_1_)) (Kd.R_lt pmAx5_2_)) (below_size pmAx5_0_)); have n3_ := Aside0.mk (below_step pmAx5_0_ hb); clear HO148; clear HO151; clear HB; have HO148 := n0_; have HO151 := n1_; have HO154 := n2_; have HB := n3_; clear n0_ n1_ n2_ n3_; clear hb ho41; obtain ⟨Ao42, co42, eo42⟩ := Kd.R_slice HO151.out; subst eo42; obtain ⟨Ao43, co43, eo43⟩ := Kd.R_slice HO154.out; subst eo43) | ((with_reducible refine gate_callee (f := 10) rfl ?_); refine goesL_ (some 4) rfl rfl Try.func10 (by kernel_rfl) rfl #[.slice Ao42 t149.length co42, .slice Ao43 y152.length co43] rfl pmAx5_6_ ?_; (with_reducible refine (parterreref01_Ints.calls k _ _ t149 _ _ y152 true _ ?side1 ?side2 ?side3 ?side4 A2.out).mono ?_); (case side1 => repeat (first | exact (Kd.R_reads' HO151.out).2.2 | (with_reducible refine Kd.C_alloc ?_ _) | (with_reducible refine Kd.C_drewN ?_ _) | (with_reducible refine Kd.C_drew ?_))); (case side2 => exact (Kd.R_reads' HO151.out).2.1); (case side3 => repeat (first | exact (Kd.R_reads' HO154.out).2.2 | (with_reducible refine Kd.C_alloc ?_ _) | (with_reducible refine Kd.C_drewN ?_ _) | (with_reducible refine Kd.C_drew ?_))); (case side4 => exact (Kd.R_reads' HO154.out).2.1); rintro e w' ⟨rfl, ⟨nd, rfl⟩⟩; refine ⟨_, rfl, ?_⟩) | ((with_reducible refine gate_dst (N := 6) rfl ?_); (try (refine gate_guard (by rfl) ?_; dsimp only)); refine Kd.R_lit (Kd.int .i64) _ 3 ?hg (N := 6) ?hd (xs := ([2, 100, 100] : List Int)) (inner := [.int .i64 2, .int .i64 100, .int .i64 100]) (ok := fun _ => True) (okp := fun _ => True) ?hr ?hp (fun _ hk => hk) trivial (Below.refl _ _) (Nat.le_refl _) (by simp) ?_; (case hd => rfl); (case hg => rfl); (case hr => first | (go_simp; done) | (go_simp; rfl)); (case hp => exact (Reps.one (show Kd.M (Kd.int .i64) _ _ _ 2 [.int .i64 2] from rfl) (Reps.one (show Kd.M (Kd.int .i64) _ _ _ 100 [.int .i64 100] from rfl) (Reps.one (show Kd.M (Kd.int .i64) _ _ _ 100 [.int .i64 100] from rfl) (Reps.none _ _))))); intro v157 w44 ho45 hb hg_ hnew_; clear hg_ hnew_; (first | rw [← Ny156.out] at ho45 | (simp only [Int.reduceToNat] at ho45; rw [← Ny156.out] at ho45)); have n0_ := Aside0.mk (Kd.R_elder' pmAx5_1_ (Kd.R_base ho45) hb); have n1_ := Aside0.mk (Kd.R_elder' pmAx5_2_ (Kd.R_base ho45) hb); have n2_ := Aside0.mk (Kd.R_elder' pmAx5_3_ (Kd.R_base ho45) hb); have n3_ := Aside0.mk (Kd.R_lower (Kd.R_new' (Kd.R_new' (Kd.R_new' ho45 (Kd.R_lt pmAx5_1_)) (Kd.R_lt pmAx5_2_)) (Kd.R_lt pmAx5_3_)) (below_size pmAx5_0_)); have n4_ := Aside0.mk (below_step pmAx5_0_ hb); clear HO148; clear HO151; clear HO154; clear HB; have HO148 := n0_; have HO151 := n1_; have HO154 := n2_; have HO158 := n3_; have HB := n4_; clear n0_ n1_ n2_ n3_ n4_; clear hb ho45; obtain ⟨Ao46, co46, eo46⟩ := Kd.R_slice HO158.out; subst eo46) | (go_at_call 9; (with_reducible refine (spread_Up.calls k 11 _ _ y156 t159 _ ?side1 ?side2 A4.out).mono ?_); (case side1 => repeat (first | exact (Kd.R_reads' HO158.out).2.2 | (with_reducible refine Kd.C_alloc ?_ _) | (with_reducible refine Kd.C_drewN ?_ _) | (with_reducible refine Kd.C_drew ?_))); (case side2 => exact (Kd.R_reads' HO158.out).2.1); rintro e w47 ⟨v160, rfl, ho0, hb⟩; have n0_ := Aside0.mk (Kd.R_elder' pmAx5_1_ (Kd.R_base ho0) hb); have n1_ := Aside0.mk (Kd.R_elder' pmAx5_2_ (Kd.R_base ho0) hb); have n2_ := Aside0.mk (Kd.R_elder' pmAx5_3_ (Kd.R_base ho0) hb); have n3_ := Aside0.mk (Kd.R_elder' pmAx5_4_ (Kd.R_base ho0) hb); have n4_ := Aside0.mk (Kd.R_lower (Kd.R_new' (Kd.R_new' (Kd.R_new' (Kd.R_new' ho0 (Kd.R_lt pmAx5_1_)) (Kd.R_lt pmAx5_2_)) (Kd.R_lt pmAx5_3_)) (Kd.R_lt pmAx5_4_)) (below_size pmAx5_0_)); have n5_ := Aside0.mk (below_step pmAx5_0_ hb); clear HO148; clear HO151; clear HO154; clear HO158; clear HB; have HO148 := n0_; have HO151 := n1_; have HO154 := n2_; have HO158 := n3_; have HO161 := n4_; have HB := n5_; clear n0_ n1_ n2_ n3_ n4_ n5_; (try clear hb); (try clear hb2); (try clear hk); (try clear hi); (try clear ho0)) | ((with_reducible refine gate_dst (N := 8) rfl ?_); (try (refine gate_guard (by rfl) ?_; dsimp only)); refine Kd.R_lit (Kd.int .i64) _ 3 ?hg (N := 8) ?hd (xs := ([2, 5, 4] : List Int)) (inner := [.int .i64 2, .int .i64 5, .int .i64 4]) (ok := fun _ => True) (okp := fun _ => True) ?hr ?hp (fun _ hk => hk) trivial (Below.refl _ _) (Nat.le_refl _) (by simp) ?_; (case hd => rfl); (case hg => rfl); (case hr => first | (go_simp; done) | (go_simp; rfl)); (case hp => exact (Reps.one (show Kd.M (Kd.int .i64) _ _ _ 2 [.int .i64 2] from rfl) (Reps.one (show Kd.M (Kd.int .i64) _ _ _ 5 [.int .i64 5] from rfl) (Reps.one (show Kd.M (Kd.int .i64) _ _ _ 4 [.int .i64 4] from rfl) (Reps.none _ _))))); intro v163 w48 ho49 hb hg_ hnew_; clear hg_ hnew_; (first | rw [← Ny162.out] at ho49 | (simp only [Int.reduceToNat] at ho49; rw [← Ny162.out] at ho49)); have n0_ := Aside0.mk (Kd.R_elder' pmAx5_1_ (Kd.R_base ho49) hb); have n1_ := Aside0.mk (Kd.R_elder' pmAx5_2_ (Kd.R_base ho49) hb); have n2_ := Aside0.mk (Kd.R_elder' pmAx5_3_ (Kd.R_base ho49) hb); have n3_ := Aside0.mk (Kd.R_elder' pmAx5_4_ (Kd.R_base ho49) hb); have n4_ := Aside0.mk (Kd.R_elder' pmAx5_5_ (Kd.R_base ho49) hb); have n5_ := Aside0.mk (Kd.R_lower (Kd.R_new' (Kd.R_new' (Kd.R_new' (Kd.R_new' (Kd.R_new' ho49 (Kd.R_lt pmAx5_1_)) (Kd.R_lt pmAx5_2_)) (Kd.R_lt pmAx5_3_)) (Kd.R_lt pmAx5_4_)) (Kd.R_lt pmAx5_5_)) (below_size pmAx5_0_)); have n6_ := Aside0.mk (below_step pmAx5_0_ hb); clear HO148; clear HO151; clear HO154; clear HO158; clear HO161; clear HB; have HO148 := n0_; have HO151 := n1_; have HO154 := n2_; have HO158 := n3_; have HO161 := n4_; have HO164 := n5_; have HB := n6_; clear n0_ n1_ n2_ n3_ n4_ n5_ n6_; clear hb ho49; obtain ⟨Ao50, co50, eo50⟩ := Kd.R_slice HO161.out; subst eo50; obtain ⟨Ao51, co51, eo51⟩ := Kd.R_slice HO164.out; subst eo51) | (go_at_call 10; (with_reducible refine (parterreref01_Ints.calls k _ _ t159 _ _ y162 false _ ?side1 ?side2 ?side3 ?side4 A5.out).mono ?_); (case side1 => repeat (first | exact (Kd.R_reads' HO161.out).2.2 | (with_reducible refine Kd.C_alloc ?_ _) | (with_reducible refine Kd.C_drewN ?_ _) | (with_reducible refine Kd.C_drew ?_))); (case side2 => exact (Kd.R_reads' HO161.out).2.1); (case side3 => repeat (first | exact (Kd.R_reads' HO164.out).2.2 | (with_reducible refine Kd.C_alloc ?_ _) | (with_reducible refine Kd.C_drewN ?_ _) | (with_reducible refine Kd.C_drew ?_))); (case side4 => exact (Kd.R_reads' HO164.out).2.1); rintro e w' ⟨rfl, ⟨nd, rfl⟩⟩))
      go_ret
      exact ⟨by first | rfl | (simp [errW_none, errW_some] <;> rfl) | (simp [*, errW_none, errW_some] <;> rfl), by repeat (first | (with_reducible first | exact HB.out | apply below_alloc | apply pw_below_drewN | apply below_drew1) | exact HB.out)⟩
  · replace c3 := Bool.eq_false_iff.mpr c3
    subst c3
    have H1 : (some false) = some r := by rw [if_neg (show ¬ (false = true) by decide)] at H; exact H
    clear H
    have H := H1
    clear H1
    obtain rfl := Option.some.inj H
    go_enter Try.func7, Try.ntmps7
    go_wp2_with (first | ((with_reducible refine gate_dst (N := 1) rfl ?_); (try (refine gate_guard (by rfl) ?_; dsimp only)); refine Kd.R_lit (Kd.int .i64) _ 3 ?hg (N := 1) ?hd (xs := ([2, 100, 100] : List Int)) (inner := [.int .i64 2, .int .i64 100, .int .i64 100]) (ok := fun _ => True) (okp := fun _ => True) ?hr ?hp (fun _ hk => hk) trivial (Below.refl _ _) (Nat.le_refl _) (by simp) ?_; (case hd => rfl); (case hg => rfl); (case hr => first | (go_simp; done) | (go_simp; rfl)); (case hp => exact (Reps.one (show Kd.M (Kd.int .i64) _ _ _ 2 [.int .i64 2] from rfl) (Reps.one (show Kd.M (Kd.int .i64) _ _ _ 100 [.int .i64 100] from rfl) (Reps.one (show Kd.M (Kd.int .i64) _ _ _ 100 [.int .i64 100] from rfl) (Reps.none _ _))))); intro v147 w52 ho53 hb hg_ hnew_; clear hg_ hnew_; (first | rw [← Ny146.out] at ho53 | (simp only [Int.reduceToNat] at ho53; rw [← Ny146.out] at ho53)); have n0_ := Aside0.mk (Kd.R_lower ho53 (below_size pmAx5_0_)); have n1_ := Aside0.mk (below_step pmAx5_0_ hb); clear HB; have HO148 := n0_; have HB := n1_; clear n0_ n1_; clear hb ho53; obtain ⟨Ao54, co54, eo54⟩ := Kd.R_slice HO148.out; subst eo54) | ((with_reducible refine gate_callee (f := 9) rfl ?_); refine goesL_ (some 2) rfl rfl Try.func9 (by kernel_rfl) rfl #[.int .i64 10, .slice Ao54 y146.length co54] rfl pmAx5_6_ ?_; (with_reducible refine (spread_Up.calls k 10 _ _ y146 t149 _ ?side1 ?side2 A1.out).mono ?_); (case side1 => repeat (first | exact (Kd.R_reads' HO148.out).2.2 | (with_reducible refine Kd.C_alloc ?_ _) | (with_reducible refine Kd.C_drewN ?_ _) | (with_reducible refine Kd.C_drew ?_))); (case side2 => exact (Kd.R_reads' HO148.out).2.1); rintro e w55 ⟨v150, rfl, ho0, hb⟩; refine ⟨_, rfl, ?_⟩; have n0_ := Aside0.mk (Kd.R_elder' pmAx5_1_ (Kd.R_base ho0) hb); have n1_ := Aside0.mk (Kd.R_lower (Kd.R_new' ho0 (Kd.R_lt pmAx5_1_)) (below_size pmAx5_0_)); have n2_ := Aside0.mk (below_step pmAx5_0_ hb); clear HO148; clear HB; have HO148 := n0_; have HO151 := n1_; have HB := n2_; clear n0_ n1_ n2_; (try clear hb); (try clear hb2); (try clear hk); (try clear hi); (try clear ho0)) | ((with_reducible refine gate_dst (N := 3) rfl ?_); (try (refine gate_guard (by rfl) ?_; dsimp only)); refine Kd.R_lit (Kd.int .i64) _ 3 ?hg (N := 3) ?hd (xs := ([2, 4, 4] : List Int)) (inner := [.int .i64 2, .int .i64 4, .int .i64 4]) (ok := fun _ => True) (okp := fun _ => True) ?hr ?hp (fun _ hk => hk) trivial (Below.refl _ _) (Nat.le_refl _) (by simp) ?_; (case hd => rfl); (case hg => rfl); (case hr => first | (go_simp; done) | (go_simp; rfl)); (case hp => exact (Reps.one (show Kd.M (Kd.int .i64) _ _ _ 2 [.int .i64 2] from rfl) (Reps.one (show Kd.M (Kd.int .i64) _ _ _ 4 [.int .i64 4] from rfl) (Reps.one (show Kd.M (Kd.int .i64) _ _ _ 4 [.int .i64 4] from rfl) (Reps.none _ _))))); intro v153 w56 ho57 hb hg_ hnew_; clear hg_ hnew_; (first | rw [← Ny152.out] at ho57 | (simp only [Int.reduceToNat] at ho57; rw [← Ny152.out] at ho57)); have n0_ := Aside0.mk (Kd.R_elder' pmAx5_1_ (Kd.R_base ho57) hb); have n1_ := Aside0.mk (Kd.R_elder' pmAx5_2_ (Kd.R_base ho57) hb); have n2_ := Aside0.mk (Kd.R_lower (Kd.R_new' (Kd.R_new' ho57 (Kd.R_lt pmAx5_1_)) (Kd.R_lt pmAx5_2_)) (below_size pmAx5_0_)); have n3_ := Aside0.mk (below_step pmAx5_0_ hb); clear HO148; clear HO151; clear HB; have HO148 := n0_; have HO151 := n1_; have HO154 := n2_; have HB := n3_; clear n0_ n1_ n2_ n3_; clear hb ho57; obtain ⟨Ao58, co58, eo58⟩ := Kd.R_slice HO151.out; subst eo58; obtain ⟨Ao59, co59, eo59⟩ := Kd.R_slice HO154.out; subst eo59) | ((with_reducible refine gate_callee (f := 10) rfl ?_); refine goesL_ (some 4) rfl rfl Try.func10 (by kernel_rfl) rfl #[.slice Ao58 t149.length co58, .slice Ao59 y152.length co59] rfl pmAx5_6_ ?_; (with_reducible refine (parterreref01_Ints.calls k _ _ t149 _ _ y152 false _ ?side1 ?side2 ?side3 ?side4 A2.out).mono ?_); (case side1 => repeat (first | exact (Kd.R_reads' HO151.out).2.2 | (with_reducible refine Kd.C_alloc ?_ _) | (with_reducible refine Kd.C_drewN ?_ _) | (with_reducible refine Kd.C_drew ?_))); (case side2 => exact (Kd.R_reads' HO151.out).2.1); (case side3 => repeat (first | exact (Kd.R_reads' HO154.out).2.2 | (with_reducible refine Kd.C_alloc ?_ _) | (with_reducible refine Kd.C_drewN ?_ _) | (with_reducible refine Kd.C_drew ?_))); (case side4 => exact (Kd.R_reads' HO154.out).2.1); rintro e w' ⟨rfl, ⟨nd, rfl⟩⟩; refine ⟨_, rfl, ?_⟩))
    go_ret
    exact ⟨by first | rfl | (simp [errW_none, errW_some] <;> rfl) | (simp [*, errW_none, errW_some] <;> rfl), by repeat (first | (with_reducible first | exact HB.out | apply below_alloc | apply pw_below_drewN | apply below_drew1) | exact HB.out)⟩

end Go.Proofs.Ytecccaniopkphaa.PA
