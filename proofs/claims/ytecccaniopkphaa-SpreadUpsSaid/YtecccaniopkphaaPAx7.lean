-- written by a program of this session (a print of the translation with changes of its own)
import Derived.Test.YtecccaniopkphaaPAx0
import Derived.Test.YtecccaniopkphaaPAx2
import Derived.Test.YtecccaniopkphaaPAx3
import Derived.Test.YtecccaniopkphaaPAx5
namespace Go.Proofs.Ytecccaniopkphaa.PA
open Go.RowKit Go.Proofs.YtecccaniopkphaaW.PrintWords Go.Proofs.YtecccaniopkphaaW.PrintLast Go.Proofs.YtecccaniopkphaaW.PrintMore
theorem pmAx7_0_ {P : Prop} (h : P := by first | (with_reducible assumption) | assumption) : P := h
theorem pmAx7_1_ {P : Prop} (h : P := by repeat (first | (with_reducible first | exact HB.out | apply below_alloc | apply pw_below_drewN | apply below_drew1) | exact HB.out)) : P := h
theorem pmAx7_2_ {P : Prop} (h : P := by first | rfl | (simp; done) | (simp [*]; done)) : P := h
theorem pmAx7_3_ {P : Prop} (h : P := by (with_reducible repeat (first | apply Kd.R_alloc | apply Kd.R_drewN | apply Kd.R_drew)); exact HO197.out) : P := h
attribute [local go_sem] max2_int min2_int max_two min_two max_three min_three max_four min_four   -- for this text's walks alone
set_option linter.unusedVariables false
set_option linter.unusedSimpArgs false

/-! ### parterrelaw23_SpreadAlike: function 4 -/
mutual
def parterrelaw23_SpreadAlike.j0 : Nat → Int → Int → List Int → Bool → Option (Bool)
  | 0, _, _, _, _ => none
  | k + 1, x0, x1, x2, x19 => if x19 = true then ((parterrelaw23_lives.f k).bind fun t194 => (some t194)) else ((spread_Up.f k x0 x2).bind fun t195 => ((spread_Up.f k (mn 1125899906842623 (wrap64 (x0 + (wrap64 (Int.tmod (IntKind.u64.wrap (x1)) 100000))))) x2).bind fun t198 => (if (t195.length : Int) = (x2.length : Int) then (parterrelaw23_SpreadAlike.j1 k x2 t195 t198 ((t198.length : Int) != (x2.length : Int))) else (parterrelaw23_SpreadAlike.j1 k x2 t195 t198 true))))
def parterrelaw23_SpreadAlike.j1 : Nat → List Int → List Int → List Int → Bool → Option (Bool)
  | 0, _, _, _, _ => none
  | k + 1, x2, x7, x8, x44 => if x44 = true then (some false) else (parterrelaw23_SpreadAlike.l0 k x2 x7 x8 (x7.length : Int) 0)
def parterrelaw23_SpreadAlike.l0 : Nat → List Int → List Int → List Int → Int → Int → Option (Bool)
  | 0, _, _, _, _, _ => none
  | k + 1, x2, x7, x8, x46, x47 => if x47 < x46 then (if 0 ≤ x47 then (if x47 < (x8.length : Int) then (if x47 < (x7.length : Int) then (if (rd x8 x47) < (rd x7 x47) then (some false) else (parterrelaw23_SpreadAlike.l1 k x2 x7 x8 x47 x46 x47 x47 0)) else (none)) else (none)) else (none)) else ((parterrelaw23_lives.f k).bind fun t201 => (some t201))
def parterrelaw23_SpreadAlike.l1 : Nat → List Int → List Int → List Int → Int → Int → Int → Int → Int → Option (Bool)
  | 0, _, _, _, _, _, _, _, _ => none
  | k + 1, x2, x7, x8, x9, x46, x47, x59, x60 => if x60 < x59 then (if 0 ≤ x9 then (if x9 < (x7.length : Int) then (if x9 < (x2.length : Int) then (if (rd x7 x9) < (rd x2 x9) then (if 0 ≤ x60 then (if x60 < (x7.length : Int) then (if x60 < (x2.length : Int) then (if (rd x7 x60) < (rd x2 x60) then (if (rd x7 x60) > (wrap64 ((rd x7 x9) + 1)) then (some false) else (if (rd x7 x9) > (rd x7 x60) then (some false) else (parterrelaw23_SpreadAlike.l1 k x2 x7 x8 x9 x46 x47 x59 (wrap64 (x60 + 1))))) else (parterrelaw23_SpreadAlike.l1 k x2 x7 x8 x9 x46 x47 x59 (wrap64 (x60 + 1)))) else (none)) else (none)) else (none)) else (parterrelaw23_SpreadAlike.l1 k x2 x7 x8 x9 x46 x47 x59 (wrap64 (x60 + 1)))) else (none)) else (none)) else (none)) else (parterrelaw23_SpreadAlike.l0 k x2 x7 x8 x46 (wrap64 (x47 + 1)))
end
def parterrelaw23_SpreadAlike.f (k : Nat) (a0 : Int) (a1 : Int) (l2 : List Int) : Option (Bool) := if (l2.length : Int) > 200 then (parterrelaw23_SpreadAlike.j0 k a0 a1 l2 true) else ((parterreref23_Right.f k a0 l2).bind fun t193 => (parterrelaw23_SpreadAlike.j0 k a0 a1 l2 (!t193)))
theorem parterrelaw23_SpreadAlike.mono_l : ∀ k, (∀ y0 y1 y2 y3, LeO (parterrelaw23_SpreadAlike.j0 k y0 y1 y2 y3) (parterrelaw23_SpreadAlike.j0 (k + 1) y0 y1 y2 y3)) ∧ (∀ y0 y1 y2 y3, LeO (parterrelaw23_SpreadAlike.j1 k y0 y1 y2 y3) (parterrelaw23_SpreadAlike.j1 (k + 1) y0 y1 y2 y3)) ∧ (∀ y0 y1 y2 y3 y4, LeO (parterrelaw23_SpreadAlike.l0 k y0 y1 y2 y3 y4) (parterrelaw23_SpreadAlike.l0 (k + 1) y0 y1 y2 y3 y4)) ∧ (∀ y0 y1 y2 y3 y4 y5 y6 y7, LeO (parterrelaw23_SpreadAlike.l1 k y0 y1 y2 y3 y4 y5 y6 y7) (parterrelaw23_SpreadAlike.l1 (k + 1) y0 y1 y2 y3 y4 y5 y6 y7))
  | 0 => ⟨fun _ _ _ _ r h => by simp [parterrelaw23_SpreadAlike.j0] at h, fun _ _ _ _ r h => by simp [parterrelaw23_SpreadAlike.j1] at h, fun _ _ _ _ _ r h => by simp [parterrelaw23_SpreadAlike.l0] at h, fun _ _ _ _ _ _ _ _ r h => by simp [parterrelaw23_SpreadAlike.l1] at h⟩
  | k + 1 => by
    obtain ⟨ih0, ih1, ih2, ih3⟩ := parterrelaw23_SpreadAlike.mono_l k
    refine ⟨?_, ?_, ?_, ?_⟩
    · intro y0 y1 y2 y3
      unfold parterrelaw23_SpreadAlike.j0
      repeat' first
      | (with_reducible exact ih0 _ _ _ _)
      | (with_reducible exact ih1 _ _ _ _)
      | (with_reducible exact ih2 _ _ _ _ _)
      | (with_reducible exact ih3 _ _ _ _ _ _ _ _)
      | (with_reducible exact parterrelaw23_lives.mono _)
      | (with_reducible exact parterreref23_Right.mono _ _ _)
      | (with_reducible exact spread_Up.mono _ _ _)
      | (with_reducible exact LeO.refl _)
      | (with_reducible exact LeO.none _)
      | (with_reducible refine LeO.ite ?_ ?_)
      | (with_reducible refine LeO.bind ?_ (fun _ => ?_))
      | exact ih0 _ _ _ _
      | exact ih1 _ _ _ _
      | exact ih2 _ _ _ _ _
      | exact ih3 _ _ _ _ _ _ _ _
      | exact parterrelaw23_lives.mono _
      | exact parterreref23_Right.mono _ _ _
      | exact spread_Up.mono _ _ _
      | exact LeO.none _
      | refine LeO.ite ?_ ?_
      | refine LeO.bind ?_ (fun _ => ?_)
    · intro y0 y1 y2 y3
      unfold parterrelaw23_SpreadAlike.j1
      repeat' first
      | (with_reducible exact ih0 _ _ _ _)
      | (with_reducible exact ih1 _ _ _ _)
      | (with_reducible exact ih2 _ _ _ _ _)
      | (with_reducible exact ih3 _ _ _ _ _ _ _ _)
      | (with_reducible exact parterrelaw23_lives.mono _)
      | (with_reducible exact parterreref23_Right.mono _ _ _)
      | (with_reducible exact spread_Up.mono _ _ _)
      | (with_reducible exact LeO.refl _)
      | (with_reducible exact LeO.none _)
      | (with_reducible refine LeO.ite ?_ ?_)
      | (with_reducible refine LeO.bind ?_ (fun _ => ?_))
      | exact ih0 _ _ _ _
      | exact ih1 _ _ _ _
      | exact ih2 _ _ _ _ _
      | exact ih3 _ _ _ _ _ _ _ _
      | exact parterrelaw23_lives.mono _
      | exact parterreref23_Right.mono _ _ _
      | exact spread_Up.mono _ _ _
      | exact LeO.none _
      | refine LeO.ite ?_ ?_
      | refine LeO.bind ?_ (fun _ => ?_)
    · intro y0 y1 y2 y3 y4
      unfold parterrelaw23_SpreadAlike.l0
      repeat' first
      | (with_reducible exact ih0 _ _ _ _)
      | (with_reducible exact ih1 _ _ _ _)
      | (with_reducible exact ih2 _ _ _ _ _)
      | (with_reducible exact ih3 _ _ _ _ _ _ _ _)
      | (with_reducible exact parterrelaw23_lives.mono _)
      | (with_reducible exact parterreref23_Right.mono _ _ _)
      | (with_reducible exact spread_Up.mono _ _ _)
      | (with_reducible exact LeO.refl _)
      | (with_reducible exact LeO.none _)
      | (with_reducible refine LeO.ite ?_ ?_)
      | (with_reducible refine LeO.bind ?_ (fun _ => ?_))
      | exact ih0 _ _ _ _
      | exact ih1 _ _ _ _
      | exact ih2 _ _ _ _ _
      | exact ih3 _ _ _ _ _ _ _ _
      | exact parterrelaw23_lives.mono _
      | exact parterreref23_Right.mono _ _ _
      | exact spread_Up.mono _ _ _
      | exact LeO.none _
      | refine LeO.ite ?_ ?_
      | refine LeO.bind ?_ (fun _ => ?_)
    · intro y0 y1 y2 y3 y4 y5 y6 y7
      unfold parterrelaw23_SpreadAlike.l1
      repeat' first
      | (with_reducible exact ih0 _ _ _ _)
      | (with_reducible exact ih1 _ _ _ _)
      | (with_reducible exact ih2 _ _ _ _ _)
      | (with_reducible exact ih3 _ _ _ _ _ _ _ _)
      | (with_reducible exact parterrelaw23_lives.mono _)
      | (with_reducible exact parterreref23_Right.mono _ _ _)
      | (with_reducible exact spread_Up.mono _ _ _)
      | (with_reducible exact LeO.refl _)
      | (with_reducible exact LeO.none _)
      | (with_reducible refine LeO.ite ?_ ?_)
      | (with_reducible refine LeO.bind ?_ (fun _ => ?_))
      | exact ih0 _ _ _ _
      | exact ih1 _ _ _ _
      | exact ih2 _ _ _ _ _
      | exact ih3 _ _ _ _ _ _ _ _
      | exact parterrelaw23_lives.mono _
      | exact parterreref23_Right.mono _ _ _
      | exact spread_Up.mono _ _ _
      | exact LeO.none _
      | refine LeO.ite ?_ ?_
      | refine LeO.bind ?_ (fun _ => ?_)
theorem parterrelaw23_SpreadAlike.mono : ∀ a0 a1 a2 k, LeO (parterrelaw23_SpreadAlike.f k a0 a1 a2) (parterrelaw23_SpreadAlike.f (k + 1) a0 a1 a2) := by
  intro a0 a1 a2 k
  obtain ⟨ih0, ih1, ih2, ih3⟩ := parterrelaw23_SpreadAlike.mono_l k
  unfold parterrelaw23_SpreadAlike.f
  repeat' first
      | (with_reducible exact ih0 _ _ _ _)
      | (with_reducible exact ih1 _ _ _ _)
      | (with_reducible exact ih2 _ _ _ _ _)
      | (with_reducible exact ih3 _ _ _ _ _ _ _ _)
      | (with_reducible exact parterrelaw23_lives.mono _)
      | (with_reducible exact parterreref23_Right.mono _ _ _)
      | (with_reducible exact spread_Up.mono _ _ _)
      | (with_reducible exact LeO.refl _)
      | (with_reducible exact LeO.none _)
      | (with_reducible refine LeO.ite ?_ ?_)
      | (with_reducible refine LeO.bind ?_ (fun _ => ?_))
      | exact ih0 _ _ _ _
      | exact ih1 _ _ _ _
      | exact ih2 _ _ _ _ _
      | exact ih3 _ _ _ _ _ _ _ _
      | exact parterrelaw23_lives.mono _
      | exact parterreref23_Right.mono _ _ _
      | exact spread_Up.mono _ _ _
      | exact LeO.none _
      | refine LeO.ite ?_ ?_
      | refine LeO.bind ?_ (fun _ => ?_)
set_option maxHeartbeats 8000000 in
set_option maxRecDepth 100000 in
theorem parterrelaw23_SpreadAlike.calls (k : Nat) (a0 : Int) (a1 : Int) (A2 : Option Addr) (c2 : Nat) (l2 : List Int) (r : Bool) (w : World) (hr2 : Kd.C (Kd.int .i64) w A2 l2.length l2) (hc2 : l2.length ≤ c2) (h : parterrelaw23_SpreadAlike.f k a0 a1 l2 = some r) :
    Calls Try.prog 4 #[.int .i64 a0, .int .i64 a1, .slice A2 l2.length c2] w fun e w' => e = .returned (.bool r) ∧ Below w.heap.size w w' := by
  have HR2 := Aside0.mk hr2
  have HC2 := Aside0.mk hc2
  clear hr2 hc2
  have HB := Aside0.mk (Below.refl w.heap.size w)
  have H : (if (l2.length : Int) > 200 then (parterrelaw23_SpreadAlike.j0 k a0 a1 l2 true) else ((parterreref23_Right.f k a0 l2).bind fun t193 => (parterrelaw23_SpreadAlike.j0 k a0 a1 l2 (!t193)))) = some r := h
  clear h
  have HC4 := Aside0.mk H
  clear H
  go_enter Try.func4, Try.ntmps4
  go_upto_region 1 with (fail)
  repeat (go_quiet (fail); go_upto_region 1 with (fail))
  go_cut [19] (fun v19 wc => ∃ (kq : Nat) (x19_3 : Bool), v19 = .bool x19_3 ∧ Aside0 (parterrelaw23_SpreadAlike.j0 kq a0 a1 l2 x19_3 = some r) ∧ Aside0 (kq ≤ k) ∧ Aside0 (Below w.heap.size w wc))
  case first =>
    have H := HC4.out
    clear HC4
    by_cases c5 : (l2.length : Int) > 200
    · rw [if_pos c5] at H
      have c5b0 : decide (200 < (l2.length : Int)) = true := decide_eq_true c5
      have c5b1 : decide (200 < l2.length) = true := decide_eq_true (by omega)
      clear c5
      (first | rw [c5b0] | (simp only [i64_w, i32_w]; rw [c5b0]) | skip)
      have H' := Aside0.mk H
      clear H
      go_wp2
      repeat (go_quiet (fail); try go_wp2)
      go_meet
      case rel => exact ⟨_, (true), pmAx7_2_, H', ⟨by first | omega | exact Nat.le_refl _⟩, ⟨by repeat (first | (with_reducible first | exact HB.out | apply below_alloc | apply pw_below_drewN | apply below_drew1) | exact HB.out)⟩⟩
    · rw [if_neg c5] at H
      have c5b0 : decide (200 < (l2.length : Int)) = false := decide_eq_false c5
      have c5b1 : decide (200 < l2.length) = false := decide_eq_false (by omega)
      clear c5
      (first | rw [c5b0] | (simp only [i64_w, i32_w]; rw [c5b0]) | skip)
      replace H := Option.bind_eq_some_iff.mp H
      obtain ⟨t193, A60, H⟩ := H
      replace H : (parterrelaw23_SpreadAlike.j0 k a0 a1 l2 (!t193)) = some r := H
      have A6 := Aside0.mk A60
      clear A60
      have H' := Aside0.mk H
      clear H
      go_wp2_with (first | (go_at_call 6; (with_reducible refine (parterreref23_Right.calls k a0 _ _ l2 t193 _ ?side1 ?side2 A6.out).mono ?_); (case side1 => repeat (first | exact (Kd.C_below HR2.out HB.out) | (with_reducible refine Kd.C_alloc ?_ _) | (with_reducible refine Kd.C_drewN ?_ _) | (with_reducible refine Kd.C_drew ?_))); (case side2 => exact HC2.out); rintro e w' ⟨rfl, ⟨nd, rfl⟩⟩; (try first | exact ⟨rfl, _, World.drewN_drewN _ _ _⟩ | exact ⟨rfl, _, Eq.trans (World.drewN_drewN _ _ _) (congrArg (World.drewN _) (Nat.add_assoc _ _ _))⟩)))
      repeat (go_quiet (first | (go_at_call 6; (with_reducible refine (parterreref23_Right.calls k a0 _ _ l2 t193 _ ?side1 ?side2 A6.out).mono ?_); (case side1 => repeat (first | exact (Kd.C_below HR2.out HB.out) | (with_reducible refine Kd.C_alloc ?_ _) | (with_reducible refine Kd.C_drewN ?_ _) | (with_reducible refine Kd.C_drew ?_))); (case side2 => exact HC2.out); rintro e w' ⟨rfl, ⟨nd, rfl⟩⟩; (try first | exact ⟨rfl, _, World.drewN_drewN _ _ _⟩ | exact ⟨rfl, _, Eq.trans (World.drewN_drewN _ _ _) (congrArg (World.drewN _) (Nat.add_assoc _ _ _))⟩))); try go_wp2_with (first | (go_at_call 6; (with_reducible refine (parterreref23_Right.calls k a0 _ _ l2 t193 _ ?side1 ?side2 A6.out).mono ?_); (case side1 => repeat (first | exact (Kd.C_below HR2.out HB.out) | (with_reducible refine Kd.C_alloc ?_ _) | (with_reducible refine Kd.C_drewN ?_ _) | (with_reducible refine Kd.C_drew ?_))); (case side2 => exact HC2.out); rintro e w' ⟨rfl, ⟨nd, rfl⟩⟩; (try first | exact ⟨rfl, _, World.drewN_drewN _ _ _⟩ | exact ⟨rfl, _, Eq.trans (World.drewN_drewN _ _ _) (congrArg (World.drewN _) (Nat.add_assoc _ _ _))⟩))))
      go_meet
      case rel => exact ⟨_, (!t193), pmAx7_2_, H', ⟨by first | omega | exact Nat.le_refl _⟩, ⟨by repeat (first | (with_reducible first | exact HB.out | apply below_alloc | apply pw_below_drewN | apply below_drew1) | exact HB.out)⟩⟩
  case rest =>
    clear HC4
    try clear c2
    try clear p2
    try clear c4
    try clear c5
    try clear c5b0
    try clear c5b1
    obtain ⟨kq, x19_3, rfl, HA, HJ3, HB⟩ := hcut
    cases kq with
    | zero => exact absurd HA.out (by simp [parterrelaw23_SpreadAlike.j0])
    | succ kj3 =>
      have H := HA.out
      clear HA
      simp only [parterrelaw23_SpreadAlike.j0] at H
      by_cases c7 : x19_3 = true
      · subst c7
        have H1 : ((parterrelaw23_lives.f kj3).bind fun t194 => (some t194)) = some r := by rw [if_pos rfl] at H; exact H
        clear H
        have H := H1
        clear H1
        replace H := Option.bind_eq_some_iff.mp H
        obtain ⟨t194, A80, H⟩ := H
        replace H : (some t194) = some r := H
        have A8 := Aside0.mk A80
        clear A80
        obtain rfl := Option.some.inj H
        go_wp2_with (first | (go_at_call 7; (with_reducible refine (parterrelaw23_lives.calls kj3  t194 _ A8.out).mono ?_); rintro e w9 ⟨rfl, hb⟩; have n0_ := Aside0.mk (below_step pmAx7_1_ hb); clear HB; have HB := n0_; clear n0_; (try clear hb); (try clear hb2); (try clear hk); (try clear hi)))
        repeat (go_quiet (first | (go_at_call 7; (with_reducible refine (parterrelaw23_lives.calls kj3  t194 _ A8.out).mono ?_); rintro e w9 ⟨rfl, hb⟩; have n0_ := Aside0.mk (below_step pmAx7_1_ hb); clear HB; have HB := n0_; clear n0_; (try clear hb); (try clear hb2); (try clear hk); (try clear hi))); try go_wp2_with (first | (go_at_call 7; (with_reducible refine (parterrelaw23_lives.calls kj3  t194 _ A8.out).mono ?_); rintro e w9 ⟨rfl, hb⟩; have n0_ := Aside0.mk (below_step pmAx7_1_ hb); clear HB; have HB := n0_; clear n0_; (try clear hb); (try clear hb2); (try clear hk); (try clear hi))))
        go_ret
        exact ⟨by first | rfl | (simp [errW_none, errW_some] <;> rfl) | (simp [*, errW_none, errW_some] <;> rfl), by repeat (first | (with_reducible first | exact HB.out | apply below_alloc | apply pw_below_drewN | apply below_drew1) | exact HB.out)⟩
      · replace c7 := Bool.eq_false_iff.mpr c7
        subst c7
        have H1 : ((spread_Up.f kj3 a0 l2).bind fun t195 => ((spread_Up.f kj3 (mn 1125899906842623 (wrap64 (a0 + (wrap64 (Int.tmod (IntKind.u64.wrap (a1)) 100000))))) l2).bind fun t198 => (if (t195.length : Int) = (l2.length : Int) then (parterrelaw23_SpreadAlike.j1 kj3 l2 t195 t198 ((t198.length : Int) != (l2.length : Int))) else (parterrelaw23_SpreadAlike.j1 kj3 l2 t195 t198 true)))) = some r := by rw [if_neg (show ¬ (false = true) by decide)] at H; exact H
        clear H
        have H := H1
        clear H1
        replace H := Option.bind_eq_some_iff.mp H
        obtain ⟨t195, A100, H⟩ := H
        replace H : ((spread_Up.f kj3 (mn 1125899906842623 (wrap64 (a0 + (wrap64 (Int.tmod (IntKind.u64.wrap (a1)) 100000))))) l2).bind fun t198 => (if (t195.length : Int) = (l2.length : Int) then (parterrelaw23_SpreadAlike.j1 kj3 l2 t195 t198 ((t198.length : Int) != (l2.length : Int))) else (parterrelaw23_SpreadAlike.j1 kj3 l2 t195 t198 true))) = some r := H
        have A10 := Aside0.mk A100
        clear A100
        obtain ⟨ji11, hji11⟩ : ∃ j_ : Int, (mn 1125899906842623 (wrap64 (a0 + (wrap64 (Int.tmod (IntKind.u64.wrap (a1)) 100000))))) = j_ := ⟨_, rfl⟩
        replace H : ((spread_Up.f kj3 (ji11) l2).bind fun t198 => (if (t195.length : Int) = (l2.length : Int) then (parterrelaw23_SpreadAlike.j1 kj3 l2 t195 t198 ((t198.length : Int) != (l2.length : Int))) else (parterrelaw23_SpreadAlike.j1 kj3 l2 t195 t198 true))) = some r := by first | (rw [hji11] at H; exact H) | (simp only [hji11] at H ⊢; exact H)
        (try rw [hji11] at A10)
        have hji11_ : (if (wrap64 (a0 + (wrap64 (Int.tmod (IntKind.u64.wrap (a1)) 100000)))) < 1125899906842623 then (wrap64 (a0 + (wrap64 (Int.tmod (IntKind.u64.wrap (a1)) 100000)))) else 1125899906842623) = ji11 := hji11
        replace H := Option.bind_eq_some_iff.mp H
        obtain ⟨t198, A120, H⟩ := H
        replace H : (if (t195.length : Int) = (l2.length : Int) then (parterrelaw23_SpreadAlike.j1 kj3 l2 t195 t198 ((t198.length : Int) != (l2.length : Int))) else (parterrelaw23_SpreadAlike.j1 kj3 l2 t195 t198 true)) = some r := H
        have A12 := Aside0.mk A120
        clear A120
        have HC13 := Aside0.mk H
        clear H
        go_upto_region 5 with (first | (go_at_call 9; (with_reducible refine (spread_Up.calls kj3 a0 _ _ l2 t195 _ ?side1 ?side2 A10.out).mono ?_); (case side1 => repeat (first | exact (Kd.C_below HR2.out HB.out) | (with_reducible refine Kd.C_alloc ?_ _) | (with_reducible refine Kd.C_drewN ?_ _) | (with_reducible refine Kd.C_drew ?_))); (case side2 => exact HC2.out); rintro e w14 ⟨v196, rfl, ho0, hb⟩; have n0_ := Aside0.mk (Kd.R_lower ho0 (below_size pmAx7_1_)); have n1_ := Aside0.mk (below_step pmAx7_1_ hb); clear HB; have HO197 := n0_; have HB := n1_; clear n0_ n1_; (try clear hb); (try clear hb2); (try clear hk); (try clear hi); (try clear ho0)) | (go_at_call 9; (with_reducible refine (spread_Up.calls kj3 ji11 _ _ l2 t198 _ ?side1 ?side2 A12.out).mono ?_); (case side1 => repeat (first | exact (Kd.C_below HR2.out HB.out) | (with_reducible refine Kd.C_alloc ?_ _) | (with_reducible refine Kd.C_drewN ?_ _) | (with_reducible refine Kd.C_drew ?_))); (case side2 => exact HC2.out); rintro e w15 ⟨v199, rfl, ho0, hb⟩; have n0_ := Aside0.mk (Kd.R_elder' pmAx7_3_ (Kd.R_base ho0) hb); have n1_ := Aside0.mk (Kd.R_lower (Kd.R_new' ho0 (Kd.R_lt pmAx7_3_)) (below_size pmAx7_1_)); have n2_ := Aside0.mk (below_step pmAx7_1_ hb); clear HO197; clear HB; have HO197 := n0_; have HO200 := n1_; have HB := n2_; clear n0_ n1_ n2_; (try clear hb); (try clear hb2); (try clear hk); (try clear hi); (try clear ho0)))
        repeat (go_quiet (first | (go_at_call 9; (with_reducible refine (spread_Up.calls kj3 a0 _ _ l2 t195 _ ?side1 ?side2 A10.out).mono ?_); (case side1 => repeat (first | exact (Kd.C_below HR2.out HB.out) | (with_reducible refine Kd.C_alloc ?_ _) | (with_reducible refine Kd.C_drewN ?_ _) | (with_reducible refine Kd.C_drew ?_))); (case side2 => exact HC2.out); rintro e w14 ⟨v196, rfl, ho0, hb⟩; have n0_ := Aside0.mk (Kd.R_lower ho0 (below_size pmAx7_1_)); have n1_ := Aside0.mk (below_step pmAx7_1_ hb); clear HB; have HO197 := n0_; have HB := n1_; clear n0_ n1_; (try clear hb); (try clear hb2); (try clear hk); (try clear hi); (try clear ho0)) | (go_at_call 9; (with_reducible refine (spread_Up.calls kj3 ji11 _ _ l2 t198 _ ?side1 ?side2 A12.out).mono ?_); (case side1 => repeat (first | exact (Kd.C_below HR2.out HB.out) | (with_reducible refine Kd.C_alloc ?_ _) | (with_reducible refine Kd.C_drewN ?_ _) | (with_reducible refine Kd.C_drew ?_))); (case side2 => exact HC2.out); rintro e w15 ⟨v199, rfl, ho0, hb⟩; have n0_ := Aside0.mk (Kd.R_elder' pmAx7_3_ (Kd.R_base ho0) hb); have n1_ := Aside0.mk (Kd.R_lower (Kd.R_new' ho0 (Kd.R_lt pmAx7_3_)) (below_size pmAx7_1_)); have n2_ := Aside0.mk (below_step pmAx7_1_ hb); clear HO197; clear HB; have HO197 := n0_; have HO200 := n1_; have HB := n2_; clear n0_ n1_ n2_; (try clear hb); (try clear hb2); (try clear hk); (try clear hi); (try clear ho0))); go_upto_region 5 with (first | (go_at_call 9; (with_reducible refine (spread_Up.calls kj3 a0 _ _ l2 t195 _ ?side1 ?side2 A10.out).mono ?_); (case side1 => repeat (first | exact (Kd.C_below HR2.out HB.out) | (with_reducible refine Kd.C_alloc ?_ _) | (with_reducible refine Kd.C_drewN ?_ _) | (with_reducible refine Kd.C_drew ?_))); (case side2 => exact HC2.out); rintro e w14 ⟨v196, rfl, ho0, hb⟩; have n0_ := Aside0.mk (Kd.R_lower ho0 (below_size pmAx7_1_)); have n1_ := Aside0.mk (below_step pmAx7_1_ hb); clear HB; have HO197 := n0_; have HB := n1_; clear n0_ n1_; (try clear hb); (try clear hb2); (try clear hk); (try clear hi); (try clear ho0)) | (go_at_call 9; (with_reducible refine (spread_Up.calls kj3 ji11 _ _ l2 t198 _ ?side1 ?side2 A12.out).mono ?_); (case side1 => repeat (first | exact (Kd.C_below HR2.out HB.out) | (with_reducible refine Kd.C_alloc ?_ _) | (with_reducible refine Kd.C_drewN ?_ _) | (with_reducible refine Kd.C_drew ?_))); (case side2 => exact HC2.out); rintro e w15 ⟨v199, rfl, ho0, hb⟩; have n0_ := Aside0.mk (Kd.R_elder' pmAx7_3_ (Kd.R_base ho0) hb); have n1_ := Aside0.mk (Kd.R_lower (Kd.R_new' ho0 (Kd.R_lt pmAx7_3_)) (below_size pmAx7_1_)); have n2_ := Aside0.mk (below_step pmAx7_1_ hb); clear HO197; clear HB; have HO197 := n0_; have HO200 := n1_; have HB := n2_; clear n0_ n1_ n2_; (try clear hb); (try clear hb2); (try clear hk); (try clear hi); (try clear ho0))))
        (try simp only [Act.put, List.setIfInBounds_toArray, List.set_cons_zero, List.set_cons_succ])
        go_cut [44] (fun v44 wc => ∃ (kq : Nat) (x44_12 : Bool), v44 = .bool x44_12 ∧ Aside0 (parterrelaw23_SpreadAlike.j1 kq l2 t195 t198 x44_12 = some r) ∧ Aside0 (kq ≤ kj3) ∧ Aside0 (Kd.R (Kd.int .i64) 3 wc w.heap.size (fun k_ => some k_ ≠ (v199 : Value).ownBlock) v196 t195) ∧ Aside0 (Kd.R (Kd.int .i64) 3 wc w.heap.size (fun k_ => some k_ ≠ (v196 : Value).ownBlock) v199 t198) ∧ Aside0 (Below w.heap.size w wc))
        case first =>
          have H := HC13.out
          clear HC13
          by_cases c16 : (t195.length : Int) = (l2.length : Int)
          · rw [if_pos c16] at H
            have c16b0 : ((t195.length : Int) == (l2.length : Int)) = true := beq_iff_eq.mpr c16
            have c16b1 : ((t195.length : Int) != (l2.length : Int)) = false := bne_eq_false_iff_eq.mpr c16
            have c16b2 : (t195.length == l2.length) = true := by first | simpa using c16 | (simp at c16 ⊢; omega)
            clear c16
            (first | rw [c16b0] | (simp only [i64_w, i32_w]; rw [c16b0]) | skip)
            have H' := Aside0.mk H
            clear H
            obtain ⟨Ao17, co17, eo17⟩ := Kd.R_slice HO197.out
            subst eo17
            obtain ⟨Ao18, co18, eo18⟩ := Kd.R_slice HO200.out
            subst eo18
            go_wp2
            repeat (go_quiet (fail); try go_wp2)
            go_meet
            case rel => exact ⟨_, (((t198.length : Int) != (l2.length : Int))), pmAx7_2_, H', ⟨by have := HJ3.out; first | omega | exact Nat.le_refl _⟩, ⟨by (with_reducible repeat (first | apply Kd.R_alloc | apply Kd.R_drewN | apply Kd.R_drew)); exact Kd.R_mono HO197.out (fun _ hk => hk.2)⟩, ⟨by (with_reducible repeat (first | apply Kd.R_alloc | apply Kd.R_drewN | apply Kd.R_drew)); exact Kd.R_mono HO200.out (fun _ hk => hk.2)⟩, ⟨by repeat (first | (with_reducible first | exact HB.out | apply below_alloc | apply pw_below_drewN | apply below_drew1) | exact HB.out)⟩⟩
          · rw [if_neg c16] at H
            have c16b0 : ((t195.length : Int) == (l2.length : Int)) = false := beq_eq_false_iff_ne.mpr c16
            have c16b1 : ((t195.length : Int) != (l2.length : Int)) = true := bne_iff_ne.mpr c16
            have c16b2 : (t195.length == l2.length) = false := by first | simpa using c16 | (simp at c16 ⊢; omega)
            (first | rw [c16b0] | (simp only [i64_w, i32_w]; rw [c16b0]) | skip)
            have H' := Aside0.mk H
            clear H
            obtain ⟨Ao19, co19, eo19⟩ := Kd.R_slice HO197.out
            subst eo19
            go_wp2
            repeat (go_quiet (fail); try go_wp2)
            go_meet
            case rel => exact ⟨_, (true), pmAx7_2_, H', ⟨by have := HJ3.out; first | omega | exact Nat.le_refl _⟩, ⟨by (with_reducible repeat (first | apply Kd.R_alloc | apply Kd.R_drewN | apply Kd.R_drew)); exact Kd.R_mono HO197.out (fun _ hk => hk.2)⟩, ⟨by (with_reducible repeat (first | apply Kd.R_alloc | apply Kd.R_drewN | apply Kd.R_drew)); exact Kd.R_mono HO200.out (fun _ hk => hk.2)⟩, ⟨by repeat (first | (with_reducible first | exact HB.out | apply below_alloc | apply pw_below_drewN | apply below_drew1) | exact HB.out)⟩⟩
        case rest =>
          clear HC13
          try clear c1
          try clear c2
          try clear p2
          try clear c4
          try clear c5
          try clear c5b0
          try clear c5b1
          try clear p6
          try clear c7
          try clear c16
          try clear c16b0
          try clear c16b1
          try clear c16b2
          try clear p2
          obtain ⟨kq, x44_12, rfl, HA, HJ12, HO_7, HO_8, HB⟩ := hcut
          cases kq with
          | zero => exact absurd HA.out (by simp [parterrelaw23_SpreadAlike.j1])
          | succ kj12 =>
            have H := HA.out
            clear HA
            simp only [parterrelaw23_SpreadAlike.j1] at H
            by_cases c20 : x44_12 = true
            · subst c20
              have H1 : (some false) = some r := by rw [if_pos rfl] at H; exact H
              clear H
              have H := H1
              clear H1
              obtain rfl := Option.some.inj H
              go_wp2
              repeat (go_quiet (fail); try go_wp2)
              go_ret
              exact ⟨by first | rfl | (simp [errW_none, errW_some] <;> rfl) | (simp only [← hji11]; first | rfl | (simp [errW_none, errW_some] <;> rfl)) | (simp [*, errW_none, errW_some] <;> rfl), by repeat (first | (with_reducible first | exact HB.out | apply below_alloc | apply pw_below_drewN | apply below_drew1) | exact HB.out)⟩
            · replace c20 := Bool.eq_false_iff.mpr c20
              subst c20
              have H1 : (parterrelaw23_SpreadAlike.l0 kj12 l2 t195 t198 (t195.length : Int) 0) = some r := by rw [if_neg (show ¬ (false = true) by decide)] at H; exact H
              clear H
              have H := H1
              clear H1
              have H' := Aside0.mk H
              clear H
              obtain ⟨Ao21, co21, eo21⟩ := Kd.R_slice HO_7.out
              subst eo21
              go_wp2
              repeat (go_quiet (fail); try go_wp2)
              go_loopg [47] kj12 (fun kq v47 w' => ∃ (x47_3 : Int), v47 = .int .i64 x47_3 ∧ Aside0 (parterrelaw23_SpreadAlike.l0 kq l2 t195 t198 (t195.length : Int) x47_3 = some r) ∧ Aside0 (kq ≤ kj12) ∧ Aside0 (Kd.R (Kd.int .i64) 3 w' w.heap.size (fun k_ => some k_ ≠ (v199 : Value).ownBlock) (.slice Ao21 t195.length co21) t195) ∧ Aside0 (Kd.R (Kd.int .i64) 3 w' w.heap.size (fun k_ => some k_ ≠ ((.slice Ao21 t195.length co21) : Value).ownBlock) v199 t198) ∧ Aside0 (Below w.heap.size w w'))
              case atStart => exact ⟨(0), pmAx7_2_, H', ⟨Nat.le_refl _⟩, ⟨by (with_reducible repeat (first | apply Kd.R_alloc | apply Kd.R_drewN | apply Kd.R_drew)); exact HO_7.out⟩, ⟨by (with_reducible repeat (first | apply Kd.R_alloc | apply Kd.R_drewN | apply Kd.R_drew)); exact HO_8.out⟩, ⟨by repeat (first | (with_reducible first | exact HB.out | apply below_alloc | apply pw_below_drewN | apply below_drew1) | exact HB.out)⟩⟩
              case round =>
                clear H'
                try clear c1
                try clear c2
                try clear p2
                try clear c4
                try clear c5
                try clear c5b0
                try clear c5b1
                try clear p6
                try clear c7
                try clear c16
                try clear c16b0
                try clear c16b1
                try clear c16b2
                try clear c20
                try clear p2
                try clear p6
                obtain ⟨x47_3, rfl, HA, HK3, HO_7, HO_8, HB⟩ := hrel
                cases gk with
                | zero => exact absurd HA.out (by simp [parterrelaw23_SpreadAlike.l0])
                | succ k3 =>
                  have H := HA.out
                  clear HA
                  simp only [parterrelaw23_SpreadAlike.l0] at H
                  by_cases c22 : x47_3 < (t195.length : Int)
                  · rw [if_pos c22] at H
                    have c22b0 : decide (x47_3 < (t195.length : Int)) = true := decide_eq_true c22
                    clear c22
                    by_cases c23 : 0 ≤ x47_3
                    · rw [if_pos c23] at H
                      have c23b0 : decide (0 ≤ x47_3) = true := decide_eq_true c23
                      clear c23
                      by_cases c24 : x47_3 < (t198.length : Int)
                      · rw [if_pos c24] at H
                        have c24b0 : decide (x47_3 < (t198.length : Int)) = true := decide_eq_true c24
                        clear c24
                        by_cases c25 : x47_3 < (t195.length : Int)
                        · rw [if_pos c25] at H
                          have c25b0 : decide (x47_3 < (t195.length : Int)) = true := decide_eq_true c25
                          clear c25
                          by_cases c26 : (rd t198 x47_3) < (rd t195 x47_3)
                          · rw [if_pos c26] at H
                            have c26b0 : decide ((rd t198 x47_3) < (rd t195 x47_3)) = true := decide_eq_true c26
                            clear c26
                            obtain rfl := Option.some.inj H
                            obtain ⟨Ao27, co27, eo27⟩ := Kd.R_slice HO_8.out
                            subst eo27
                            have p202 : 0 ≤ (x47_3 : Int) := of_decide_eq_true pmAx7_0_
                            have q202 : x47_3 < (t198.length : Int) := of_decide_eq_true pmAx7_0_
                            obtain ⟨ad202, e202, hx202_0⟩ := Kd.at_int (Kd.R_reads' HO_8.out).2.2 x47_3 p202 q202
                            cases e202
                            replace p202 := eq_true p202
                            replace q202 := eq_true q202
                            have p203 : 0 ≤ (x47_3 : Int) := of_decide_eq_true pmAx7_0_
                            have q203 : x47_3 < (t195.length : Int) := of_decide_eq_true pmAx7_0_
                            obtain ⟨ad203, e203, hx203_0⟩ := Kd.at_int (Kd.R_reads' HO_7.out).2.2 x47_3 p203 q203
                            cases e203
                            replace p203 := eq_true p203
                            replace q203 := eq_true q203
                            go_wp2
                            repeat (go_quiet (fail); try go_wp2)
                            go_ret
                            exact ⟨by first | rfl | (simp [errW_none, errW_some] <;> rfl) | (simp only [← hji11]; first | rfl | (simp [errW_none, errW_some] <;> rfl)) | (simp [*, errW_none, errW_some] <;> rfl), by repeat (first | (with_reducible first | exact HB.out | apply below_alloc | apply pw_below_drewN | apply below_drew1) | exact HB.out)⟩
                          · rw [if_neg c26] at H
                            have c26b0 : decide ((rd t198 x47_3) < (rd t195 x47_3)) = false := decide_eq_false c26
                            clear c26
                            have H' := Aside0.mk H
                            clear H
                            obtain ⟨Ao28, co28, eo28⟩ := Kd.R_slice HO_8.out
                            subst eo28
                            have p202 : 0 ≤ (x47_3 : Int) := of_decide_eq_true pmAx7_0_
                            have q202 : x47_3 < (t198.length : Int) := of_decide_eq_true pmAx7_0_
                            obtain ⟨ad202, e202, hx202_0⟩ := Kd.at_int (Kd.R_reads' HO_8.out).2.2 x47_3 p202 q202
                            cases e202
                            replace p202 := eq_true p202
                            replace q202 := eq_true q202
                            have p203 : 0 ≤ (x47_3 : Int) := of_decide_eq_true pmAx7_0_
                            have q203 : x47_3 < (t195.length : Int) := of_decide_eq_true pmAx7_0_
                            obtain ⟨ad203, e203, hx203_0⟩ := Kd.at_int (Kd.R_reads' HO_7.out).2.2 x47_3 p203 q203
                            cases e203
                            replace p203 := eq_true p203
                            replace q203 := eq_true q203
                            go_wp2
                            repeat (go_quiet (fail); try go_wp2)
                            go_loopg [60] k3 (fun kq v60 w' => ∃ (x60_4 : Int), v60 = .int .i64 x60_4 ∧ Aside0 (parterrelaw23_SpreadAlike.l1 kq l2 t195 t198 x47_3 (t195.length : Int) x47_3 x47_3 x60_4 = some r) ∧ Aside0 (kq ≤ k3) ∧ Aside0 (Kd.R (Kd.int .i64) 3 w' w.heap.size (fun k_ => some k_ ≠ ((.slice (some ad202) t198.length co28) : Value).ownBlock) (.slice (some ad203) t195.length co21) t195) ∧ Aside0 (Kd.R (Kd.int .i64) 3 w' w.heap.size (fun k_ => some k_ ≠ ((.slice (some ad203) t195.length co21) : Value).ownBlock) (.slice (some ad202) t198.length co28) t198) ∧ Aside0 (Below w.heap.size w w'))
                            case atStart => exact ⟨(0), pmAx7_2_, H', ⟨Nat.le_refl _⟩, ⟨by (with_reducible repeat (first | apply Kd.R_alloc | apply Kd.R_drewN | apply Kd.R_drew)); exact HO_7.out⟩, ⟨by (with_reducible repeat (first | apply Kd.R_alloc | apply Kd.R_drewN | apply Kd.R_drew)); exact HO_8.out⟩, ⟨by repeat (first | (with_reducible first | exact HB.out | apply below_alloc | apply pw_below_drewN | apply below_drew1) | exact HB.out)⟩⟩
                            case round =>
                              clear H'
                              try clear c1
                              try clear c2
                              try clear p2
                              try clear q2
                              try clear hx2
                              try clear c4
                              try clear c5
                              try clear c5b0
                              try clear c5b1
                              try clear p6
                              try clear c7
                              try clear c16
                              try clear c16b0
                              try clear c16b1
                              try clear c16b2
                              try clear c20
                              try clear p20
                              try clear q20
                              try clear hx20
                              try clear c22
                              try clear c22b0
                              try clear c23
                              try clear c23b0
                              try clear c24
                              try clear c24b0
                              try clear c25
                              try clear c25b0
                              try clear c26
                              try clear c26b0
                              try clear hx202_0
                              try clear hx203_0
                              try clear p2
                              try clear p202
                              try clear p203
                              try clear p6
                              try clear q202
                              try clear q203
                              obtain ⟨x60_4, rfl, HA, HK4, HO_7, HO_8, HB⟩ := hrel
                              cases gk with
                              | zero => exact absurd HA.out (by simp [parterrelaw23_SpreadAlike.l1])
                              | succ k4 =>
                                have H := HA.out
                                clear HA
                                simp only [parterrelaw23_SpreadAlike.l1] at H
                                by_cases c29 : x60_4 < x47_3
                                · rw [if_pos c29] at H
                                  have c29b0 : decide (x60_4 < x47_3) = true := decide_eq_true c29
                                  clear c29
                                  by_cases c30 : 0 ≤ x47_3
                                  · rw [if_pos c30] at H
                                    have c30b0 : decide (0 ≤ x47_3) = true := decide_eq_true c30
                                    clear c30
                                    by_cases c31 : x47_3 < (t195.length : Int)
                                    · rw [if_pos c31] at H
                                      have c31b0 : decide (x47_3 < (t195.length : Int)) = true := decide_eq_true c31
                                      clear c31
                                      by_cases c32 : x47_3 < (l2.length : Int)
                                      · rw [if_pos c32] at H
                                        have c32b0 : decide (x47_3 < (l2.length : Int)) = true := decide_eq_true c32
                                        clear c32
                                        by_cases c33 : (rd t195 x47_3) < (rd l2 x47_3)
                                        · rw [if_pos c33] at H
                                          have c33b0 : decide ((rd t195 x47_3) < (rd l2 x47_3)) = true := decide_eq_true c33
                                          clear c33
                                          by_cases c34 : 0 ≤ x60_4
                                          · rw [if_pos c34] at H
                                            have c34b0 : decide (0 ≤ x60_4) = true := decide_eq_true c34
                                            clear c34
                                            by_cases c35 : x60_4 < (t195.length : Int)
                                            · rw [if_pos c35] at H
                                              have c35b0 : decide (x60_4 < (t195.length : Int)) = true := decide_eq_true c35
                                              clear c35
                                              by_cases c36 : x60_4 < (l2.length : Int)
                                              · rw [if_pos c36] at H
                                                have c36b0 : decide (x60_4 < (l2.length : Int)) = true := decide_eq_true c36
                                                clear c36
                                                by_cases c37 : (rd t195 x60_4) < (rd l2 x60_4)
                                                · rw [if_pos c37] at H
                                                  have c37b0 : decide ((rd t195 x60_4) < (rd l2 x60_4)) = true := decide_eq_true c37
                                                  clear c37
                                                  by_cases c38 : (rd t195 x60_4) > (wrap64 ((rd t195 x47_3) + 1))
                                                  · rw [if_pos c38] at H
                                                    have c38b0 : decide ((wrap64 ((rd t195 x47_3) + 1)) < (rd t195 x60_4)) = true := decide_eq_true c38
                                                    clear c38
                                                    obtain rfl := Option.some.inj H
                                                    have p204 : 0 ≤ (x47_3 : Int) := of_decide_eq_true pmAx7_0_
                                                    have q204 : x47_3 < (t195.length : Int) := of_decide_eq_true pmAx7_0_
                                                    obtain ⟨ad204, e204, hx204_0⟩ := Kd.at_int (Kd.R_reads' HO_7.out).2.2 x47_3 p204 q204
                                                    obtain rfl : ad203 = ad204 := (by injection e204)
                                                    replace p204 := eq_true p204
                                                    replace q204 := eq_true q204
                                                    have p205 : 0 ≤ (x47_3 : Int) := of_decide_eq_true pmAx7_0_
                                                    have q205 : x47_3 < (l2.length : Int) := of_decide_eq_true pmAx7_0_
                                                    obtain ⟨ad205, e205, hx205_0⟩ := Kd.at_int HR2.out x47_3 p205 q205
                                                    cases e205
                                                    replace hx205_0 := (HB.out.cell (World.block_lt_of_cell? w _ hx205_0)).trans hx205_0
                                                    replace p205 := eq_true p205
                                                    replace q205 := eq_true q205
                                                    have p206 : 0 ≤ (x60_4 : Int) := of_decide_eq_true pmAx7_0_
                                                    have q206 : x60_4 < (t195.length : Int) := of_decide_eq_true pmAx7_0_
                                                    obtain ⟨ad206, e206, hx206_0⟩ := Kd.at_int (Kd.R_reads' HO_7.out).2.2 x60_4 p206 q206
                                                    obtain rfl : ad203 = ad206 := (by injection e206)
                                                    replace p206 := eq_true p206
                                                    replace q206 := eq_true q206
                                                    have p207 : 0 ≤ (x60_4 : Int) := of_decide_eq_true pmAx7_0_
                                                    have q207 : x60_4 < (l2.length : Int) := of_decide_eq_true pmAx7_0_
                                                    obtain ⟨ad207, e207, hx207_0⟩ := Kd.at_int HR2.out x60_4 p207 q207
                                                    obtain rfl : ad205 = ad207 := (by injection e207)
                                                    replace hx207_0 := (HB.out.cell (World.block_lt_of_cell? w _ hx207_0)).trans hx207_0
                                                    replace p207 := eq_true p207
                                                    replace q207 := eq_true q207
                                                    have p208 : 0 ≤ (x60_4 : Int) := of_decide_eq_true pmAx7_0_
                                                    have q208 : x60_4 < (t195.length : Int) := of_decide_eq_true pmAx7_0_
                                                    obtain ⟨ad208, e208, hx208_0⟩ := Kd.at_int (Kd.R_reads' HO_7.out).2.2 x60_4 p208 q208
                                                    obtain rfl : ad203 = ad208 := (by injection e208)
                                                    replace p208 := eq_true p208
                                                    replace q208 := eq_true q208
                                                    have p209 : 0 ≤ (x47_3 : Int) := of_decide_eq_true pmAx7_0_
                                                    have q209 : x47_3 < (t195.length : Int) := of_decide_eq_true pmAx7_0_
                                                    obtain ⟨ad209, e209, hx209_0⟩ := Kd.at_int (Kd.R_reads' HO_7.out).2.2 x47_3 p209 q209
                                                    obtain rfl : ad203 = ad209 := (by injection e209)
                                                    replace p209 := eq_true p209
                                                    replace q209 := eq_true q209
                                                    go_wp2
                                                    repeat (go_quiet (fail); try go_wp2)
                                                    go_ret
                                                    exact ⟨by first | rfl | (simp [errW_none, errW_some] <;> rfl) | (simp only [← hji11]; first | rfl | (simp [errW_none, errW_some] <;> rfl)) | (simp [*, errW_none, errW_some] <;> rfl), by repeat (first | (with_reducible first | exact HB.out | apply below_alloc | apply pw_below_drewN | apply below_drew1) | exact HB.out)⟩
                                                  · rw [if_neg c38] at H
                                                    have c38b0 : decide ((wrap64 ((rd t195 x47_3) + 1)) < (rd t195 x60_4)) = false := decide_eq_false c38
                                                    clear c38
                                                    by_cases c39 : (rd t195 x47_3) > (rd t195 x60_4)
                                                    · rw [if_pos c39] at H
                                                      have c39b0 : decide ((rd t195 x60_4) < (rd t195 x47_3)) = true := decide_eq_true c39
                                                      clear c39
                                                      obtain rfl := Option.some.inj H
                                                      have p204 : 0 ≤ (x47_3 : Int) := of_decide_eq_true pmAx7_0_
                                                      have q204 : x47_3 < (t195.length : Int) := of_decide_eq_true pmAx7_0_
                                                      obtain ⟨ad204, e204, hx204_0⟩ := Kd.at_int (Kd.R_reads' HO_7.out).2.2 x47_3 p204 q204
                                                      obtain rfl : ad203 = ad204 := (by injection e204)
                                                      replace p204 := eq_true p204
                                                      replace q204 := eq_true q204
                                                      have p205 : 0 ≤ (x47_3 : Int) := of_decide_eq_true pmAx7_0_
                                                      have q205 : x47_3 < (l2.length : Int) := of_decide_eq_true pmAx7_0_
                                                      obtain ⟨ad205, e205, hx205_0⟩ := Kd.at_int HR2.out x47_3 p205 q205
                                                      cases e205
                                                      replace hx205_0 := (HB.out.cell (World.block_lt_of_cell? w _ hx205_0)).trans hx205_0
                                                      replace p205 := eq_true p205
                                                      replace q205 := eq_true q205
                                                      have p206 : 0 ≤ (x60_4 : Int) := of_decide_eq_true pmAx7_0_
                                                      have q206 : x60_4 < (t195.length : Int) := of_decide_eq_true pmAx7_0_
                                                      obtain ⟨ad206, e206, hx206_0⟩ := Kd.at_int (Kd.R_reads' HO_7.out).2.2 x60_4 p206 q206
                                                      obtain rfl : ad203 = ad206 := (by injection e206)
                                                      replace p206 := eq_true p206
                                                      replace q206 := eq_true q206
                                                      have p207 : 0 ≤ (x60_4 : Int) := of_decide_eq_true pmAx7_0_
                                                      have q207 : x60_4 < (l2.length : Int) := of_decide_eq_true pmAx7_0_
                                                      obtain ⟨ad207, e207, hx207_0⟩ := Kd.at_int HR2.out x60_4 p207 q207
                                                      obtain rfl : ad205 = ad207 := (by injection e207)
                                                      replace hx207_0 := (HB.out.cell (World.block_lt_of_cell? w _ hx207_0)).trans hx207_0
                                                      replace p207 := eq_true p207
                                                      replace q207 := eq_true q207
                                                      have p208 : 0 ≤ (x60_4 : Int) := of_decide_eq_true pmAx7_0_
                                                      have q208 : x60_4 < (t195.length : Int) := of_decide_eq_true pmAx7_0_
                                                      obtain ⟨ad208, e208, hx208_0⟩ := Kd.at_int (Kd.R_reads' HO_7.out).2.2 x60_4 p208 q208
                                                      obtain rfl : ad203 = ad208 := (by injection e208)
                                                      replace p208 := eq_true p208
                                                      replace q208 := eq_true q208
                                                      have p209 : 0 ≤ (x47_3 : Int) := of_decide_eq_true pmAx7_0_
                                                      have q209 : x47_3 < (t195.length : Int) := of_decide_eq_true pmAx7_0_
                                                      obtain ⟨ad209, e209, hx209_0⟩ := Kd.at_int (Kd.R_reads' HO_7.out).2.2 x47_3 p209 q209
                                                      obtain rfl : ad203 = ad209 := (by injection e209)
                                                      replace p209 := eq_true p209
                                                      replace q209 := eq_true q209
                                                      have p210 : 0 ≤ (x47_3 : Int) := of_decide_eq_true pmAx7_0_
                                                      have q210 : x47_3 < (t195.length : Int) := of_decide_eq_true pmAx7_0_
                                                      obtain ⟨ad210, e210, hx210_0⟩ := Kd.at_int (Kd.R_reads' HO_7.out).2.2 x47_3 p210 q210
                                                      obtain rfl : ad203 = ad210 := (by injection e210)
                                                      replace p210 := eq_true p210
                                                      replace q210 := eq_true q210
                                                      have p211 : 0 ≤ (x60_4 : Int) := of_decide_eq_true pmAx7_0_
                                                      have q211 : x60_4 < (t195.length : Int) := of_decide_eq_true pmAx7_0_
                                                      obtain ⟨ad211, e211, hx211_0⟩ := Kd.at_int (Kd.R_reads' HO_7.out).2.2 x60_4 p211 q211
                                                      obtain rfl : ad203 = ad211 := (by injection e211)
                                                      replace p211 := eq_true p211
                                                      replace q211 := eq_true q211
                                                      go_wp2
                                                      repeat (go_quiet (fail); try go_wp2)
                                                      go_ret
                                                      exact ⟨by first | rfl | (simp [errW_none, errW_some] <;> rfl) | (simp only [← hji11]; first | rfl | (simp [errW_none, errW_some] <;> rfl)) | (simp [*, errW_none, errW_some] <;> rfl), by repeat (first | (with_reducible first | exact HB.out | apply below_alloc | apply pw_below_drewN | apply below_drew1) | exact HB.out)⟩
                                                    · rw [if_neg c39] at H
                                                      have c39b0 : decide ((rd t195 x60_4) < (rd t195 x47_3)) = false := decide_eq_false c39
                                                      clear c39
                                                      have H' := Aside0.mk H
                                                      clear H
                                                      have p204 : 0 ≤ (x47_3 : Int) := of_decide_eq_true pmAx7_0_
                                                      have q204 : x47_3 < (t195.length : Int) := of_decide_eq_true pmAx7_0_
                                                      obtain ⟨ad204, e204, hx204_0⟩ := Kd.at_int (Kd.R_reads' HO_7.out).2.2 x47_3 p204 q204
                                                      obtain rfl : ad203 = ad204 := (by injection e204)
                                                      replace p204 := eq_true p204
                                                      replace q204 := eq_true q204
                                                      have p205 : 0 ≤ (x47_3 : Int) := of_decide_eq_true pmAx7_0_
                                                      have q205 : x47_3 < (l2.length : Int) := of_decide_eq_true pmAx7_0_
                                                      obtain ⟨ad205, e205, hx205_0⟩ := Kd.at_int HR2.out x47_3 p205 q205
                                                      cases e205
                                                      replace hx205_0 := (HB.out.cell (World.block_lt_of_cell? w _ hx205_0)).trans hx205_0
                                                      replace p205 := eq_true p205
                                                      replace q205 := eq_true q205
                                                      have p206 : 0 ≤ (x60_4 : Int) := of_decide_eq_true pmAx7_0_
                                                      have q206 : x60_4 < (t195.length : Int) := of_decide_eq_true pmAx7_0_
                                                      obtain ⟨ad206, e206, hx206_0⟩ := Kd.at_int (Kd.R_reads' HO_7.out).2.2 x60_4 p206 q206
                                                      obtain rfl : ad203 = ad206 := (by injection e206)
                                                      replace p206 := eq_true p206
                                                      replace q206 := eq_true q206
                                                      have p207 : 0 ≤ (x60_4 : Int) := of_decide_eq_true pmAx7_0_
                                                      have q207 : x60_4 < (l2.length : Int) := of_decide_eq_true pmAx7_0_
                                                      obtain ⟨ad207, e207, hx207_0⟩ := Kd.at_int HR2.out x60_4 p207 q207
                                                      obtain rfl : ad205 = ad207 := (by injection e207)
                                                      replace hx207_0 := (HB.out.cell (World.block_lt_of_cell? w _ hx207_0)).trans hx207_0
                                                      replace p207 := eq_true p207
                                                      replace q207 := eq_true q207
                                                      have p208 : 0 ≤ (x60_4 : Int) := of_decide_eq_true pmAx7_0_
                                                      have q208 : x60_4 < (t195.length : Int) := of_decide_eq_true pmAx7_0_
                                                      obtain ⟨ad208, e208, hx208_0⟩ := Kd.at_int (Kd.R_reads' HO_7.out).2.2 x60_4 p208 q208
                                                      obtain rfl : ad203 = ad208 := (by injection e208)
                                                      replace p208 := eq_true p208
                                                      replace q208 := eq_true q208
                                                      have p209 : 0 ≤ (x47_3 : Int) := of_decide_eq_true pmAx7_0_
                                                      have q209 : x47_3 < (t195.length : Int) := of_decide_eq_true pmAx7_0_
                                                      obtain ⟨ad209, e209, hx209_0⟩ := Kd.at_int (Kd.R_reads' HO_7.out).2.2 x47_3 p209 q209
                                                      obtain rfl : ad203 = ad209 := (by injection e209)
                                                      replace p209 := eq_true p209
                                                      replace q209 := eq_true q209
                                                      have p210 : 0 ≤ (x47_3 : Int) := of_decide_eq_true pmAx7_0_
                                                      have q210 : x47_3 < (t195.length : Int) := of_decide_eq_true pmAx7_0_
                                                      obtain ⟨ad210, e210, hx210_0⟩ := Kd.at_int (Kd.R_reads' HO_7.out).2.2 x47_3 p210 q210
                                                      obtain rfl : ad203 = ad210 := (by injection e210)
                                                      replace p210 := eq_true p210
                                                      replace q210 := eq_true q210
                                                      have p211 : 0 ≤ (x60_4 : Int) := of_decide_eq_true pmAx7_0_
                                                      have q211 : x60_4 < (t195.length : Int) := of_decide_eq_true pmAx7_0_
                                                      obtain ⟨ad211, e211, hx211_0⟩ := Kd.at_int (Kd.R_reads' HO_7.out).2.2 x60_4 p211 q211
                                                      obtain rfl : ad203 = ad211 := (by injection e211)
                                                      replace p211 := eq_true p211
                                                      replace q211 := eq_true q211
                                                      go_wp2
                                                      repeat (go_quiet (fail); try go_wp2)
                                                      go_roundg k4
                                                      case measure => have := HJ3.out; have := HJ12.out; have := HK3.out; have := HK4.out; omega
                                                      case rel => exact ⟨(wrap64 (x60_4 + 1)), pmAx7_2_, H', ⟨by have := HJ3.out; have := HJ12.out; have := HK3.out; have := HK4.out; omega⟩, ⟨by (with_reducible repeat (first | apply Kd.R_alloc | apply Kd.R_drewN | apply Kd.R_drew)); exact HO_7.out⟩, ⟨by (with_reducible repeat (first | apply Kd.R_alloc | apply Kd.R_drewN | apply Kd.R_drew)); exact HO_8.out⟩, ⟨by repeat (first | (with_reducible first | exact HB.out | apply below_alloc | apply pw_below_drewN | apply below_drew1) | exact HB.out)⟩⟩
                                                · rw [if_neg c37] at H
                                                  have c37b0 : decide ((rd t195 x60_4) < (rd l2 x60_4)) = false := decide_eq_false c37
                                                  clear c37
                                                  have H' := Aside0.mk H
                                                  clear H
                                                  have p204 : 0 ≤ (x47_3 : Int) := of_decide_eq_true pmAx7_0_
                                                  have q204 : x47_3 < (t195.length : Int) := of_decide_eq_true pmAx7_0_
                                                  obtain ⟨ad204, e204, hx204_0⟩ := Kd.at_int (Kd.R_reads' HO_7.out).2.2 x47_3 p204 q204
                                                  obtain rfl : ad203 = ad204 := (by injection e204)
                                                  replace p204 := eq_true p204
                                                  replace q204 := eq_true q204
                                                  have p205 : 0 ≤ (x47_3 : Int) := of_decide_eq_true pmAx7_0_
                                                  have q205 : x47_3 < (l2.length : Int) := of_decide_eq_true pmAx7_0_
                                                  obtain ⟨ad205, e205, hx205_0⟩ := Kd.at_int HR2.out x47_3 p205 q205
                                                  cases e205
                                                  replace hx205_0 := (HB.out.cell (World.block_lt_of_cell? w _ hx205_0)).trans hx205_0
                                                  replace p205 := eq_true p205
                                                  replace q205 := eq_true q205
                                                  have p206 : 0 ≤ (x60_4 : Int) := of_decide_eq_true pmAx7_0_
                                                  have q206 : x60_4 < (t195.length : Int) := of_decide_eq_true pmAx7_0_
                                                  obtain ⟨ad206, e206, hx206_0⟩ := Kd.at_int (Kd.R_reads' HO_7.out).2.2 x60_4 p206 q206
                                                  obtain rfl : ad203 = ad206 := (by injection e206)
                                                  replace p206 := eq_true p206
                                                  replace q206 := eq_true q206
                                                  have p207 : 0 ≤ (x60_4 : Int) := of_decide_eq_true pmAx7_0_
                                                  have q207 : x60_4 < (l2.length : Int) := of_decide_eq_true pmAx7_0_
                                                  obtain ⟨ad207, e207, hx207_0⟩ := Kd.at_int HR2.out x60_4 p207 q207
                                                  obtain rfl : ad205 = ad207 := (by injection e207)
                                                  replace hx207_0 := (HB.out.cell (World.block_lt_of_cell? w _ hx207_0)).trans hx207_0
                                                  replace p207 := eq_true p207
                                                  replace q207 := eq_true q207
                                                  go_wp2
                                                  repeat (go_quiet (fail); try go_wp2)
                                                  go_roundg k4
                                                  case measure => have := HJ3.out; have := HJ12.out; have := HK3.out; have := HK4.out; omega
                                                  case rel => exact ⟨(wrap64 (x60_4 + 1)), pmAx7_2_, H', ⟨by have := HJ3.out; have := HJ12.out; have := HK3.out; have := HK4.out; omega⟩, ⟨by (with_reducible repeat (first | apply Kd.R_alloc | apply Kd.R_drewN | apply Kd.R_drew)); exact HO_7.out⟩, ⟨by (with_reducible repeat (first | apply Kd.R_alloc | apply Kd.R_drewN | apply Kd.R_drew)); exact HO_8.out⟩, ⟨by repeat (first | (with_reducible first | exact HB.out | apply below_alloc | apply pw_below_drewN | apply below_drew1) | exact HB.out)⟩⟩
                                              · rw [if_neg c36] at H
                                                exact absurd H (by simp)
                                            · rw [if_neg c35] at H
                                              exact absurd H (by simp)
                                          · rw [if_neg c34] at H
                                            exact absurd H (by simp)
                                        · rw [if_neg c33] at H
                                          have c33b0 : decide ((rd t195 x47_3) < (rd l2 x47_3)) = false := decide_eq_false c33
                                          clear c33
                                          have H' := Aside0.mk H
                                          clear H
                                          have p204 : 0 ≤ (x47_3 : Int) := of_decide_eq_true pmAx7_0_
                                          have q204 : x47_3 < (t195.length : Int) := of_decide_eq_true pmAx7_0_
                                          obtain ⟨ad204, e204, hx204_0⟩ := Kd.at_int (Kd.R_reads' HO_7.out).2.2 x47_3 p204 q204
                                          obtain rfl : ad203 = ad204 := (by injection e204)
                                          replace p204 := eq_true p204
                                          replace q204 := eq_true q204
                                          have p205 : 0 ≤ (x47_3 : Int) := of_decide_eq_true pmAx7_0_
                                          have q205 : x47_3 < (l2.length : Int) := of_decide_eq_true pmAx7_0_
                                          obtain ⟨ad205, e205, hx205_0⟩ := Kd.at_int HR2.out x47_3 p205 q205
                                          cases e205
                                          replace hx205_0 := (HB.out.cell (World.block_lt_of_cell? w _ hx205_0)).trans hx205_0
                                          replace p205 := eq_true p205
                                          replace q205 := eq_true q205
                                          go_wp2
                                          repeat (go_quiet (fail); try go_wp2)
                                          go_roundg k4
                                          case measure => have := HJ3.out; have := HJ12.out; have := HK3.out; have := HK4.out; omega
                                          case rel => exact ⟨(wrap64 (x60_4 + 1)), pmAx7_2_, H', ⟨by have := HJ3.out; have := HJ12.out; have := HK3.out; have := HK4.out; omega⟩, ⟨by (with_reducible repeat (first | apply Kd.R_alloc | apply Kd.R_drewN | apply Kd.R_drew)); exact HO_7.out⟩, ⟨by (with_reducible repeat (first | apply Kd.R_alloc | apply Kd.R_drewN | apply Kd.R_drew)); exact HO_8.out⟩, ⟨by repeat (first | (with_reducible first | exact HB.out | apply below_alloc | apply pw_below_drewN | apply below_drew1) | exact HB.out)⟩⟩
                                      · rw [if_neg c32] at H
                                        exact absurd H (by simp)
                                    · rw [if_neg c31] at H
                                      exact absurd H (by simp)
                                  · rw [if_neg c30] at H
                                    exact absurd H (by simp)
                                · rw [if_neg c29] at H
                                  have c29b0 : decide (x60_4 < x47_3) = false := decide_eq_false c29
                                  clear c29
                                  have H' := Aside0.mk H
                                  clear H
                                  go_wp2
                                  repeat (go_quiet (fail); try go_wp2)
                                  go_roundg k4
                                  case measure => have := HJ3.out; have := HJ12.out; have := HK3.out; have := HK4.out; omega
                                  case rel => exact ⟨(wrap64 (x47_3 + 1)), pmAx7_2_, H', ⟨by have := HJ3.out; have := HJ12.out; have := HK3.out; have := HK4.out; omega⟩, ⟨by (with_reducible repeat (first | apply Kd.R_alloc | apply Kd.R_drewN | apply Kd.R_drew)); exact HO_7.out⟩, ⟨by (with_reducible repeat (first | apply Kd.R_alloc | apply Kd.R_drewN | apply Kd.R_drew)); exact HO_8.out⟩, ⟨by repeat (first | (with_reducible first | exact HB.out | apply below_alloc | apply pw_below_drewN | apply below_drew1) | exact HB.out)⟩⟩
                        · rw [if_neg c25] at H
                          exact absurd H (by simp)
                      · rw [if_neg c24] at H
                        exact absurd H (by simp)
                    · rw [if_neg c23] at H
                      exact absurd H (by simp)
                  · rw [if_neg c22] at H
                    have c22b0 : decide (x47_3 < (t195.length : Int)) = false := decide_eq_false c22
                    clear c22
                    replace H := Option.bind_eq_some_iff.mp H
                    obtain ⟨t201, A400, H⟩ := H
                    replace H : (some t201) = some r := H
                    have A40 := Aside0.mk A400
                    clear A400
                    obtain rfl := Option.some.inj H
                    go_wp2_with (first | (go_at_call 7; (with_reducible refine (parterrelaw23_lives.calls k3  t201 _ A40.out).mono ?_); rintro e w41 ⟨rfl, hb⟩; have n0_ := Aside0.mk (Kd.R_below (by (with_reducible repeat (first | apply Kd.R_alloc | apply Kd.R_drewN | apply Kd.R_drew)); exact HO_7.out) hb); have n1_ := Aside0.mk (Kd.R_below (by (with_reducible repeat (first | apply Kd.R_alloc | apply Kd.R_drewN | apply Kd.R_drew)); exact HO_8.out) hb); have n2_ := Aside0.mk (below_step pmAx7_1_ hb); clear HO_7; clear HO_8; clear HB; have HO_7 := n0_; have HO_8 := n1_; have HB := n2_; clear n0_ n1_ n2_; (try clear hb); (try clear hb2); (try clear hk); (try clear hi)))
                    repeat (go_quiet (first | (go_at_call 7; (with_reducible refine (parterrelaw23_lives.calls k3  t201 _ A40.out).mono ?_); rintro e w41 ⟨rfl, hb⟩; have n0_ := Aside0.mk (Kd.R_below (by (with_reducible repeat (first | apply Kd.R_alloc | apply Kd.R_drewN | apply Kd.R_drew)); exact HO_7.out) hb); have n1_ := Aside0.mk (Kd.R_below (by (with_reducible repeat (first | apply Kd.R_alloc | apply Kd.R_drewN | apply Kd.R_drew)); exact HO_8.out) hb); have n2_ := Aside0.mk (below_step pmAx7_1_ hb); clear HO_7; clear HO_8; clear HB; have HO_7 := n0_; have HO_8 := n1_; have HB := n2_; clear n0_ n1_ n2_; (try clear hb); (try clear hb2); (try clear hk); (try clear hi))); try go_wp2_with (first | (go_at_call 7; (with_reducible refine (parterrelaw23_lives.calls k3  t201 _ A40.out).mono ?_); rintro e w41 ⟨rfl, hb⟩; have n0_ := Aside0.mk (Kd.R_below (by (with_reducible repeat (first | apply Kd.R_alloc | apply Kd.R_drewN | apply Kd.R_drew)); exact HO_7.out) hb); have n1_ := Aside0.mk (Kd.R_below (by (with_reducible repeat (first | apply Kd.R_alloc | apply Kd.R_drewN | apply Kd.R_drew)); exact HO_8.out) hb); have n2_ := Aside0.mk (below_step pmAx7_1_ hb); clear HO_7; clear HO_8; clear HB; have HO_7 := n0_; have HO_8 := n1_; have HB := n2_; clear n0_ n1_ n2_; (try clear hb); (try clear hb2); (try clear hk); (try clear hi))))
                    go_ret
                    exact ⟨by first | rfl | (simp [errW_none, errW_some] <;> rfl) | (simp only [← hji11]; first | rfl | (simp [errW_none, errW_some] <;> rfl)) | (simp [*, errW_none, errW_some] <;> rfl), by repeat (first | (with_reducible first | exact HB.out | apply below_alloc | apply pw_below_drewN | apply below_drew1) | exact HB.out)⟩
/-- THE ONE PURE STATEMENT of parterrelaw23_SpreadAlike. -/
def parterrelaw23_SpreadAlike.Pure : Prop := ∀ (a0 : Int) (a1 : Int) (l2 : List Int), (Lit.int .i64 a0).wf = true → (Lit.int .i64 a1).wf = true → l2.length ≤ 9223372036854775807 → l2.length * 8 ≤ 140737488351232 → (∀ e_ ∈ l2, (Lit.int .i64 e_).wf = true) → ∃ k, parterrelaw23_SpreadAlike.f k a0 a1 l2 = some true

/-! ### parterreref23_taken: function 19 -/
def parterreref23_taken.l0 : Nat → Int → List Int → Int → Int → Int → Option (Int)
  | 0, _, _, _, _, _ => none
  | k + 1, x0, x1, x2, x7, x8 => if x8 < (x1.length : Int) then (if 0 ≤ x8 then (parterreref23_taken.l0 k x0 x1 x2 (mn (wrap64 (x0 + 1)) (wrap64 (x7 + (mn (rd x1 x8) x2)))) (wrap64 (x8 + 1))) else (none)) else (some x7)
def parterreref23_taken.f (k : Nat) (a0 : Int) (l1 : List Int) (a2 : Int) : Option (Int) := parterreref23_taken.l0 k a0 l1 a2 0 0
theorem parterreref23_taken.mono_l : ∀ k, (∀ y0 y1 y2 y3 y4, LeO (parterreref23_taken.l0 k y0 y1 y2 y3 y4) (parterreref23_taken.l0 (k + 1) y0 y1 y2 y3 y4))
  | 0 => fun _ _ _ _ _ r h => by simp [parterreref23_taken.l0] at h
  | k + 1 => by
    have ih0 := parterreref23_taken.mono_l k
    · intro y0 y1 y2 y3 y4
      unfold parterreref23_taken.l0
      repeat' first
      | (with_reducible exact ih0 _ _ _ _ _)
      | (with_reducible exact LeO.refl _)
      | (with_reducible exact LeO.none _)
      | (with_reducible refine LeO.ite ?_ ?_)
      | (with_reducible refine LeO.bind ?_ (fun _ => ?_))
      | exact ih0 _ _ _ _ _
      | exact LeO.none _
      | refine LeO.ite ?_ ?_
      | refine LeO.bind ?_ (fun _ => ?_)
theorem parterreref23_taken.mono : ∀ a0 a1 a2 k, LeO (parterreref23_taken.f k a0 a1 a2) (parterreref23_taken.f (k + 1) a0 a1 a2) := by
  intro a0 a1 a2 k
  have ih0 := parterreref23_taken.mono_l k
  unfold parterreref23_taken.f
  repeat' first
      | (with_reducible exact ih0 _ _ _ _ _)
      | (with_reducible exact LeO.refl _)
      | (with_reducible exact LeO.none _)
      | (with_reducible refine LeO.ite ?_ ?_)
      | (with_reducible refine LeO.bind ?_ (fun _ => ?_))
      | exact ih0 _ _ _ _ _
      | exact LeO.none _
      | refine LeO.ite ?_ ?_
      | refine LeO.bind ?_ (fun _ => ?_)
set_option maxHeartbeats 8000000 in
set_option maxRecDepth 100000 in
theorem parterreref23_taken.calls (k : Nat) (a0 : Int) (A1 : Option Addr) (c1 : Nat) (l1 : List Int) (a2 : Int) (r : Int) (w : World) (hr1 : Kd.C (Kd.int .i64) w A1 l1.length l1) (hc1 : l1.length ≤ c1) (h : parterreref23_taken.f k a0 l1 a2 = some r) :
    Calls Try.prog 19 #[.int .i64 a0, .slice A1 l1.length c1, .int .i64 a2] w fun e w' => e = .returned (.int .i64 r) ∧ Below w.heap.size w w' := by
  have HR1 := Aside0.mk hr1
  have HC1 := Aside0.mk hc1
  clear hr1 hc1
  have HB := Aside0.mk (Below.refl w.heap.size w)
  have H : (parterreref23_taken.l0 k a0 l1 a2 0 0) = some r := h
  clear h
  have H' := Aside0.mk H
  clear H
  go_enter Try.func19, Try.ntmps19
  go_wp2
  go_loopg [7, 8] k (fun kq v7 v8 w' => ∃ (x7_1 : Int) (x8_1 : Int), v7 = .int .i64 x7_1 ∧ v8 = .int .i64 x8_1 ∧ Aside0 (parterreref23_taken.l0 kq a0 l1 a2 x7_1 x8_1 = some r) ∧ Aside0 (kq ≤ k) ∧ Aside0 (Below w.heap.size w w'))
  case atStart => exact ⟨(0), (0), pmAx7_2_, pmAx7_2_, H', ⟨Nat.le_refl _⟩, ⟨by repeat (first | (with_reducible first | exact HB.out | apply below_alloc | apply pw_below_drewN | apply below_drew1) | exact HB.out)⟩⟩
  case round =>
    clear H'
    try clear c1
    try clear p2
    obtain ⟨x7_1, x8_1, rfl, rfl, HA, HK1, HB⟩ := hrel
    cases gk with
    | zero => exact absurd HA.out (by simp [parterreref23_taken.l0])
    | succ k1 =>
      have H := HA.out
      clear HA
      simp only [parterreref23_taken.l0] at H
      by_cases c4 : x8_1 < (l1.length : Int)
      · rw [if_pos c4] at H
        have c4b0 : decide (x8_1 < (l1.length : Int)) = true := decide_eq_true c4
        clear c4
        by_cases c5 : 0 ≤ x8_1
        · rw [if_pos c5] at H
          have c5b0 : decide (0 ≤ x8_1) = true := decide_eq_true c5
          clear c5
          obtain ⟨ji6, hji6⟩ : ∃ j_ : Int, (mn (rd l1 x8_1) a2) = j_ := ⟨_, rfl⟩
          replace H : (parterreref23_taken.l0 k1 a0 l1 a2 (mn (wrap64 (a0 + 1)) (wrap64 (x7_1 + (ji6)))) (wrap64 (x8_1 + 1))) = some r := by first | (rw [hji6] at H; exact H) | (simp only [hji6] at H ⊢; exact H)
          have hji6_ : (if a2 < (rd l1 x8_1) then a2 else (rd l1 x8_1)) = ji6 := hji6
          obtain ⟨ji7, hji7⟩ : ∃ j_ : Int, (mn (wrap64 (a0 + 1)) (wrap64 (x7_1 + (ji6)))) = j_ := ⟨_, rfl⟩
          replace H : (parterreref23_taken.l0 k1 a0 l1 a2 ji7 (wrap64 (x8_1 + 1))) = some r := by first | (rw [hji7] at H; exact H) | (simp only [hji7] at H ⊢; exact H)
          have hji7_ : (if (wrap64 (x7_1 + (ji6))) < (wrap64 (a0 + 1)) then (wrap64 (x7_1 + (ji6))) else (wrap64 (a0 + 1))) = ji7 := hji7
          have H' := Aside0.mk H
          clear H
          have p212 : 0 ≤ (x8_1 : Int) := of_decide_eq_true pmAx7_0_
          have q212 : x8_1 < (l1.length : Int) := of_decide_eq_true pmAx7_0_
          obtain ⟨ad212, e212, hx212_0⟩ := Kd.at_int HR1.out x8_1 p212 q212
          cases e212
          replace hx212_0 := (HB.out.cell (World.block_lt_of_cell? w _ hx212_0)).trans hx212_0
          replace p212 := eq_true p212
          replace q212 := eq_true q212
          go_wp2
          go_roundg k1
          case measure => have := HK1.out; omega
          case rel => exact ⟨(ji7), (wrap64 (x8_1 + 1)), (by first | rfl | (simp; done) | (simp only [← hji7] <;> (first | rfl | simp)) | (simp [*]; done)), pmAx7_2_, H', ⟨by have := HK1.out; omega⟩, ⟨by repeat (first | (with_reducible first | exact HB.out | apply below_alloc | apply pw_below_drewN | apply below_drew1) | exact HB.out)⟩⟩
        · rw [if_neg c5] at H
          exact absurd H (by simp)
      · rw [if_neg c4] at H
        have c4b0 : decide (x8_1 < (l1.length : Int)) = false := decide_eq_false c4
        clear c4
        obtain rfl := Option.some.inj H
        go_wp2
        go_ret
        exact ⟨by first | rfl | (simp [errW_none, errW_some] <;> rfl) | (simp [*, errW_none, errW_some] <;> rfl), by repeat (first | (with_reducible first | exact HB.out | apply below_alloc | apply pw_below_drewN | apply below_drew1) | exact HB.out)⟩

end Go.Proofs.Ytecccaniopkphaa.PA
