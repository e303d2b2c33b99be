-- written by a program of this session (a print of the translation with changes of its own)
import Derived.Test.YtecccaniopkphaaPAx0
import Derived.Test.YtecccaniopkphaaPAx2
import Derived.Test.YtecccaniopkphaaPAx7
namespace Go.Proofs.Ytecccaniopkphaa.PA
open Go.RowKit Go.Proofs.YtecccaniopkphaaW.PrintWords Go.Proofs.YtecccaniopkphaaW.PrintLast Go.Proofs.YtecccaniopkphaaW.PrintMore
theorem pmAx8_0_ {P : Prop} (h : P := by first | (with_reducible assumption) | assumption) : P := h
theorem pmAx8_1_ {P : Prop} (h : P := by repeat (first | (with_reducible first | exact HB.out | apply below_alloc | apply pw_below_drewN | apply below_drew1) | exact HB.out)) : P := h
theorem pmAx8_2_ {P : Prop} (h : P := by first | rfl | (simp; done) | (simp [*]; done)) : P := h
theorem pmAx8_3_ {P : Prop} (h : P := by (try simp only [List.map_toArray, List.map_cons, List.map_nil]); first | done | rfl | (simp only [List.length_drop, List.length_take]; rfl)) : P := h
theorem pmAx8_4_ {P : Prop} (h : P := by (with_reducible repeat (first | apply Kd.R_alloc | apply Kd.R_drewN | apply Kd.R_drew)); exact HO_5.out) : P := h
attribute [local go_sem] max2_int min2_int max_two min_two max_three min_three max_four min_four   -- for this text's walks alone
set_option linter.unusedVariables false
set_option linter.unusedSimpArgs false

/-! ### parterreref23_Up: function 11 -/
mutual
def parterreref23_Up.l0 : Nat → Int → List Int → List Int → Int → Int → Option (List Int)
  | 0, _, _, _, _, _ => none
  | k + 1, x0, x1, x5, x6, x7 => if (wrap64 (x7 - x6)) > 1 then ((parterreref23_taken.f k x0 x1 (wrap64 (Int.tdiv (wrap64 (x6 + x7)) 2))).bind fun t217 => (if t217 ≤ x0 then (parterreref23_Up.l0 k x0 x1 x5 (wrap64 (Int.tdiv (wrap64 (x6 + x7)) 2)) x7) else (parterreref23_Up.l0 k x0 x1 x5 x6 (wrap64 (Int.tdiv (wrap64 (x6 + x7)) 2))))) else ((parterreref23_taken.f k x0 x1 x6).bind fun t218 => (parterreref23_Up.l1 k x1 x5 x6 (wrap64 (x0 - t218)) 0))
def parterreref23_Up.l1 : Nat → List Int → List Int → Int → Int → Int → Option (List Int)
  | 0, _, _, _, _, _ => none
  | k + 1, x1, x5, x6, x9, x10 => if x10 < (x1.length : Int) then (if 0 ≤ x10 then (if x10 < (x5.length : Int) then ((some (x5.set (x10 : Int).toNat (mn (rd x1 x10) x6) : List Int)).bind fun y220 => (if (rd x1 x10) > x6 then (if x9 > 0 then (parterreref23_Up.l1 k x1 (y220.set (x10 : Int).toNat (wrap64 ((rd y220 x10) + 1))) x6 (wrap64 (x9 - 1)) (wrap64 (x10 + 1))) else (parterreref23_Up.l1 k x1 y220 x6 x9 (wrap64 (x10 + 1)))) else (parterreref23_Up.l1 k x1 y220 x6 x9 (wrap64 (x10 + 1))))) else (none)) else (none)) else (some x5)
end
def parterreref23_Up.f (k : Nat) (a0 : Int) (l1 : List Int) : Option (List Int) := if 0 ≤ (l1.length : Int) then (if ((l1.length : Int) : Int).toNat ≤ 35184372088832 then ((some (List.replicate ((l1.length : Int) : Int).toNat 0 : List Int)).bind fun y213 => ((parterreref23_Right.f k a0 l1).bind fun t216 => (if t216 = true then (parterreref23_Up.l0 k a0 l1 y213 0 1125899906842625) else (some y213)))) else (none)) else (none)
theorem parterreref23_Up.mono_l : ∀ k, (∀ y0 y1 y2 y3 y4, LeO (parterreref23_Up.l0 k y0 y1 y2 y3 y4) (parterreref23_Up.l0 (k + 1) y0 y1 y2 y3 y4)) ∧ (∀ y0 y1 y2 y3 y4, LeO (parterreref23_Up.l1 k y0 y1 y2 y3 y4) (parterreref23_Up.l1 (k + 1) y0 y1 y2 y3 y4))
  | 0 => ⟨fun _ _ _ _ _ r h => by simp [parterreref23_Up.l0] at h, fun _ _ _ _ _ r h => by simp [parterreref23_Up.l1] at h⟩
  | k + 1 => by
    obtain ⟨ih0, ih1⟩ := parterreref23_Up.mono_l k
    refine ⟨?_, ?_⟩
    · intro y0 y1 y2 y3 y4
      unfold parterreref23_Up.l0
      repeat' first
      | (with_reducible exact ih0 _ _ _ _ _)
      | (with_reducible exact ih1 _ _ _ _ _)
      | (with_reducible exact parterreref23_Right.mono _ _ _)
      | (with_reducible exact parterreref23_taken.mono _ _ _ _)
      | (with_reducible exact LeO.refl _)
      | (with_reducible exact LeO.none _)
      | (with_reducible refine LeO.ite ?_ ?_)
      | (with_reducible refine LeO.bind ?_ (fun _ => ?_))
      | exact ih0 _ _ _ _ _
      | exact ih1 _ _ _ _ _
      | exact parterreref23_Right.mono _ _ _
      | exact parterreref23_taken.mono _ _ _ _
      | exact LeO.none _
      | refine LeO.ite ?_ ?_
      | refine LeO.bind ?_ (fun _ => ?_)
    · intro y0 y1 y2 y3 y4
      unfold parterreref23_Up.l1
      repeat' first
      | (with_reducible exact ih0 _ _ _ _ _)
      | (with_reducible exact ih1 _ _ _ _ _)
      | (with_reducible exact parterreref23_Right.mono _ _ _)
      | (with_reducible exact parterreref23_taken.mono _ _ _ _)
      | (with_reducible exact LeO.refl _)
      | (with_reducible exact LeO.none _)
      | (with_reducible refine LeO.ite ?_ ?_)
      | (with_reducible refine LeO.bind ?_ (fun _ => ?_))
      | exact ih0 _ _ _ _ _
      | exact ih1 _ _ _ _ _
      | exact parterreref23_Right.mono _ _ _
      | exact parterreref23_taken.mono _ _ _ _
      | exact LeO.none _
      | refine LeO.ite ?_ ?_
      | refine LeO.bind ?_ (fun _ => ?_)
theorem parterreref23_Up.mono : ∀ a0 a1 k, LeO (parterreref23_Up.f k a0 a1) (parterreref23_Up.f (k + 1) a0 a1) := by
  intro a0 a1 k
  obtain ⟨ih0, ih1⟩ := parterreref23_Up.mono_l k
  unfold parterreref23_Up.f
  repeat' first
      | (with_reducible exact ih0 _ _ _ _ _)
      | (with_reducible exact ih1 _ _ _ _ _)
      | (with_reducible exact parterreref23_Right.mono _ _ _)
      | (with_reducible exact parterreref23_taken.mono _ _ _ _)
      | (with_reducible exact LeO.refl _)
      | (with_reducible exact LeO.none _)
      | (with_reducible refine LeO.ite ?_ ?_)
      | (with_reducible refine LeO.bind ?_ (fun _ => ?_))
      | exact ih0 _ _ _ _ _
      | exact ih1 _ _ _ _ _
      | exact parterreref23_Right.mono _ _ _
      | exact parterreref23_taken.mono _ _ _ _
      | exact LeO.none _
      | refine LeO.ite ?_ ?_
      | refine LeO.bind ?_ (fun _ => ?_)
set_option maxHeartbeats 8000000 in
set_option maxRecDepth 100000 in
theorem parterreref23_Up.calls (k : Nat) (a0 : Int) (A1 : Option Addr) (c1 : Nat) (l1 : List Int) (r : List Int) (w : World) (hr1 : Kd.C (Kd.int .i64) w A1 l1.length l1) (hc1 : l1.length ≤ c1) (h : parterreref23_Up.f k a0 l1 = some r) :
    Calls Try.prog 11 #[.int .i64 a0, .slice A1 l1.length c1] w fun e w' => ∃ v0_ : Value, e = .returned (v0_) ∧ Kd.R (Kd.int .i64) 3 w' w.heap.size (fun _ => True) v0_ r ∧ Below w.heap.size w w' := by
  have HR1 := Aside0.mk hr1
  have HC1 := Aside0.mk hc1
  clear hr1 hc1
  have HB := Aside0.mk (Below.refl w.heap.size w)
  have H : (if 0 ≤ (l1.length : Int) then (if ((l1.length : Int) : Int).toNat ≤ 35184372088832 then ((some (List.replicate ((l1.length : Int) : Int).toNat 0 : List Int)).bind fun y213 => ((parterreref23_Right.f k a0 l1).bind fun t216 => (if t216 = true then (parterreref23_Up.l0 k a0 l1 y213 0 1125899906842625) else (some y213)))) else (none)) else (none)) = some r := h
  clear h
  by_cases c3 : 0 ≤ (l1.length : Int)
  · rw [if_pos c3] at H
    have c3b0 := eq_true c3
    have c3b1 : decide (0 ≤ (l1.length : Int)) = true := decide_eq_true c3
    clear c3
    by_cases c4 : ((l1.length : Int) : Int).toNat ≤ 35184372088832
    · rw [if_pos c4] at H
      have c4b0 := eq_true c4
      have c4b1 : decide (((l1.length : Int) : Int).toNat ≤ 35184372088832) = true := decide_eq_true c4
      clear c4
      obtain ⟨y213, hy213⟩ : ∃ y_ : List Int, y_ = (List.replicate ((l1.length : Int) : Int).toNat 0) := ⟨_, rfl⟩
      replace H : ((parterreref23_Right.f k a0 l1).bind fun t216 => (if t216 = true then (parterreref23_Up.l0 k a0 l1 y213 0 1125899906842625) else (some y213))) = some r := by first | (rw [hy213]; with_reducible exact H) | (have H2_ := (Option.bind_some _ _).symm.trans H; rw [hy213]; with_reducible exact H2_) | (have H2_ := (Option.bind_some _ _).symm.trans H; with_reducible exact H2_) | with_reducible exact H | (rw [hy213]; exact H) | exact H
      have Ny213 := Aside0.mk hy213
      clear hy213
      replace H := Option.bind_eq_some_iff.mp H
      obtain ⟨t216, A50, H⟩ := H
      replace H : (if t216 = true then (parterreref23_Up.l0 k a0 l1 y213 0 1125899906842625) else (some y213)) = some r := H
      have A5 := Aside0.mk A50
      clear A50
      by_cases c6 : t216 = true
      · subst c6
        have H1 : (parterreref23_Up.l0 k a0 l1 y213 0 1125899906842625) = some r := by rw [if_pos rfl] at H; exact H
        clear H
        have H := H1
        clear H1
        have H' := Aside0.mk H
        clear H
        go_enter Try.func11, Try.ntmps11
        go_wp2_with (first | ((with_reducible refine gate_dst (N := 13) rfl ?_); refine Kd.R_make (Kd.int .i64) _ 3 rfl (N := 13) rfl 22 _ _ rfl (l1.length : Int) rfl rfl Try.underlying22 (.int .i64 0) 8 info3 rfl (by decide) (by omega) 0 (ok := fun _ => True) (okp := fun _ => True) rfl (fun _ hk => hk) trivial (of_decide_eq_true pmAx8_0_) (Nat.le_trans (Nat.mul_le_mul_right _ (of_decide_eq_true pmAx8_0_ : (l1.length : Int).toNat ≤ 35184372088832)) (by omega)) (Below.refl _ _) (Nat.le_refl _) ?_; intro v214 w7 ho8 hb hg_ hnew_; clear hg_ hnew_; (first | rw [← Ny213.out] at ho8 | (simp only [Int.reduceToNat] at ho8; rw [← Ny213.out] at ho8)); have n0_ := Aside0.mk (Kd.R_lower ho8 (below_size pmAx8_1_)); have n1_ := Aside0.mk (below_step pmAx8_1_ hb); clear HB; have HO215 := n0_; have HB := n1_; clear n0_ n1_; clear hb ho8) | ((with_reducible refine gate_callee (f := 6) rfl ?_); refine goesL_ (some 16) rfl rfl Try.func6 (by kernel_rfl) rfl #[.int .i64 a0, .slice A1 l1.length c1] rfl pmAx8_3_ ?_; (with_reducible refine (parterreref23_Right.calls k a0 _ _ l1 true _ ?side1 ?side2 A5.out).mono ?_); (case side1 => repeat (first | exact (Kd.C_below HR1.out HB.out) | (with_reducible refine Kd.C_alloc ?_ _) | (with_reducible refine Kd.C_drewN ?_ _) | (with_reducible refine Kd.C_drew ?_))); (case side2 => exact HC1.out); rintro e w' ⟨rfl, ⟨nd, rfl⟩⟩; refine ⟨_, rfl, ?_⟩))
        go_loopg [6, 7] k (fun kq v6 v7 w' => ∃ (x6_1 : Int) (x7_1 : Int), v6 = .int .i64 x6_1 ∧ v7 = .int .i64 x7_1 ∧ Aside0 (parterreref23_Up.l0 kq a0 l1 y213 x6_1 x7_1 = some r) ∧ Aside0 (kq ≤ k) ∧ Aside0 (Kd.R (Kd.int .i64) 3 w' w.heap.size (fun _ => True) v214 y213) ∧ Aside0 (Below w.heap.size w w'))
        case atStart => exact ⟨(0), (1125899906842625), pmAx8_2_, pmAx8_2_, H', ⟨Nat.le_refl _⟩, ⟨by (with_reducible repeat (first | apply Kd.R_alloc | apply Kd.R_drewN | apply Kd.R_drew)); exact HO215.out⟩, ⟨by repeat (first | (with_reducible first | exact HB.out | apply below_alloc | apply pw_below_drewN | apply below_drew1) | exact HB.out)⟩⟩
        case round =>
          clear H'
          try clear c1
          try clear p2
          try clear c3
          try clear c3b0
          try clear c3b1
          try clear c4
          try clear c4b0
          try clear c4b1
          try clear c6
          obtain ⟨x6_1, x7_1, rfl, rfl, HA, HK1, HO_5, HB⟩ := hrel
          cases gk with
          | zero => exact absurd HA.out (by simp [parterreref23_Up.l0])
          | succ k1 =>
            have H := HA.out
            clear HA
            simp only [parterreref23_Up.l0] at H
            by_cases c9 : (wrap64 (x7_1 - x6_1)) > 1
            · rw [if_pos c9] at H
              have c9b0 : decide (1 < (wrap64 (x7_1 - x6_1))) = true := decide_eq_true c9
              clear c9
              replace H := Option.bind_eq_some_iff.mp H
              obtain ⟨t217, A100, H⟩ := H
              replace H : (if t217 ≤ a0 then (parterreref23_Up.l0 k1 a0 l1 y213 (wrap64 (Int.tdiv (wrap64 (x6_1 + x7_1)) 2)) x7_1) else (parterreref23_Up.l0 k1 a0 l1 y213 x6_1 (wrap64 (Int.tdiv (wrap64 (x6_1 + x7_1)) 2)))) = some r := H
              have A10 := Aside0.mk A100
              clear A100
              by_cases c11 : t217 ≤ a0
              · rw [if_pos c11] at H
                have c11b0 : decide (t217 ≤ a0) = true := decide_eq_true c11
                clear c11
                have H' := Aside0.mk H
                clear H
                go_wp2_with (first | ((with_reducible refine gate_callee (f := 19) rfl ?_); refine goesL_ (some 30) rfl rfl Try.func19 (by kernel_rfl) rfl #[.int .i64 a0, .slice A1 l1.length c1, .int .i64 (wrap64 (Int.tdiv (wrap64 (x6_1 + x7_1)) 2))] rfl pmAx8_3_ ?_; (with_reducible refine (parterreref23_taken.calls k1 a0 _ _ l1 (wrap64 (Int.tdiv (wrap64 (x6_1 + x7_1)) 2)) t217 _ ?side1 ?side2 A10.out).mono ?_); (case side1 => repeat (first | exact (Kd.C_below HR1.out HB.out) | (with_reducible refine Kd.C_alloc ?_ _) | (with_reducible refine Kd.C_drewN ?_ _) | (with_reducible refine Kd.C_drew ?_))); (case side2 => exact HC1.out); rintro e w12 ⟨rfl, hb⟩; refine ⟨_, rfl, ?_⟩; have n0_ := Aside0.mk (Kd.R_below pmAx8_4_ hb); have n1_ := Aside0.mk (below_step pmAx8_1_ hb); clear HO_5; clear HB; have HO_5 := n0_; have HB := n1_; clear n0_ n1_; (try clear hb); (try clear hb2); (try clear hk); (try clear hi)))
                go_roundg k1
                case measure => have := HK1.out; omega
                case rel => exact ⟨(wrap64 (Int.tdiv (wrap64 (x6_1 + x7_1)) 2)), (x7_1), pmAx8_2_, pmAx8_2_, H', ⟨by have := HK1.out; omega⟩, ⟨by (with_reducible repeat (first | apply Kd.R_alloc | apply Kd.R_drewN | apply Kd.R_drew)); exact HO_5.out⟩, ⟨by repeat (first | (with_reducible first | exact HB.out | apply below_alloc | apply pw_below_drewN | apply below_drew1) | exact HB.out)⟩⟩
              · rw [if_neg c11] at H
                have c11b0 : decide (t217 ≤ a0) = false := decide_eq_false c11
                clear c11
                have H' := Aside0.mk H
                clear H
                go_wp2_with (first | ((with_reducible refine gate_callee (f := 19) rfl ?_); refine goesL_ (some 30) rfl rfl Try.func19 (by kernel_rfl) rfl #[.int .i64 a0, .slice A1 l1.length c1, .int .i64 (wrap64 (Int.tdiv (wrap64 (x6_1 + x7_1)) 2))] rfl pmAx8_3_ ?_; (with_reducible refine (parterreref23_taken.calls k1 a0 _ _ l1 (wrap64 (Int.tdiv (wrap64 (x6_1 + x7_1)) 2)) t217 _ ?side1 ?side2 A10.out).mono ?_); (case side1 => repeat (first | exact (Kd.C_below HR1.out HB.out) | (with_reducible refine Kd.C_alloc ?_ _) | (with_reducible refine Kd.C_drewN ?_ _) | (with_reducible refine Kd.C_drew ?_))); (case side2 => exact HC1.out); rintro e w13 ⟨rfl, hb⟩; refine ⟨_, rfl, ?_⟩; have n0_ := Aside0.mk (Kd.R_below pmAx8_4_ hb); have n1_ := Aside0.mk (below_step pmAx8_1_ hb); clear HO_5; clear HB; have HO_5 := n0_; have HB := n1_; clear n0_ n1_; (try clear hb); (try clear hb2); (try clear hk); (try clear hi)))
                go_roundg k1
                case measure => have := HK1.out; omega
                case rel => exact ⟨(x6_1), (wrap64 (Int.tdiv (wrap64 (x6_1 + x7_1)) 2)), pmAx8_2_, pmAx8_2_, H', ⟨by have := HK1.out; omega⟩, ⟨by (with_reducible repeat (first | apply Kd.R_alloc | apply Kd.R_drewN | apply Kd.R_drew)); exact HO_5.out⟩, ⟨by repeat (first | (with_reducible first | exact HB.out | apply below_alloc | apply pw_below_drewN | apply below_drew1) | exact HB.out)⟩⟩
            · rw [if_neg c9] at H
              have c9b0 : decide (1 < (wrap64 (x7_1 - x6_1))) = false := decide_eq_false c9
              clear c9
              replace H := Option.bind_eq_some_iff.mp H
              obtain ⟨t218, A140, H⟩ := H
              replace H : (parterreref23_Up.l1 k1 l1 y213 x6_1 (wrap64 (a0 - t218)) 0) = some r := H
              have A14 := Aside0.mk A140
              clear A140
              have H' := Aside0.mk H
              clear H
              go_wp2_with (first | ((with_reducible refine gate_callee (f := 19) rfl ?_); refine goesL_ (some 39) rfl rfl Try.func19 (by kernel_rfl) rfl #[.int .i64 a0, .slice A1 l1.length c1, .int .i64 x6_1] rfl pmAx8_3_ ?_; (with_reducible refine (parterreref23_taken.calls k1 a0 _ _ l1 x6_1 t218 _ ?side1 ?side2 A14.out).mono ?_); (case side1 => repeat (first | exact (Kd.C_below HR1.out HB.out) | (with_reducible refine Kd.C_alloc ?_ _) | (with_reducible refine Kd.C_drewN ?_ _) | (with_reducible refine Kd.C_drew ?_))); (case side2 => exact HC1.out); rintro e w15 ⟨rfl, hb⟩; refine ⟨_, rfl, ?_⟩; have n0_ := Aside0.mk (Kd.R_below pmAx8_4_ hb); have n1_ := Aside0.mk (below_step pmAx8_1_ hb); clear HO_5; clear HB; have HO_5 := n0_; have HB := n1_; clear n0_ n1_; (try clear hb); (try clear hb2); (try clear hk); (try clear hi)))
              go_loopg [9, 10] k1 (fun kq v9 v10 w' => ∃ (x5_2 : List Int) (x9_2 : Int) (x10_2 : Int), v9 = .int .i64 x9_2 ∧ v10 = .int .i64 x10_2 ∧ Aside0 (parterreref23_Up.l1 kq l1 x5_2 x6_1 x9_2 x10_2 = some r) ∧ Aside0 (kq ≤ k1) ∧ Aside0 (Kd.R (Kd.int .i64) 3 w' w.heap.size (fun _ => True) v214 x5_2) ∧ Aside0 (Below w.heap.size w w'))
              case atStart => exact ⟨(y213), (wrap64 (a0 - t218)), (0), pmAx8_2_, pmAx8_2_, H', ⟨Nat.le_refl _⟩, ⟨by (with_reducible repeat (first | apply Kd.R_alloc | apply Kd.R_drewN | apply Kd.R_drew)); exact HO_5.out⟩, ⟨by repeat (first | (with_reducible first | exact HB.out | apply below_alloc | apply pw_below_drewN | apply below_drew1) | exact HB.out)⟩⟩
              case round =>
                clear H'
                try clear c1
                try clear p2
                try clear c3
                try clear c3b0
                try clear c3b1
                try clear c4
                try clear c4b0
                try clear c4b1
                try clear c6
                try clear p6
                try clear c9
                try clear c9b0
                try clear c11
                try clear c11b0
                try clear p2
                obtain ⟨x5_2, x9_2, x10_2, rfl, rfl, HA, HK2, HO_5, HB⟩ := hrel
                cases gk with
                | zero => exact absurd HA.out (by simp [parterreref23_Up.l1])
                | succ k2 =>
                  have H := HA.out
                  clear HA
                  simp only [parterreref23_Up.l1] at H
                  by_cases c16 : x10_2 < (l1.length : Int)
                  · rw [if_pos c16] at H
                    have c16b0 : decide (x10_2 < (l1.length : Int)) = true := decide_eq_true c16
                    clear c16
                    by_cases c17 : 0 ≤ x10_2
                    · rw [if_pos c17] at H
                      have c17b0 : decide (0 ≤ x10_2) = true := decide_eq_true c17
                      clear c17
                      obtain ⟨ji18, hji18⟩ : ∃ j_ : Int, (mn (rd l1 x10_2) x6_1) = j_ := ⟨_, rfl⟩
                      replace H : (if x10_2 < (x5_2.length : Int) then ((some (x5_2.set (x10_2 : Int).toNat (ji18) : List Int)).bind fun y220 => (if (rd l1 x10_2) > x6_1 then (if x9_2 > 0 then (parterreref23_Up.l1 k2 l1 (y220.set (x10_2 : Int).toNat (wrap64 ((rd y220 x10_2) + 1))) x6_1 (wrap64 (x9_2 - 1)) (wrap64 (x10_2 + 1))) else (parterreref23_Up.l1 k2 l1 y220 x6_1 x9_2 (wrap64 (x10_2 + 1)))) else (parterreref23_Up.l1 k2 l1 y220 x6_1 x9_2 (wrap64 (x10_2 + 1))))) else (none)) = some r := by first | (rw [hji18] at H; exact H) | (simp only [hji18] at H ⊢; exact H)
                      have hji18_ : (if x6_1 < (rd l1 x10_2) then x6_1 else (rd l1 x10_2)) = ji18 := hji18
                      by_cases c19 : x10_2 < (x5_2.length : Int)
                      · rw [if_pos c19] at H
                        have c19b0 : decide (x10_2 < (x5_2.length : Int)) = true := decide_eq_true c19
                        clear c19
                        obtain ⟨y220, hy220⟩ : ∃ y_ : List Int, y_ = (x5_2.set (x10_2 : Int).toNat (ji18)) := ⟨_, rfl⟩
                        replace H : (if (rd l1 x10_2) > x6_1 then (if x9_2 > 0 then (parterreref23_Up.l1 k2 l1 (y220.set (x10_2 : Int).toNat (wrap64 ((rd y220 x10_2) + 1))) x6_1 (wrap64 (x9_2 - 1)) (wrap64 (x10_2 + 1))) else (parterreref23_Up.l1 k2 l1 y220 x6_1 x9_2 (wrap64 (x10_2 + 1)))) else (parterreref23_Up.l1 k2 l1 y220 x6_1 x9_2 (wrap64 (x10_2 + 1)))) = some r := by first | (rw [hy220]; with_reducible exact H) | (have H2_ := (Option.bind_some _ _).symm.trans H; rw [hy220]; with_reducible exact H2_) | (have H2_ := (Option.bind_some _ _).symm.trans H; with_reducible exact H2_) | with_reducible exact H | (rw [hy220]; exact H) | exact H
                        have Ny220 := Aside0.mk hy220
                        clear hy220
                        by_cases c21 : (rd l1 x10_2) > x6_1
                        · rw [if_pos c21] at H
                          have c21b0 : decide (x6_1 < (rd l1 x10_2)) = true := decide_eq_true c21
                          clear c21
                          by_cases c22 : x9_2 > 0
                          · rw [if_pos c22] at H
                            have c22b0 : decide (0 < x9_2) = true := decide_eq_true c22
                            clear c22
                            obtain ⟨y223, hy223⟩ : ∃ y_ : List Int, y_ = (y220.set (x10_2 : Int).toNat (wrap64 ((rd y220 x10_2) + 1))) := ⟨_, rfl⟩
                            replace H : (parterreref23_Up.l1 k2 l1 y223 x6_1 (wrap64 (x9_2 - 1)) (wrap64 (x10_2 + 1))) = some r := by first | (rw [hy223]; with_reducible exact H) | (have H2_ := (Option.bind_some _ _).symm.trans H; rw [hy223]; with_reducible exact H2_) | (have H2_ := (Option.bind_some _ _).symm.trans H; with_reducible exact H2_) | with_reducible exact H | (rw [hy223]; exact H) | exact H
                            have Ny223 := Aside0.mk hy223
                            clear hy223
                            have H' := Aside0.mk H
                            clear H
                            have p219 : 0 ≤ (x10_2 : Int) := of_decide_eq_true pmAx8_0_
                            have q219 : x10_2 < (l1.length : Int) := of_decide_eq_true pmAx8_0_
                            obtain ⟨ad219, e219, hx219_0⟩ := Kd.at_int HR1.out x10_2 p219 q219
                            cases e219
                            replace hx219_0 := (HB.out.cell (World.block_lt_of_cell? w _ hx219_0)).trans hx219_0
                            replace p219 := eq_true p219
                            replace q219 := eq_true q219
                            have p20 : 0 ≤ (x10_2 : Int) := of_decide_eq_true pmAx8_0_
                            have q20 : (x10_2 : Int) < ((x5_2.length : Int) : Int) := of_decide_eq_true pmAx8_0_
                            obtain ⟨go20, co20, eo20, gb20, gl20, cl20, HG20⟩ := Kd.R_form HO_5.out (by omega)
                            (first | cases eo20 | (injection eo20 with ea_ en_ ec_; (first | subst ea_ | (injection ea_ with ea_; subst ea_)); subst ec_; clear en_))
                            have GB20 := Aside0.mk gb20
                            have GG20 := Aside0.mk HG20
                            clear gb20 gl20 HG20
                            obtain ⟨hx20_0, hf20_0⟩ := Kd.R_celln 0 HO_5.out (x10_2 : Int) p20 q20
                            replace p20 := eq_true p20
                            replace q20 := eq_true q20
                            have HP24 := Kd.R_putg HO_5.out (x10_2 : Int) ji18
                            go_wp2_with (first | ((with_reducible refine gate_store (t := 3) (p := 55) rfl ?_); refine store_event (t := 3) (p := 55) (v := ?vo_w25) (w1 := (wr.setCell ⟨go20, (x10_2 : Int).toNat, none⟩ (.int .i64 ji18))) ?hg ?ho ?hn ?hr ?_; (case ho => rfl); (case hg => rfl); (case hn => rfl); (case hr => first | (go_simp; done) | (go_simp; rfl)); intro w25 hw; have hg : wr.grownBy w25 (some go20) := (by rw [hw]; exact HP24.2); have hp_ : Kd.R (Kd.int .i64) 3 w25 w.heap.size (fun _ => True) (.slice (some ⟨go20, 0, none⟩) x5_2.length co20) y220 := (by rw [hw, Ny220.out]; exact HP24.1); clear HP24; have n0_ := Aside0.mk (hp_); have n1_ := Aside0.mk ((by rw [hw]; exact below_set (HB.out) GB20.out : Below w.heap.size w w25)); clear HO_5; clear HB; have HO_5 := n0_; have HB := n1_; clear n0_ n1_; clear hg hw hp_; have p221 : 0 ≤ (x10_2 : Int) := of_decide_eq_true pmAx8_0_; have q221 : x10_2 < (l1.length : Int) := of_decide_eq_true pmAx8_0_; obtain ⟨ad221, e221, hx221_0⟩ := Kd.at_int HR1.out x10_2 p221 q221; obtain rfl : ad219 = ad221 := (by injection e221); replace hx221_0 := (HB.out.cell (World.block_lt_of_cell? w _ hx221_0)).trans hx221_0; replace p221 := eq_true p221; replace q221 := eq_true q221; have p222 : 0 ≤ (x10_2 : Int) := of_decide_eq_true pmAx8_0_; have q222 : x10_2 < (y220.length : Int) := (by have h_ : (x10_2 : Int) < ((x5_2.length : Int) : Int) := of_decide_eq_true pmAx8_0_; first | (have e_ := (Kd.R_reads' HO_5.out).1; omega) | simpa only [Ny220.out, List.length_set] using h_); have ql222 : ((x10_2 : Int) < ((x5_2.length : Int) : Int)) = True := eq_true (of_decide_eq_true pmAx8_0_); obtain ⟨ad222, e222, hx222_0⟩ := Kd.at_int (Kd.R_reads' HO_5.out).2.2 x10_2 p222 q222; obtain rfl : (⟨go20, 0, none⟩ : Addr) = ad222 := (by injection e222); (first | simp only [add_plain] at hx222_0 | simp only [add_at] at hx222_0 | simp only [Addr.add, Nat.zero_add] at hx222_0 | skip); replace p222 := eq_true p222; replace q222 := eq_true q222; have p23 : 0 ≤ (x10_2 : Int) := of_decide_eq_true pmAx8_0_; have q23 : (x10_2 : Int) < ((x5_2.length : Int) : Int) := of_decide_eq_true pmAx8_0_; obtain ⟨hx23_0, hf23_0⟩ := Kd.R_celln 0 HO_5.out (x10_2 : Int) p23 q23; replace p23 := eq_true p23; replace q23 := eq_true q23; obtain ⟨hy26_, hz26_⟩ := Kd.R_celln 0 HO_5.out (x10_2 : Int) (of_decide_eq_true pmAx8_0_) (of_decide_eq_true pmAx8_0_); have HP26 := Kd.R_putg HO_5.out (x10_2 : Int) (wrap64 ((rd y220 x10_2) + 1))) | ((with_reducible refine gate_store (t := 3) (p := 73) rfl ?_); refine store_event (t := 3) (p := 73) (v := ?vo_w27) (w1 := (w25.setCell ⟨go20, (x10_2 : Int).toNat, none⟩ (.int .i64 (wrap64 ((rd y220 x10_2) + 1))))) ?hg ?ho ?hn ?hr ?_; (case ho => rfl); (case hg => rfl); (case hn => rfl); (case hr => first | (go_simp; done) | (go_simp; rfl)); intro w27 hw; have hg : w25.grownBy w27 (some go20) := (by rw [hw]; exact HP26.2); have hp_ : Kd.R (Kd.int .i64) 3 w27 w.heap.size (fun _ => True) (.slice (some ⟨go20, 0, none⟩) x5_2.length co20) y223 := (by rw [hw, Ny223.out]; exact HP26.1); clear HP26; have n0_ := Aside0.mk (hp_); have n1_ := Aside0.mk ((by rw [hw]; exact below_set (HB.out) GB20.out : Below w.heap.size w w27)); clear HO_5; clear HB; have HO_5 := n0_; have HB := n1_; clear n0_ n1_; clear hg hw hp_))
                            go_roundg k2
                            case measure => have := HK1.out; have := HK2.out; omega
                            case rel => exact ⟨(y223), (wrap64 (x9_2 - 1)), (wrap64 (x10_2 + 1)), pmAx8_2_, pmAx8_2_, H', ⟨by have := HK1.out; have := HK2.out; omega⟩, ⟨by (with_reducible repeat (first | apply Kd.R_alloc | apply Kd.R_drewN | apply Kd.R_drew)); exact HO_5.out⟩, ⟨by repeat (first | (with_reducible first | exact HB.out | apply below_alloc | apply pw_below_drewN | apply below_drew1) | exact HB.out)⟩⟩
                          · rw [if_neg c22] at H
                            have c22b0 : decide (0 < x9_2) = false := decide_eq_false c22
                            clear c22
                            have H' := Aside0.mk H
                            clear H
                            have p219 : 0 ≤ (x10_2 : Int) := of_decide_eq_true pmAx8_0_
                            have q219 : x10_2 < (l1.length : Int) := of_decide_eq_true pmAx8_0_
                            obtain ⟨ad219, e219, hx219_0⟩ := Kd.at_int HR1.out x10_2 p219 q219
                            cases e219
                            replace hx219_0 := (HB.out.cell (World.block_lt_of_cell? w _ hx219_0)).trans hx219_0
                            replace p219 := eq_true p219
                            replace q219 := eq_true q219
                            have p20 : 0 ≤ (x10_2 : Int) := of_decide_eq_true pmAx8_0_
                            have q20 : (x10_2 : Int) < ((x5_2.length : Int) : Int) := of_decide_eq_true pmAx8_0_
                            obtain ⟨go20, co20, eo20, gb20, gl20, cl20, HG20⟩ := Kd.R_form HO_5.out (by omega)
                            (first | cases eo20 | (injection eo20 with ea_ en_ ec_; (first | subst ea_ | (injection ea_ with ea_; subst ea_)); subst ec_; clear en_))
                            have GB20 := Aside0.mk gb20
                            have GG20 := Aside0.mk HG20
                            clear gb20 gl20 HG20
                            obtain ⟨hx20_0, hf20_0⟩ := Kd.R_celln 0 HO_5.out (x10_2 : Int) p20 q20
                            replace p20 := eq_true p20
                            replace q20 := eq_true q20
                            have HP28 := Kd.R_putg HO_5.out (x10_2 : Int) ji18
                            go_wp2_with (first | ((with_reducible refine gate_store (t := 3) (p := 55) rfl ?_); refine store_event (t := 3) (p := 55) (v := ?vo_w29) (w1 := (wr.setCell ⟨go20, (x10_2 : Int).toNat, none⟩ (.int .i64 ji18))) ?hg ?ho ?hn ?hr ?_; (case ho => rfl); (case hg => rfl); (case hn => rfl); (case hr => first | (go_simp; done) | (go_simp; rfl)); intro w29 hw; have hg : wr.grownBy w29 (some go20) := (by rw [hw]; exact HP28.2); have hp_ : Kd.R (Kd.int .i64) 3 w29 w.heap.size (fun _ => True) (.slice (some ⟨go20, 0, none⟩) x5_2.length co20) y220 := (by rw [hw, Ny220.out]; exact HP28.1); clear HP28; have n0_ := Aside0.mk (hp_); have n1_ := Aside0.mk ((by rw [hw]; exact below_set (HB.out) GB20.out : Below w.heap.size w w29)); clear HO_5; clear HB; have HO_5 := n0_; have HB := n1_; clear n0_ n1_; clear hg hw hp_; have p221 : 0 ≤ (x10_2 : Int) := of_decide_eq_true pmAx8_0_; have q221 : x10_2 < (l1.length : Int) := of_decide_eq_true pmAx8_0_; obtain ⟨ad221, e221, hx221_0⟩ := Kd.at_int HR1.out x10_2 p221 q221; obtain rfl : ad219 = ad221 := (by injection e221); replace hx221_0 := (HB.out.cell (World.block_lt_of_cell? w _ hx221_0)).trans hx221_0; replace p221 := eq_true p221; replace q221 := eq_true q221))
                            go_roundg k2
                            case measure => have := HK1.out; have := HK2.out; omega
                            case rel => exact ⟨(y220), (x9_2), (wrap64 (x10_2 + 1)), pmAx8_2_, pmAx8_2_, H', ⟨by have := HK1.out; have := HK2.out; omega⟩, ⟨by (with_reducible repeat (first | apply Kd.R_alloc | apply Kd.R_drewN | apply Kd.R_drew)); exact HO_5.out⟩, ⟨by repeat (first | (with_reducible first | exact HB.out | apply below_alloc | apply pw_below_drewN | apply below_drew1) | exact HB.out)⟩⟩
                        · rw [if_neg c21] at H
                          have c21b0 : decide (x6_1 < (rd l1 x10_2)) = false := decide_eq_false c21
                          clear c21
                          have H' := Aside0.mk H
                          clear H
                          have p219 : 0 ≤ (x10_2 : Int) := of_decide_eq_true pmAx8_0_
                          have q219 : x10_2 < (l1.length : Int) := of_decide_eq_true pmAx8_0_
                          obtain ⟨ad219, e219, hx219_0⟩ := Kd.at_int HR1.out x10_2 p219 q219
                          cases e219
                          replace hx219_0 := (HB.out.cell (World.block_lt_of_cell? w _ hx219_0)).trans hx219_0
                          replace p219 := eq_true p219
                          replace q219 := eq_true q219
                          have p20 : 0 ≤ (x10_2 : Int) := of_decide_eq_true pmAx8_0_
                          have q20 : (x10_2 : Int) < ((x5_2.length : Int) : Int) := of_decide_eq_true pmAx8_0_
                          obtain ⟨go20, co20, eo20, gb20, gl20, cl20, HG20⟩ := Kd.R_form HO_5.out (by omega)
                          (first | cases eo20 | (injection eo20 with ea_ en_ ec_; (first | subst ea_ | (injection ea_ with ea_; subst ea_)); subst ec_; clear en_))
                          have GB20 := Aside0.mk gb20
                          have GG20 := Aside0.mk HG20
                          clear gb20 gl20 HG20
                          obtain ⟨hx20_0, hf20_0⟩ := Kd.R_celln 0 HO_5.out (x10_2 : Int) p20 q20
                          replace p20 := eq_true p20
                          replace q20 := eq_true q20
                          have HP30 := Kd.R_putg HO_5.out (x10_2 : Int) ji18
                          go_wp2_with (first | ((with_reducible refine gate_store (t := 3) (p := 55) rfl ?_); refine store_event (t := 3) (p := 55) (v := ?vo_w31) (w1 := (wr.setCell ⟨go20, (x10_2 : Int).toNat, none⟩ (.int .i64 ji18))) ?hg ?ho ?hn ?hr ?_; (case ho => rfl); (case hg => rfl); (case hn => rfl); (case hr => first | (go_simp; done) | (go_simp; rfl)); intro w31 hw; have hg : wr.grownBy w31 (some go20) := (by rw [hw]; exact HP30.2); have hp_ : Kd.R (Kd.int .i64) 3 w31 w.heap.size (fun _ => True) (.slice (some ⟨go20, 0, none⟩) x5_2.length co20) y220 := (by rw [hw, Ny220.out]; exact HP30.1); clear HP30; have n0_ := Aside0.mk (hp_); have n1_ := Aside0.mk ((by rw [hw]; exact below_set (HB.out) GB20.out : Below w.heap.size w w31)); clear HO_5; clear HB; have HO_5 := n0_; have HB := n1_; clear n0_ n1_; clear hg hw hp_; have p221 : 0 ≤ (x10_2 : Int) := of_decide_eq_true pmAx8_0_; have q221 : x10_2 < (l1.length : Int) := of_decide_eq_true pmAx8_0_; obtain ⟨ad221, e221, hx221_0⟩ := Kd.at_int HR1.out x10_2 p221 q221; obtain rfl : ad219 = ad221 := (by injection e221); replace hx221_0 := (HB.out.cell (World.block_lt_of_cell? w _ hx221_0)).trans hx221_0; replace p221 := eq_true p221; replace q221 := eq_true q221))
                          go_roundg k2
                          case measure => have := HK1.out; have := HK2.out; omega
                          case rel => exact ⟨(y220), (x9_2), (wrap64 (x10_2 + 1)), pmAx8_2_, pmAx8_2_, H', ⟨by have := HK1.out; have := HK2.out; omega⟩, ⟨by (with_reducible repeat (first | apply Kd.R_alloc | apply Kd.R_drewN | apply Kd.R_drew)); exact HO_5.out⟩, ⟨by repeat (first | (with_reducible first | exact HB.out | apply below_alloc | apply pw_below_drewN | apply below_drew1) | exact HB.out)⟩⟩
                      · rw [if_neg c19] at H
                        exact absurd H (by simp)
                    · rw [if_neg c17] at H
                      exact absurd H (by simp)
                  · rw [if_neg c16] at H
                    have c16b0 : decide (x10_2 < (l1.length : Int)) = false := decide_eq_false c16
                    clear c16
                    obtain rfl := Option.some.inj H
                    go_wp2
                    go_ret
                    exact ⟨_, by first | rfl | (simp [errW_none, errW_some] <;> rfl) | (simp [*, errW_none, errW_some] <;> rfl), by (with_reducible repeat (first | apply Kd.R_alloc | apply Kd.R_drewN | apply Kd.R_drew)); exact HO_5.out, by repeat (first | (with_reducible first | exact HB.out | apply below_alloc | apply pw_below_drewN | apply below_drew1) | exact HB.out)⟩
      · replace c6 := Bool.eq_false_iff.mpr c6
        subst c6
        have H1 : (some y213) = some r := by rw [if_neg (show ¬ (false = true) by decide)] at H; exact H
        clear H
        have H := H1
        clear H1
        obtain rfl := Option.some.inj H
        go_enter Try.func11, Try.ntmps11
        go_wp2_with (first | ((with_reducible refine gate_dst (N := 13) rfl ?_); refine Kd.R_make (Kd.int .i64) _ 3 rfl (N := 13) rfl 22 _ _ rfl (l1.length : Int) rfl rfl Try.underlying22 (.int .i64 0) 8 info3 rfl (by decide) (by omega) 0 (ok := fun _ => True) (okp := fun _ => True) rfl (fun _ hk => hk) trivial (of_decide_eq_true pmAx8_0_) (Nat.le_trans (Nat.mul_le_mul_right _ (of_decide_eq_true pmAx8_0_ : (l1.length : Int).toNat ≤ 35184372088832)) (by omega)) (Below.refl _ _) (Nat.le_refl _) ?_; intro v214 w32 ho33 hb hg_ hnew_; clear hg_ hnew_; (first | rw [← Ny213.out] at ho33 | (simp only [Int.reduceToNat] at ho33; rw [← Ny213.out] at ho33)); have n0_ := Aside0.mk (Kd.R_lower ho33 (below_size pmAx8_1_)); have n1_ := Aside0.mk (below_step pmAx8_1_ hb); clear HB; have HO215 := n0_; have HB := n1_; clear n0_ n1_; clear hb ho33) | ((with_reducible refine gate_callee (f := 6) rfl ?_); refine goesL_ (some 16) rfl rfl Try.func6 (by kernel_rfl) rfl #[.int .i64 a0, .slice A1 l1.length c1] rfl pmAx8_3_ ?_; (with_reducible refine (parterreref23_Right.calls k a0 _ _ l1 false _ ?side1 ?side2 A5.out).mono ?_); (case side1 => repeat (first | exact (Kd.C_below HR1.out HB.out) | (with_reducible refine Kd.C_alloc ?_ _) | (with_reducible refine Kd.C_drewN ?_ _) | (with_reducible refine Kd.C_drew ?_))); (case side2 => exact HC1.out); rintro e w' ⟨rfl, ⟨nd, rfl⟩⟩; refine ⟨_, rfl, ?_⟩))
        go_ret
        exact ⟨_, by first | rfl | (simp [errW_none, errW_some] <;> rfl) | (simp [*, errW_none, errW_some] <;> rfl), by (with_reducible repeat (first | apply Kd.R_alloc | apply Kd.R_drewN | apply Kd.R_drew)); exact HO215.out, by repeat (first | (with_reducible first | exact HB.out | apply below_alloc | apply pw_below_drewN | apply below_drew1) | exact HB.out)⟩
    · rw [if_neg c4] at H
      exact absurd H (by simp)
  · rw [if_neg c3] at H
    exact absurd H (by simp)

/-! ### parterreref01_Split: function 20 -/
mutual
def parterreref01_Split.j0 : Nat → Int → Int → Bool → Option (List Int)
  | 0, _, _, _ => none
  | k + 1, x0, x1, x17 => if x17 = true then (some ([] : List Int)) else (parterreref01_Split.l0 k x0 x1 ([] : List Int) 0)
def parterreref01_Split.l0 : Nat → Int → Int → List Int → Int → Option (List Int)
  | 0, _, _, _, _ => none
  | k + 1, x0, x1, x5, x6 => if x6 < x1 then (if x1 = 0 then (none) else (if x6 < (Int.tmod x0 x1) then (if x5.length < 17592186044416 then (parterreref01_Split.l0 k x0 x1 (x5 ++ [wrap64 ((wrap64 (Int.tdiv x0 x1)) + 1)]) (wrap64 (x6 + 1))) else (none)) else (if x5.length < 17592186044416 then (parterreref01_Split.l0 k x0 x1 (x5 ++ [wrap64 (Int.tdiv x0 x1)]) (wrap64 (x6 + 1))) else (none)))) else (some x5)
end
def parterreref01_Split.f (k : Nat) (a0 : Int) (a1 : Int) : Option (List Int) := if a0 < 0 then (parterreref01_Split.j0 k a0 a1 true) else (if a1 < 1 then (parterreref01_Split.j0 k a0 a1 true) else (parterreref01_Split.j0 k a0 a1 (decide (a1 > 65536))))
theorem parterreref01_Split.mono_l : ∀ k, (∀ y0 y1 y2, LeO (parterreref01_Split.j0 k y0 y1 y2) (parterreref01_Split.j0 (k + 1) y0 y1 y2)) ∧ (∀ y0 y1 y2 y3, LeO (parterreref01_Split.l0 k y0 y1 y2 y3) (parterreref01_Split.l0 (k + 1) y0 y1 y2 y3))
  | 0 => ⟨fun _ _ _ r h => by simp [parterreref01_Split.j0] at h, fun _ _ _ _ r h => by simp [parterreref01_Split.l0] at h⟩
  | k + 1 => by
    obtain ⟨ih0, ih1⟩ := parterreref01_Split.mono_l k
    refine ⟨?_, ?_⟩
    · intro y0 y1 y2
      unfold parterreref01_Split.j0
      repeat' first
      | (with_reducible exact ih0 _ _ _)
      | (with_reducible exact ih1 _ _ _ _)
      | (with_reducible exact LeO.refl _)
      | (with_reducible exact LeO.none _)
      | (with_reducible refine LeO.ite ?_ ?_)
      | (with_reducible refine LeO.bind ?_ (fun _ => ?_))
      | exact ih0 _ _ _
      | exact ih1 _ _ _ _
      | exact LeO.none _
      | refine LeO.ite ?_ ?_
      | refine LeO.bind ?_ (fun _ => ?_)
    · intro y0 y1 y2 y3
      unfold parterreref01_Split.l0
      repeat' first
      | (with_reducible exact ih0 _ _ _)
      | (with_reducible exact ih1 _ _ _ _)
      | (with_reducible exact LeO.refl _)
      | (with_reducible exact LeO.none _)
      | (with_reducible refine LeO.ite ?_ ?_)
      | (with_reducible refine LeO.bind ?_ (fun _ => ?_))
      | exact ih0 _ _ _
      | exact ih1 _ _ _ _
      | exact LeO.none _
      | refine LeO.ite ?_ ?_
      | refine LeO.bind ?_ (fun _ => ?_)
theorem parterreref01_Split.mono : ∀ a0 a1 k, LeO (parterreref01_Split.f k a0 a1) (parterreref01_Split.f (k + 1) a0 a1) := by
  intro a0 a1 k
  obtain ⟨ih0, ih1⟩ := parterreref01_Split.mono_l k
  unfold parterreref01_Split.f
  repeat' first
      | (with_reducible exact ih0 _ _ _)
      | (with_reducible exact ih1 _ _ _ _)
      | (with_reducible exact LeO.refl _)
      | (with_reducible exact LeO.none _)
      | (with_reducible refine LeO.ite ?_ ?_)
      | (with_reducible refine LeO.bind ?_ (fun _ => ?_))
      | exact ih0 _ _ _
      | exact ih1 _ _ _ _
      | exact LeO.none _
      | refine LeO.ite ?_ ?_
      | refine LeO.bind ?_ (fun _ => ?_)
set_option maxHeartbeats 8000000 in
set_option maxRecDepth 100000 in
theorem parterreref01_Split.calls (k : Nat) (a0 : Int) (a1 : Int) (r : List Int) (w : World) (h : parterreref01_Split.f k a0 a1 = some r) :
    Calls Try.prog 20 #[.int .i64 a0, .int .i64 a1] w fun e w' => ∃ v0_ : Value, e = .returned (v0_) ∧ Kd.R (Kd.int .i64) 3 w' w.heap.size (fun _ => True) v0_ r ∧ Below w.heap.size w w' := by
  have HB := Aside0.mk (Below.refl w.heap.size w)
  have H : (if a0 < 0 then (parterreref01_Split.j0 k a0 a1 true) else (if a1 < 1 then (parterreref01_Split.j0 k a0 a1 true) else (parterreref01_Split.j0 k a0 a1 (decide (a1 > 65536))))) = some r := h
  clear h
  have HC3 := Aside0.mk H
  clear H
  go_enter Try.func20, Try.ntmps20
  go_upto_region 1 with (fail)
  go_cut [17] (fun v17 wc => ∃ (kq : Nat) (x17_2 : Bool), v17 = .bool x17_2 ∧ Aside0 (parterreref01_Split.j0 kq a0 a1 x17_2 = some r) ∧ Aside0 (kq ≤ k) ∧ Aside0 (Below w.heap.size w wc))
  case first =>
    have H := HC3.out
    clear HC3
    by_cases c4 : a0 < 0
    · rw [if_pos c4] at H
      have c4b0 : decide (a0 < 0) = true := decide_eq_true c4
      clear c4
      (first | rw [c4b0] | (simp only [i64_w, i32_w]; rw [c4b0]) | skip)
      have H' := Aside0.mk H
      clear H
      go_wp2
      go_meet
      case rel => exact ⟨_, (true), pmAx8_2_, H', ⟨by first | omega | exact Nat.le_refl _⟩, ⟨by repeat (first | (with_reducible first | exact HB.out | apply below_alloc | apply pw_below_drewN | apply below_drew1) | exact HB.out)⟩⟩
    · rw [if_neg c4] at H
      have c4b0 : decide (a0 < 0) = false := decide_eq_false c4
      clear c4
      (first | rw [c4b0] | (simp only [i64_w, i32_w]; rw [c4b0]) | skip)
      by_cases c5 : a1 < 1
      · rw [if_pos c5] at H
        have c5b0 : decide (a1 < 1) = true := decide_eq_true c5
        clear c5
        have H' := Aside0.mk H
        clear H
        go_wp2
        go_meet
        case rel => exact ⟨_, (true), pmAx8_2_, H', ⟨by first | omega | exact Nat.le_refl _⟩, ⟨by repeat (first | (with_reducible first | exact HB.out | apply below_alloc | apply pw_below_drewN | apply below_drew1) | exact HB.out)⟩⟩
      · rw [if_neg c5] at H
        have c5b0 : decide (a1 < 1) = false := decide_eq_false c5
        clear c5
        have H' := Aside0.mk H
        clear H
        go_wp2
        go_meet
        case rel => exact ⟨_, (decide (a1 > 65536)), pmAx8_2_, H', ⟨by first | omega | exact Nat.le_refl _⟩, ⟨by repeat (first | (with_reducible first | exact HB.out | apply below_alloc | apply pw_below_drewN | apply below_drew1) | exact HB.out)⟩⟩
  case rest =>
    clear HC3
    try clear c2
    try clear p2
    try clear c4
    try clear c4b0
    try clear c5
    try clear c5b0
    obtain ⟨kq, x17_2, rfl, HA, HJ2, HB⟩ := hcut
    cases kq with
    | zero => exact absurd HA.out (by simp [parterreref01_Split.j0])
    | succ kj2 =>
      have H := HA.out
      clear HA
      simp only [parterreref01_Split.j0] at H
      by_cases c6 : x17_2 = true
      · subst c6
        have H1 : (some ([] : List Int)) = some r := by rw [if_pos rfl] at H; exact H
        clear H
        have H := H1
        clear H1
        obtain rfl := Option.some.inj H
        go_wp2
        go_ret
        exact ⟨_, by first | rfl | (simp [errW_none, errW_some] <;> rfl) | (simp [*, errW_none, errW_some] <;> rfl), by first | exact Kd.R_nil _ _ _ _ _ | exact Kd.N_nil _ _ _ _ _ | exact Kd.V_nil _ _ _ _ _ | exact Kd.Q_nil _ _ _ _ _ | exact Kd.S_nil _ _ _ _ _, by repeat (first | (with_reducible first | exact HB.out | apply below_alloc | apply pw_below_drewN | apply below_drew1) | exact HB.out)⟩
      · replace c6 := Bool.eq_false_iff.mpr c6
        subst c6
        have H1 : (parterreref01_Split.l0 kj2 a0 a1 ([] : List Int) 0) = some r := by rw [if_neg (show ¬ (false = true) by decide)] at H; exact H
        clear H
        have H := H1
        clear H1
        have H' := Aside0.mk H
        clear H
        go_wp2
        go_loopg [5, 6] kj2 (fun kq v5 v6 w' => ∃ (x5_2 : List Int) (x6_2 : Int), v6 = .int .i64 x6_2 ∧ Aside0 (parterreref01_Split.l0 kq a0 a1 x5_2 x6_2 = some r) ∧ Aside0 (kq ≤ kj2) ∧ Aside0 (Kd.R (Kd.int .i64) 3 w' w.heap.size (fun _ => True) v5 x5_2) ∧ Aside0 (Below w.heap.size w w'))
        case atStart => exact ⟨(([] : List Int)), (0), pmAx8_2_, H', ⟨Nat.le_refl _⟩, ⟨by first | exact Kd.R_nil _ _ _ _ _ | exact Kd.N_nil _ _ _ _ _ | exact Kd.V_nil _ _ _ _ _ | exact Kd.Q_nil _ _ _ _ _ | exact Kd.S_nil _ _ _ _ _⟩, ⟨by repeat (first | (with_reducible first | exact HB.out | apply below_alloc | apply pw_below_drewN | apply below_drew1) | exact HB.out)⟩⟩
        case round =>
          clear H'
          try clear c2
          try clear p2
          try clear c4
          try clear c4b0
          try clear c5
          try clear c5b0
          try clear c6
          try clear p2
          obtain ⟨x5_2, x6_2, rfl, HA, HK2, HO_5, HB⟩ := hrel
          cases gk with
          | zero => exact absurd HA.out (by simp [parterreref01_Split.l0])
          | succ k2 =>
            have H := HA.out
            clear HA
            simp only [parterreref01_Split.l0] at H
            by_cases c7 : x6_2 < a1
            · rw [if_pos c7] at H
              have c7b0 : decide (x6_2 < a1) = true := decide_eq_true c7
              clear c7
              by_cases c8 : a1 = 0
              · rw [if_pos c8] at H
                exact absurd H (by simp)
              · rw [if_neg c8] at H
                have c8b0 : (a1 == 0) = false := beq_eq_false_iff_ne.mpr c8
                have c8b1 : (a1 != 0) = true := bne_iff_ne.mpr c8
                by_cases c9 : x6_2 < (Int.tmod a0 a1)
                · rw [if_pos c9] at H
                  have c9b0 : decide (x6_2 < (Int.tmod a0 a1)) = true := decide_eq_true c9
                  clear c9
                  by_cases c10 : x5_2.length < 17592186044416
                  · rw [if_pos c10] at H
                    have LMc10 := Aside0.mk c10
                    clear c10
                    obtain ⟨y224, hy224⟩ : ∃ y_ : List Int, y_ = (x5_2 ++ [wrap64 ((wrap64 (Int.tdiv a0 a1)) + 1)]) := ⟨_, rfl⟩
                    replace H : (parterreref01_Split.l0 k2 a0 a1 y224 (wrap64 (x6_2 + 1))) = some r := by first | (rw [hy224]; with_reducible exact H) | (have H2_ := (Option.bind_some _ _).symm.trans H; rw [hy224]; with_reducible exact H2_) | (have H2_ := (Option.bind_some _ _).symm.trans H; with_reducible exact H2_) | with_reducible exact H | (rw [hy224]; exact H) | exact H
                    have Ny224 := Aside0.mk hy224
                    clear hy224
                    have H' := Aside0.mk H
                    clear H
                    go_wp2_with (first | ((with_reducible refine gate_builtin (b := .append) (xs := #[.tmp 33, .tmp 35]) rfl ?_); at_builtin; refine Kd.R_append (Kd.int .i64) (w0 := w) w.heap.size rfl (.tmp 33) (.tmp 35) 22 3 (.int .i64 0) 8 rfl Try.underlying22 info3 rfl (by decide) (by omega) u5 x5_2 (wrap64 ((wrap64 (Int.tdiv a0 a1)) + 1)) [.int .i64 (wrap64 ((wrap64 (Int.tdiv a0 a1)) + 1))] (fun _ => True) (fun _ => False) rfl rfl ?aP (fun _ hk => hk.elim) ?aF ?aO ?aB ?aS ?aL ?_; (case aP => exact rfl); (case aB => exact pmAx8_1_); (case aF => exact (fun _ _ => trivial)); (case aO => exact pmAx8_4_); (case aS => exact (below_size pmAx8_1_)); (case aL => have := LMc10.out; omega); intro v225 w11 ho hb hg hat; rw [← Ny224.out] at ho; have n0_ := Aside0.mk (hb); have n1_ := Aside0.mk (ho); clear HB; clear HO_5; have HB := n0_; have HO226 := n1_; clear n0_ n1_; clear ho hb hg hat))
                    go_roundg k2
                    case measure => have := HJ2.out; have := HK2.out; omega
                    case rel => exact ⟨(y224), (wrap64 (x6_2 + 1)), pmAx8_2_, H', ⟨by have := HJ2.out; have := HK2.out; omega⟩, ⟨by (with_reducible repeat (first | apply Kd.R_alloc | apply Kd.R_drewN | apply Kd.R_drew)); exact HO226.out⟩, ⟨by repeat (first | (with_reducible first | exact HB.out | apply below_alloc | apply pw_below_drewN | apply below_drew1) | exact HB.out)⟩⟩
                  · rw [if_neg c10] at H
                    exact absurd H (by simp)
                · rw [if_neg c9] at H
                  have c9b0 : decide (x6_2 < (Int.tmod a0 a1)) = false := decide_eq_false c9
                  clear c9
                  by_cases c12 : x5_2.length < 17592186044416
                  · rw [if_pos c12] at H
                    have LMc12 := Aside0.mk c12
                    clear c12
                    obtain ⟨y227, hy227⟩ : ∃ y_ : List Int, y_ = (x5_2 ++ [wrap64 (Int.tdiv a0 a1)]) := ⟨_, rfl⟩
                    replace H : (parterreref01_Split.l0 k2 a0 a1 y227 (wrap64 (x6_2 + 1))) = some r := by first | (rw [hy227]; with_reducible exact H) | (have H2_ := (Option.bind_some _ _).symm.trans H; rw [hy227]; with_reducible exact H2_) | (have H2_ := (Option.bind_some _ _).symm.trans H; with_reducible exact H2_) | with_reducible exact H | (rw [hy227]; exact H) | exact H
                    have Ny227 := Aside0.mk hy227
                    clear hy227
                    have H' := Aside0.mk H
                    clear H
                    go_wp2_with (first | ((with_reducible refine gate_builtin (b := .append) (xs := #[.tmp 33, .tmp 35]) rfl ?_); at_builtin; refine Kd.R_append (Kd.int .i64) (w0 := w) w.heap.size rfl (.tmp 33) (.tmp 35) 22 3 (.int .i64 0) 8 rfl Try.underlying22 info3 rfl (by decide) (by omega) u5 x5_2 (wrap64 (Int.tdiv a0 a1)) [.int .i64 (wrap64 (Int.tdiv a0 a1))] (fun _ => True) (fun _ => False) rfl rfl ?aP (fun _ hk => hk.elim) ?aF ?aO ?aB ?aS ?aL ?_; (case aP => exact rfl); (case aB => exact pmAx8_1_); (case aF => exact (fun _ _ => trivial)); (case aO => exact pmAx8_4_); (case aS => exact (below_size pmAx8_1_)); (case aL => have := LMc12.out; omega); intro v228 w13 ho hb hg hat; rw [← Ny227.out] at ho; have n0_ := Aside0.mk (hb); have n1_ := Aside0.mk (ho); clear HB; clear HO_5; have HB := n0_; have HO229 := n1_; clear n0_ n1_; clear ho hb hg hat))
                    go_roundg k2
                    case measure => have := HJ2.out; have := HK2.out; omega
                    case rel => exact ⟨(y227), (wrap64 (x6_2 + 1)), pmAx8_2_, H', ⟨by have := HJ2.out; have := HK2.out; omega⟩, ⟨by (with_reducible repeat (first | apply Kd.R_alloc | apply Kd.R_drewN | apply Kd.R_drew)); exact HO229.out⟩, ⟨by repeat (first | (with_reducible first | exact HB.out | apply below_alloc | apply pw_below_drewN | apply below_drew1) | exact HB.out)⟩⟩
                  · rw [if_neg c12] at H
                    exact absurd H (by simp)
            · rw [if_neg c7] at H
              have c7b0 : decide (x6_2 < a1) = false := decide_eq_false c7
              clear c7
              obtain rfl := Option.some.inj H
              go_wp2
              go_ret
              exact ⟨_, by first | rfl | (simp [errW_none, errW_some] <;> rfl) | (simp [*, errW_none, errW_some] <;> rfl), by (with_reducible repeat (first | apply Kd.R_alloc | apply Kd.R_drewN | apply Kd.R_drew)); exact HO_5.out, by repeat (first | (with_reducible first | exact HB.out | apply below_alloc | apply pw_below_drewN | apply below_drew1) | exact HB.out)⟩

end Go.Proofs.Ytecccaniopkphaa.PA
