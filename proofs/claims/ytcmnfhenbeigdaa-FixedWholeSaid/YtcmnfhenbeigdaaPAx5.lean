-- written by a program of this session (a print of the translation with changes of its own)
import Derived.Test.YtcmnfhenbeigdaaPAx0
import Derived.Test.YtcmnfhenbeigdaaPAx2
import Derived.Test.YtcmnfhenbeigdaaPAx4
namespace Go.Proofs.Ytcmnfhenbeigdaa.PA
open Go.RowKit Go.Proofs.YtcmnfhenbeigdaaW.PrintWords Go.Proofs.YtcmnfhenbeigdaaW.PrintLast Go.Proofs.YtcmnfhenbeigdaaW.PrintMore
attribute [local go_sem] max2_int min2_int max_two min_two max_three min_three max_four min_four   -- for this text's walks alone
set_option linter.unusedVariables false
set_option linter.unusedSimpArgs false

/-! ### parterrelaw01_FixedWhole: function 4 -/
mutual
def parterrelaw01_FixedWhole.l0 : Nat → List Int → Int → List Int → Int → List Int → Int → Int → Option (Bool)
  | 0, _, _, _, _, _, _, _ => none
  | k + 1, x2, x7, x9, x10, x36, x37, x38 => if x38 < x37 then (if 0 ≤ x38 then (if x38 < (x36.length : Int) then (if (rd x36 x38) < 0 then (some false) else (if x38 > 0 then (if 0 ≤ (wrap64 (x38 - 1)) then (if (wrap64 (x38 - 1)) < (x9.length : Int) then (if (rd x36 x38) > (rd x9 (wrap64 (x38 - 1))) then (some false) else (if 0 < (x9.length : Int) then (if (rd x36 x38) < (wrap64 ((rd x9 0) - 1)) then (some false) else (parterrelaw01_FixedWhole.l0 k x2 x7 x9 (wrap64 (x10 + (rd x36 x38))) x36 x37 (wrap64 (x38 + 1)))) else (none))) else (none)) else (none)) else (parterrelaw01_FixedWhole.l0 k x2 x7 x9 (wrap64 (x10 + (rd x36 x38))) x36 x37 (wrap64 (x38 + 1))))) else (none)) else (none)) else (if x10 = x7 then ((fixed_Share.f k x7 x2).bind fun t150 => (if (t150.length : Int) = 0 then ((parterrelaw01_lives.f k).bind fun t153 => (some t153)) else (parterrelaw01_FixedWhole.l1 k x2 x7 0 t150 t150 (t150.length : Int) 0))) else (some false))
def parterrelaw01_FixedWhole.l1 : Nat → List Int → Int → Int → List Int → List Int → Int → Int → Option (Bool)
  | 0, _, _, _, _, _, _, _ => none
  | k + 1, x2, x7, x10, x13, x80, x81, x82 => if x82 < x81 then (if 0 ≤ x82 then (if x82 < (x80.length : Int) then (if (rd x80 x82) < 0 then (some false) else (parterrelaw01_FixedWhole.l1 k x2 x7 (wrap64 (x10 + (rd x80 x82))) x13 x80 x81 (wrap64 (x82 + 1)))) else (none)) else (none)) else (if (x13.length : Int) = (x2.length : Int) then (if x10 = x7 then ((parterrelaw01_lives.f k).bind fun t155 => (some t155)) else (some false)) else (some false))
end
def parterrelaw01_FixedWhole.f (k : Nat) (a0 : Int) (a1 : Int) (l2 : List Int) : Option (Bool) := if (l2.length : Int) > 1000 then ((parterrelaw01_lives.f k).bind fun t143 => (some t143)) else ((fixed_Split.f k (wrap64 (Int.tmod (IntKind.u64.wrap (a0)) 68719476737)) (wrap64 (1 + (wrap64 (Int.tmod (IntKind.u64.wrap (a1)) 1000))))).bind fun t144 => (if (t144.length : Int) = (wrap64 (1 + (wrap64 (Int.tmod (IntKind.u64.wrap (a1)) 1000)))) then (parterrelaw01_FixedWhole.l0 k l2 (wrap64 (Int.tmod (IntKind.u64.wrap (a0)) 68719476737)) t144 0 t144 (t144.length : Int) 0) else (some false)))
theorem parterrelaw01_FixedWhole.mono_l : ∀ k, (∀ y0 y1 y2 y3 y4 y5 y6, LeO (parterrelaw01_FixedWhole.l0 k y0 y1 y2 y3 y4 y5 y6) (parterrelaw01_FixedWhole.l0 (k + 1) y0 y1 y2 y3 y4 y5 y6)) ∧ (∀ y0 y1 y2 y3 y4 y5 y6, LeO (parterrelaw01_FixedWhole.l1 k y0 y1 y2 y3 y4 y5 y6) (parterrelaw01_FixedWhole.l1 (k + 1) y0 y1 y2 y3 y4 y5 y6))
  | 0 => ⟨fun _ _ _ _ _ _ _ r h => by simp [parterrelaw01_FixedWhole.l0] at h, fun _ _ _ _ _ _ _ r h => by simp [parterrelaw01_FixedWhole.l1] at h⟩
  | k + 1 => by
    obtain ⟨ih0, ih1⟩ := parterrelaw01_FixedWhole.mono_l k
    refine ⟨?_, ?_⟩
    · intro y0 y1 y2 y3 y4 y5 y6
      unfold parterrelaw01_FixedWhole.l0
      repeat' first
      | (with_reducible exact ih0 _ _ _ _ _ _ _)
      | (with_reducible exact ih1 _ _ _ _ _ _ _)
      | (with_reducible exact fixed_Share.mono _ _ _)
      | (with_reducible exact fixed_Split.mono _ _ _)
      | (with_reducible exact parterrelaw01_lives.mono _)
      | (with_reducible exact LeO.refl _)
      | (with_reducible exact LeO.none _)
      | (with_reducible refine LeO.ite ?_ ?_)
      | (with_reducible refine LeO.bind ?_ (fun _ => ?_))
      | exact ih0 _ _ _ _ _ _ _
      | exact ih1 _ _ _ _ _ _ _
      | exact fixed_Share.mono _ _ _
      | exact fixed_Split.mono _ _ _
      | exact parterrelaw01_lives.mono _
      | exact LeO.none _
      | refine LeO.ite ?_ ?_
      | refine LeO.bind ?_ (fun _ => ?_)
    · intro y0 y1 y2 y3 y4 y5 y6
      unfold parterrelaw01_FixedWhole.l1
      repeat' first
      | (with_reducible exact ih0 _ _ _ _ _ _ _)
      | (with_reducible exact ih1 _ _ _ _ _ _ _)
      | (with_reducible exact fixed_Share.mono _ _ _)
      | (with_reducible exact fixed_Split.mono _ _ _)
      | (with_reducible exact parterrelaw01_lives.mono _)
      | (with_reducible exact LeO.refl _)
      | (with_reducible exact LeO.none _)
      | (with_reducible refine LeO.ite ?_ ?_)
      | (with_reducible refine LeO.bind ?_ (fun _ => ?_))
      | exact ih0 _ _ _ _ _ _ _
      | exact ih1 _ _ _ _ _ _ _
      | exact fixed_Share.mono _ _ _
      | exact fixed_Split.mono _ _ _
      | exact parterrelaw01_lives.mono _
      | exact LeO.none _
      | refine LeO.ite ?_ ?_
      | refine LeO.bind ?_ (fun _ => ?_)
theorem parterrelaw01_FixedWhole.mono : ∀ a0 a1 a2 k, LeO (parterrelaw01_FixedWhole.f k a0 a1 a2) (parterrelaw01_FixedWhole.f (k + 1) a0 a1 a2) := by
  intro a0 a1 a2 k
  obtain ⟨ih0, ih1⟩ := parterrelaw01_FixedWhole.mono_l k
  unfold parterrelaw01_FixedWhole.f
  repeat' first
      | (with_reducible exact ih0 _ _ _ _ _ _ _)
      | (with_reducible exact ih1 _ _ _ _ _ _ _)
      | (with_reducible exact fixed_Share.mono _ _ _)
      | (with_reducible exact fixed_Split.mono _ _ _)
      | (with_reducible exact parterrelaw01_lives.mono _)
      | (with_reducible exact LeO.refl _)
      | (with_reducible exact LeO.none _)
      | (with_reducible refine LeO.ite ?_ ?_)
      | (with_reducible refine LeO.bind ?_ (fun _ => ?_))
      | exact ih0 _ _ _ _ _ _ _
      | exact ih1 _ _ _ _ _ _ _
      | exact fixed_Share.mono _ _ _
      | exact fixed_Split.mono _ _ _
      | exact parterrelaw01_lives.mono _
      | exact LeO.none _
      | refine LeO.ite ?_ ?_
      | refine LeO.bind ?_ (fun _ => ?_)
set_option maxHeartbeats 8000000 in
set_option maxRecDepth 100000 in
theorem parterrelaw01_FixedWhole.calls (k : Nat) (a0 : Int) (a1 : Int) (A2 : Option Addr) (c2 : Nat) (l2 : List Int) (r : Bool) (w : World) (hr2 : Kd.C (Kd.int .i64) w A2 l2.length l2) (hc2 : l2.length ≤ c2) (h : parterrelaw01_FixedWhole.f k a0 a1 l2 = some r) :
    Calls Try.prog 4 #[.int .i64 a0, .int .i64 a1, .slice A2 l2.length c2] w fun e w' => e = .returned (.bool r) ∧ Below w.heap.size w w' := by
  have HR2 := Aside0.mk hr2
  have HC2 := Aside0.mk hc2
  clear hr2 hc2
  have HB := Aside0.mk (Below.refl w.heap.size w)
  have H : (if (l2.length : Int) > 1000 then ((parterrelaw01_lives.f k).bind fun t143 => (some t143)) else ((fixed_Split.f k (wrap64 (Int.tmod (IntKind.u64.wrap (a0)) 68719476737)) (wrap64 (1 + (wrap64 (Int.tmod (IntKind.u64.wrap (a1)) 1000))))).bind fun t144 => (if (t144.length : Int) = (wrap64 (1 + (wrap64 (Int.tmod (IntKind.u64.wrap (a1)) 1000)))) then (parterrelaw01_FixedWhole.l0 k l2 (wrap64 (Int.tmod (IntKind.u64.wrap (a0)) 68719476737)) t144 0 t144 (t144.length : Int) 0) else (some false)))) = some r := h
  clear h
  by_cases c4 : (l2.length : Int) > 1000
  · rw [if_pos c4] at H
    have c4b0 : decide (1000 < (l2.length : Int)) = true := decide_eq_true c4
    have c4b1 : decide (1000 < l2.length) = true := decide_eq_true (by omega)
    clear c4
    replace H := Option.bind_eq_some_iff.mp H
    obtain ⟨t143, A50, H⟩ := H
    replace H : (some t143) = some r := H
    have A5 := Aside0.mk A50
    clear A50
    obtain rfl := Option.some.inj H
    go_enter Try.func4, Try.ntmps4
    go_wp2_with (first | ((with_reducible refine gate_callee (f := 14) rfl ?_); refine goesL_ (some 19) rfl rfl Try.func14 (by kernel_rfl) rfl #[] rfl (by (try simp only [List.map_toArray, List.map_cons, List.map_nil]); first | done | rfl | (simp only [List.length_drop, List.length_take]; rfl)) ?_; (with_reducible refine (parterrelaw01_lives.calls k  t143 _ A5.out).mono ?_); rintro e w6 ⟨rfl, hb⟩; refine ⟨_, rfl, ?_⟩; have n0_ := Aside0.mk (below_step (by repeat (first | (with_reducible first | exact HB.out | apply below_alloc | apply pw_below_drewN | apply below_drew1) | exact HB.out)) hb); clear HB; have HB := n0_; clear n0_; (try clear hb); (try clear hb2); (try clear hk); (try clear hi)))
    go_ret
    exact ⟨by first | rfl | (simp [errW_none, errW_some] <;> rfl) | (simp [*, errW_none, errW_some] <;> rfl), by repeat (first | (with_reducible first | exact HB.out | apply below_alloc | apply pw_below_drewN | apply below_drew1) | exact HB.out)⟩
  · rw [if_neg c4] at H
    have c4b0 : decide (1000 < (l2.length : Int)) = false := decide_eq_false c4
    have c4b1 : decide (1000 < l2.length) = false := decide_eq_false (by omega)
    clear c4
    replace H := Option.bind_eq_some_iff.mp H
    obtain ⟨t144, A70, H⟩ := H
    replace H : (if (t144.length : Int) = (wrap64 (1 + (wrap64 (Int.tmod (IntKind.u64.wrap (a1)) 1000)))) then (parterrelaw01_FixedWhole.l0 k l2 (wrap64 (Int.tmod (IntKind.u64.wrap (a0)) 68719476737)) t144 0 t144 (t144.length : Int) 0) else (some false)) = some r := H
    have A7 := Aside0.mk A70
    clear A70
    by_cases c8 : (t144.length : Int) = (wrap64 (1 + (wrap64 (Int.tmod (IntKind.u64.wrap (a1)) 1000))))
    · rw [if_pos c8] at H
      have c8b0 : ((t144.length : Int) == (wrap64 (1 + (wrap64 (Int.tmod (IntKind.u64.wrap (a1)) 1000))))) = true := beq_iff_eq.mpr c8
      have c8b1 : ((t144.length : Int) != (wrap64 (1 + (wrap64 (Int.tmod (IntKind.u64.wrap (a1)) 1000))))) = false := bne_eq_false_iff_eq.mpr c8
      clear c8
      have H' := Aside0.mk H
      clear H
      go_enter Try.func4, Try.ntmps4
      go_wp2_with (first | ((with_reducible refine gate_callee (f := 15) rfl ?_); refine goesL_ (some 31) rfl rfl Try.func15 (by kernel_rfl) rfl #[.int .i64 (wrap64 (Int.tmod (IntKind.u64.wrap (a0)) 68719476737)), .int .i64 (wrap64 (1 + (wrap64 (Int.tmod (IntKind.u64.wrap (a1)) 1000))))] rfl (by (try simp only [List.map_toArray, List.map_cons, List.map_nil]); first | done | rfl | (simp only [List.length_drop, List.length_take]; rfl)) ?_; (with_reducible refine (fixed_Split.calls k (wrap64 (Int.tmod (IntKind.u64.wrap (a0)) 68719476737)) (wrap64 (1 + (wrap64 (Int.tmod (IntKind.u64.wrap (a1)) 1000)))) t144 _ A7.out).mono ?_); rintro e w9 ⟨v145, rfl, ho0, hb⟩; refine ⟨_, rfl, ?_⟩; have n0_ := Aside0.mk (Kd.R_lower ho0 (below_size (by repeat (first | (with_reducible first | exact HB.out | apply below_alloc | apply pw_below_drewN | apply below_drew1) | exact HB.out)))); have n1_ := Aside0.mk (below_step (by repeat (first | (with_reducible first | exact HB.out | apply below_alloc | apply pw_below_drewN | apply below_drew1) | exact HB.out)) hb); clear HB; have HO146 := n0_; have HB := n1_; clear n0_ n1_; (try clear hb); (try clear hb2); (try clear hk); (try clear hi); (try clear ho0); obtain ⟨Ao10, co10, eo10⟩ := Kd.R_slice HO146.out; subst eo10))
      go_loopg [10, 38] k (fun kq v10 v38 w' => ∃ (x10_1 : Int) (x38_1 : Int), v10 = .int .i64 x10_1 ∧ v38 = .int .i64 x38_1 ∧ Aside0 (parterrelaw01_FixedWhole.l0 kq l2 (wrap64 (Int.tmod (IntKind.u64.wrap (a0)) 68719476737)) t144 x10_1 t144 (t144.length : Int) x38_1 = some r) ∧ Aside0 (kq ≤ k) ∧ Aside0 (Kd.R (Kd.int .i64) 3 w' w.heap.size (fun _ => True) (.slice Ao10 t144.length co10) t144) ∧ Aside0 (Kd.R (Kd.int .i64) 3 w' w.heap.size (fun _ => True) (.slice Ao10 t144.length co10) t144) ∧ Aside0 (Below w.heap.size w w'))
      case atStart => exact ⟨(0), (0), (by first | rfl | (simp; done) | (simp [*]; done)), (by first | rfl | (simp; done) | (simp [*]; done)), H', ⟨Nat.le_refl _⟩, ⟨by (with_reducible repeat (first | apply Kd.R_alloc | apply Kd.R_drewN | apply Kd.R_drew)); exact HO146.out⟩, ⟨by (with_reducible repeat (first | apply Kd.R_alloc | apply Kd.R_drewN | apply Kd.R_drew)); exact HO146.out⟩, ⟨by repeat (first | (with_reducible first | exact HB.out | apply below_alloc | apply pw_below_drewN | apply below_drew1) | exact HB.out)⟩⟩
      case round =>
        clear H'
        try clear c1
        try clear c2
        try clear p2
        try clear c4
        try clear c4b0
        try clear c4b1
        try clear p6
        try clear c8
        try clear c8b0
        try clear c8b1
        obtain ⟨x10_1, x38_1, rfl, rfl, HA, HK1, HO_9, HO_36, HB⟩ := hrel
        cases gk with
        | zero => exact absurd HA.out (by simp [parterrelaw01_FixedWhole.l0])
        | succ k1 =>
          have H := HA.out
          clear HA
          simp only [parterrelaw01_FixedWhole.l0] at H
          by_cases c11 : x38_1 < (t144.length : Int)
          · rw [if_pos c11] at H
            have c11b0 : decide (x38_1 < (t144.length : Int)) = true := decide_eq_true c11
            clear c11
            by_cases c12 : 0 ≤ x38_1
            · rw [if_pos c12] at H
              have c12b0 : decide (0 ≤ x38_1) = true := decide_eq_true c12
              clear c12
              by_cases c13 : x38_1 < (t144.length : Int)
              · rw [if_pos c13] at H
                have c13b0 : decide (x38_1 < (t144.length : Int)) = true := decide_eq_true c13
                clear c13
                by_cases c14 : (rd t144 x38_1) < 0
                · rw [if_pos c14] at H
                  have c14b0 : decide ((rd t144 x38_1) < 0) = true := decide_eq_true c14
                  clear c14
                  obtain rfl := Option.some.inj H
                  have p147 : 0 ≤ (x38_1 : Int) := of_decide_eq_true (by first | (with_reducible assumption) | assumption)
                  have q147 : x38_1 < (t144.length : Int) := of_decide_eq_true (by first | (with_reducible assumption) | assumption)
                  obtain ⟨ad147, e147, hx147_0⟩ := Kd.at_int (Kd.R_reads' HO_36.out).2.2 x38_1 p147 q147
                  cases e147
                  replace p147 := eq_true p147
                  replace q147 := eq_true q147
                  go_wp2
                  go_ret
                  exact ⟨by first | rfl | (simp [errW_none, errW_some] <;> rfl) | (simp [*, errW_none, errW_some] <;> rfl), by repeat (first | (with_reducible first | exact HB.out | apply below_alloc | apply pw_below_drewN | apply below_drew1) | exact HB.out)⟩
                · rw [if_neg c14] at H
                  have c14b0 : decide ((rd t144 x38_1) < 0) = false := decide_eq_false c14
                  clear c14
                  by_cases c15 : x38_1 > 0
                  · rw [if_pos c15] at H
                    have c15b0 : decide (0 < x38_1) = true := decide_eq_true c15
                    clear c15
                    obtain ⟨ji16, hji16⟩ : ∃ j_ : Int, (wrap64 (x38_1 - 1)) = j_ := ⟨_, rfl⟩
                    replace H : (if 0 ≤ (ji16) then (if (ji16) < (t144.length : Int) then (if (rd t144 x38_1) > (rd t144 (ji16)) then (some false) else (if 0 < (t144.length : Int) then (if (rd t144 x38_1) < (wrap64 ((rd t144 0) - 1)) then (some false) else (parterrelaw01_FixedWhole.l0 k1 l2 (wrap64 (Int.tmod (IntKind.u64.wrap (a0)) 68719476737)) t144 (wrap64 (x10_1 + (rd t144 x38_1))) t144 (t144.length : Int) (wrap64 (x38_1 + 1)))) else (none))) else (none)) else (none)) = some r := by first | (rw [hji16] at H; exact H) | (simp only [hji16] at H ⊢; exact H)
                    have hji16w : (IntKind.i64.wrap (x38_1 - 1)) = ji16 := (i64_w _).trans hji16
                    by_cases c17 : 0 ≤ (ji16)
                    · rw [if_pos c17] at H
                      have c17b0 : decide (0 ≤ (ji16)) = true := decide_eq_true c17
                      clear c17
                      by_cases c18 : (ji16) < (t144.length : Int)
                      · rw [if_pos c18] at H
                        have c18b0 : decide ((ji16) < (t144.length : Int)) = true := decide_eq_true c18
                        clear c18
                        by_cases c19 : (rd t144 x38_1) > (rd t144 (ji16))
                        · rw [if_pos c19] at H
                          have c19b0 : decide ((rd t144 (ji16)) < (rd t144 x38_1)) = true := decide_eq_true c19
                          clear c19
                          obtain rfl := Option.some.inj H
                          have p147 : 0 ≤ (x38_1 : Int) := of_decide_eq_true (by first | (with_reducible assumption) | assumption)
                          have q147 : x38_1 < (t144.length : Int) := of_decide_eq_true (by first | (with_reducible assumption) | assumption)
                          obtain ⟨ad147, e147, hx147_0⟩ := Kd.at_int (Kd.R_reads' HO_36.out).2.2 x38_1 p147 q147
                          cases e147
                          replace p147 := eq_true p147
                          replace q147 := eq_true q147
                          have p148 : 0 ≤ ((ji16) : Int) := of_decide_eq_true (by first | (with_reducible assumption) | assumption)
                          have q148 : (ji16) < (t144.length : Int) := of_decide_eq_true (by first | (with_reducible assumption) | assumption)
                          obtain ⟨ad148, e148, hx148_0⟩ := Kd.at_int (Kd.R_reads' HO_9.out).2.2 (ji16) p148 q148
                          obtain rfl : ad147 = ad148 := (by injection e148)
                          replace p148 := eq_true p148
                          replace q148 := eq_true q148
                          go_wp2
                          go_ret
                          exact ⟨by first | rfl | (simp [errW_none, errW_some] <;> rfl) | (simp only [← hji16]; first | rfl | (simp [errW_none, errW_some] <;> rfl)) | (simp [*, errW_none, errW_some] <;> rfl), by repeat (first | (with_reducible first | exact HB.out | apply below_alloc | apply pw_below_drewN | apply below_drew1) | exact HB.out)⟩
                        · rw [if_neg c19] at H
                          have c19b0 : decide ((rd t144 (ji16)) < (rd t144 x38_1)) = false := decide_eq_false c19
                          clear c19
                          by_cases c20 : 0 < (t144.length : Int)
                          · rw [if_pos c20] at H
                            have c20b0 : decide (0 < (t144.length : Int)) = true := decide_eq_true c20
                            have c20b1 : decide (0 < t144.length) = true := decide_eq_true (by omega)
                            clear c20
                            by_cases c21 : (rd t144 x38_1) < (wrap64 ((rd t144 0) - 1))
                            · rw [if_pos c21] at H
                              have c21b0 : decide ((rd t144 x38_1) < (wrap64 ((rd t144 0) - 1))) = true := decide_eq_true c21
                              clear c21
                              obtain rfl := Option.some.inj H
                              have p147 : 0 ≤ (x38_1 : Int) := of_decide_eq_true (by first | (with_reducible assumption) | assumption)
                              have q147 : x38_1 < (t144.length : Int) := of_decide_eq_true (by first | (with_reducible assumption) | assumption)
                              obtain ⟨ad147, e147, hx147_0⟩ := Kd.at_int (Kd.R_reads' HO_36.out).2.2 x38_1 p147 q147
                              cases e147
                              replace p147 := eq_true p147
                              replace q147 := eq_true q147
                              have p148 : 0 ≤ ((ji16) : Int) := of_decide_eq_true (by first | (with_reducible assumption) | assumption)
                              have q148 : (ji16) < (t144.length : Int) := of_decide_eq_true (by first | (with_reducible assumption) | assumption)
                              obtain ⟨ad148, e148, hx148_0⟩ := Kd.at_int (Kd.R_reads' HO_9.out).2.2 (ji16) p148 q148
                              obtain rfl : ad147 = ad148 := (by injection e148)
                              replace p148 := eq_true p148
                              replace q148 := eq_true q148
                              have p149 : 0 ≤ (0 : Int) := (by omega)
                              have q149 : 0 < (t144.length : Int) := of_decide_eq_true (by first | (with_reducible assumption) | assumption)
                              obtain ⟨ad149, e149, hx149_0⟩ := Kd.at_int (Kd.R_reads' HO_9.out).2.2 0 p149 q149
                              obtain rfl : ad147 = ad149 := (by injection e149)
                              have qi149 : (0 < t144.length) = True := eq_true (by omega)
                              (try rw [show ((0 : Int)).toNat = 0 from rfl] at hx149_0)
                              (try rw [Addr.add_zero'] at hx149_0)
                              replace p149 := eq_true p149
                              replace q149 := eq_true q149
                              go_wp2
                              go_ret
                              exact ⟨by first | rfl | (simp [errW_none, errW_some] <;> rfl) | (simp only [← hji16]; first | rfl | (simp [errW_none, errW_some] <;> rfl)) | (simp [*, errW_none, errW_some] <;> rfl), by repeat (first | (with_reducible first | exact HB.out | apply below_alloc | apply pw_below_drewN | apply below_drew1) | exact HB.out)⟩
                            · rw [if_neg c21] at H
                              have c21b0 : decide ((rd t144 x38_1) < (wrap64 ((rd t144 0) - 1))) = false := decide_eq_false c21
                              clear c21
                              have H' := Aside0.mk H
                              clear H
                              have p147 : 0 ≤ (x38_1 : Int) := of_decide_eq_true (by first | (with_reducible assumption) | assumption)
                              have q147 : x38_1 < (t144.length : Int) := of_decide_eq_true (by first | (with_reducible assumption) | assumption)
                              obtain ⟨ad147, e147, hx147_0⟩ := Kd.at_int (Kd.R_reads' HO_36.out).2.2 x38_1 p147 q147
                              cases e147
                              replace p147 := eq_true p147
                              replace q147 := eq_true q147
                              have p148 : 0 ≤ ((ji16) : Int) := of_decide_eq_true (by first | (with_reducible assumption) | assumption)
                              have q148 : (ji16) < (t144.length : Int) := of_decide_eq_true (by first | (with_reducible assumption) | assumption)
                              obtain ⟨ad148, e148, hx148_0⟩ := Kd.at_int (Kd.R_reads' HO_9.out).2.2 (ji16) p148 q148
                              obtain rfl : ad147 = ad148 := (by injection e148)
                              replace p148 := eq_true p148
                              replace q148 := eq_true q148
                              have p149 : 0 ≤ (0 : Int) := (by omega)
                              have q149 : 0 < (t144.length : Int) := of_decide_eq_true (by first | (with_reducible assumption) | assumption)
                              obtain ⟨ad149, e149, hx149_0⟩ := Kd.at_int (Kd.R_reads' HO_9.out).2.2 0 p149 q149
                              obtain rfl : ad147 = ad149 := (by injection e149)
                              have qi149 : (0 < t144.length) = True := eq_true (by omega)
                              (try rw [show ((0 : Int)).toNat = 0 from rfl] at hx149_0)
                              (try rw [Addr.add_zero'] at hx149_0)
                              replace p149 := eq_true p149
                              replace q149 := eq_true q149
                              go_wp2
                              go_roundg k1
                              case measure => have := HK1.out; omega
                              case rel => exact ⟨(wrap64 (x10_1 + (rd t144 x38_1))), (wrap64 (x38_1 + 1)), (by first | rfl | (simp; done) | (simp [*]; done)), (by first | rfl | (simp; done) | (simp [*]; done)), H', ⟨by have := HK1.out; omega⟩, ⟨by (with_reducible repeat (first | apply Kd.R_alloc | apply Kd.R_drewN | apply Kd.R_drew)); exact HO_9.out⟩, ⟨by (with_reducible repeat (first | apply Kd.R_alloc | apply Kd.R_drewN | apply Kd.R_drew)); exact HO_36.out⟩, ⟨by repeat (first | (with_reducible first | exact HB.out | apply below_alloc | apply pw_below_drewN | apply below_drew1) | exact HB.out)⟩⟩
                          · rw [if_neg c20] at H
                            exact absurd H (by simp)
                      · rw [if_neg c18] at H
                        exact absurd H (by simp)
                    · rw [if_neg c17] at H
                      exact absurd H (by simp)
                  · rw [if_neg c15] at H
                    have c15b0 : decide (0 < x38_1) = false := decide_eq_false c15
                    clear c15
                    have H' := Aside0.mk H
                    clear H
                    have p147 : 0 ≤ (x38_1 : Int) := of_decide_eq_true (by first | (with_reducible assumption) | assumption)
                    have q147 : x38_1 < (t144.length : Int) := of_decide_eq_true (by first | (with_reducible assumption) | assumption)
                    obtain ⟨ad147, e147, hx147_0⟩ := Kd.at_int (Kd.R_reads' HO_36.out).2.2 x38_1 p147 q147
                    cases e147
                    replace p147 := eq_true p147
                    replace q147 := eq_true q147
                    go_wp2
                    go_roundg k1
                    case measure => have := HK1.out; omega
                    case rel => exact ⟨(wrap64 (x10_1 + (rd t144 x38_1))), (wrap64 (x38_1 + 1)), (by first | rfl | (simp; done) | (simp [*]; done)), (by first | rfl | (simp; done) | (simp [*]; done)), H', ⟨by have := HK1.out; omega⟩, ⟨by (with_reducible repeat (first | apply Kd.R_alloc | apply Kd.R_drewN | apply Kd.R_drew)); exact HO_9.out⟩, ⟨by (with_reducible repeat (first | apply Kd.R_alloc | apply Kd.R_drewN | apply Kd.R_drew)); exact HO_36.out⟩, ⟨by repeat (first | (with_reducible first | exact HB.out | apply below_alloc | apply pw_below_drewN | apply below_drew1) | exact HB.out)⟩⟩
              · rw [if_neg c13] at H
                exact absurd H (by simp)
            · rw [if_neg c12] at H
              exact absurd H (by simp)
          · rw [if_neg c11] at H
            have c11b0 : decide (x38_1 < (t144.length : Int)) = false := decide_eq_false c11
            clear c11
            by_cases c22 : x10_1 = (wrap64 (Int.tmod (IntKind.u64.wrap (a0)) 68719476737))
            · rw [if_pos c22] at H
              have c22b0 : (x10_1 == (wrap64 (Int.tmod (IntKind.u64.wrap (a0)) 68719476737))) = true := beq_iff_eq.mpr c22
              have c22b1 : (x10_1 != (wrap64 (Int.tmod (IntKind.u64.wrap (a0)) 68719476737))) = false := bne_eq_false_iff_eq.mpr c22
              clear c22
              replace H := Option.bind_eq_some_iff.mp H
              obtain ⟨t150, A230, H⟩ := H
              replace H : (if (t150.length : Int) = 0 then ((parterrelaw01_lives.f k1).bind fun t153 => (some t153)) else (parterrelaw01_FixedWhole.l1 k1 l2 (wrap64 (Int.tmod (IntKind.u64.wrap (a0)) 68719476737)) 0 t150 t150 (t150.length : Int) 0)) = some r := H
              have A23 := Aside0.mk A230
              clear A230
              by_cases c24 : (t150.length : Int) = 0
              · rw [if_pos c24] at H
                have c24b0 : ((t150.length : Int) == 0) = true := beq_iff_eq.mpr c24
                have c24b1 : ((t150.length : Int) != 0) = false := bne_eq_false_iff_eq.mpr c24
                clear c24
                replace H := Option.bind_eq_some_iff.mp H
                obtain ⟨t153, A250, H⟩ := H
                replace H : (some t153) = some r := H
                have A25 := Aside0.mk A250
                clear A250
                obtain rfl := Option.some.inj H
                go_wp2_with (first | ((with_reducible refine gate_callee (f := 16) rfl ?_); refine goesL_ (some 75) rfl rfl Try.func16 (by kernel_rfl) rfl #[.int .i64 (wrap64 (Int.tmod (IntKind.u64.wrap (a0)) 68719476737)), .slice A2 l2.length c2] rfl (by (try simp only [List.map_toArray, List.map_cons, List.map_nil]); first | done | rfl | (simp only [List.length_drop, List.length_take]; rfl)) ?_; (with_reducible refine (fixed_Share.calls k1 (wrap64 (Int.tmod (IntKind.u64.wrap (a0)) 68719476737)) _ _ l2 t150 _ ?side1 ?side2 A23.out).mono ?_); (case side1 => repeat (first | exact (Kd.C_below HR2.out HB.out) | (with_reducible refine Kd.C_alloc ?_ _) | (with_reducible refine Kd.C_drewN ?_ _) | (with_reducible refine Kd.C_drew ?_))); (case side2 => exact HC2.out); rintro e w26 ⟨v151, rfl, ho0, hb⟩; refine ⟨_, rfl, ?_⟩; have n0_ := Aside0.mk (Kd.R_elder' (by (with_reducible repeat (first | apply Kd.R_alloc | apply Kd.R_drewN | apply Kd.R_drew)); exact HO_9.out) (Kd.R_base ho0) hb); have n1_ := Aside0.mk (Kd.R_elder' (by (with_reducible repeat (first | apply Kd.R_alloc | apply Kd.R_drewN | apply Kd.R_drew)); exact HO_36.out) (Kd.R_base ho0) hb); have n2_ := Aside0.mk (Kd.R_lower (Kd.R_new' (Kd.R_new' ho0 (Kd.R_lt (by (with_reducible repeat (first | apply Kd.R_alloc | apply Kd.R_drewN | apply Kd.R_drew)); exact HO_9.out))) (Kd.R_lt (by (with_reducible repeat (first | apply Kd.R_alloc | apply Kd.R_drewN | apply Kd.R_drew)); exact HO_36.out))) (below_size (by repeat (first | (with_reducible first | exact HB.out | apply below_alloc | apply pw_below_drewN | apply below_drew1) | exact HB.out)))); have n3_ := Aside0.mk (below_step (by repeat (first | (with_reducible first | exact HB.out | apply below_alloc | apply pw_below_drewN | apply below_drew1) | exact HB.out)) hb); clear HO_9; clear HO_36; clear HB; have HO_9 := n0_; have HO_36 := n1_; have HO152 := n2_; have HB := n3_; clear n0_ n1_ n2_ n3_; (try clear hb); (try clear hb2); (try clear hk); (try clear hi); (try clear ho0); obtain ⟨Ao27, co27, eo27⟩ := Kd.R_slice HO152.out; subst eo27) | ((with_reducible refine gate_callee (f := 14) rfl ?_); refine goesL_ (some 79) rfl rfl Try.func14 (by kernel_rfl) rfl #[] rfl (by (try simp only [List.map_toArray, List.map_cons, List.map_nil]); first | done | rfl | (simp only [List.length_drop, List.length_take]; rfl)) ?_; (with_reducible refine (parterrelaw01_lives.calls k1  t153 _ A25.out).mono ?_); rintro e w28 ⟨rfl, hb⟩; refine ⟨_, rfl, ?_⟩; have n0_ := Aside0.mk (Kd.R_below (by (with_reducible repeat (first | apply Kd.R_alloc | apply Kd.R_drewN | apply Kd.R_drew)); exact HO_9.out) hb); have n1_ := Aside0.mk (Kd.R_below (by (with_reducible repeat (first | apply Kd.R_alloc | apply Kd.R_drewN | apply Kd.R_drew)); exact HO_36.out) hb); have n2_ := Aside0.mk (Kd.R_below (by (with_reducible repeat (first | apply Kd.R_alloc | apply Kd.R_drewN | apply Kd.R_drew)); exact HO152.out) hb); have n3_ := Aside0.mk (below_step (by repeat (first | (with_reducible first | exact HB.out | apply below_alloc | apply pw_below_drewN | apply below_drew1) | exact HB.out)) hb); clear HO_9; clear HO_36; clear HO152; clear HB; have HO_9 := n0_; have HO_36 := n1_; have HO152 := n2_; have HB := n3_; clear n0_ n1_ n2_ n3_; (try clear hb); (try clear hb2); (try clear hk); (try clear hi)))
                go_ret
                exact ⟨by first | rfl | (simp [errW_none, errW_some] <;> rfl) | (simp [*, errW_none, errW_some] <;> rfl), by repeat (first | (with_reducible first | exact HB.out | apply below_alloc | apply pw_below_drewN | apply below_drew1) | exact HB.out)⟩
              · rw [if_neg c24] at H
                have c24b0 : ((t150.length : Int) == 0) = false := beq_eq_false_iff_ne.mpr c24
                have c24b1 : ((t150.length : Int) != 0) = true := bne_iff_ne.mpr c24
                have c24b2 : ¬ (t150 = []) := fun h_ => c24 (by rw [h_]; rfl)
                have H' := Aside0.mk H
                clear H
                go_wp2_with (first | ((with_reducible refine gate_callee (f := 16) rfl ?_); refine goesL_ (some 75) rfl rfl Try.func16 (by kernel_rfl) rfl #[.int .i64 (wrap64 (Int.tmod (IntKind.u64.wrap (a0)) 68719476737)), .slice A2 l2.length c2] rfl (by (try simp only [List.map_toArray, List.map_cons, List.map_nil]); first | done | rfl | (simp only [List.length_drop, List.length_take]; rfl)) ?_; (with_reducible refine (fixed_Share.calls k1 (wrap64 (Int.tmod (IntKind.u64.wrap (a0)) 68719476737)) _ _ l2 t150 _ ?side1 ?side2 A23.out).mono ?_); (case side1 => repeat (first | exact (Kd.C_below HR2.out HB.out) | (with_reducible refine Kd.C_alloc ?_ _) | (with_reducible refine Kd.C_drewN ?_ _) | (with_reducible refine Kd.C_drew ?_))); (case side2 => exact HC2.out); rintro e w29 ⟨v151, rfl, ho0, hb⟩; refine ⟨_, rfl, ?_⟩; have n0_ := Aside0.mk (Kd.R_elder' (by (with_reducible repeat (first | apply Kd.R_alloc | apply Kd.R_drewN | apply Kd.R_drew)); exact HO_9.out) (Kd.R_base ho0) hb); have n1_ := Aside0.mk (Kd.R_elder' (by (with_reducible repeat (first | apply Kd.R_alloc | apply Kd.R_drewN | apply Kd.R_drew)); exact HO_36.out) (Kd.R_base ho0) hb); have n2_ := Aside0.mk (Kd.R_lower (Kd.R_new' (Kd.R_new' ho0 (Kd.R_lt (by (with_reducible repeat (first | apply Kd.R_alloc | apply Kd.R_drewN | apply Kd.R_drew)); exact HO_9.out))) (Kd.R_lt (by (with_reducible repeat (first | apply Kd.R_alloc | apply Kd.R_drewN | apply Kd.R_drew)); exact HO_36.out))) (below_size (by repeat (first | (with_reducible first | exact HB.out | apply below_alloc | apply pw_below_drewN | apply below_drew1) | exact HB.out)))); have n3_ := Aside0.mk (below_step (by repeat (first | (with_reducible first | exact HB.out | apply below_alloc | apply pw_below_drewN | apply below_drew1) | exact HB.out)) hb); clear HO_9; clear HO_36; clear HB; have HO_9 := n0_; have HO_36 := n1_; have HO152 := n2_; have HB := n3_; clear n0_ n1_ n2_ n3_; (try clear hb); (try clear hb2); (try clear hk); (try clear hi); (try clear ho0); obtain ⟨Ao30, co30, eo30⟩ := Kd.R_slice HO152.out; subst eo30))
                go_loopg [10, 82] k1 (fun kq v10 v82 w' => ∃ (x10_2 : Int) (x82_2 : Int), v10 = .int .i64 x10_2 ∧ v82 = .int .i64 x82_2 ∧ Aside0 (parterrelaw01_FixedWhole.l1 kq l2 (wrap64 (Int.tmod (IntKind.u64.wrap (a0)) 68719476737)) x10_2 t150 t150 (t150.length : Int) x82_2 = some r) ∧ Aside0 (kq ≤ k1) ∧ Aside0 (Kd.R (Kd.int .i64) 3 w' w.heap.size (fun _ => True) (.slice Ao30 t150.length co30) t150) ∧ Aside0 (Kd.R (Kd.int .i64) 3 w' w.heap.size (fun _ => True) (.slice Ao30 t150.length co30) t150) ∧ Aside0 (Below w.heap.size w w'))
                case atStart => exact ⟨(0), (0), (by first | rfl | (simp; done) | (simp [*]; done)), (by first | rfl | (simp; done) | (simp [*]; done)), H', ⟨Nat.le_refl _⟩, ⟨by (with_reducible repeat (first | apply Kd.R_alloc | apply Kd.R_drewN | apply Kd.R_drew)); exact Kd.R_mono HO152.out (fun _ hk => trivial)⟩, ⟨by (with_reducible repeat (first | apply Kd.R_alloc | apply Kd.R_drewN | apply Kd.R_drew)); exact Kd.R_mono HO152.out (fun _ hk => trivial)⟩, ⟨by repeat (first | (with_reducible first | exact HB.out | apply below_alloc | apply pw_below_drewN | apply below_drew1) | exact HB.out)⟩⟩
                case round =>
                  clear H'
                  try clear c1
                  try clear p1
                  try clear q1
                  try clear hx1
                  try clear qi1
                  try clear c2
                  try clear p2
                  try clear c4
                  try clear c4b0
                  try clear c4b1
                  try clear p6
                  try clear c8
                  try clear c8b0
                  try clear c8b1
                  try clear c11
                  try clear c11b0
                  try clear c12
                  try clear c12b0
                  try clear c13
                  try clear c13b0
                  try clear c14
                  try clear c14b0
                  try clear p14
                  try clear q14
                  try clear hx14
                  try clear qi14
                  try clear c15
                  try clear c15b0
                  try clear c16
                  try clear c17
                  try clear c17b0
                  try clear c18
                  try clear c18b0
                  try clear c19
                  try clear c19b0
                  try clear c20
                  try clear c20b0
                  try clear c20b1
                  try clear c21
                  try clear c21b0
                  try clear c22
                  try clear c22b0
                  try clear c22b1
                  try clear c24
                  try clear c24b0
                  try clear c24b1
                  try clear c24b2
                  try clear hx147_0
                  try clear hx148_0
                  try clear hx149_0
                  try clear p147
                  try clear p148
                  try clear p149
                  try clear p2
                  try clear p6
                  try clear q147
                  try clear q148
                  try clear q149
                  obtain ⟨x10_2, x82_2, rfl, rfl, HA, HK2, HO_13, HO_80, HB⟩ := hrel
                  cases gk with
                  | zero => exact absurd HA.out (by simp [parterrelaw01_FixedWhole.l1])
                  | succ k2 =>
                    have H := HA.out
                    clear HA
                    simp only [parterrelaw01_FixedWhole.l1] at H
                    by_cases c31 : x82_2 < (t150.length : Int)
                    · rw [if_pos c31] at H
                      have c31b0 : decide (x82_2 < (t150.length : Int)) = true := decide_eq_true c31
                      clear c31
                      by_cases c32 : 0 ≤ x82_2
                      · rw [if_pos c32] at H
                        have c32b0 : decide (0 ≤ x82_2) = true := decide_eq_true c32
                        clear c32
                        by_cases c33 : x82_2 < (t150.length : Int)
                        · rw [if_pos c33] at H
                          have c33b0 : decide (x82_2 < (t150.length : Int)) = true := decide_eq_true c33
                          clear c33
                          by_cases c34 : (rd t150 x82_2) < 0
                          · rw [if_pos c34] at H
                            have c34b0 : decide ((rd t150 x82_2) < 0) = true := decide_eq_true c34
                            clear c34
                            obtain rfl := Option.some.inj H
                            have p154 : 0 ≤ (x82_2 : Int) := of_decide_eq_true (by first | (with_reducible assumption) | assumption)
                            have q154 : x82_2 < (t150.length : Int) := of_decide_eq_true (by first | (with_reducible assumption) | assumption)
                            obtain ⟨ad154, e154, hx154_0⟩ := Kd.at_int (Kd.R_reads' HO_80.out).2.2 x82_2 p154 q154
                            cases e154
                            replace p154 := eq_true p154
                            replace q154 := eq_true q154
                            go_wp2
                            go_ret
                            exact ⟨by first | rfl | (simp [errW_none, errW_some] <;> rfl) | (simp [*, errW_none, errW_some] <;> rfl), by repeat (first | (with_reducible first | exact HB.out | apply below_alloc | apply pw_below_drewN | apply below_drew1) | exact HB.out)⟩
                          · rw [if_neg c34] at H
                            have c34b0 : decide ((rd t150 x82_2) < 0) = false := decide_eq_false c34
                            clear c34
                            have H' := Aside0.mk H
                            clear H
                            have p154 : 0 ≤ (x82_2 : Int) := of_decide_eq_true (by first | (with_reducible assumption) | assumption)
                            have q154 : x82_2 < (t150.length : Int) := of_decide_eq_true (by first | (with_reducible assumption) | assumption)
                            obtain ⟨ad154, e154, hx154_0⟩ := Kd.at_int (Kd.R_reads' HO_80.out).2.2 x82_2 p154 q154
                            cases e154
                            replace p154 := eq_true p154
                            replace q154 := eq_true q154
                            go_wp2
                            go_roundg k2
                            case measure => have := HK1.out; have := HK2.out; omega
                            case rel => exact ⟨(wrap64 (x10_2 + (rd t150 x82_2))), (wrap64 (x82_2 + 1)), (by first | rfl | (simp; done) | (simp [*]; done)), (by first | rfl | (simp; done) | (simp [*]; done)), H', ⟨by have := HK1.out; have := HK2.out; omega⟩, ⟨by (with_reducible repeat (first | apply Kd.R_alloc | apply Kd.R_drewN | apply Kd.R_drew)); exact HO_13.out⟩, ⟨by (with_reducible repeat (first | apply Kd.R_alloc | apply Kd.R_drewN | apply Kd.R_drew)); exact HO_80.out⟩, ⟨by repeat (first | (with_reducible first | exact HB.out | apply below_alloc | apply pw_below_drewN | apply below_drew1) | exact HB.out)⟩⟩
                        · rw [if_neg c33] at H
                          exact absurd H (by simp)
                      · rw [if_neg c32] at H
                        exact absurd H (by simp)
                    · rw [if_neg c31] at H
                      have c31b0 : decide (x82_2 < (t150.length : Int)) = false := decide_eq_false c31
                      clear c31
                      by_cases c35 : (t150.length : Int) = (l2.length : Int)
                      · rw [if_pos c35] at H
                        have c35b0 : ((t150.length : Int) == (l2.length : Int)) = true := beq_iff_eq.mpr c35
                        have c35b1 : ((t150.length : Int) != (l2.length : Int)) = false := bne_eq_false_iff_eq.mpr c35
                        have c35b2 : (t150.length == l2.length) = true := by first | simpa using c35 | (simp at c35 ⊢; omega)
                        clear c35
                        by_cases c36 : x10_2 = (wrap64 (Int.tmod (IntKind.u64.wrap (a0)) 68719476737))
                        · rw [if_pos c36] at H
                          have c36b0 : (x10_2 == (wrap64 (Int.tmod (IntKind.u64.wrap (a0)) 68719476737))) = true := beq_iff_eq.mpr c36
                          have c36b1 : (x10_2 != (wrap64 (Int.tmod (IntKind.u64.wrap (a0)) 68719476737))) = false := bne_eq_false_iff_eq.mpr c36
                          clear c36
                          replace H := Option.bind_eq_some_iff.mp H
                          obtain ⟨t155, A370, H⟩ := H
                          replace H : (some t155) = some r := H
                          have A37 := Aside0.mk A370
                          clear A370
                          obtain rfl := Option.some.inj H
                          go_wp2_with (first | (go_at_call 14; (with_reducible refine (parterrelaw01_lives.calls k2  t155 _ A37.out).mono ?_); rintro e w38 ⟨rfl, hb⟩; have n0_ := Aside0.mk (Kd.R_below (by (with_reducible repeat (first | apply Kd.R_alloc | apply Kd.R_drewN | apply Kd.R_drew)); exact HO_13.out) hb); have n1_ := Aside0.mk (Kd.R_below (by (with_reducible repeat (first | apply Kd.R_alloc | apply Kd.R_drewN | apply Kd.R_drew)); exact HO_80.out) hb); have n2_ := Aside0.mk (below_step (by repeat (first | (with_reducible first | exact HB.out | apply below_alloc | apply pw_below_drewN | apply below_drew1) | exact HB.out)) hb); clear HO_13; clear HO_80; clear HB; have HO_13 := n0_; have HO_80 := n1_; have HB := n2_; clear n0_ n1_ n2_; (try clear hb); (try clear hb2); (try clear hk); (try clear hi)))
                          go_ret
                          exact ⟨by first | rfl | (simp [errW_none, errW_some] <;> rfl) | (simp [*, errW_none, errW_some] <;> rfl), by repeat (first | (with_reducible first | exact HB.out | apply below_alloc | apply pw_below_drewN | apply below_drew1) | exact HB.out)⟩
                        · rw [if_neg c36] at H
                          have c36b0 : (x10_2 == (wrap64 (Int.tmod (IntKind.u64.wrap (a0)) 68719476737))) = false := beq_eq_false_iff_ne.mpr c36
                          have c36b1 : (x10_2 != (wrap64 (Int.tmod (IntKind.u64.wrap (a0)) 68719476737))) = true := bne_iff_ne.mpr c36
                          obtain rfl := Option.some.inj H
                          go_wp2
                          go_ret
                          exact ⟨by first | rfl | (simp [errW_none, errW_some] <;> rfl) | (simp [*, errW_none, errW_some] <;> rfl), by repeat (first | (with_reducible first | exact HB.out | apply below_alloc | apply pw_below_drewN | apply below_drew1) | exact HB.out)⟩
                      · rw [if_neg c35] at H
                        have c35b0 : ((t150.length : Int) == (l2.length : Int)) = false := beq_eq_false_iff_ne.mpr c35
                        have c35b1 : ((t150.length : Int) != (l2.length : Int)) = true := bne_iff_ne.mpr c35
                        have c35b2 : (t150.length == l2.length) = false := by first | simpa using c35 | (simp at c35 ⊢; omega)
                        obtain rfl := Option.some.inj H
                        go_wp2
                        go_ret
                        exact ⟨by first | rfl | (simp [errW_none, errW_some] <;> rfl) | (simp [*, errW_none, errW_some] <;> rfl), by repeat (first | (with_reducible first | exact HB.out | apply below_alloc | apply pw_below_drewN | apply below_drew1) | exact HB.out)⟩
            · rw [if_neg c22] at H
              have c22b0 : (x10_1 == (wrap64 (Int.tmod (IntKind.u64.wrap (a0)) 68719476737))) = false := beq_eq_false_iff_ne.mpr c22
              have c22b1 : (x10_1 != (wrap64 (Int.tmod (IntKind.u64.wrap (a0)) 68719476737))) = true := bne_iff_ne.mpr c22
              obtain rfl := Option.some.inj H
              go_wp2
              go_ret
              exact ⟨by first | rfl | (simp [errW_none, errW_some] <;> rfl) | (simp [*, errW_none, errW_some] <;> rfl), by repeat (first | (with_reducible first | exact HB.out | apply below_alloc | apply pw_below_drewN | apply below_drew1) | exact HB.out)⟩
    · rw [if_neg c8] at H
      have c8b0 : ((t144.length : Int) == (wrap64 (1 + (wrap64 (Int.tmod (IntKind.u64.wrap (a1)) 1000))))) = false := beq_eq_false_iff_ne.mpr c8
      have c8b1 : ((t144.length : Int) != (wrap64 (1 + (wrap64 (Int.tmod (IntKind.u64.wrap (a1)) 1000))))) = true := bne_iff_ne.mpr c8
      obtain rfl := Option.some.inj H
      go_enter Try.func4, Try.ntmps4
      go_wp2_with (first | ((with_reducible refine gate_callee (f := 15) rfl ?_); refine goesL_ (some 31) rfl rfl Try.func15 (by kernel_rfl) rfl #[.int .i64 (wrap64 (Int.tmod (IntKind.u64.wrap (a0)) 68719476737)), .int .i64 (wrap64 (1 + (wrap64 (Int.tmod (IntKind.u64.wrap (a1)) 1000))))] rfl (by (try simp only [List.map_toArray, List.map_cons, List.map_nil]); first | done | rfl | (simp only [List.length_drop, List.length_take]; rfl)) ?_; (with_reducible refine (fixed_Split.calls k (wrap64 (Int.tmod (IntKind.u64.wrap (a0)) 68719476737)) (wrap64 (1 + (wrap64 (Int.tmod (IntKind.u64.wrap (a1)) 1000)))) t144 _ A7.out).mono ?_); rintro e w39 ⟨v145, rfl, ho0, hb⟩; refine ⟨_, rfl, ?_⟩; have n0_ := Aside0.mk (Kd.R_lower ho0 (below_size (by repeat (first | (with_reducible first | exact HB.out | apply below_alloc | apply pw_below_drewN | apply below_drew1) | exact HB.out)))); have n1_ := Aside0.mk (below_step (by repeat (first | (with_reducible first | exact HB.out | apply below_alloc | apply pw_below_drewN | apply below_drew1) | exact HB.out)) hb); clear HB; have HO146 := n0_; have HB := n1_; clear n0_ n1_; (try clear hb); (try clear hb2); (try clear hk); (try clear hi); (try clear ho0); obtain ⟨Ao40, co40, eo40⟩ := Kd.R_slice HO146.out; subst eo40))
      go_ret
      exact ⟨by first | rfl | (simp [errW_none, errW_some] <;> rfl) | (simp [*, errW_none, errW_some] <;> rfl), by repeat (first | (with_reducible first | exact HB.out | apply below_alloc | apply pw_below_drewN | apply below_drew1) | exact HB.out)⟩
/-- THE ONE PURE STATEMENT of parterrelaw01_FixedWhole. -/
def parterrelaw01_FixedWhole.Pure : Prop := ∀ (a0 : Int) (a1 : Int) (l2 : List Int), (Lit.int .i64 a0).wf = true → (Lit.int .i64 a1).wf = true → l2.length ≤ 9223372036854775807 → l2.length * 8 ≤ 140737488351232 → (∀ e_ ∈ l2, (Lit.int .i64 e_).wf = true) → ∃ k, parterrelaw01_FixedWhole.f k a0 a1 l2 = some true

end Go.Proofs.Ytcmnfhenbeigdaa.PA
