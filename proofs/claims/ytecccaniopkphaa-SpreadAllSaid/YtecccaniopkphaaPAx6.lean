-- written by a program of this session (a print of the translation with changes of its own)
import Derived.Test.YtecccaniopkphaaPAx0
import Derived.Test.YtecccaniopkphaaPAx2
import Derived.Test.YtecccaniopkphaaPAx4
import Derived.Test.YtecccaniopkphaaPAx5
namespace Go.Proofs.Ytecccaniopkphaa.PA
open Go.RowKit Go.Proofs.YtecccaniopkphaaW.PrintWords Go.Proofs.YtecccaniopkphaaW.PrintLast Go.Proofs.YtecccaniopkphaaW.PrintMore
theorem pmAx6_0_ {P : Prop} (h : P := by first | (with_reducible assumption) | assumption) : P := h
theorem pmAx6_1_ {P : Prop} (h : P := by first | rfl | (simp; done) | (simp [*]; done)) : P := h
theorem pmAx6_2_ {P : Prop} (h : P := by repeat (first | (with_reducible first | exact HB.out | apply below_alloc | apply pw_below_drewN | apply below_drew1) | exact HB.out)) : P := h
theorem pmAx6_3_ {P : Prop} (h : P := by (try simp only [List.map_toArray, List.map_cons, List.map_nil]); first | done | rfl | (simp only [List.length_drop, List.length_take]; rfl)) : P := h
attribute [local go_sem] max2_int min2_int max_two min_two max_three min_three max_four min_four   -- for this text's walks alone
set_option linter.unusedVariables false
set_option linter.unusedSimpArgs false

/-! ### parterrelaw23_SpreadAll: function 3 -/
mutual
def parterrelaw23_SpreadAll.j0 : Nat → Int → List Int → List Bool → Bool → Option (Bool)
  | 0, _, _, _, _ => none
  | k + 1, x0, x1, x2, x28 => if x28 = true then ((parterrelaw23_lives.f k).bind fun t180 => (some t180)) else ((spread_Fill.f k x0 x1 x2).bind fun t181 => (if (t181.length : Int) = (x1.length : Int) then (parterrelaw23_SpreadAll.l0 k x0 x1 x2 0 0 false t181 (t181.length : Int) 0) else (some false)))
def parterrelaw23_SpreadAll.l0 : Nat → Int → List Int → List Bool → Int → Int → Bool → List Int → Int → Int → Option (Bool)
  | 0, _, _, _, _, _, _, _, _, _ => none
  | k + 1, x0, x1, x2, x8, x9, x10, x39, x40, x41 => if x41 < x40 then (if 0 ≤ x41 then (if x41 < (x39.length : Int) then (if (rd x39 x41) < 0 then (some false) else (if x41 < (x1.length : Int) then (if (rd x39 x41) > (rd x1 x41) then (if x41 < (x2.length : Int) then (if rdOf false x2 x41 = true then (if x10 = true then (parterrelaw23_SpreadAll.l0 k x0 x1 x2 (wrap64 (x8 + (rd x39 x41))) (mn 1125899906842624 (wrap64 (x9 + (rd x1 x41)))) true x39 x40 (wrap64 (x41 + 1))) else (parterrelaw23_SpreadAll.l0 k x0 x1 x2 (wrap64 (x8 + (rd x39 x41))) (mn 1125899906842624 (wrap64 (x9 + (rd x1 x41)))) (rdOf false x2 x41) x39 x40 (wrap64 (x41 + 1)))) else (some false)) else (none)) else (if x10 = true then (parterrelaw23_SpreadAll.l0 k x0 x1 x2 (wrap64 (x8 + (rd x39 x41))) (mn 1125899906842624 (wrap64 (x9 + (rd x1 x41)))) true x39 x40 (wrap64 (x41 + 1))) else (if x41 < (x2.length : Int) then (parterrelaw23_SpreadAll.l0 k x0 x1 x2 (wrap64 (x8 + (rd x39 x41))) (mn 1125899906842624 (wrap64 (x9 + (rd x1 x41)))) (rdOf false x2 x41) x39 x40 (wrap64 (x41 + 1))) else (none)))) else (none))) else (none)) else (none)) else (if x10 = true then (parterrelaw23_SpreadAll.j2 k x0 x8 x9 true) else (parterrelaw23_SpreadAll.j2 k x0 x8 x9 (decide (x9 ≥ x0))))
def parterrelaw23_SpreadAll.j2 : Nat → Int → Int → Int → Bool → Option (Bool)
  | 0, _, _, _, _ => none
  | k + 1, x0, x8, x9, x86 => if x86 = true then (if x8 = x0 then ((parterrelaw23_lives.f k).bind fun t191 => (some t191)) else (some false)) else (if x8 = x9 then ((parterrelaw23_lives.f k).bind fun t192 => (some t192)) else (some false))
end
def parterrelaw23_SpreadAll.f (k : Nat) (a0 : Int) (l1 : List Int) (l2 : List Bool) : Option (Bool) := if (l1.length : Int) > 300 then (parterrelaw23_SpreadAll.j0 k a0 l1 l2 true) else (if (l2.length : Int) = (l1.length : Int) then ((parterreref23_Right.f k a0 l1).bind fun t179 => (parterrelaw23_SpreadAll.j0 k a0 l1 l2 (!t179))) else (parterrelaw23_SpreadAll.j0 k a0 l1 l2 true))
theorem parterrelaw23_SpreadAll.mono_l : ∀ k, (∀ y0 y1 y2 y3, LeO (parterrelaw23_SpreadAll.j0 k y0 y1 y2 y3) (parterrelaw23_SpreadAll.j0 (k + 1) y0 y1 y2 y3)) ∧ (∀ y0 y1 y2 y3 y4 y5 y6 y7 y8, LeO (parterrelaw23_SpreadAll.l0 k y0 y1 y2 y3 y4 y5 y6 y7 y8) (parterrelaw23_SpreadAll.l0 (k + 1) y0 y1 y2 y3 y4 y5 y6 y7 y8)) ∧ (∀ y0 y1 y2 y3, LeO (parterrelaw23_SpreadAll.j2 k y0 y1 y2 y3) (parterrelaw23_SpreadAll.j2 (k + 1) y0 y1 y2 y3))
  | 0 => ⟨fun _ _ _ _ r h => by simp [parterrelaw23_SpreadAll.j0] at h, fun _ _ _ _ _ _ _ _ _ r h => by simp [parterrelaw23_SpreadAll.l0] at h, fun _ _ _ _ r h => by simp [parterrelaw23_SpreadAll.j2] at h⟩
  | k + 1 => by
    obtain ⟨ih0, ih1, ih2⟩ := parterrelaw23_SpreadAll.mono_l k
    refine ⟨?_, ?_, ?_⟩
    · intro y0 y1 y2 y3
      unfold parterrelaw23_SpreadAll.j0
      repeat' first
      | (with_reducible exact ih0 _ _ _ _)
      | (with_reducible exact ih1 _ _ _ _ _ _ _ _ _)
      | (with_reducible exact ih2 _ _ _ _)
      | (with_reducible exact parterrelaw23_lives.mono _)
      | (with_reducible exact parterreref23_Right.mono _ _ _)
      | (with_reducible exact spread_Fill.mono _ _ _ _)
      | (with_reducible exact LeO.refl _)
      | (with_reducible exact LeO.none _)
      | (with_reducible refine LeO.ite ?_ ?_)
      | (with_reducible refine LeO.bind ?_ (fun _ => ?_))
      | exact ih0 _ _ _ _
      | exact ih1 _ _ _ _ _ _ _ _ _
      | exact ih2 _ _ _ _
      | exact parterrelaw23_lives.mono _
      | exact parterreref23_Right.mono _ _ _
      | exact spread_Fill.mono _ _ _ _
      | exact LeO.none _
      | refine LeO.ite ?_ ?_
      | refine LeO.bind ?_ (fun _ => ?_)
    · intro y0 y1 y2 y3 y4 y5 y6 y7 y8
      unfold parterrelaw23_SpreadAll.l0
      repeat' first
      | (with_reducible exact ih0 _ _ _ _)
      | (with_reducible exact ih1 _ _ _ _ _ _ _ _ _)
      | (with_reducible exact ih2 _ _ _ _)
      | (with_reducible exact parterrelaw23_lives.mono _)
      | (with_reducible exact parterreref23_Right.mono _ _ _)
      | (with_reducible exact spread_Fill.mono _ _ _ _)
      | (with_reducible exact LeO.refl _)
      | (with_reducible exact LeO.none _)
      | (with_reducible refine LeO.ite ?_ ?_)
      | (with_reducible refine LeO.bind ?_ (fun _ => ?_))
      | exact ih0 _ _ _ _
      | exact ih1 _ _ _ _ _ _ _ _ _
      | exact ih2 _ _ _ _
      | exact parterrelaw23_lives.mono _
      | exact parterreref23_Right.mono _ _ _
      | exact spread_Fill.mono _ _ _ _
      | exact LeO.none _
      | refine LeO.ite ?_ ?_
      | refine LeO.bind ?_ (fun _ => ?_)
    · intro y0 y1 y2 y3
      unfold parterrelaw23_SpreadAll.j2
      repeat' first
      | (with_reducible exact ih0 _ _ _ _)
      | (with_reducible exact ih1 _ _ _ _ _ _ _ _ _)
      | (with_reducible exact ih2 _ _ _ _)
      | (with_reducible exact parterrelaw23_lives.mono _)
      | (with_reducible exact parterreref23_Right.mono _ _ _)
      | (with_reducible exact spread_Fill.mono _ _ _ _)
      | (with_reducible exact LeO.refl _)
      | (with_reducible exact LeO.none _)
      | (with_reducible refine LeO.ite ?_ ?_)
      | (with_reducible refine LeO.bind ?_ (fun _ => ?_))
      | exact ih0 _ _ _ _
      | exact ih1 _ _ _ _ _ _ _ _ _
      | exact ih2 _ _ _ _
      | exact parterrelaw23_lives.mono _
      | exact parterreref23_Right.mono _ _ _
      | exact spread_Fill.mono _ _ _ _
      | exact LeO.none _
      | refine LeO.ite ?_ ?_
      | refine LeO.bind ?_ (fun _ => ?_)
theorem parterrelaw23_SpreadAll.mono : ∀ a0 a1 a2 k, LeO (parterrelaw23_SpreadAll.f k a0 a1 a2) (parterrelaw23_SpreadAll.f (k + 1) a0 a1 a2) := by
  intro a0 a1 a2 k
  obtain ⟨ih0, ih1, ih2⟩ := parterrelaw23_SpreadAll.mono_l k
  unfold parterrelaw23_SpreadAll.f
  repeat' first
      | (with_reducible exact ih0 _ _ _ _)
      | (with_reducible exact ih1 _ _ _ _ _ _ _ _ _)
      | (with_reducible exact ih2 _ _ _ _)
      | (with_reducible exact parterrelaw23_lives.mono _)
      | (with_reducible exact parterreref23_Right.mono _ _ _)
      | (with_reducible exact spread_Fill.mono _ _ _ _)
      | (with_reducible exact LeO.refl _)
      | (with_reducible exact LeO.none _)
      | (with_reducible refine LeO.ite ?_ ?_)
      | (with_reducible refine LeO.bind ?_ (fun _ => ?_))
      | exact ih0 _ _ _ _
      | exact ih1 _ _ _ _ _ _ _ _ _
      | exact ih2 _ _ _ _
      | exact parterrelaw23_lives.mono _
      | exact parterreref23_Right.mono _ _ _
      | exact spread_Fill.mono _ _ _ _
      | exact LeO.none _
      | refine LeO.ite ?_ ?_
      | refine LeO.bind ?_ (fun _ => ?_)
set_option maxHeartbeats 8000000 in
set_option maxRecDepth 100000 in
theorem parterrelaw23_SpreadAll.calls (k : Nat) (a0 : Int) (A1 : Option Addr) (c1 : Nat) (l1 : List Int) (A2 : Option Addr) (c2 : Nat) (l2 : List Bool) (r : Bool) (w : World) (hr1 : Kd.C (Kd.int .i64) w A1 l1.length l1) (hc1 : l1.length ≤ c1) (hr2 : Kd.C Kd.bool w A2 l2.length l2) (hc2 : l2.length ≤ c2) (h : parterrelaw23_SpreadAll.f k a0 l1 l2 = some r) :
    Calls Try.prog 3 #[.int .i64 a0, .slice A1 l1.length c1, .slice A2 l2.length c2] w fun e w' => e = .returned (.bool r) ∧ Below w.heap.size w w' := by
  have HR1 := Aside0.mk hr1
  have HC1 := Aside0.mk hc1
  clear hr1 hc1
  have HR2 := Aside0.mk hr2
  have HC2 := Aside0.mk hc2
  clear hr2 hc2
  have HB := Aside0.mk (Below.refl w.heap.size w)
  have H : (if (l1.length : Int) > 300 then (parterrelaw23_SpreadAll.j0 k a0 l1 l2 true) else (if (l2.length : Int) = (l1.length : Int) then ((parterreref23_Right.f k a0 l1).bind fun t179 => (parterrelaw23_SpreadAll.j0 k a0 l1 l2 (!t179))) else (parterrelaw23_SpreadAll.j0 k a0 l1 l2 true))) = some r := h
  clear h
  have HC4 := Aside0.mk H
  clear H
  go_enter Try.func3, Try.ntmps3
  go_upto_region 1 with (fail)
  go_cut [28] (fun v28 wc => ∃ (kq : Nat) (x28_3 : Bool), v28 = .bool x28_3 ∧ Aside0 (parterrelaw23_SpreadAll.j0 kq a0 l1 l2 x28_3 = some r) ∧ Aside0 (kq ≤ k) ∧ Aside0 (Below w.heap.size w wc))
  case first =>
    have H := HC4.out
    clear HC4
    by_cases c5 : (l1.length : Int) > 300
    · rw [if_pos c5] at H
      have c5b0 : decide (300 < (l1.length : Int)) = true := decide_eq_true c5
      have c5b1 : decide (300 < l1.length) = true := decide_eq_true (by omega)
      clear c5
      (first | rw [c5b0] | (simp only [i64_w, i32_w]; rw [c5b0]) | skip)
      have H' := Aside0.mk H
      clear H
      go_wp2
      go_meet
      case rel => exact ⟨_, (true), pmAx6_1_, H', ⟨by first | omega | exact Nat.le_refl _⟩, ⟨by repeat (first | (with_reducible first | exact HB.out | apply below_alloc | apply pw_below_drewN | apply below_drew1) | exact HB.out)⟩⟩
    · rw [if_neg c5] at H
      have c5b0 : decide (300 < (l1.length : Int)) = false := decide_eq_false c5
      have c5b1 : decide (300 < l1.length) = false := decide_eq_false (by omega)
      clear c5
      (first | rw [c5b0] | (simp only [i64_w, i32_w]; rw [c5b0]) | skip)
      by_cases c6 : (l2.length : Int) = (l1.length : Int)
      · rw [if_pos c6] at H
        have c6b0 : ((l2.length : Int) == (l1.length : Int)) = true := beq_iff_eq.mpr c6
        have c6b1 : ((l2.length : Int) != (l1.length : Int)) = false := bne_eq_false_iff_eq.mpr c6
        have c6b2 : (l2.length == l1.length) = true := by first | simpa using c6 | (simp at c6 ⊢; omega)
        clear c6
        replace H := Option.bind_eq_some_iff.mp H
        obtain ⟨t179, A70, H⟩ := H
        replace H : (parterrelaw23_SpreadAll.j0 k a0 l1 l2 (!t179)) = some r := H
        have A7 := Aside0.mk A70
        clear A70
        have H' := Aside0.mk H
        clear H
        go_wp2_with (first | (go_at_call 6; (with_reducible refine (parterreref23_Right.calls k a0 _ _ l1 t179 _ ?side1 ?side2 A7.out).mono ?_); (case side1 => repeat (first | exact (Kd.C_below HR1.out HB.out) | (with_reducible refine Kd.C_alloc ?_ _) | (with_reducible refine Kd.C_drewN ?_ _) | (with_reducible refine Kd.C_drew ?_))); (case side2 => exact HC1.out); rintro e w' ⟨rfl, ⟨nd, rfl⟩⟩))
        go_meet
        case rel => exact ⟨_, (!t179), pmAx6_1_, H', ⟨by first | omega | exact Nat.le_refl _⟩, ⟨by repeat (first | (with_reducible first | exact HB.out | apply below_alloc | apply pw_below_drewN | apply below_drew1) | exact HB.out)⟩⟩
      · rw [if_neg c6] at H
        have c6b0 : ((l2.length : Int) == (l1.length : Int)) = false := beq_eq_false_iff_ne.mpr c6
        have c6b1 : ((l2.length : Int) != (l1.length : Int)) = true := bne_iff_ne.mpr c6
        have c6b2 : (l2.length == l1.length) = false := by first | simpa using c6 | (simp at c6 ⊢; omega)
        have H' := Aside0.mk H
        clear H
        go_wp2
        go_meet
        case rel => exact ⟨_, (true), pmAx6_1_, H', ⟨by first | omega | exact Nat.le_refl _⟩, ⟨by repeat (first | (with_reducible first | exact HB.out | apply below_alloc | apply pw_below_drewN | apply below_drew1) | exact HB.out)⟩⟩
  case rest =>
    clear HC4
    try clear c1
    try clear c2
    try clear p2
    try clear c3
    try clear c5
    try clear c5b0
    try clear c5b1
    try clear c6
    try clear c6b0
    try clear c6b1
    try clear c6b2
    obtain ⟨kq, x28_3, rfl, HA, HJ3, HB⟩ := hcut
    cases kq with
    | zero => exact absurd HA.out (by simp [parterrelaw23_SpreadAll.j0])
    | succ kj3 =>
      have H := HA.out
      clear HA
      simp only [parterrelaw23_SpreadAll.j0] at H
      by_cases c8 : x28_3 = true
      · subst c8
        have H1 : ((parterrelaw23_lives.f kj3).bind fun t180 => (some t180)) = some r := by rw [if_pos rfl] at H; exact H
        clear H
        have H := H1
        clear H1
        replace H := Option.bind_eq_some_iff.mp H
        obtain ⟨t180, A90, H⟩ := H
        replace H : (some t180) = some r := H
        have A9 := Aside0.mk A90
        clear A90
        obtain rfl := Option.some.inj H
        go_wp2_with (first | ((with_reducible refine gate_callee (f := 7) rfl ?_); refine goesL_ (some 29) rfl rfl Try.func7 (by kernel_rfl) rfl #[] rfl pmAx6_3_ ?_; (with_reducible refine (parterrelaw23_lives.calls kj3  t180 _ A9.out).mono ?_); rintro e w10 ⟨rfl, hb⟩; refine ⟨_, rfl, ?_⟩; have n0_ := Aside0.mk (below_step pmAx6_2_ hb); clear HB; have HB := n0_; clear n0_; (try clear hb); (try clear hb2); (try clear hk); (try clear hi)))
        go_ret
        exact ⟨by first | rfl | (simp [errW_none, errW_some] <;> rfl) | (simp [*, errW_none, errW_some] <;> rfl), by repeat (first | (with_reducible first | exact HB.out | apply below_alloc | apply pw_below_drewN | apply below_drew1) | exact HB.out)⟩
      · replace c8 := Bool.eq_false_iff.mpr c8
        subst c8
        have H1 : ((spread_Fill.f kj3 a0 l1 l2).bind fun t181 => (if (t181.length : Int) = (l1.length : Int) then (parterrelaw23_SpreadAll.l0 kj3 a0 l1 l2 0 0 false t181 (t181.length : Int) 0) else (some false))) = some r := by rw [if_neg (show ¬ (false = true) by decide)] at H; exact H
        clear H
        have H := H1
        clear H1
        replace H := Option.bind_eq_some_iff.mp H
        obtain ⟨t181, A110, H⟩ := H
        replace H : (if (t181.length : Int) = (l1.length : Int) then (parterrelaw23_SpreadAll.l0 kj3 a0 l1 l2 0 0 false t181 (t181.length : Int) 0) else (some false)) = some r := H
        have A11 := Aside0.mk A110
        clear A110
        by_cases c12 : (t181.length : Int) = (l1.length : Int)
        · rw [if_pos c12] at H
          have c12b0 : ((t181.length : Int) == (l1.length : Int)) = true := beq_iff_eq.mpr c12
          have c12b1 : ((t181.length : Int) != (l1.length : Int)) = false := bne_eq_false_iff_eq.mpr c12
          have c12b2 : (t181.length == l1.length) = true := by first | simpa using c12 | (simp at c12 ⊢; omega)
          clear c12
          have H' := Aside0.mk H
          clear H
          go_wp2_with (first | ((with_reducible refine gate_callee (f := 8) rfl ?_); refine goesL_ (some 33) rfl rfl Try.func8 (by kernel_rfl) rfl #[.int .i64 a0, .slice A1 l1.length c1, .slice A2 l2.length c2] rfl pmAx6_3_ ?_; (with_reducible refine (spread_Fill.calls kj3 a0 _ _ l1 _ _ l2 t181 _ ?side1 ?side2 ?side3 ?side4 A11.out).mono ?_); (case side1 => repeat (first | exact (Kd.C_below HR1.out HB.out) | (with_reducible refine Kd.C_alloc ?_ _) | (with_reducible refine Kd.C_drewN ?_ _) | (with_reducible refine Kd.C_drew ?_))); (case side2 => exact HC1.out); (case side3 => repeat (first | exact (Kd.C_below HR2.out HB.out) | (with_reducible refine Kd.C_alloc ?_ _) | (with_reducible refine Kd.C_drewN ?_ _) | (with_reducible refine Kd.C_drew ?_))); (case side4 => exact HC2.out); rintro e w13 ⟨v182, rfl, ho0, hb⟩; refine ⟨_, rfl, ?_⟩; have n0_ := Aside0.mk (Kd.R_lower ho0 (below_size pmAx6_2_)); have n1_ := Aside0.mk (below_step pmAx6_2_ hb); clear HB; have HO183 := n0_; have HB := n1_; clear n0_ n1_; (try clear hb); (try clear hb2); (try clear hk); (try clear hi); (try clear ho0); obtain ⟨Ao14, co14, eo14⟩ := Kd.R_slice HO183.out; subst eo14))
          go_loopg [8, 9, 10, 41] kj3 (fun kq v8 v9 v10 v41 w' => ∃ (x8_2 : Int) (x9_2 : Int) (x10_2 : Bool) (x41_2 : Int), v8 = .int .i64 x8_2 ∧ v9 = .int .i64 x9_2 ∧ v10 = .bool x10_2 ∧ v41 = .int .i64 x41_2 ∧ Aside0 (parterrelaw23_SpreadAll.l0 kq a0 l1 l2 x8_2 x9_2 x10_2 t181 (t181.length : Int) x41_2 = some r) ∧ Aside0 (kq ≤ kj3) ∧ Aside0 (Kd.R (Kd.int .i64) 3 w' w.heap.size (fun _ => True) (.slice Ao14 t181.length co14) t181) ∧ Aside0 (Below w.heap.size w w'))
          case atStart => exact ⟨(0), (0), (false), (0), pmAx6_1_, pmAx6_1_, pmAx6_1_, pmAx6_1_, H', ⟨Nat.le_refl _⟩, ⟨by (with_reducible repeat (first | apply Kd.R_alloc | apply Kd.R_drewN | apply Kd.R_drew)); exact HO183.out⟩, ⟨by repeat (first | (with_reducible first | exact HB.out | apply below_alloc | apply pw_below_drewN | apply below_drew1) | exact HB.out)⟩⟩
          case round =>
            clear H'
            try clear c1
            try clear c2
            try clear p2
            try clear c3
            try clear c5
            try clear c5b0
            try clear c5b1
            try clear c6
            try clear c6b0
            try clear c6b1
            try clear c6b2
            try clear c7
            try clear c8
            try clear c12
            try clear c12b0
            try clear c12b1
            try clear c12b2
            try clear p2
            obtain ⟨x8_2, x9_2, x10_2, x41_2, rfl, rfl, rfl, rfl, HA, HK2, HO_39, HB⟩ := hrel
            cases gk with
            | zero => exact absurd HA.out (by simp [parterrelaw23_SpreadAll.l0])
            | succ k2 =>
              have H := HA.out
              clear HA
              simp only [parterrelaw23_SpreadAll.l0] at H
              by_cases c15 : x41_2 < (t181.length : Int)
              · rw [if_pos c15] at H
                have c15b0 : decide (x41_2 < (t181.length : Int)) = true := decide_eq_true c15
                clear c15
                by_cases c16 : 0 ≤ x41_2
                · rw [if_pos c16] at H
                  have c16b0 : decide (0 ≤ x41_2) = true := decide_eq_true c16
                  clear c16
                  by_cases c17 : x41_2 < (t181.length : Int)
                  · rw [if_pos c17] at H
                    have c17b0 : decide (x41_2 < (t181.length : Int)) = true := decide_eq_true c17
                    clear c17
                    by_cases c18 : (rd t181 x41_2) < 0
                    · rw [if_pos c18] at H
                      have c18b0 : decide ((rd t181 x41_2) < 0) = true := decide_eq_true c18
                      clear c18
                      obtain rfl := Option.some.inj H
                      have p184 : 0 ≤ (x41_2 : Int) := of_decide_eq_true pmAx6_0_
                      have q184 : x41_2 < (t181.length : Int) := of_decide_eq_true pmAx6_0_
                      obtain ⟨ad184, e184, hx184_0⟩ := Kd.at_int (Kd.R_reads' HO_39.out).2.2 x41_2 p184 q184
                      cases e184
                      replace p184 := eq_true p184
                      replace q184 := eq_true q184
                      go_wp2
                      go_ret
                      exact ⟨by first | rfl | (simp [errW_none, errW_some] <;> rfl) | (simp [*, errW_none, errW_some] <;> rfl), by repeat (first | (with_reducible first | exact HB.out | apply below_alloc | apply pw_below_drewN | apply below_drew1) | exact HB.out)⟩
                    · rw [if_neg c18] at H
                      have c18b0 : decide ((rd t181 x41_2) < 0) = false := decide_eq_false c18
                      clear c18
                      by_cases c19 : x41_2 < (l1.length : Int)
                      · rw [if_pos c19] at H
                        have c19b0 : decide (x41_2 < (l1.length : Int)) = true := decide_eq_true c19
                        clear c19
                        by_cases c20 : (rd t181 x41_2) > (rd l1 x41_2)
                        · rw [if_pos c20] at H
                          have c20b0 : decide ((rd l1 x41_2) < (rd t181 x41_2)) = true := decide_eq_true c20
                          clear c20
                          by_cases c21 : x41_2 < (l2.length : Int)
                          · rw [if_pos c21] at H
                            have c21b0 : decide (x41_2 < (l2.length : Int)) = true := decide_eq_true c21
                            clear c21
                            obtain ⟨bq22, hbq22⟩ : ∃ b_ : Bool, b_ = (rdOf false l2 x41_2) := ⟨_, rfl⟩
                            replace H : (if bq22 = true then (if x10_2 = true then (parterrelaw23_SpreadAll.l0 k2 a0 l1 l2 (wrap64 (x8_2 + (rd t181 x41_2))) (mn 1125899906842624 (wrap64 (x9_2 + (rd l1 x41_2)))) true t181 (t181.length : Int) (wrap64 (x41_2 + 1))) else (parterrelaw23_SpreadAll.l0 k2 a0 l1 l2 (wrap64 (x8_2 + (rd t181 x41_2))) (mn 1125899906842624 (wrap64 (x9_2 + (rd l1 x41_2)))) bq22 t181 (t181.length : Int) (wrap64 (x41_2 + 1)))) else (some false)) = some r := by rw [← hbq22] at H; exact H
                            have Nbq22 := Aside0.mk hbq22
                            clear hbq22
                            by_cases c23 : bq22 = true
                            · subst c23
                              have H1 : (if x10_2 = true then (parterrelaw23_SpreadAll.l0 k2 a0 l1 l2 (wrap64 (x8_2 + (rd t181 x41_2))) (mn 1125899906842624 (wrap64 (x9_2 + (rd l1 x41_2)))) true t181 (t181.length : Int) (wrap64 (x41_2 + 1))) else (parterrelaw23_SpreadAll.l0 k2 a0 l1 l2 (wrap64 (x8_2 + (rd t181 x41_2))) (mn 1125899906842624 (wrap64 (x9_2 + (rd l1 x41_2)))) true t181 (t181.length : Int) (wrap64 (x41_2 + 1)))) = some r := by rw [if_pos rfl] at H; exact H
                              clear H
                              have H := H1
                              clear H1
                              obtain ⟨ji24, hji24⟩ : ∃ j_ : Int, (mn 1125899906842624 (wrap64 (x9_2 + (rd l1 x41_2)))) = j_ := ⟨_, rfl⟩
                              replace H : (if x10_2 = true then (parterrelaw23_SpreadAll.l0 k2 a0 l1 l2 (wrap64 (x8_2 + (rd t181 x41_2))) ji24 true t181 (t181.length : Int) (wrap64 (x41_2 + 1))) else (parterrelaw23_SpreadAll.l0 k2 a0 l1 l2 (wrap64 (x8_2 + (rd t181 x41_2))) ji24 true t181 (t181.length : Int) (wrap64 (x41_2 + 1)))) = some r := by first | (rw [hji24] at H; exact H) | (simp only [hji24] at H ⊢; exact H)
                              have hji24_ : (if (wrap64 (x9_2 + (rd l1 x41_2))) < 1125899906842624 then (wrap64 (x9_2 + (rd l1 x41_2))) else 1125899906842624) = ji24 := hji24
                              by_cases c25 : x10_2 = true
                              · subst c25
                                have H1 : (parterrelaw23_SpreadAll.l0 k2 a0 l1 l2 (wrap64 (x8_2 + (rd t181 x41_2))) ji24 true t181 (t181.length : Int) (wrap64 (x41_2 + 1))) = some r := by rw [if_pos rfl] at H; exact H
                                clear H
                                have H := H1
                                clear H1
                                have H' := Aside0.mk H
                                clear H
                                have p184 : 0 ≤ (x41_2 : Int) := of_decide_eq_true pmAx6_0_
                                have q184 : x41_2 < (t181.length : Int) := of_decide_eq_true pmAx6_0_
                                obtain ⟨ad184, e184, hx184_0⟩ := Kd.at_int (Kd.R_reads' HO_39.out).2.2 x41_2 p184 q184
                                cases e184
                                replace p184 := eq_true p184
                                replace q184 := eq_true q184
                                have p185 : 0 ≤ (x41_2 : Int) := of_decide_eq_true pmAx6_0_
                                have q185 : x41_2 < (l1.length : Int) := of_decide_eq_true pmAx6_0_
                                obtain ⟨ad185, e185, hx185_0⟩ := Kd.at_int HR1.out x41_2 p185 q185
                                cases e185
                                replace hx185_0 := (HB.out.cell (World.block_lt_of_cell? w _ hx185_0)).trans hx185_0
                                replace p185 := eq_true p185
                                replace q185 := eq_true q185
                                have p186 : 0 ≤ (x41_2 : Int) := of_decide_eq_true pmAx6_0_
                                have q186 : x41_2 < (l2.length : Int) := of_decide_eq_true pmAx6_0_
                                obtain ⟨ad186, e186, hx186_0⟩ := Kd.at_bool HR2.out x41_2 p186 q186
                                (try rw [← Nbq22.out] at hx186_0)
                                cases e186
                                replace hx186_0 := (HB.out.cell (World.block_lt_of_cell? w _ hx186_0)).trans hx186_0
                                replace p186 := eq_true p186
                                replace q186 := eq_true q186
                                have p187 : 0 ≤ (x41_2 : Int) := of_decide_eq_true pmAx6_0_
                                have q187 : x41_2 < (l1.length : Int) := of_decide_eq_true pmAx6_0_
                                obtain ⟨ad187, e187, hx187_0⟩ := Kd.at_int HR1.out x41_2 p187 q187
                                obtain rfl : ad185 = ad187 := (by injection e187)
                                replace hx187_0 := (HB.out.cell (World.block_lt_of_cell? w _ hx187_0)).trans hx187_0
                                replace p187 := eq_true p187
                                replace q187 := eq_true q187
                                go_wp2
                                go_roundg k2
                                case measure => have := HJ3.out; have := HK2.out; omega
                                case rel => exact ⟨(wrap64 (x8_2 + (rd t181 x41_2))), (ji24), (true), (wrap64 (x41_2 + 1)), pmAx6_1_, (by first | rfl | (simp; done) | (simp only [← hji24] <;> (first | rfl | simp)) | (simp [*]; done)), pmAx6_1_, pmAx6_1_, H', ⟨by have := HJ3.out; have := HK2.out; omega⟩, ⟨by (with_reducible repeat (first | apply Kd.R_alloc | apply Kd.R_drewN | apply Kd.R_drew)); exact HO_39.out⟩, ⟨by repeat (first | (with_reducible first | exact HB.out | apply below_alloc | apply pw_below_drewN | apply below_drew1) | exact HB.out)⟩⟩
                              · replace c25 := Bool.eq_false_iff.mpr c25
                                subst c25
                                have H1 : (parterrelaw23_SpreadAll.l0 k2 a0 l1 l2 (wrap64 (x8_2 + (rd t181 x41_2))) ji24 true t181 (t181.length : Int) (wrap64 (x41_2 + 1))) = some r := by rw [if_neg (show ¬ (false = true) by decide)] at H; exact H
                                clear H
                                have H := H1
                                clear H1
                                have H' := Aside0.mk H
                                clear H
                                have p184 : 0 ≤ (x41_2 : Int) := of_decide_eq_true pmAx6_0_
                                have q184 : x41_2 < (t181.length : Int) := of_decide_eq_true pmAx6_0_
                                obtain ⟨ad184, e184, hx184_0⟩ := Kd.at_int (Kd.R_reads' HO_39.out).2.2 x41_2 p184 q184
                                cases e184
                                replace p184 := eq_true p184
                                replace q184 := eq_true q184
                                have p185 : 0 ≤ (x41_2 : Int) := of_decide_eq_true pmAx6_0_
                                have q185 : x41_2 < (l1.length : Int) := of_decide_eq_true pmAx6_0_
                                obtain ⟨ad185, e185, hx185_0⟩ := Kd.at_int HR1.out x41_2 p185 q185
                                cases e185
                                replace hx185_0 := (HB.out.cell (World.block_lt_of_cell? w _ hx185_0)).trans hx185_0
                                replace p185 := eq_true p185
                                replace q185 := eq_true q185
                                have p186 : 0 ≤ (x41_2 : Int) := of_decide_eq_true pmAx6_0_
                                have q186 : x41_2 < (l2.length : Int) := of_decide_eq_true pmAx6_0_
                                obtain ⟨ad186, e186, hx186_0⟩ := Kd.at_bool HR2.out x41_2 p186 q186
                                (try rw [← Nbq22.out] at hx186_0)
                                cases e186
                                replace hx186_0 := (HB.out.cell (World.block_lt_of_cell? w _ hx186_0)).trans hx186_0
                                replace p186 := eq_true p186
                                replace q186 := eq_true q186
                                have p187 : 0 ≤ (x41_2 : Int) := of_decide_eq_true pmAx6_0_
                                have q187 : x41_2 < (l1.length : Int) := of_decide_eq_true pmAx6_0_
                                obtain ⟨ad187, e187, hx187_0⟩ := Kd.at_int HR1.out x41_2 p187 q187
                                obtain rfl : ad185 = ad187 := (by injection e187)
                                replace hx187_0 := (HB.out.cell (World.block_lt_of_cell? w _ hx187_0)).trans hx187_0
                                replace p187 := eq_true p187
                                replace q187 := eq_true q187
                                have p188 : 0 ≤ (x41_2 : Int) := of_decide_eq_true pmAx6_0_
                                have q188 : x41_2 < (l2.length : Int) := of_decide_eq_true pmAx6_0_
                                obtain ⟨ad188, e188, hx188_0⟩ := Kd.at_bool HR2.out x41_2 p188 q188
                                (try rw [← Nbq22.out] at hx188_0)
                                obtain rfl : ad186 = ad188 := (by injection e188)
                                replace hx188_0 := (HB.out.cell (World.block_lt_of_cell? w _ hx188_0)).trans hx188_0
                                replace p188 := eq_true p188
                                replace q188 := eq_true q188
                                go_wp2
                                go_roundg k2
                                case measure => have := HJ3.out; have := HK2.out; omega
                                case rel => exact ⟨(wrap64 (x8_2 + (rd t181 x41_2))), (ji24), (true), (wrap64 (x41_2 + 1)), pmAx6_1_, (by first | rfl | (simp; done) | (simp only [← hji24] <;> (first | rfl | simp)) | (simp [*]; done)), pmAx6_1_, pmAx6_1_, H', ⟨by have := HJ3.out; have := HK2.out; omega⟩, ⟨by (with_reducible repeat (first | apply Kd.R_alloc | apply Kd.R_drewN | apply Kd.R_drew)); exact HO_39.out⟩, ⟨by repeat (first | (with_reducible first | exact HB.out | apply below_alloc | apply pw_below_drewN | apply below_drew1) | exact HB.out)⟩⟩
                            · replace c23 := Bool.eq_false_iff.mpr c23
                              subst c23
                              have H1 : (some false) = some r := by rw [if_neg (show ¬ (false = true) by decide)] at H; exact H
                              clear H
                              have H := H1
                              clear H1
                              obtain rfl := Option.some.inj H
                              have p184 : 0 ≤ (x41_2 : Int) := of_decide_eq_true pmAx6_0_
                              have q184 : x41_2 < (t181.length : Int) := of_decide_eq_true pmAx6_0_
                              obtain ⟨ad184, e184, hx184_0⟩ := Kd.at_int (Kd.R_reads' HO_39.out).2.2 x41_2 p184 q184
                              cases e184
                              replace p184 := eq_true p184
                              replace q184 := eq_true q184
                              have p185 : 0 ≤ (x41_2 : Int) := of_decide_eq_true pmAx6_0_
                              have q185 : x41_2 < (l1.length : Int) := of_decide_eq_true pmAx6_0_
                              obtain ⟨ad185, e185, hx185_0⟩ := Kd.at_int HR1.out x41_2 p185 q185
                              cases e185
                              replace hx185_0 := (HB.out.cell (World.block_lt_of_cell? w _ hx185_0)).trans hx185_0
                              replace p185 := eq_true p185
                              replace q185 := eq_true q185
                              have p186 : 0 ≤ (x41_2 : Int) := of_decide_eq_true pmAx6_0_
                              have q186 : x41_2 < (l2.length : Int) := of_decide_eq_true pmAx6_0_
                              obtain ⟨ad186, e186, hx186_0⟩ := Kd.at_bool HR2.out x41_2 p186 q186
                              (try rw [← Nbq22.out] at hx186_0)
                              cases e186
                              replace hx186_0 := (HB.out.cell (World.block_lt_of_cell? w _ hx186_0)).trans hx186_0
                              replace p186 := eq_true p186
                              replace q186 := eq_true q186
                              go_wp2
                              go_ret
                              exact ⟨by first | rfl | (simp [errW_none, errW_some] <;> rfl) | (simp [*, errW_none, errW_some] <;> rfl), by repeat (first | (with_reducible first | exact HB.out | apply below_alloc | apply pw_below_drewN | apply below_drew1) | exact HB.out)⟩
                          · rw [if_neg c21] at H
                            exact absurd H (by simp)
                        · rw [if_neg c20] at H
                          have c20b0 : decide ((rd l1 x41_2) < (rd t181 x41_2)) = false := decide_eq_false c20
                          clear c20
                          obtain ⟨ji26, hji26⟩ : ∃ j_ : Int, (mn 1125899906842624 (wrap64 (x9_2 + (rd l1 x41_2)))) = j_ := ⟨_, rfl⟩
                          replace H : (if x10_2 = true then (parterrelaw23_SpreadAll.l0 k2 a0 l1 l2 (wrap64 (x8_2 + (rd t181 x41_2))) ji26 true t181 (t181.length : Int) (wrap64 (x41_2 + 1))) else (if x41_2 < (l2.length : Int) then (parterrelaw23_SpreadAll.l0 k2 a0 l1 l2 (wrap64 (x8_2 + (rd t181 x41_2))) ji26 (rdOf false l2 x41_2) t181 (t181.length : Int) (wrap64 (x41_2 + 1))) else (none))) = some r := by first | (rw [hji26] at H; exact H) | (simp only [hji26] at H ⊢; exact H)
                          have hji26_ : (if (wrap64 (x9_2 + (rd l1 x41_2))) < 1125899906842624 then (wrap64 (x9_2 + (rd l1 x41_2))) else 1125899906842624) = ji26 := hji26
                          by_cases c27 : x10_2 = true
                          · subst c27
                            have H1 : (parterrelaw23_SpreadAll.l0 k2 a0 l1 l2 (wrap64 (x8_2 + (rd t181 x41_2))) ji26 true t181 (t181.length : Int) (wrap64 (x41_2 + 1))) = some r := by rw [if_pos rfl] at H; exact H
                            clear H
                            have H := H1
                            clear H1
                            have H' := Aside0.mk H
                            clear H
                            have p184 : 0 ≤ (x41_2 : Int) := of_decide_eq_true pmAx6_0_
                            have q184 : x41_2 < (t181.length : Int) := of_decide_eq_true pmAx6_0_
                            obtain ⟨ad184, e184, hx184_0⟩ := Kd.at_int (Kd.R_reads' HO_39.out).2.2 x41_2 p184 q184
                            cases e184
                            replace p184 := eq_true p184
                            replace q184 := eq_true q184
                            have p185 : 0 ≤ (x41_2 : Int) := of_decide_eq_true pmAx6_0_
                            have q185 : x41_2 < (l1.length : Int) := of_decide_eq_true pmAx6_0_
                            obtain ⟨ad185, e185, hx185_0⟩ := Kd.at_int HR1.out x41_2 p185 q185
                            cases e185
                            replace hx185_0 := (HB.out.cell (World.block_lt_of_cell? w _ hx185_0)).trans hx185_0
                            replace p185 := eq_true p185
                            replace q185 := eq_true q185
                            have p189 : 0 ≤ (x41_2 : Int) := of_decide_eq_true pmAx6_0_
                            have q189 : x41_2 < (l1.length : Int) := of_decide_eq_true pmAx6_0_
                            obtain ⟨ad189, e189, hx189_0⟩ := Kd.at_int HR1.out x41_2 p189 q189
                            obtain rfl : ad185 = ad189 := (by injection e189)
                            replace hx189_0 := (HB.out.cell (World.block_lt_of_cell? w _ hx189_0)).trans hx189_0
                            replace p189 := eq_true p189
                            replace q189 := eq_true q189
                            go_wp2
                            go_roundg k2
                            case measure => have := HJ3.out; have := HK2.out; omega
                            case rel => exact ⟨(wrap64 (x8_2 + (rd t181 x41_2))), (ji26), (true), (wrap64 (x41_2 + 1)), pmAx6_1_, (by first | rfl | (simp; done) | (simp only [← hji26] <;> (first | rfl | simp)) | (simp [*]; done)), pmAx6_1_, pmAx6_1_, H', ⟨by have := HJ3.out; have := HK2.out; omega⟩, ⟨by (with_reducible repeat (first | apply Kd.R_alloc | apply Kd.R_drewN | apply Kd.R_drew)); exact HO_39.out⟩, ⟨by repeat (first | (with_reducible first | exact HB.out | apply below_alloc | apply pw_below_drewN | apply below_drew1) | exact HB.out)⟩⟩
                          · replace c27 := Bool.eq_false_iff.mpr c27
                            subst c27
                            have H1 : (if x41_2 < (l2.length : Int) then (parterrelaw23_SpreadAll.l0 k2 a0 l1 l2 (wrap64 (x8_2 + (rd t181 x41_2))) ji26 (rdOf false l2 x41_2) t181 (t181.length : Int) (wrap64 (x41_2 + 1))) else (none)) = some r := by rw [if_neg (show ¬ (false = true) by decide)] at H; exact H
                            clear H
                            have H := H1
                            clear H1
                            by_cases c28 : x41_2 < (l2.length : Int)
                            · rw [if_pos c28] at H
                              have c28b0 : decide (x41_2 < (l2.length : Int)) = true := decide_eq_true c28
                              clear c28
                              have H' := Aside0.mk H
                              clear H
                              have p184 : 0 ≤ (x41_2 : Int) := of_decide_eq_true pmAx6_0_
                              have q184 : x41_2 < (t181.length : Int) := of_decide_eq_true pmAx6_0_
                              obtain ⟨ad184, e184, hx184_0⟩ := Kd.at_int (Kd.R_reads' HO_39.out).2.2 x41_2 p184 q184
                              cases e184
                              replace p184 := eq_true p184
                              replace q184 := eq_true q184
                              have p185 : 0 ≤ (x41_2 : Int) := of_decide_eq_true pmAx6_0_
                              have q185 : x41_2 < (l1.length : Int) := of_decide_eq_true pmAx6_0_
                              obtain ⟨ad185, e185, hx185_0⟩ := Kd.at_int HR1.out x41_2 p185 q185
                              cases e185
                              replace hx185_0 := (HB.out.cell (World.block_lt_of_cell? w _ hx185_0)).trans hx185_0
                              replace p185 := eq_true p185
                              replace q185 := eq_true q185
                              have p189 : 0 ≤ (x41_2 : Int) := of_decide_eq_true pmAx6_0_
                              have q189 : x41_2 < (l1.length : Int) := of_decide_eq_true pmAx6_0_
                              obtain ⟨ad189, e189, hx189_0⟩ := Kd.at_int HR1.out x41_2 p189 q189
                              obtain rfl : ad185 = ad189 := (by injection e189)
                              replace hx189_0 := (HB.out.cell (World.block_lt_of_cell? w _ hx189_0)).trans hx189_0
                              replace p189 := eq_true p189
                              replace q189 := eq_true q189
                              have p190 : 0 ≤ (x41_2 : Int) := of_decide_eq_true pmAx6_0_
                              have q190 : x41_2 < (l2.length : Int) := of_decide_eq_true pmAx6_0_
                              obtain ⟨ad190, e190, hx190_0⟩ := Kd.at_bool HR2.out x41_2 p190 q190
                              cases e190
                              replace hx190_0 := (HB.out.cell (World.block_lt_of_cell? w _ hx190_0)).trans hx190_0
                              replace p190 := eq_true p190
                              replace q190 := eq_true q190
                              go_wp2
                              go_roundg k2
                              case measure => have := HJ3.out; have := HK2.out; omega
                              case rel => exact ⟨(wrap64 (x8_2 + (rd t181 x41_2))), (ji26), (rdOf false l2 x41_2), (wrap64 (x41_2 + 1)), pmAx6_1_, (by first | rfl | (simp; done) | (simp only [← hji26] <;> (first | rfl | simp)) | (simp [*]; done)), pmAx6_1_, pmAx6_1_, H', ⟨by have := HJ3.out; have := HK2.out; omega⟩, ⟨by (with_reducible repeat (first | apply Kd.R_alloc | apply Kd.R_drewN | apply Kd.R_drew)); exact HO_39.out⟩, ⟨by repeat (first | (with_reducible first | exact HB.out | apply below_alloc | apply pw_below_drewN | apply below_drew1) | exact HB.out)⟩⟩
                            · rw [if_neg c28] at H
                              exact absurd H (by simp)
                      · rw [if_neg c19] at H
                        exact absurd H (by simp)
                  · rw [if_neg c17] at H
                    exact absurd H (by simp)
                · rw [if_neg c16] at H
                  exact absurd H (by simp)
              · rw [if_neg c15] at H
                have c15b0 : decide (x41_2 < (t181.length : Int)) = false := decide_eq_false c15
                clear c15
                have HC29 := Aside0.mk H
                clear H
                go_upto_region 16 with (fail)
                go_cut [86] (fun v86 wc => ∃ (kq : Nat) (x86_28 : Bool), v86 = .bool x86_28 ∧ Aside0 (parterrelaw23_SpreadAll.j2 kq a0 x8_2 x9_2 x86_28 = some r) ∧ Aside0 (kq ≤ k2) ∧ Aside0 (Below w.heap.size w wc))
                case first =>
                  have H := HC29.out
                  clear HC29
                  by_cases c30 : x10_2 = true
                  · subst c30
                    have H1 : (parterrelaw23_SpreadAll.j2 k2 a0 x8_2 x9_2 true) = some r := by rw [if_pos rfl] at H; exact H
                    clear H
                    have H := H1
                    clear H1
                    have H' := Aside0.mk H
                    clear H
                    go_wp2
                    go_meet
                    case rel => exact ⟨_, (true), pmAx6_1_, H', ⟨by have := HJ3.out; have := HK2.out; first | omega | exact Nat.le_refl _⟩, ⟨by repeat (first | (with_reducible first | exact HB.out | apply below_alloc | apply pw_below_drewN | apply below_drew1) | exact HB.out)⟩⟩
                  · replace c30 := Bool.eq_false_iff.mpr c30
                    subst c30
                    have H1 : (parterrelaw23_SpreadAll.j2 k2 a0 x8_2 x9_2 (decide (x9_2 ≥ a0))) = some r := by rw [if_neg (show ¬ (false = true) by decide)] at H; exact H
                    clear H
                    have H := H1
                    clear H1
                    have H' := Aside0.mk H
                    clear H
                    go_wp2
                    go_meet
                    case rel => exact ⟨_, (decide (x9_2 ≥ a0)), pmAx6_1_, H', ⟨by have := HJ3.out; have := HK2.out; first | omega | exact Nat.le_refl _⟩, ⟨by repeat (first | (with_reducible first | exact HB.out | apply below_alloc | apply pw_below_drewN | apply below_drew1) | exact HB.out)⟩⟩
                case rest =>
                  clear HC29
                  try clear c1
                  try clear p1
                  try clear q1
                  try clear hx1
                  try clear c2
                  try clear p2
                  try clear q2
                  try clear c3
                  try clear c5
                  try clear c5b0
                  try clear c5b1
                  try clear c6
                  try clear c6b0
                  try clear c6b1
                  try clear c6b2
                  try clear p6
                  try clear c7
                  try clear c8
                  try clear c12
                  try clear c12b0
                  try clear c12b1
                  try clear c12b2
                  try clear c15
                  try clear c15b0
                  try clear c16
                  try clear c16b0
                  try clear c17
                  try clear c17b0
                  try clear c18
                  try clear c18b0
                  try clear p18
                  try clear q18
                  try clear hx18
                  try clear c19
                  try clear c19b0
                  try clear p19
                  try clear q19
                  try clear hx19
                  try clear c20
                  try clear c20b0
                  try clear c21
                  try clear c21b0
                  try clear q22
                  try clear c23
                  try clear c25
                  try clear c27
                  try clear c28
                  try clear c28b0
                  try clear c30
                  try clear hx184_0
                  try clear hx185_0
                  try clear hx186_0
                  try clear hx187_0
                  try clear hx188_0
                  try clear hx189_0
                  try clear hx190_0
                  try clear p184
                  try clear p185
                  try clear p186
                  try clear p187
                  try clear p188
                  try clear p189
                  try clear p190
                  try clear p2
                  try clear q184
                  try clear q185
                  try clear q186
                  try clear q187
                  try clear q188
                  try clear q189
                  try clear q190
                  obtain ⟨kq, x86_28, rfl, HA, HJ28, HB⟩ := hcut
                  cases kq with
                  | zero => exact absurd HA.out (by simp [parterrelaw23_SpreadAll.j2])
                  | succ kj28 =>
                    have H := HA.out
                    clear HA
                    simp only [parterrelaw23_SpreadAll.j2] at H
                    by_cases c31 : x86_28 = true
                    · subst c31
                      have H1 : (if x8_2 = a0 then ((parterrelaw23_lives.f kj28).bind fun t191 => (some t191)) else (some false)) = some r := by rw [if_pos rfl] at H; exact H
                      clear H
                      have H := H1
                      clear H1
                      by_cases c32 : x8_2 = a0
                      · rw [if_pos c32] at H
                        have c32b0 : (x8_2 == a0) = true := beq_iff_eq.mpr c32
                        have c32b1 : (x8_2 != a0) = false := bne_eq_false_iff_eq.mpr c32
                        clear c32
                        replace H := Option.bind_eq_some_iff.mp H
                        obtain ⟨t191, A330, H⟩ := H
                        replace H : (some t191) = some r := H
                        have A33 := Aside0.mk A330
                        clear A330
                        obtain rfl := Option.some.inj H
                        go_wp2_with (first | (go_at_call 7; (with_reducible refine (parterrelaw23_lives.calls kj28  t191 _ A33.out).mono ?_); rintro e w34 ⟨rfl, hb⟩; have n0_ := Aside0.mk (below_step pmAx6_2_ hb); clear HB; have HB := n0_; clear n0_; (try clear hb); (try clear hb2); (try clear hk); (try clear hi)))
                        go_ret
                        exact ⟨by first | rfl | (simp [errW_none, errW_some] <;> rfl) | (simp [*, errW_none, errW_some] <;> rfl), by repeat (first | (with_reducible first | exact HB.out | apply below_alloc | apply pw_below_drewN | apply below_drew1) | exact HB.out)⟩
                      · rw [if_neg c32] at H
                        have c32b0 : (x8_2 == a0) = false := beq_eq_false_iff_ne.mpr c32
                        have c32b1 : (x8_2 != a0) = true := bne_iff_ne.mpr c32
                        obtain rfl := Option.some.inj H
                        go_wp2
                        go_ret
                        exact ⟨by first | rfl | (simp [errW_none, errW_some] <;> rfl) | (simp [*, errW_none, errW_some] <;> rfl), by repeat (first | (with_reducible first | exact HB.out | apply below_alloc | apply pw_below_drewN | apply below_drew1) | exact HB.out)⟩
                    · replace c31 := Bool.eq_false_iff.mpr c31
                      subst c31
                      have H1 : (if x8_2 = x9_2 then ((parterrelaw23_lives.f kj28).bind fun t192 => (some t192)) else (some false)) = some r := by rw [if_neg (show ¬ (false = true) by decide)] at H; exact H
                      clear H
                      have H := H1
                      clear H1
                      by_cases c35 : x8_2 = x9_2
                      · rw [if_pos c35] at H
                        have c35b0 : (x8_2 == x9_2) = true := beq_iff_eq.mpr c35
                        have c35b1 : (x8_2 != x9_2) = false := bne_eq_false_iff_eq.mpr c35
                        clear c35
                        replace H := Option.bind_eq_some_iff.mp H
                        obtain ⟨t192, A360, H⟩ := H
                        replace H : (some t192) = some r := H
                        have A36 := Aside0.mk A360
                        clear A360
                        obtain rfl := Option.some.inj H
                        go_wp2_with (first | (go_at_call 7; (with_reducible refine (parterrelaw23_lives.calls kj28  t192 _ A36.out).mono ?_); rintro e w37 ⟨rfl, hb⟩; have n0_ := Aside0.mk (below_step pmAx6_2_ hb); clear HB; have HB := n0_; clear n0_; (try clear hb); (try clear hb2); (try clear hk); (try clear hi)))
                        go_ret
                        exact ⟨by first | rfl | (simp [errW_none, errW_some] <;> rfl) | (simp [*, errW_none, errW_some] <;> rfl), by repeat (first | (with_reducible first | exact HB.out | apply below_alloc | apply pw_below_drewN | apply below_drew1) | exact HB.out)⟩
                      · rw [if_neg c35] at H
                        have c35b0 : (x8_2 == x9_2) = false := beq_eq_false_iff_ne.mpr c35
                        have c35b1 : (x8_2 != x9_2) = true := bne_iff_ne.mpr c35
                        obtain rfl := Option.some.inj H
                        go_wp2
                        go_ret
                        exact ⟨by first | rfl | (simp [errW_none, errW_some] <;> rfl) | (simp [*, errW_none, errW_some] <;> rfl), by repeat (first | (with_reducible first | exact HB.out | apply below_alloc | apply pw_below_drewN | apply below_drew1) | exact HB.out)⟩
        · rw [if_neg c12] at H
          have c12b0 : ((t181.length : Int) == (l1.length : Int)) = false := beq_eq_false_iff_ne.mpr c12
          have c12b1 : ((t181.length : Int) != (l1.length : Int)) = true := bne_iff_ne.mpr c12
          have c12b2 : (t181.length == l1.length) = false := by first | simpa using c12 | (simp at c12 ⊢; omega)
          obtain rfl := Option.some.inj H
          go_wp2_with (first | ((with_reducible refine gate_callee (f := 8) rfl ?_); refine goesL_ (some 33) rfl rfl Try.func8 (by kernel_rfl) rfl #[.int .i64 a0, .slice A1 l1.length c1, .slice A2 l2.length c2] rfl pmAx6_3_ ?_; (with_reducible refine (spread_Fill.calls kj3 a0 _ _ l1 _ _ l2 t181 _ ?side1 ?side2 ?side3 ?side4 A11.out).mono ?_); (case side1 => repeat (first | exact (Kd.C_below HR1.out HB.out) | (with_reducible refine Kd.C_alloc ?_ _) | (with_reducible refine Kd.C_drewN ?_ _) | (with_reducible refine Kd.C_drew ?_))); (case side2 => exact HC1.out); (case side3 => repeat (first | exact (Kd.C_below HR2.out HB.out) | (with_reducible refine Kd.C_alloc ?_ _) | (with_reducible refine Kd.C_drewN ?_ _) | (with_reducible refine Kd.C_drew ?_))); (case side4 => exact HC2.out); rintro e w38 ⟨v182, rfl, ho0, hb⟩; refine ⟨_, rfl, ?_⟩; have n0_ := Aside0.mk (Kd.R_lower ho0 (below_size pmAx6_2_)); have n1_ := Aside0.mk (below_step pmAx6_2_ hb); clear HB; have HO183 := n0_; have HB := n1_; clear n0_ n1_; (try clear hb); (try clear hb2); (try clear hk); (try clear hi); (try clear ho0); obtain ⟨Ao39, co39, eo39⟩ := Kd.R_slice HO183.out; subst eo39))
          go_ret
          exact ⟨by first | rfl | (simp [errW_none, errW_some] <;> rfl) | (simp [*, errW_none, errW_some] <;> rfl), by repeat (first | (with_reducible first | exact HB.out | apply below_alloc | apply pw_below_drewN | apply below_drew1) | exact HB.out)⟩
/-- THE ONE PURE STATEMENT of parterrelaw23_SpreadAll. -/
def parterrelaw23_SpreadAll.Pure : Prop := ∀ (a0 : Int) (l1 : List Int) (l2 : List Bool), (Lit.int .i64 a0).wf = true → l1.length ≤ 9223372036854775807 → l1.length * 8 ≤ 140737488351232 → (∀ e_ ∈ l1, (Lit.int .i64 e_).wf = true) → l2.length ≤ 9223372036854775807 → l2.length * 1 ≤ 140737488351232 → (∀ e_ ∈ l2, True) → ∃ k, parterrelaw23_SpreadAll.f k a0 l1 l2 = some true

end Go.Proofs.Ytecccaniopkphaa.PA
