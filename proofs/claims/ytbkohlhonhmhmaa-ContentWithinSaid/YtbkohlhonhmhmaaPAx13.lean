-- written by a program of this session (a print of the translation with changes of its own)
import Derived.Test.YtbkohlhonhmhmaaPAx0
import Derived.Test.YtbkohlhonhmhmaaPAx12
namespace Go.Proofs.Ytbkohlhonhmhmaa.PA
open Go.RowKit Go.Proofs.YtbkohlhonhmhmaaW.PrintWords Go.Proofs.YtbkohlhonhmhmaaW.PrintLast Go.Proofs.YtbkohlhonhmhmaaW.PrintMore
theorem pmAx13_0_ {P : Prop} (h : P := by repeat (first | (with_reducible first | exact HB.out | apply below_alloc | apply pw_below_drewN | apply below_drew1 | refine below_set ?_ GE265.out) | exact HB.out)) : P := h
theorem pmAx13_1_ {P : Prop} (h : P := by first | (with_reducible assumption) | assumption) : P := h
theorem pmAx13_2_ {P : Prop} (h : P := by (with_reducible repeat (first | refine blk_drewN ?_ _ | refine blk_drew ?_ | refine blk_alloc ?_ _)); exact BK265.out) : P := h
theorem pmAx13_3_ {P : Prop} (h : P := by (try simp only [List.map_toArray, List.map_cons, List.map_nil]); first | done | rfl | (simp only [List.length_drop, List.length_take]; rfl)) : P := h
theorem pmAx13_4_ {P : Prop} (h : P := by first | rfl | (simp; done) | (simp [*]; done)) : P := h
theorem pmAx13_5_ {P : Prop} (h : P := by repeat (first | (with_reducible first | exact HB.out | apply below_alloc | apply pw_below_drewN | apply below_drew1) | exact HB.out)) : P := h
attribute [local go_sem] run_index_arr max2_int min2_int max_two min_two max_three min_three max_four min_four   -- for this text's walks alone
set_option linter.unusedVariables false
set_option linter.unusedSimpArgs false

/-! ### parterreref21_Good: function 28 -/
mutual
def parterreref21_Good.j0 : Nat → Bool → Int → List (S57) → List Bool → List Int → Option (Bool)
  | 0, _, _, _, _, _ => none
  | k + 1, x35, x266000, x266001, x266002, x266003 => if x35 = true then (some false) else (parterreref21_Good.l0 k 0 x266000 x266001 x266002 x266003)
def parterreref21_Good.l0 : Nat → Int → Int → List (S57) → List Bool → List Int → Option (Bool)
  | 0, _, _, _, _, _ => none
  | k + 1, x3, x266000, x266001, x266002, x266003 => if x3 < (x266001.length : Int) then (if 0 ≤ x3 then ((parterreref06_Right.f k ((rd_T57 x266001 x3).f0.f0) ((rd_T57 x266001 x3).f0.f1) ((rd_T57 x266001 x3).f1.f0) ((rd_T57 x266001 x3).f1.f1) ((rd_T57 x266001 x3).f2) ((rd_T57 x266001 x3).f3.f0) ((rd_T57 x266001 x3).f3.f1)).bind fun t267 => (if t267 = true then (if x3 < (x266003.length : Int) then ((parterreref21_within.f (rd x266003 x3)).bind fun t269 => (if t269 = true then (if x3 = 0 then (if (rd x266003 x3) = 0 then (parterreref21_Good.l0 k (wrap64 (x3 + 1)) x266000 x266001 x266002 x266003) else (some false)) else (if x3 < (x266002.length : Int) then (if rdOf false x266002 x3 = true then (if (rd x266003 x3) = 0 then (parterreref21_Good.l0 k (wrap64 (x3 + 1)) x266000 x266001 x266002 x266003) else (some false)) else (parterreref21_Good.l0 k (wrap64 (x3 + 1)) x266000 x266001 x266002 x266003)) else (none))) else (some false))) else (none)) else (some false))) else (none)) else (some true)
end
def parterreref21_Good.f (k : Nat) (a0_0 : Int) (l0_1 : List (S57)) (l0_2 : List Bool) (l0_3 : List Int) : Option (Bool) := if (l0_1.length : Int) > 40000 then (parterreref21_Good.j0 k true a0_0 l0_1 l0_2 l0_3) else (if (l0_2.length : Int) = (l0_1.length : Int) then (if (l0_3.length : Int) = (l0_1.length : Int) then (if a0_0 > 0 then (parterreref21_Good.j0 k true a0_0 l0_1 l0_2 l0_3) else (parterreref21_Good.j0 k (decide (a0_0 < (-10000))) a0_0 l0_1 l0_2 l0_3)) else (parterreref21_Good.j0 k true a0_0 l0_1 l0_2 l0_3)) else (parterreref21_Good.j0 k true a0_0 l0_1 l0_2 l0_3))
theorem parterreref21_Good.mono_l : ∀ k, (∀ y0 y1 y2 y3 y4, LeO (parterreref21_Good.j0 k y0 y1 y2 y3 y4) (parterreref21_Good.j0 (k + 1) y0 y1 y2 y3 y4)) ∧ (∀ y0 y1 y2 y3 y4, LeO (parterreref21_Good.l0 k y0 y1 y2 y3 y4) (parterreref21_Good.l0 (k + 1) y0 y1 y2 y3 y4))
  | 0 => ⟨fun _ _ _ _ _ r h => by simp [parterreref21_Good.j0] at h, fun _ _ _ _ _ r h => by simp [parterreref21_Good.l0] at h⟩
  | k + 1 => by
    obtain ⟨ih0, ih1⟩ := parterreref21_Good.mono_l k
    refine ⟨?_, ?_⟩
    · intro y0 y1 y2 y3 y4
      unfold parterreref21_Good.j0
      repeat' first
      | (with_reducible exact ih0 _ _ _ _ _)
      | (with_reducible exact ih1 _ _ _ _ _)
      | (with_reducible exact parterreref06_Right.mono _ _ _ _ _ _ _ _)
      | (with_reducible exact LeO.refl _)
      | (with_reducible exact LeO.none _)
      | (with_reducible refine LeO.ite ?_ ?_)
      | (with_reducible refine LeO.bind ?_ (fun _ => ?_))
      | exact ih0 _ _ _ _ _
      | exact ih1 _ _ _ _ _
      | exact parterreref06_Right.mono _ _ _ _ _ _ _ _
      | exact LeO.none _
      | refine LeO.ite ?_ ?_
      | refine LeO.bind ?_ (fun _ => ?_)
    · intro y0 y1 y2 y3 y4
      unfold parterreref21_Good.l0
      repeat' first
      | (with_reducible exact ih0 _ _ _ _ _)
      | (with_reducible exact ih1 _ _ _ _ _)
      | (with_reducible exact parterreref06_Right.mono _ _ _ _ _ _ _ _)
      | (with_reducible exact LeO.refl _)
      | (with_reducible exact LeO.none _)
      | (with_reducible refine LeO.ite ?_ ?_)
      | (with_reducible refine LeO.bind ?_ (fun _ => ?_))
      | exact ih0 _ _ _ _ _
      | exact ih1 _ _ _ _ _
      | exact parterreref06_Right.mono _ _ _ _ _ _ _ _
      | exact LeO.none _
      | refine LeO.ite ?_ ?_
      | refine LeO.bind ?_ (fun _ => ?_)
theorem parterreref21_Good.mono : ∀ a0 a1 a2 a3 k, LeO (parterreref21_Good.f k a0 a1 a2 a3) (parterreref21_Good.f (k + 1) a0 a1 a2 a3) := by
  intro a0 a1 a2 a3 k
  obtain ⟨ih0, ih1⟩ := parterreref21_Good.mono_l k
  unfold parterreref21_Good.f
  repeat' first
      | (with_reducible exact ih0 _ _ _ _ _)
      | (with_reducible exact ih1 _ _ _ _ _)
      | (with_reducible exact parterreref06_Right.mono _ _ _ _ _ _ _ _)
      | (with_reducible exact LeO.refl _)
      | (with_reducible exact LeO.none _)
      | (with_reducible refine LeO.ite ?_ ?_)
      | (with_reducible refine LeO.bind ?_ (fun _ => ?_))
      | exact ih0 _ _ _ _ _
      | exact ih1 _ _ _ _ _
      | exact parterreref06_Right.mono _ _ _ _ _ _ _ _
      | exact LeO.none _
      | refine LeO.ite ?_ ?_
      | refine LeO.bind ?_ (fun _ => ?_)
set_option maxHeartbeats 8000000 in
set_option maxRecDepth 100000 in
theorem parterreref21_Good.calls (k : Nat) (a0_0 : Int) (A0_1 : Option Addr) (c0_1 : Nat) (l0_1 : List (S57)) (A0_2 : Option Addr) (c0_2 : Nat) (l0_2 : List Bool) (A0_3 : Option Addr) (c0_3 : Nat) (l0_3 : List Int) (r : Bool) (w : World) (hr0_1 : Kd.C k57 w A0_1 l0_1.length l0_1) (hc0_1 : l0_1.length ≤ c0_1) (hr0_2 : Kd.C Kd.bool w A0_2 l0_2.length l0_2) (hc0_2 : l0_2.length ≤ c0_2) (hr0_3 : Kd.C (Kd.int .i64) w A0_3 l0_3.length l0_3) (hc0_3 : l0_3.length ≤ c0_3) (h : parterreref21_Good.f k a0_0 l0_1 l0_2 l0_3 = some r) :
    Calls Try.prog 28 #[.agg #[.int .i64 a0_0, .slice A0_1 l0_1.length c0_1, .slice A0_2 l0_2.length c0_2, .slice A0_3 l0_3.length c0_3]] w fun e w' => e = .returned (.bool r) ∧ Below w.heap.size w w' := by
  have hu26 := Try.underlying26
  have hu57 := Try.underlying57
  have HR0_1 := Aside0.mk hr0_1
  have HC0_1 := Aside0.mk hc0_1
  clear hr0_1 hc0_1
  have HR0_2 := Aside0.mk hr0_2
  have HC0_2 := Aside0.mk hc0_2
  clear hr0_2 hc0_2
  have HR0_3 := Aside0.mk hr0_3
  have HC0_3 := Aside0.mk hc0_3
  clear hr0_3 hc0_3
  have HB := Aside0.mk (Below.refl w.heap.size w)
  have H : (if (l0_1.length : Int) > 40000 then (parterreref21_Good.j0 k true a0_0 l0_1 l0_2 l0_3) else (if (l0_2.length : Int) = (l0_1.length : Int) then (if (l0_3.length : Int) = (l0_1.length : Int) then (if a0_0 > 0 then (parterreref21_Good.j0 k true a0_0 l0_1 l0_2 l0_3) else (parterreref21_Good.j0 k (decide (a0_0 < (-10000))) a0_0 l0_1 l0_2 l0_3)) else (parterreref21_Good.j0 k true a0_0 l0_1 l0_2 l0_3)) else (parterreref21_Good.j0 k true a0_0 l0_1 l0_2 l0_3))) = some r := h
  clear h
  have HC2 := Aside0.mk H
  clear H
  go_enter Try.func28, Try.ntmps28
  go_upto_region 1 with (first | ((with_reducible refine gate_dst (N := 1) rfl ?_); (try (refine gate_guard (by rfl) ?_; dsimp only)); refine box_event ?hg (N := 1) ?hd (cs := #[.int .i64 a0_0, .slice A0_1 l0_1.length c0_1, .slice A0_2 l0_2.length c0_2, .slice A0_3 l0_3.length c0_3]) (t := 26) ?hr ?_; (case hd => rfl); (case hg => rfl); (case hr => first | (go_simp; done) | (go_simp; rfl)); intro gb265 hg w3 hbox hb; have n0_ := Aside0.mk (below_step pmAx13_5_ hb); have n1_ := Aside0.mk (hbox); have n2_ := Aside0.mk ((by rw [hg]; exact (below_size pmAx13_5_) : w.heap.size ≤ gb265)); have n3_ := Aside0.mk ((by rw [hg]; exact (below_size pmAx13_5_) : w.heap.size ≤ gb265)); clear HB; have HB := n0_; have BK265 := n1_; have GW265 := n2_; have GE265 := n3_; clear n0_ n1_ n2_ n3_; clear hb hbox hg))
  (try simp only [Act.put, List.setIfInBounds_toArray, List.set_cons_zero, List.set_cons_succ])
  go_cut [35] (fun v35 wc => ∃ (kq : Nat) (x35_1 : Bool), v35 = .bool x35_1 ∧ Aside0 (parterreref21_Good.j0 kq x35_1 a0_0 l0_1 l0_2 l0_3 = some r) ∧ Aside0 (kq ≤ k) ∧ Aside0 (wc.heap[gb265]? = some (.cells #[.int .i64 a0_0, (.slice A0_1 l0_1.length c0_1), (.slice A0_2 l0_2.length c0_2), (.slice A0_3 l0_3.length c0_3)] 26 (0, 0))) ∧ Aside0 (Below w.heap.size w wc))
  case first =>
    have H := HC2.out
    clear HC2
    by_cases c4 : (l0_1.length : Int) > 40000
    · rw [if_pos c4] at H
      have c4b0 : decide (40000 < (l0_1.length : Int)) = true := decide_eq_true c4
      have c4b1 : decide (40000 < l0_1.length) = true := decide_eq_true (by omega)
      clear c4
      (first | rw [c4b0] | (simp only [i64_w, i32_w]; rw [c4b0]) | skip)
      have H' := Aside0.mk H
      clear H
      have hcz5_0 : w3.cell? ⟨gb265, 0, none⟩ = some (.int .i64 a0_0) := (blk_cell BK265.out 0).trans rfl
      have hcz5_1 : w3.cell? ⟨gb265, 1, none⟩ = some (.slice A0_1 l0_1.length c0_1) := (blk_cell BK265.out 1).trans rfl
      have hcz5_2 : w3.cell? ⟨gb265, 2, none⟩ = some (.slice A0_2 l0_2.length c0_2) := (blk_cell BK265.out 2).trans rfl
      have hcz5_3 : w3.cell? ⟨gb265, 3, none⟩ = some (.slice A0_3 l0_3.length c0_3) := (blk_cell BK265.out 3).trans rfl
      have hfz5_0 := blk_frozen BK265.out 0
      have hfz5_1 := blk_frozen BK265.out 1
      have hfz5_2 := blk_frozen BK265.out 2
      have hfz5_3 := blk_frozen BK265.out 3
      go_wp2
      go_meet
      case rel => exact ⟨_, (true), pmAx13_4_, H', ⟨by first | omega | exact Nat.le_refl _⟩, ⟨pmAx13_2_⟩, ⟨pmAx13_0_⟩⟩
    · rw [if_neg c4] at H
      have c4b0 : decide (40000 < (l0_1.length : Int)) = false := decide_eq_false c4
      have c4b1 : decide (40000 < l0_1.length) = false := decide_eq_false (by omega)
      clear c4
      (first | rw [c4b0] | (simp only [i64_w, i32_w]; rw [c4b0]) | skip)
      by_cases c6 : (l0_2.length : Int) = (l0_1.length : Int)
      · rw [if_pos c6] at H
        have c6b0 : ((l0_2.length : Int) == (l0_1.length : Int)) = true := beq_iff_eq.mpr c6
        have c6b1 : ((l0_2.length : Int) != (l0_1.length : Int)) = false := bne_eq_false_iff_eq.mpr c6
        have c6b2 : (l0_2.length == l0_1.length) = true := by first | simpa using c6 | (simp at c6 ⊢; omega)
        clear c6
        by_cases c7 : (l0_3.length : Int) = (l0_1.length : Int)
        · rw [if_pos c7] at H
          have c7b0 : ((l0_3.length : Int) == (l0_1.length : Int)) = true := beq_iff_eq.mpr c7
          have c7b1 : ((l0_3.length : Int) != (l0_1.length : Int)) = false := bne_eq_false_iff_eq.mpr c7
          have c7b2 : (l0_3.length == l0_1.length) = true := by first | simpa using c7 | (simp at c7 ⊢; omega)
          clear c7
          by_cases c8 : a0_0 > 0
          · rw [if_pos c8] at H
            have c8b0 : decide (0 < a0_0) = true := decide_eq_true c8
            clear c8
            have H' := Aside0.mk H
            clear H
            have hcz9_0 : w3.cell? ⟨gb265, 0, none⟩ = some (.int .i64 a0_0) := (blk_cell BK265.out 0).trans rfl
            have hcz9_1 : w3.cell? ⟨gb265, 1, none⟩ = some (.slice A0_1 l0_1.length c0_1) := (blk_cell BK265.out 1).trans rfl
            have hcz9_2 : w3.cell? ⟨gb265, 2, none⟩ = some (.slice A0_2 l0_2.length c0_2) := (blk_cell BK265.out 2).trans rfl
            have hcz9_3 : w3.cell? ⟨gb265, 3, none⟩ = some (.slice A0_3 l0_3.length c0_3) := (blk_cell BK265.out 3).trans rfl
            have hfz9_0 := blk_frozen BK265.out 0
            have hfz9_1 := blk_frozen BK265.out 1
            have hfz9_2 := blk_frozen BK265.out 2
            have hfz9_3 := blk_frozen BK265.out 3
            go_wp2
            go_meet
            case rel => exact ⟨_, (true), pmAx13_4_, H', ⟨by first | omega | exact Nat.le_refl _⟩, ⟨pmAx13_2_⟩, ⟨pmAx13_0_⟩⟩
          · rw [if_neg c8] at H
            have c8b0 : decide (0 < a0_0) = false := decide_eq_false c8
            clear c8
            have H' := Aside0.mk H
            clear H
            have hcz10_0 : w3.cell? ⟨gb265, 0, none⟩ = some (.int .i64 a0_0) := (blk_cell BK265.out 0).trans rfl
            have hcz10_1 : w3.cell? ⟨gb265, 1, none⟩ = some (.slice A0_1 l0_1.length c0_1) := (blk_cell BK265.out 1).trans rfl
            have hcz10_2 : w3.cell? ⟨gb265, 2, none⟩ = some (.slice A0_2 l0_2.length c0_2) := (blk_cell BK265.out 2).trans rfl
            have hcz10_3 : w3.cell? ⟨gb265, 3, none⟩ = some (.slice A0_3 l0_3.length c0_3) := (blk_cell BK265.out 3).trans rfl
            have hfz10_0 := blk_frozen BK265.out 0
            have hfz10_1 := blk_frozen BK265.out 1
            have hfz10_2 := blk_frozen BK265.out 2
            have hfz10_3 := blk_frozen BK265.out 3
            go_wp2
            go_meet
            case rel => exact ⟨_, (decide (a0_0 < (-10000))), pmAx13_4_, H', ⟨by first | omega | exact Nat.le_refl _⟩, ⟨pmAx13_2_⟩, ⟨pmAx13_0_⟩⟩
        · rw [if_neg c7] at H
          have c7b0 : ((l0_3.length : Int) == (l0_1.length : Int)) = false := beq_eq_false_iff_ne.mpr c7
          have c7b1 : ((l0_3.length : Int) != (l0_1.length : Int)) = true := bne_iff_ne.mpr c7
          have c7b2 : (l0_3.length == l0_1.length) = false := by first | simpa using c7 | (simp at c7 ⊢; omega)
          have H' := Aside0.mk H
          clear H
          have hcz11_0 : w3.cell? ⟨gb265, 0, none⟩ = some (.int .i64 a0_0) := (blk_cell BK265.out 0).trans rfl
          have hcz11_1 : w3.cell? ⟨gb265, 1, none⟩ = some (.slice A0_1 l0_1.length c0_1) := (blk_cell BK265.out 1).trans rfl
          have hcz11_2 : w3.cell? ⟨gb265, 2, none⟩ = some (.slice A0_2 l0_2.length c0_2) := (blk_cell BK265.out 2).trans rfl
          have hcz11_3 : w3.cell? ⟨gb265, 3, none⟩ = some (.slice A0_3 l0_3.length c0_3) := (blk_cell BK265.out 3).trans rfl
          have hfz11_0 := blk_frozen BK265.out 0
          have hfz11_1 := blk_frozen BK265.out 1
          have hfz11_2 := blk_frozen BK265.out 2
          have hfz11_3 := blk_frozen BK265.out 3
          go_wp2
          go_meet
          case rel => exact ⟨_, (true), pmAx13_4_, H', ⟨by first | omega | exact Nat.le_refl _⟩, ⟨pmAx13_2_⟩, ⟨pmAx13_0_⟩⟩
      · rw [if_neg c6] at H
        have c6b0 : ((l0_2.length : Int) == (l0_1.length : Int)) = false := beq_eq_false_iff_ne.mpr c6
        have c6b1 : ((l0_2.length : Int) != (l0_1.length : Int)) = true := bne_iff_ne.mpr c6
        have c6b2 : (l0_2.length == l0_1.length) = false := by first | simpa using c6 | (simp at c6 ⊢; omega)
        have H' := Aside0.mk H
        clear H
        have hcz12_0 : w3.cell? ⟨gb265, 0, none⟩ = some (.int .i64 a0_0) := (blk_cell BK265.out 0).trans rfl
        have hcz12_1 : w3.cell? ⟨gb265, 1, none⟩ = some (.slice A0_1 l0_1.length c0_1) := (blk_cell BK265.out 1).trans rfl
        have hcz12_2 : w3.cell? ⟨gb265, 2, none⟩ = some (.slice A0_2 l0_2.length c0_2) := (blk_cell BK265.out 2).trans rfl
        have hcz12_3 : w3.cell? ⟨gb265, 3, none⟩ = some (.slice A0_3 l0_3.length c0_3) := (blk_cell BK265.out 3).trans rfl
        have hfz12_0 := blk_frozen BK265.out 0
        have hfz12_1 := blk_frozen BK265.out 1
        have hfz12_2 := blk_frozen BK265.out 2
        have hfz12_3 := blk_frozen BK265.out 3
        go_wp2
        go_meet
        case rel => exact ⟨_, (true), pmAx13_4_, H', ⟨by first | omega | exact Nat.le_refl _⟩, ⟨pmAx13_2_⟩, ⟨pmAx13_0_⟩⟩
  case rest =>
    clear HC2
    try clear c2
    try clear p2
    try clear c4
    try clear c4b0
    try clear c4b1
    try clear c6
    try clear c6b0
    try clear c6b1
    try clear c6b2
    try clear c7
    try clear c7b0
    try clear c7b1
    try clear c7b2
    try clear c8
    try clear c8b0
    try clear hcz10_0
    try clear hcz10_1
    try clear hcz10_2
    try clear hcz10_3
    try clear hcz11_0
    try clear hcz11_1
    try clear hcz11_2
    try clear hcz11_3
    try clear hcz12_0
    try clear hcz12_1
    try clear hcz12_2
    try clear hcz12_3
    try clear hcz5_0
    try clear hcz5_1
    try clear hcz5_2
    try clear hcz5_3
    try clear hcz9_0
    try clear hcz9_1
    try clear hcz9_2
    try clear hcz9_3
    try clear hfz10_0
    try clear hfz10_1
    try clear hfz10_2
    try clear hfz10_3
    try clear hfz11_0
    try clear hfz11_1
    try clear hfz11_2
    try clear hfz11_3
    try clear hfz12_0
    try clear hfz12_1
    try clear hfz12_2
    try clear hfz12_3
    try clear hfz5_0
    try clear hfz5_1
    try clear hfz5_2
    try clear hfz5_3
    try clear hfz9_0
    try clear hfz9_1
    try clear hfz9_2
    try clear hfz9_3
    obtain ⟨kq, x35_1, rfl, HA, HJ1, BK265, HB⟩ := hcut
    cases kq with
    | zero => exact absurd HA.out (by simp [parterreref21_Good.j0])
    | succ kj1 =>
      have H := HA.out
      clear HA
      simp only [parterreref21_Good.j0] at H
      by_cases c13 : x35_1 = true
      · subst c13
        have H1 : (some false) = some r := by rw [if_pos rfl] at H; exact H
        clear H
        have H := H1
        clear H1
        obtain rfl := Option.some.inj H
        go_wp2
        go_ret
        exact ⟨by first | rfl | (simp [errW_none, errW_some] <;> rfl) | (simp [*, errW_none, errW_some] <;> rfl), by repeat (first | (with_reducible first | exact HB.out | apply below_alloc | apply pw_below_drewN | apply below_drew1 | refine below_set ?_ GE265.out) | exact HB.out)⟩
      · replace c13 := Bool.eq_false_iff.mpr c13
        subst c13
        have H1 : (parterreref21_Good.l0 kj1 0 a0_0 l0_1 l0_2 l0_3) = some r := by rw [if_neg (show ¬ (false = true) by decide)] at H; exact H
        clear H
        have H := H1
        clear H1
        have H' := Aside0.mk H
        clear H
        go_wp2
        go_loopg [3] kj1 (fun kq v3 w' => ∃ (x3_2 : Int), v3 = .int .i64 x3_2 ∧ Aside0 (parterreref21_Good.l0 kq x3_2 a0_0 l0_1 l0_2 l0_3 = some r) ∧ Aside0 (kq ≤ kj1) ∧ Aside0 (w'.heap[gb265]? = some (.cells #[.int .i64 a0_0, (.slice A0_1 l0_1.length c0_1), (.slice A0_2 l0_2.length c0_2), (.slice A0_3 l0_3.length c0_3)] 26 (0, 0))) ∧ Aside0 (Below w.heap.size w w'))
        case atStart => exact ⟨(0), pmAx13_4_, H', ⟨Nat.le_refl _⟩, ⟨pmAx13_2_⟩, ⟨pmAx13_0_⟩⟩
        case round =>
          clear H'
          try clear c1
          try clear c2
          try clear p2
          try clear c4
          try clear c4b0
          try clear c4b1
          try clear c6
          try clear c6b0
          try clear c6b1
          try clear c6b2
          try clear c7
          try clear c7b0
          try clear c7b1
          try clear c7b2
          try clear c8
          try clear c8b0
          try clear c13
          try clear hcz10_0
          try clear hcz10_1
          try clear hcz10_2
          try clear hcz10_3
          try clear hcz11_0
          try clear hcz11_1
          try clear hcz11_2
          try clear hcz11_3
          try clear hcz12_0
          try clear hcz12_1
          try clear hcz12_2
          try clear hcz12_3
          try clear hcz5_0
          try clear hcz5_1
          try clear hcz5_2
          try clear hcz5_3
          try clear hcz9_0
          try clear hcz9_1
          try clear hcz9_2
          try clear hcz9_3
          try clear hfz10_0
          try clear hfz10_1
          try clear hfz10_2
          try clear hfz10_3
          try clear hfz11_0
          try clear hfz11_1
          try clear hfz11_2
          try clear hfz11_3
          try clear hfz12_0
          try clear hfz12_1
          try clear hfz12_2
          try clear hfz12_3
          try clear hfz5_0
          try clear hfz5_1
          try clear hfz5_2
          try clear hfz5_3
          try clear hfz9_0
          try clear hfz9_1
          try clear hfz9_2
          try clear hfz9_3
          try clear p2
          obtain ⟨x3_2, rfl, HA, HK2, BK265, HB⟩ := hrel
          cases gk with
          | zero => exact absurd HA.out (by simp [parterreref21_Good.l0])
          | succ k2 =>
            have H := HA.out
            clear HA
            simp only [parterreref21_Good.l0] at H
            by_cases c14 : x3_2 < (l0_1.length : Int)
            · rw [if_pos c14] at H
              have c14b0 : decide (x3_2 < (l0_1.length : Int)) = true := decide_eq_true c14
              clear c14
              by_cases c15 : 0 ≤ x3_2
              · rw [if_pos c15] at H
                have c15b0 : decide (0 ≤ x3_2) = true := decide_eq_true c15
                clear c15
                replace H := Option.bind_eq_some_iff.mp H
                obtain ⟨t267, A160, H⟩ := H
                replace H : (if t267 = true then (if x3_2 < (l0_3.length : Int) then ((parterreref21_within.f (rd l0_3 x3_2)).bind fun t269 => (if t269 = true then (if x3_2 = 0 then (if (rd l0_3 x3_2) = 0 then (parterreref21_Good.l0 k2 (wrap64 (x3_2 + 1)) a0_0 l0_1 l0_2 l0_3) else (some false)) else (if x3_2 < (l0_2.length : Int) then (if rdOf false l0_2 x3_2 = true then (if (rd l0_3 x3_2) = 0 then (parterreref21_Good.l0 k2 (wrap64 (x3_2 + 1)) a0_0 l0_1 l0_2 l0_3) else (some false)) else (parterreref21_Good.l0 k2 (wrap64 (x3_2 + 1)) a0_0 l0_1 l0_2 l0_3)) else (none))) else (some false))) else (none)) else (some false)) = some r := H
                have A16 := Aside0.mk A160
                clear A160
                by_cases c17 : t267 = true
                · subst c17
                  have H1 : (if x3_2 < (l0_3.length : Int) then ((parterreref21_within.f (rd l0_3 x3_2)).bind fun t269 => (if t269 = true then (if x3_2 = 0 then (if (rd l0_3 x3_2) = 0 then (parterreref21_Good.l0 k2 (wrap64 (x3_2 + 1)) a0_0 l0_1 l0_2 l0_3) else (some false)) else (if x3_2 < (l0_2.length : Int) then (if rdOf false l0_2 x3_2 = true then (if (rd l0_3 x3_2) = 0 then (parterreref21_Good.l0 k2 (wrap64 (x3_2 + 1)) a0_0 l0_1 l0_2 l0_3) else (some false)) else (parterreref21_Good.l0 k2 (wrap64 (x3_2 + 1)) a0_0 l0_1 l0_2 l0_3)) else (none))) else (some false))) else (none)) = some r := by rw [if_pos rfl] at H; exact H
                  clear H
                  have H := H1
                  clear H1
                  by_cases c18 : x3_2 < (l0_3.length : Int)
                  · rw [if_pos c18] at H
                    have c18b0 : decide (x3_2 < (l0_3.length : Int)) = true := decide_eq_true c18
                    clear c18
                    replace H := Option.bind_eq_some_iff.mp H
                    obtain ⟨t269, A190, H⟩ := H
                    replace H : (if t269 = true then (if x3_2 = 0 then (if (rd l0_3 x3_2) = 0 then (parterreref21_Good.l0 k2 (wrap64 (x3_2 + 1)) a0_0 l0_1 l0_2 l0_3) else (some false)) else (if x3_2 < (l0_2.length : Int) then (if rdOf false l0_2 x3_2 = true then (if (rd l0_3 x3_2) = 0 then (parterreref21_Good.l0 k2 (wrap64 (x3_2 + 1)) a0_0 l0_1 l0_2 l0_3) else (some false)) else (parterreref21_Good.l0 k2 (wrap64 (x3_2 + 1)) a0_0 l0_1 l0_2 l0_3)) else (none))) else (some false)) = some r := H
                    have A19 := Aside0.mk A190
                    clear A190
                    by_cases c20 : t269 = true
                    · subst c20
                      have H1 : (if x3_2 = 0 then (if (rd l0_3 x3_2) = 0 then (parterreref21_Good.l0 k2 (wrap64 (x3_2 + 1)) a0_0 l0_1 l0_2 l0_3) else (some false)) else (if x3_2 < (l0_2.length : Int) then (if rdOf false l0_2 x3_2 = true then (if (rd l0_3 x3_2) = 0 then (parterreref21_Good.l0 k2 (wrap64 (x3_2 + 1)) a0_0 l0_1 l0_2 l0_3) else (some false)) else (parterreref21_Good.l0 k2 (wrap64 (x3_2 + 1)) a0_0 l0_1 l0_2 l0_3)) else (none))) = some r := by rw [if_pos rfl] at H; exact H
                      clear H
                      have H := H1
                      clear H1
                      by_cases c21 : x3_2 = 0
                      · rw [if_pos c21] at H
                        have c21b0 : (x3_2 == 0) = true := beq_iff_eq.mpr c21
                        have c21b1 : (x3_2 != 0) = false := bne_eq_false_iff_eq.mpr c21
                        clear c21
                        by_cases c22 : (rd l0_3 x3_2) = 0
                        · rw [if_pos c22] at H
                          have c22b0 : ((rd l0_3 x3_2) == 0) = true := beq_iff_eq.mpr c22
                          have c22b1 : ((rd l0_3 x3_2) != 0) = false := bne_eq_false_iff_eq.mpr c22
                          clear c22
                          have H' := Aside0.mk H
                          clear H
                          have hcz23_0 : wr.cell? ⟨gb265, 0, none⟩ = some (.int .i64 a0_0) := (blk_cell BK265.out 0).trans rfl
                          have hcz23_1 : wr.cell? ⟨gb265, 1, none⟩ = some (.slice A0_1 l0_1.length c0_1) := (blk_cell BK265.out 1).trans rfl
                          have hcz23_2 : wr.cell? ⟨gb265, 2, none⟩ = some (.slice A0_2 l0_2.length c0_2) := (blk_cell BK265.out 2).trans rfl
                          have hcz23_3 : wr.cell? ⟨gb265, 3, none⟩ = some (.slice A0_3 l0_3.length c0_3) := (blk_cell BK265.out 3).trans rfl
                          have hfz23_0 := blk_frozen BK265.out 0
                          have hfz23_1 := blk_frozen BK265.out 1
                          have hfz23_2 := blk_frozen BK265.out 2
                          have hfz23_3 := blk_frozen BK265.out 3
                          have p266 : 0 ≤ (x3_2 : Int) := of_decide_eq_true pmAx13_1_
                          have q266 : x3_2 < (l0_1.length : Int) := of_decide_eq_true pmAx13_1_
                          obtain ⟨ad266, e266, hx266_0, hx266_1, hx266_2, hx266_3, hx266_4, hx266_5, hx266_6⟩ := at_T57 HR0_1.out x3_2 p266 q266
                          cases e266
                          replace hx266_0 := (HB.out.cell (World.block_lt_of_cell? w _ hx266_0)).trans hx266_0
                          replace hx266_1 := (HB.out.cell (World.block_lt_of_cell? w _ hx266_1)).trans hx266_1
                          replace hx266_2 := (HB.out.cell (World.block_lt_of_cell? w _ hx266_2)).trans hx266_2
                          replace hx266_3 := (HB.out.cell (World.block_lt_of_cell? w _ hx266_3)).trans hx266_3
                          replace hx266_4 := (HB.out.cell (World.block_lt_of_cell? w _ hx266_4)).trans hx266_4
                          replace hx266_5 := (HB.out.cell (World.block_lt_of_cell? w _ hx266_5)).trans hx266_5
                          replace hx266_6 := (HB.out.cell (World.block_lt_of_cell? w _ hx266_6)).trans hx266_6
                          replace p266 := eq_true p266
                          replace q266 := eq_true q266
                          go_wp2_with (first | ((with_reducible refine gate_callee (f := 34) rfl ?_); refine goesL_ (some 48) rfl rfl Try.func34 (by kernel_rfl) rfl #[.agg #[.int .i64 ((rd_T57 l0_1 x3_2).f0.f0), .int .i64 ((rd_T57 l0_1 x3_2).f0.f1), .int .i64 ((rd_T57 l0_1 x3_2).f1.f0), .int .i64 ((rd_T57 l0_1 x3_2).f1.f1), .bool ((rd_T57 l0_1 x3_2).f2), .int .i64 ((rd_T57 l0_1 x3_2).f3.f0), .int .i64 ((rd_T57 l0_1 x3_2).f3.f1)]] rfl pmAx13_3_ ?_; (with_reducible refine (parterreref06_Right.calls k2 ((rd_T57 l0_1 x3_2).f0.f0) ((rd_T57 l0_1 x3_2).f0.f1) ((rd_T57 l0_1 x3_2).f1.f0) ((rd_T57 l0_1 x3_2).f1.f1) ((rd_T57 l0_1 x3_2).f2) ((rd_T57 l0_1 x3_2).f3.f0) ((rd_T57 l0_1 x3_2).f3.f1) true _ A16.out).mono ?_); rintro e w24 ⟨rfl, hb⟩; refine ⟨_, rfl, ?_⟩; have n0_ := Aside0.mk (blk_below (g := gb265) (o := .cells #[.int .i64 a0_0, .slice (some ad266) l0_1.length c0_1, .slice A0_2 l0_2.length c0_2, .slice A0_3 l0_3.length c0_3] 26 (0, 0)) pmAx13_2_ hb); have n1_ := Aside0.mk (below_step pmAx13_0_ hb); clear BK265; clear HB; have BK265 := n0_; have HB := n1_; clear n0_ n1_; (try clear hb); (try clear hb2); (try clear hk); (try clear hi); have hcz25_0 : w24.cell? ⟨gb265, 0, none⟩ = some (.int .i64 a0_0) := (blk_cell BK265.out 0).trans rfl; have hcz25_1 : w24.cell? ⟨gb265, 1, none⟩ = some (.slice (some ad266) l0_1.length c0_1) := (blk_cell BK265.out 1).trans rfl; have hcz25_2 : w24.cell? ⟨gb265, 2, none⟩ = some (.slice A0_2 l0_2.length c0_2) := (blk_cell BK265.out 2).trans rfl; have hcz25_3 : w24.cell? ⟨gb265, 3, none⟩ = some (.slice A0_3 l0_3.length c0_3) := (blk_cell BK265.out 3).trans rfl; have hfz25_0 := blk_frozen BK265.out 0; have hfz25_1 := blk_frozen BK265.out 1; have hfz25_2 := blk_frozen BK265.out 2; have hfz25_3 := blk_frozen BK265.out 3; have p268 : 0 ≤ (x3_2 : Int) := of_decide_eq_true pmAx13_1_; have q268 : x3_2 < (l0_3.length : Int) := of_decide_eq_true pmAx13_1_; obtain ⟨ad268, e268, hx268_0⟩ := Kd.at_int HR0_3.out x3_2 p268 q268; cases e268; replace hx268_0 := (HB.out.cell (World.block_lt_of_cell? w _ hx268_0)).trans hx268_0; replace p268 := eq_true p268; replace q268 := eq_true q268) | (go_at_call 35; (with_reducible refine (parterreref21_within.calls (rd l0_3 x3_2) true _ A19.out).mono ?_); rintro e w' ⟨rfl, ⟨nd, rfl⟩⟩; have p270 : 0 ≤ (x3_2 : Int) := of_decide_eq_true pmAx13_1_; have q270 : x3_2 < (l0_3.length : Int) := of_decide_eq_true pmAx13_1_; obtain ⟨ad270, e270, hx270_0⟩ := Kd.at_int HR0_3.out x3_2 p270 q270; obtain rfl : ad268 = ad270 := (by injection e270); replace hx270_0 := (HB.out.cell (World.block_lt_of_cell? w _ hx270_0)).trans hx270_0; replace p270 := eq_true p270; replace q270 := eq_true q270))
                          go_roundg k2
                          case measure => have := HJ1.out; have := HK2.out; omega
                          case rel => exact ⟨(wrap64 (x3_2 + 1)), pmAx13_4_, H', ⟨by have := HJ1.out; have := HK2.out; omega⟩, ⟨pmAx13_2_⟩, ⟨pmAx13_0_⟩⟩
                        · rw [if_neg c22] at H
                          have c22b0 : ((rd l0_3 x3_2) == 0) = false := beq_eq_false_iff_ne.mpr c22
                          have c22b1 : ((rd l0_3 x3_2) != 0) = true := bne_iff_ne.mpr c22
                          obtain rfl := Option.some.inj H
                          have hcz26_0 : wr.cell? ⟨gb265, 0, none⟩ = some (.int .i64 a0_0) := (blk_cell BK265.out 0).trans rfl
                          have hcz26_1 : wr.cell? ⟨gb265, 1, none⟩ = some (.slice A0_1 l0_1.length c0_1) := (blk_cell BK265.out 1).trans rfl
                          have hcz26_2 : wr.cell? ⟨gb265, 2, none⟩ = some (.slice A0_2 l0_2.length c0_2) := (blk_cell BK265.out 2).trans rfl
                          have hcz26_3 : wr.cell? ⟨gb265, 3, none⟩ = some (.slice A0_3 l0_3.length c0_3) := (blk_cell BK265.out 3).trans rfl
                          have hfz26_0 := blk_frozen BK265.out 0
                          have hfz26_1 := blk_frozen BK265.out 1
                          have hfz26_2 := blk_frozen BK265.out 2
                          have hfz26_3 := blk_frozen BK265.out 3
                          have p266 : 0 ≤ (x3_2 : Int) := of_decide_eq_true pmAx13_1_
                          have q266 : x3_2 < (l0_1.length : Int) := of_decide_eq_true pmAx13_1_
                          obtain ⟨ad266, e266, hx266_0, hx266_1, hx266_2, hx266_3, hx266_4, hx266_5, hx266_6⟩ := at_T57 HR0_1.out x3_2 p266 q266
                          cases e266
                          replace hx266_0 := (HB.out.cell (World.block_lt_of_cell? w _ hx266_0)).trans hx266_0
                          replace hx266_1 := (HB.out.cell (World.block_lt_of_cell? w _ hx266_1)).trans hx266_1
                          replace hx266_2 := (HB.out.cell (World.block_lt_of_cell? w _ hx266_2)).trans hx266_2
                          replace hx266_3 := (HB.out.cell (World.block_lt_of_cell? w _ hx266_3)).trans hx266_3
                          replace hx266_4 := (HB.out.cell (World.block_lt_of_cell? w _ hx266_4)).trans hx266_4
                          replace hx266_5 := (HB.out.cell (World.block_lt_of_cell? w _ hx266_5)).trans hx266_5
                          replace hx266_6 := (HB.out.cell (World.block_lt_of_cell? w _ hx266_6)).trans hx266_6
                          replace p266 := eq_true p266
                          replace q266 := eq_true q266
                          go_wp2_with (first | ((with_reducible refine gate_callee (f := 34) rfl ?_); refine goesL_ (some 48) rfl rfl Try.func34 (by kernel_rfl) rfl #[.agg #[.int .i64 ((rd_T57 l0_1 x3_2).f0.f0), .int .i64 ((rd_T57 l0_1 x3_2).f0.f1), .int .i64 ((rd_T57 l0_1 x3_2).f1.f0), .int .i64 ((rd_T57 l0_1 x3_2).f1.f1), .bool ((rd_T57 l0_1 x3_2).f2), .int .i64 ((rd_T57 l0_1 x3_2).f3.f0), .int .i64 ((rd_T57 l0_1 x3_2).f3.f1)]] rfl pmAx13_3_ ?_; (with_reducible refine (parterreref06_Right.calls k2 ((rd_T57 l0_1 x3_2).f0.f0) ((rd_T57 l0_1 x3_2).f0.f1) ((rd_T57 l0_1 x3_2).f1.f0) ((rd_T57 l0_1 x3_2).f1.f1) ((rd_T57 l0_1 x3_2).f2) ((rd_T57 l0_1 x3_2).f3.f0) ((rd_T57 l0_1 x3_2).f3.f1) true _ A16.out).mono ?_); rintro e w27 ⟨rfl, hb⟩; refine ⟨_, rfl, ?_⟩; have n0_ := Aside0.mk (blk_below (g := gb265) (o := .cells #[.int .i64 a0_0, .slice (some ad266) l0_1.length c0_1, .slice A0_2 l0_2.length c0_2, .slice A0_3 l0_3.length c0_3] 26 (0, 0)) pmAx13_2_ hb); have n1_ := Aside0.mk (below_step pmAx13_0_ hb); clear BK265; clear HB; have BK265 := n0_; have HB := n1_; clear n0_ n1_; (try clear hb); (try clear hb2); (try clear hk); (try clear hi); have hcz28_0 : w27.cell? ⟨gb265, 0, none⟩ = some (.int .i64 a0_0) := (blk_cell BK265.out 0).trans rfl; have hcz28_1 : w27.cell? ⟨gb265, 1, none⟩ = some (.slice (some ad266) l0_1.length c0_1) := (blk_cell BK265.out 1).trans rfl; have hcz28_2 : w27.cell? ⟨gb265, 2, none⟩ = some (.slice A0_2 l0_2.length c0_2) := (blk_cell BK265.out 2).trans rfl; have hcz28_3 : w27.cell? ⟨gb265, 3, none⟩ = some (.slice A0_3 l0_3.length c0_3) := (blk_cell BK265.out 3).trans rfl; have hfz28_0 := blk_frozen BK265.out 0; have hfz28_1 := blk_frozen BK265.out 1; have hfz28_2 := blk_frozen BK265.out 2; have hfz28_3 := blk_frozen BK265.out 3; have p268 : 0 ≤ (x3_2 : Int) := of_decide_eq_true pmAx13_1_; have q268 : x3_2 < (l0_3.length : Int) := of_decide_eq_true pmAx13_1_; obtain ⟨ad268, e268, hx268_0⟩ := Kd.at_int HR0_3.out x3_2 p268 q268; cases e268; replace hx268_0 := (HB.out.cell (World.block_lt_of_cell? w _ hx268_0)).trans hx268_0; replace p268 := eq_true p268; replace q268 := eq_true q268) | (go_at_call 35; (with_reducible refine (parterreref21_within.calls (rd l0_3 x3_2) true _ A19.out).mono ?_); rintro e w' ⟨rfl, ⟨nd, rfl⟩⟩; have p270 : 0 ≤ (x3_2 : Int) := of_decide_eq_true pmAx13_1_; have q270 : x3_2 < (l0_3.length : Int) := of_decide_eq_true pmAx13_1_; obtain ⟨ad270, e270, hx270_0⟩ := Kd.at_int HR0_3.out x3_2 p270 q270; obtain rfl : ad268 = ad270 := (by injection e270); replace hx270_0 := (HB.out.cell (World.block_lt_of_cell? w _ hx270_0)).trans hx270_0; replace p270 := eq_true p270; replace q270 := eq_true q270))
                          go_ret
                          exact ⟨by first | rfl | (simp [errW_none, errW_some] <;> rfl) | (simp [*, errW_none, errW_some] <;> rfl), by repeat (first | (with_reducible first | exact HB.out | apply below_alloc | apply pw_below_drewN | apply below_drew1 | refine below_set ?_ GE265.out) | exact HB.out)⟩
                      · rw [if_neg c21] at H
                        have c21b0 : (x3_2 == 0) = false := beq_eq_false_iff_ne.mpr c21
                        have c21b1 : (x3_2 != 0) = true := bne_iff_ne.mpr c21
                        by_cases c29 : x3_2 < (l0_2.length : Int)
                        · rw [if_pos c29] at H
                          have c29b0 : decide (x3_2 < (l0_2.length : Int)) = true := decide_eq_true c29
                          clear c29
                          obtain ⟨bq30, hbq30⟩ : ∃ b_ : Bool, b_ = (rdOf false l0_2 x3_2) := ⟨_, rfl⟩
                          replace H : (if bq30 = true then (if (rd l0_3 x3_2) = 0 then (parterreref21_Good.l0 k2 (wrap64 (x3_2 + 1)) a0_0 l0_1 l0_2 l0_3) else (some false)) else (parterreref21_Good.l0 k2 (wrap64 (x3_2 + 1)) a0_0 l0_1 l0_2 l0_3)) = some r := by rw [← hbq30] at H; exact H
                          have Nbq30 := Aside0.mk hbq30
                          clear hbq30
                          by_cases c31 : bq30 = true
                          · subst c31
                            have H1 : (if (rd l0_3 x3_2) = 0 then (parterreref21_Good.l0 k2 (wrap64 (x3_2 + 1)) a0_0 l0_1 l0_2 l0_3) else (some false)) = some r := by rw [if_pos rfl] at H; exact H
                            clear H
                            have H := H1
                            clear H1
                            by_cases c32 : (rd l0_3 x3_2) = 0
                            · rw [if_pos c32] at H
                              have c32b0 : ((rd l0_3 x3_2) == 0) = true := beq_iff_eq.mpr c32
                              have c32b1 : ((rd l0_3 x3_2) != 0) = false := bne_eq_false_iff_eq.mpr c32
                              clear c32
                              have H' := Aside0.mk H
                              clear H
                              have hcz33_0 : wr.cell? ⟨gb265, 0, none⟩ = some (.int .i64 a0_0) := (blk_cell BK265.out 0).trans rfl
                              have hcz33_1 : wr.cell? ⟨gb265, 1, none⟩ = some (.slice A0_1 l0_1.length c0_1) := (blk_cell BK265.out 1).trans rfl
                              have hcz33_2 : wr.cell? ⟨gb265, 2, none⟩ = some (.slice A0_2 l0_2.length c0_2) := (blk_cell BK265.out 2).trans rfl
                              have hcz33_3 : wr.cell? ⟨gb265, 3, none⟩ = some (.slice A0_3 l0_3.length c0_3) := (blk_cell BK265.out 3).trans rfl
                              have hfz33_0 := blk_frozen BK265.out 0
                              have hfz33_1 := blk_frozen BK265.out 1
                              have hfz33_2 := blk_frozen BK265.out 2
                              have hfz33_3 := blk_frozen BK265.out 3
                              have p266 : 0 ≤ (x3_2 : Int) := of_decide_eq_true pmAx13_1_
                              have q266 : x3_2 < (l0_1.length : Int) := of_decide_eq_true pmAx13_1_
                              obtain ⟨ad266, e266, hx266_0, hx266_1, hx266_2, hx266_3, hx266_4, hx266_5, hx266_6⟩ := at_T57 HR0_1.out x3_2 p266 q266
                              (try rw [← Nbq30.out] at hx266_4)
                              cases e266
                              replace hx266_0 := (HB.out.cell (World.block_lt_of_cell? w _ hx266_0)).trans hx266_0
                              replace hx266_1 := (HB.out.cell (World.block_lt_of_cell? w _ hx266_1)).trans hx266_1
                              replace hx266_2 := (HB.out.cell (World.block_lt_of_cell? w _ hx266_2)).trans hx266_2
                              replace hx266_3 := (HB.out.cell (World.block_lt_of_cell? w _ hx266_3)).trans hx266_3
                              replace hx266_4 := (HB.out.cell (World.block_lt_of_cell? w _ hx266_4)).trans hx266_4
                              replace hx266_5 := (HB.out.cell (World.block_lt_of_cell? w _ hx266_5)).trans hx266_5
                              replace hx266_6 := (HB.out.cell (World.block_lt_of_cell? w _ hx266_6)).trans hx266_6
                              replace p266 := eq_true p266
                              replace q266 := eq_true q266
                              go_wp2_with (first | ((with_reducible refine gate_callee (f := 34) rfl ?_); refine goesL_ (some 48) rfl rfl Try.func34 (by kernel_rfl) rfl #[.agg #[.int .i64 ((rd_T57 l0_1 x3_2).f0.f0), .int .i64 ((rd_T57 l0_1 x3_2).f0.f1), .int .i64 ((rd_T57 l0_1 x3_2).f1.f0), .int .i64 ((rd_T57 l0_1 x3_2).f1.f1), .bool ((rd_T57 l0_1 x3_2).f2), .int .i64 ((rd_T57 l0_1 x3_2).f3.f0), .int .i64 ((rd_T57 l0_1 x3_2).f3.f1)]] rfl pmAx13_3_ ?_; (with_reducible refine (parterreref06_Right.calls k2 ((rd_T57 l0_1 x3_2).f0.f0) ((rd_T57 l0_1 x3_2).f0.f1) ((rd_T57 l0_1 x3_2).f1.f0) ((rd_T57 l0_1 x3_2).f1.f1) ((rd_T57 l0_1 x3_2).f2) ((rd_T57 l0_1 x3_2).f3.f0) ((rd_T57 l0_1 x3_2).f3.f1) true _ A16.out).mono ?_); rintro e w34 ⟨rfl, hb⟩; refine ⟨_, rfl, ?_⟩; have n0_ := Aside0.mk (blk_below (g := gb265) (o := .cells #[.int .i64 a0_0, .slice (some ad266) l0_1.length c0_1, .slice A0_2 l0_2.length c0_2, .slice A0_3 l0_3.length c0_3] 26 (0, 0)) pmAx13_2_ hb); have n1_ := Aside0.mk (below_step pmAx13_0_ hb); clear BK265; clear HB; have BK265 := n0_; have HB := n1_; clear n0_ n1_; (try clear hb); (try clear hb2); (try clear hk); (try clear hi); have hcz35_0 : w34.cell? ⟨gb265, 0, none⟩ = some (.int .i64 a0_0) := (blk_cell BK265.out 0).trans rfl; have hcz35_1 : w34.cell? ⟨gb265, 1, none⟩ = some (.slice (some ad266) l0_1.length c0_1) := (blk_cell BK265.out 1).trans rfl; have hcz35_2 : w34.cell? ⟨gb265, 2, none⟩ = some (.slice A0_2 l0_2.length c0_2) := (blk_cell BK265.out 2).trans rfl; have hcz35_3 : w34.cell? ⟨gb265, 3, none⟩ = some (.slice A0_3 l0_3.length c0_3) := (blk_cell BK265.out 3).trans rfl; have hfz35_0 := blk_frozen BK265.out 0; have hfz35_1 := blk_frozen BK265.out 1; have hfz35_2 := blk_frozen BK265.out 2; have hfz35_3 := blk_frozen BK265.out 3; have p268 : 0 ≤ (x3_2 : Int) := of_decide_eq_true pmAx13_1_; have q268 : x3_2 < (l0_3.length : Int) := of_decide_eq_true pmAx13_1_; obtain ⟨ad268, e268, hx268_0⟩ := Kd.at_int HR0_3.out x3_2 p268 q268; cases e268; replace hx268_0 := (HB.out.cell (World.block_lt_of_cell? w _ hx268_0)).trans hx268_0; replace p268 := eq_true p268; replace q268 := eq_true q268) | (go_at_call 35; (with_reducible refine (parterreref21_within.calls (rd l0_3 x3_2) true _ A19.out).mono ?_); rintro e w' ⟨rfl, ⟨nd, rfl⟩⟩; have p271 : 0 ≤ (x3_2 : Int) := of_decide_eq_true pmAx13_1_; have q271 : x3_2 < (l0_2.length : Int) := of_decide_eq_true pmAx13_1_; obtain ⟨ad271, e271, hx271_0⟩ := Kd.at_bool HR0_2.out x3_2 p271 q271; (try rw [← Nbq30.out] at hx271_0); cases e271; replace hx271_0 := (HB.out.cell (World.block_lt_of_cell? w _ hx271_0)).trans hx271_0; replace p271 := eq_true p271; replace q271 := eq_true q271; have p272 : 0 ≤ (x3_2 : Int) := of_decide_eq_true pmAx13_1_; have q272 : x3_2 < (l0_3.length : Int) := of_decide_eq_true pmAx13_1_; obtain ⟨ad272, e272, hx272_0⟩ := Kd.at_int HR0_3.out x3_2 p272 q272; obtain rfl : ad268 = ad272 := (by injection e272); replace hx272_0 := (HB.out.cell (World.block_lt_of_cell? w _ hx272_0)).trans hx272_0; replace p272 := eq_true p272; replace q272 := eq_true q272))
                              go_roundg k2
                              case measure => have := HJ1.out; have := HK2.out; omega
                              case rel => exact ⟨(wrap64 (x3_2 + 1)), pmAx13_4_, H', ⟨by have := HJ1.out; have := HK2.out; omega⟩, ⟨pmAx13_2_⟩, ⟨pmAx13_0_⟩⟩
                            · rw [if_neg c32] at H
                              have c32b0 : ((rd l0_3 x3_2) == 0) = false := beq_eq_false_iff_ne.mpr c32
                              have c32b1 : ((rd l0_3 x3_2) != 0) = true := bne_iff_ne.mpr c32
                              obtain rfl := Option.some.inj H
                              have hcz36_0 : wr.cell? ⟨gb265, 0, none⟩ = some (.int .i64 a0_0) := (blk_cell BK265.out 0).trans rfl
                              have hcz36_1 : wr.cell? ⟨gb265, 1, none⟩ = some (.slice A0_1 l0_1.length c0_1) := (blk_cell BK265.out 1).trans rfl
                              have hcz36_2 : wr.cell? ⟨gb265, 2, none⟩ = some (.slice A0_2 l0_2.length c0_2) := (blk_cell BK265.out 2).trans rfl
                              have hcz36_3 : wr.cell? ⟨gb265, 3, none⟩ = some (.slice A0_3 l0_3.length c0_3) := (blk_cell BK265.out 3).trans rfl
                              have hfz36_0 := blk_frozen BK265.out 0
                              have hfz36_1 := blk_frozen BK265.out 1
                              have hfz36_2 := blk_frozen BK265.out 2
                              have hfz36_3 := blk_frozen BK265.out 3
                              have p266 : 0 ≤ (x3_2 : Int) := of_decide_eq_true pmAx13_1_
                              have q266 : x3_2 < (l0_1.length : Int) := of_decide_eq_true pmAx13_1_
                              obtain ⟨ad266, e266, hx266_0, hx266_1, hx266_2, hx266_3, hx266_4, hx266_5, hx266_6⟩ := at_T57 HR0_1.out x3_2 p266 q266
                              (try rw [← Nbq30.out] at hx266_4)
                              cases e266
                              replace hx266_0 := (HB.out.cell (World.block_lt_of_cell? w _ hx266_0)).trans hx266_0
                              replace hx266_1 := (HB.out.cell (World.block_lt_of_cell? w _ hx266_1)).trans hx266_1
                              replace hx266_2 := (HB.out.cell (World.block_lt_of_cell? w _ hx266_2)).trans hx266_2
                              replace hx266_3 := (HB.out.cell (World.block_lt_of_cell? w _ hx266_3)).trans hx266_3
                              replace hx266_4 := (HB.out.cell (World.block_lt_of_cell? w _ hx266_4)).trans hx266_4
                              replace hx266_5 := (HB.out.cell (World.block_lt_of_cell? w _ hx266_5)).trans hx266_5
                              replace hx266_6 := (HB.out.cell (World.block_lt_of_cell? w _ hx266_6)).trans hx266_6
                              replace p266 := eq_true p266
                              replace q266 := eq_true q266
                              go_wp2_with (first | ((with_reducible refine gate_callee (f := 34) rfl ?_); refine goesL_ (some 48) rfl rfl Try.func34 (by kernel_rfl) rfl #[.agg #[.int .i64 ((rd_T57 l0_1 x3_2).f0.f0), .int .i64 ((rd_T57 l0_1 x3_2).f0.f1), .int .i64 ((rd_T57 l0_1 x3_2).f1.f0), .int .i64 ((rd_T57 l0_1 x3_2).f1.f1), .bool ((rd_T57 l0_1 x3_2).f2), .int .i64 ((rd_T57 l0_1 x3_2).f3.f0), .int .i64 ((rd_T57 l0_1 x3_2).f3.f1)]] rfl pmAx13_3_ ?_; (with_reducible refine (parterreref06_Right.calls k2 ((rd_T57 l0_1 x3_2).f0.f0) ((rd_T57 l0_1 x3_2).f0.f1) ((rd_T57 l0_1 x3_2).f1.f0) ((rd_T57 l0_1 x3_2).f1.f1) ((rd_T57 l0_1 x3_2).f2) ((rd_T57 l0_1 x3_2).f3.f0) ((rd_T57 l0_1 x3_2).f3.f1) true _ A16.out).mono ?_); rintro e w37 ⟨rfl, hb⟩; refine ⟨_, rfl, ?_⟩; have n0_ := Aside0.mk (blk_below (g := gb265) (o := .cells #[.int .i64 a0_0, .slice (some ad266) l0_1.length c0_1, .slice A0_2 l0_2.length c0_2, .slice A0_3 l0_3.length c0_3] 26 (0, 0)) pmAx13_2_ hb); have n1_ := Aside0.mk (below_step pmAx13_0_ hb); clear BK265; clear HB; have BK265 := n0_; have HB := n1_; clear n0_ n1_; (try clear hb); (try clear hb2); (try clear hk); (try clear hi); have hcz38_0 : w37.cell? ⟨gb265, 0, none⟩ = some (.int .i64 a0_0) := (blk_cell BK265.out 0).trans rfl; have hcz38_1 : w37.cell? ⟨gb265, 1, none⟩ = some (.slice (some ad266) l0_1.length c0_1) := (blk_cell BK265.out 1).trans rfl; have hcz38_2 : w37.cell? ⟨gb265, 2, none⟩ = some (.slice A0_2 l0_2.length c0_2) := (blk_cell BK265.out 2).trans rfl; have hcz38_3 : w37.cell? ⟨gb265, 3, none⟩ = some (.slice A0_3 l0_3.length c0_3) := (blk_cell BK265.out 3).trans rfl; have hfz38_0 := blk_frozen BK265.out 0; have hfz38_1 := blk_frozen BK265.out 1; have hfz38_2 := blk_frozen BK265.out 2; have hfz38_3 := blk_frozen BK265.out 3; have p268 : 0 ≤ (x3_2 : Int) := of_decide_eq_true pmAx13_1_; have q268 : x3_2 < (l0_3.length : Int) := of_decide_eq_true pmAx13_1_; obtain ⟨ad268, e268, hx268_0⟩ := Kd.at_int HR0_3.out x3_2 p268 q268; cases e268; replace hx268_0 := (HB.out.cell (World.block_lt_of_cell? w _ hx268_0)).trans hx268_0; replace p268 := eq_true p268; replace q268 := eq_true q268) | (go_at_call 35; (with_reducible refine (parterreref21_within.calls (rd l0_3 x3_2) true _ A19.out).mono ?_); rintro e w' ⟨rfl, ⟨nd, rfl⟩⟩; have p271 : 0 ≤ (x3_2 : Int) := of_decide_eq_true pmAx13_1_; have q271 : x3_2 < (l0_2.length : Int) := of_decide_eq_true pmAx13_1_; obtain ⟨ad271, e271, hx271_0⟩ := Kd.at_bool HR0_2.out x3_2 p271 q271; (try rw [← Nbq30.out] at hx271_0); cases e271; replace hx271_0 := (HB.out.cell (World.block_lt_of_cell? w _ hx271_0)).trans hx271_0; replace p271 := eq_true p271; replace q271 := eq_true q271; have p272 : 0 ≤ (x3_2 : Int) := of_decide_eq_true pmAx13_1_; have q272 : x3_2 < (l0_3.length : Int) := of_decide_eq_true pmAx13_1_; obtain ⟨ad272, e272, hx272_0⟩ := Kd.at_int HR0_3.out x3_2 p272 q272; obtain rfl : ad268 = ad272 := (by injection e272); replace hx272_0 := (HB.out.cell (World.block_lt_of_cell? w _ hx272_0)).trans hx272_0; replace p272 := eq_true p272; replace q272 := eq_true q272))
                              go_ret
                              exact ⟨by first | rfl | (simp [errW_none, errW_some] <;> rfl) | (simp [*, errW_none, errW_some] <;> rfl), by repeat (first | (with_reducible first | exact HB.out | apply below_alloc | apply pw_below_drewN | apply below_drew1 | refine below_set ?_ GE265.out) | exact HB.out)⟩
                          · replace c31 := Bool.eq_false_iff.mpr c31
                            subst c31
                            have H1 : (parterreref21_Good.l0 k2 (wrap64 (x3_2 + 1)) a0_0 l0_1 l0_2 l0_3) = some r := by rw [if_neg (show ¬ (false = true) by decide)] at H; exact H
                            clear H
                            have H := H1
                            clear H1
                            have H' := Aside0.mk H
                            clear H
                            have hcz39_0 : wr.cell? ⟨gb265, 0, none⟩ = some (.int .i64 a0_0) := (blk_cell BK265.out 0).trans rfl
                            have hcz39_1 : wr.cell? ⟨gb265, 1, none⟩ = some (.slice A0_1 l0_1.length c0_1) := (blk_cell BK265.out 1).trans rfl
                            have hcz39_2 : wr.cell? ⟨gb265, 2, none⟩ = some (.slice A0_2 l0_2.length c0_2) := (blk_cell BK265.out 2).trans rfl
                            have hcz39_3 : wr.cell? ⟨gb265, 3, none⟩ = some (.slice A0_3 l0_3.length c0_3) := (blk_cell BK265.out 3).trans rfl
                            have hfz39_0 := blk_frozen BK265.out 0
                            have hfz39_1 := blk_frozen BK265.out 1
                            have hfz39_2 := blk_frozen BK265.out 2
                            have hfz39_3 := blk_frozen BK265.out 3
                            have p266 : 0 ≤ (x3_2 : Int) := of_decide_eq_true pmAx13_1_
                            have q266 : x3_2 < (l0_1.length : Int) := of_decide_eq_true pmAx13_1_
                            obtain ⟨ad266, e266, hx266_0, hx266_1, hx266_2, hx266_3, hx266_4, hx266_5, hx266_6⟩ := at_T57 HR0_1.out x3_2 p266 q266
                            (try rw [← Nbq30.out] at hx266_4)
                            cases e266
                            replace hx266_0 := (HB.out.cell (World.block_lt_of_cell? w _ hx266_0)).trans hx266_0
                            replace hx266_1 := (HB.out.cell (World.block_lt_of_cell? w _ hx266_1)).trans hx266_1
                            replace hx266_2 := (HB.out.cell (World.block_lt_of_cell? w _ hx266_2)).trans hx266_2
                            replace hx266_3 := (HB.out.cell (World.block_lt_of_cell? w _ hx266_3)).trans hx266_3
                            replace hx266_4 := (HB.out.cell (World.block_lt_of_cell? w _ hx266_4)).trans hx266_4
                            replace hx266_5 := (HB.out.cell (World.block_lt_of_cell? w _ hx266_5)).trans hx266_5
                            replace hx266_6 := (HB.out.cell (World.block_lt_of_cell? w _ hx266_6)).trans hx266_6
                            replace p266 := eq_true p266
                            replace q266 := eq_true q266
                            go_wp2_with (first | ((with_reducible refine gate_callee (f := 34) rfl ?_); refine goesL_ (some 48) rfl rfl Try.func34 (by kernel_rfl) rfl #[.agg #[.int .i64 ((rd_T57 l0_1 x3_2).f0.f0), .int .i64 ((rd_T57 l0_1 x3_2).f0.f1), .int .i64 ((rd_T57 l0_1 x3_2).f1.f0), .int .i64 ((rd_T57 l0_1 x3_2).f1.f1), .bool ((rd_T57 l0_1 x3_2).f2), .int .i64 ((rd_T57 l0_1 x3_2).f3.f0), .int .i64 ((rd_T57 l0_1 x3_2).f3.f1)]] rfl pmAx13_3_ ?_; (with_reducible refine (parterreref06_Right.calls k2 ((rd_T57 l0_1 x3_2).f0.f0) ((rd_T57 l0_1 x3_2).f0.f1) ((rd_T57 l0_1 x3_2).f1.f0) ((rd_T57 l0_1 x3_2).f1.f1) ((rd_T57 l0_1 x3_2).f2) ((rd_T57 l0_1 x3_2).f3.f0) ((rd_T57 l0_1 x3_2).f3.f1) true _ A16.out).mono ?_); rintro e w40 ⟨rfl, hb⟩; refine ⟨_, rfl, ?_⟩; have n0_ := Aside0.mk (blk_below (g := gb265) (o := .cells #[.int .i64 a0_0, .slice (some ad266) l0_1.length c0_1, .slice A0_2 l0_2.length c0_2, .slice A0_3 l0_3.length c0_3] 26 (0, 0)) pmAx13_2_ hb); have n1_ := Aside0.mk (below_step pmAx13_0_ hb); clear BK265; clear HB; have BK265 := n0_; have HB := n1_; clear n0_ n1_; (try clear hb); (try clear hb2); (try clear hk); (try clear hi); have hcz41_0 : w40.cell? ⟨gb265, 0, none⟩ = some (.int .i64 a0_0) := (blk_cell BK265.out 0).trans rfl; have hcz41_1 : w40.cell? ⟨gb265, 1, none⟩ = some (.slice (some ad266) l0_1.length c0_1) := (blk_cell BK265.out 1).trans rfl; have hcz41_2 : w40.cell? ⟨gb265, 2, none⟩ = some (.slice A0_2 l0_2.length c0_2) := (blk_cell BK265.out 2).trans rfl; have hcz41_3 : w40.cell? ⟨gb265, 3, none⟩ = some (.slice A0_3 l0_3.length c0_3) := (blk_cell BK265.out 3).trans rfl; have hfz41_0 := blk_frozen BK265.out 0; have hfz41_1 := blk_frozen BK265.out 1; have hfz41_2 := blk_frozen BK265.out 2; have hfz41_3 := blk_frozen BK265.out 3; have p268 : 0 ≤ (x3_2 : Int) := of_decide_eq_true pmAx13_1_; have q268 : x3_2 < (l0_3.length : Int) := of_decide_eq_true pmAx13_1_; obtain ⟨ad268, e268, hx268_0⟩ := Kd.at_int HR0_3.out x3_2 p268 q268; cases e268; replace hx268_0 := (HB.out.cell (World.block_lt_of_cell? w _ hx268_0)).trans hx268_0; replace p268 := eq_true p268; replace q268 := eq_true q268) | (go_at_call 35; (with_reducible refine (parterreref21_within.calls (rd l0_3 x3_2) true _ A19.out).mono ?_); rintro e w' ⟨rfl, ⟨nd, rfl⟩⟩; have p271 : 0 ≤ (x3_2 : Int) := of_decide_eq_true pmAx13_1_; have q271 : x3_2 < (l0_2.length : Int) := of_decide_eq_true pmAx13_1_; obtain ⟨ad271, e271, hx271_0⟩ := Kd.at_bool HR0_2.out x3_2 p271 q271; (try rw [← Nbq30.out] at hx271_0); cases e271; replace hx271_0 := (HB.out.cell (World.block_lt_of_cell? w _ hx271_0)).trans hx271_0; replace p271 := eq_true p271; replace q271 := eq_true q271))
                            go_roundg k2
                            case measure => have := HJ1.out; have := HK2.out; omega
                            case rel => exact ⟨(wrap64 (x3_2 + 1)), pmAx13_4_, H', ⟨by have := HJ1.out; have := HK2.out; omega⟩, ⟨pmAx13_2_⟩, ⟨pmAx13_0_⟩⟩
                        · rw [if_neg c29] at H
                          exact absurd H (by simp)
                    · replace c20 := Bool.eq_false_iff.mpr c20
                      subst c20
                      have H1 : (some false) = some r := by rw [if_neg (show ¬ (false = true) by decide)] at H; exact H
                      clear H
                      have H := H1
                      clear H1
                      obtain rfl := Option.some.inj H
                      have hcz42_0 : wr.cell? ⟨gb265, 0, none⟩ = some (.int .i64 a0_0) := (blk_cell BK265.out 0).trans rfl
                      have hcz42_1 : wr.cell? ⟨gb265, 1, none⟩ = some (.slice A0_1 l0_1.length c0_1) := (blk_cell BK265.out 1).trans rfl
                      have hcz42_2 : wr.cell? ⟨gb265, 2, none⟩ = some (.slice A0_2 l0_2.length c0_2) := (blk_cell BK265.out 2).trans rfl
                      have hcz42_3 : wr.cell? ⟨gb265, 3, none⟩ = some (.slice A0_3 l0_3.length c0_3) := (blk_cell BK265.out 3).trans rfl
                      have hfz42_0 := blk_frozen BK265.out 0
                      have hfz42_1 := blk_frozen BK265.out 1
                      have hfz42_2 := blk_frozen BK265.out 2
                      have hfz42_3 := blk_frozen BK265.out 3
                      have p266 : 0 ≤ (x3_2 : Int) := of_decide_eq_true pmAx13_1_
                      have q266 : x3_2 < (l0_1.length : Int) := of_decide_eq_true pmAx13_1_
                      obtain ⟨ad266, e266, hx266_0, hx266_1, hx266_2, hx266_3, hx266_4, hx266_5, hx266_6⟩ := at_T57 HR0_1.out x3_2 p266 q266
                      cases e266
                      replace hx266_0 := (HB.out.cell (World.block_lt_of_cell? w _ hx266_0)).trans hx266_0
                      replace hx266_1 := (HB.out.cell (World.block_lt_of_cell? w _ hx266_1)).trans hx266_1
                      replace hx266_2 := (HB.out.cell (World.block_lt_of_cell? w _ hx266_2)).trans hx266_2
                      replace hx266_3 := (HB.out.cell (World.block_lt_of_cell? w _ hx266_3)).trans hx266_3
                      replace hx266_4 := (HB.out.cell (World.block_lt_of_cell? w _ hx266_4)).trans hx266_4
                      replace hx266_5 := (HB.out.cell (World.block_lt_of_cell? w _ hx266_5)).trans hx266_5
                      replace hx266_6 := (HB.out.cell (World.block_lt_of_cell? w _ hx266_6)).trans hx266_6
                      replace p266 := eq_true p266
                      replace q266 := eq_true q266
                      go_wp2_with (first | ((with_reducible refine gate_callee (f := 34) rfl ?_); refine goesL_ (some 48) rfl rfl Try.func34 (by kernel_rfl) rfl #[.agg #[.int .i64 ((rd_T57 l0_1 x3_2).f0.f0), .int .i64 ((rd_T57 l0_1 x3_2).f0.f1), .int .i64 ((rd_T57 l0_1 x3_2).f1.f0), .int .i64 ((rd_T57 l0_1 x3_2).f1.f1), .bool ((rd_T57 l0_1 x3_2).f2), .int .i64 ((rd_T57 l0_1 x3_2).f3.f0), .int .i64 ((rd_T57 l0_1 x3_2).f3.f1)]] rfl pmAx13_3_ ?_; (with_reducible refine (parterreref06_Right.calls k2 ((rd_T57 l0_1 x3_2).f0.f0) ((rd_T57 l0_1 x3_2).f0.f1) ((rd_T57 l0_1 x3_2).f1.f0) ((rd_T57 l0_1 x3_2).f1.f1) ((rd_T57 l0_1 x3_2).f2) ((rd_T57 l0_1 x3_2).f3.f0) ((rd_T57 l0_1 x3_2).f3.f1) true _ A16.out).mono ?_); rintro e w43 ⟨rfl, hb⟩; refine ⟨_, rfl, ?_⟩; have n0_ := Aside0.mk (blk_below (g := gb265) (o := .cells #[.int .i64 a0_0, .slice (some ad266) l0_1.length c0_1, .slice A0_2 l0_2.length c0_2, .slice A0_3 l0_3.length c0_3] 26 (0, 0)) pmAx13_2_ hb); have n1_ := Aside0.mk (below_step pmAx13_0_ hb); clear BK265; clear HB; have BK265 := n0_; have HB := n1_; clear n0_ n1_; (try clear hb); (try clear hb2); (try clear hk); (try clear hi); have hcz44_0 : w43.cell? ⟨gb265, 0, none⟩ = some (.int .i64 a0_0) := (blk_cell BK265.out 0).trans rfl; have hcz44_1 : w43.cell? ⟨gb265, 1, none⟩ = some (.slice (some ad266) l0_1.length c0_1) := (blk_cell BK265.out 1).trans rfl; have hcz44_2 : w43.cell? ⟨gb265, 2, none⟩ = some (.slice A0_2 l0_2.length c0_2) := (blk_cell BK265.out 2).trans rfl; have hcz44_3 : w43.cell? ⟨gb265, 3, none⟩ = some (.slice A0_3 l0_3.length c0_3) := (blk_cell BK265.out 3).trans rfl; have hfz44_0 := blk_frozen BK265.out 0; have hfz44_1 := blk_frozen BK265.out 1; have hfz44_2 := blk_frozen BK265.out 2; have hfz44_3 := blk_frozen BK265.out 3; have p268 : 0 ≤ (x3_2 : Int) := of_decide_eq_true pmAx13_1_; have q268 : x3_2 < (l0_3.length : Int) := of_decide_eq_true pmAx13_1_; obtain ⟨ad268, e268, hx268_0⟩ := Kd.at_int HR0_3.out x3_2 p268 q268; cases e268; replace hx268_0 := (HB.out.cell (World.block_lt_of_cell? w _ hx268_0)).trans hx268_0; replace p268 := eq_true p268; replace q268 := eq_true q268) | (go_at_call 35; (with_reducible refine (parterreref21_within.calls (rd l0_3 x3_2) false _ A19.out).mono ?_); rintro e w' ⟨rfl, ⟨nd, rfl⟩⟩))
                      go_ret
                      exact ⟨by first | rfl | (simp [errW_none, errW_some] <;> rfl) | (simp [*, errW_none, errW_some] <;> rfl), by repeat (first | (with_reducible first | exact HB.out | apply below_alloc | apply pw_below_drewN | apply below_drew1 | refine below_set ?_ GE265.out) | exact HB.out)⟩
                  · rw [if_neg c18] at H
                    exact absurd H (by simp)
                · replace c17 := Bool.eq_false_iff.mpr c17
                  subst c17
                  have H1 : (some false) = some r := by rw [if_neg (show ¬ (false = true) by decide)] at H; exact H
                  clear H
                  have H := H1
                  clear H1
                  obtain rfl := Option.some.inj H
                  have hcz45_0 : wr.cell? ⟨gb265, 0, none⟩ = some (.int .i64 a0_0) := (blk_cell BK265.out 0).trans rfl
                  have hcz45_1 : wr.cell? ⟨gb265, 1, none⟩ = some (.slice A0_1 l0_1.length c0_1) := (blk_cell BK265.out 1).trans rfl
                  have hcz45_2 : wr.cell? ⟨gb265, 2, none⟩ = some (.slice A0_2 l0_2.length c0_2) := (blk_cell BK265.out 2).trans rfl
                  have hcz45_3 : wr.cell? ⟨gb265, 3, none⟩ = some (.slice A0_3 l0_3.length c0_3) := (blk_cell BK265.out 3).trans rfl
                  have hfz45_0 := blk_frozen BK265.out 0
                  have hfz45_1 := blk_frozen BK265.out 1
                  have hfz45_2 := blk_frozen BK265.out 2
                  have hfz45_3 := blk_frozen BK265.out 3
                  have p266 : 0 ≤ (x3_2 : Int) := of_decide_eq_true pmAx13_1_
                  have q266 : x3_2 < (l0_1.length : Int) := of_decide_eq_true pmAx13_1_
                  obtain ⟨ad266, e266, hx266_0, hx266_1, hx266_2, hx266_3, hx266_4, hx266_5, hx266_6⟩ := at_T57 HR0_1.out x3_2 p266 q266
                  cases e266
                  replace hx266_0 := (HB.out.cell (World.block_lt_of_cell? w _ hx266_0)).trans hx266_0
                  replace hx266_1 := (HB.out.cell (World.block_lt_of_cell? w _ hx266_1)).trans hx266_1
                  replace hx266_2 := (HB.out.cell (World.block_lt_of_cell? w _ hx266_2)).trans hx266_2
                  replace hx266_3 := (HB.out.cell (World.block_lt_of_cell? w _ hx266_3)).trans hx266_3
                  replace hx266_4 := (HB.out.cell (World.block_lt_of_cell? w _ hx266_4)).trans hx266_4
                  replace hx266_5 := (HB.out.cell (World.block_lt_of_cell? w _ hx266_5)).trans hx266_5
                  replace hx266_6 := (HB.out.cell (World.block_lt_of_cell? w _ hx266_6)).trans hx266_6
                  replace p266 := eq_true p266
                  replace q266 := eq_true q266
                  go_wp2_with (first | ((with_reducible refine gate_callee (f := 34) rfl ?_); refine goesL_ (some 48) rfl rfl Try.func34 (by kernel_rfl) rfl #[.agg #[.int .i64 ((rd_T57 l0_1 x3_2).f0.f0), .int .i64 ((rd_T57 l0_1 x3_2).f0.f1), .int .i64 ((rd_T57 l0_1 x3_2).f1.f0), .int .i64 ((rd_T57 l0_1 x3_2).f1.f1), .bool ((rd_T57 l0_1 x3_2).f2), .int .i64 ((rd_T57 l0_1 x3_2).f3.f0), .int .i64 ((rd_T57 l0_1 x3_2).f3.f1)]] rfl pmAx13_3_ ?_; (with_reducible refine (parterreref06_Right.calls k2 ((rd_T57 l0_1 x3_2).f0.f0) ((rd_T57 l0_1 x3_2).f0.f1) ((rd_T57 l0_1 x3_2).f1.f0) ((rd_T57 l0_1 x3_2).f1.f1) ((rd_T57 l0_1 x3_2).f2) ((rd_T57 l0_1 x3_2).f3.f0) ((rd_T57 l0_1 x3_2).f3.f1) false _ A16.out).mono ?_); rintro e w46 ⟨rfl, hb⟩; refine ⟨_, rfl, ?_⟩; have n0_ := Aside0.mk (blk_below (g := gb265) (o := .cells #[.int .i64 a0_0, .slice (some ad266) l0_1.length c0_1, .slice A0_2 l0_2.length c0_2, .slice A0_3 l0_3.length c0_3] 26 (0, 0)) pmAx13_2_ hb); have n1_ := Aside0.mk (below_step pmAx13_0_ hb); clear BK265; clear HB; have BK265 := n0_; have HB := n1_; clear n0_ n1_; (try clear hb); (try clear hb2); (try clear hk); (try clear hi)))
                  go_ret
                  exact ⟨by first | rfl | (simp [errW_none, errW_some] <;> rfl) | (simp [*, errW_none, errW_some] <;> rfl), by repeat (first | (with_reducible first | exact HB.out | apply below_alloc | apply pw_below_drewN | apply below_drew1 | refine below_set ?_ GE265.out) | exact HB.out)⟩
              · rw [if_neg c15] at H
                exact absurd H (by simp)
            · rw [if_neg c14] at H
              have c14b0 : decide (x3_2 < (l0_1.length : Int)) = false := decide_eq_false c14
              clear c14
              obtain rfl := Option.some.inj H
              have hcz47_0 : wr.cell? ⟨gb265, 0, none⟩ = some (.int .i64 a0_0) := (blk_cell BK265.out 0).trans rfl
              have hcz47_1 : wr.cell? ⟨gb265, 1, none⟩ = some (.slice A0_1 l0_1.length c0_1) := (blk_cell BK265.out 1).trans rfl
              have hcz47_2 : wr.cell? ⟨gb265, 2, none⟩ = some (.slice A0_2 l0_2.length c0_2) := (blk_cell BK265.out 2).trans rfl
              have hcz47_3 : wr.cell? ⟨gb265, 3, none⟩ = some (.slice A0_3 l0_3.length c0_3) := (blk_cell BK265.out 3).trans rfl
              have hfz47_0 := blk_frozen BK265.out 0
              have hfz47_1 := blk_frozen BK265.out 1
              have hfz47_2 := blk_frozen BK265.out 2
              have hfz47_3 := blk_frozen BK265.out 3
              go_wp2
              go_ret
              exact ⟨by first | rfl | (simp [errW_none, errW_some] <;> rfl) | (simp [*, errW_none, errW_some] <;> rfl), by repeat (first | (with_reducible first | exact HB.out | apply below_alloc | apply pw_below_drewN | apply below_drew1 | refine below_set ?_ GE265.out) | exact HB.out)⟩

end Go.Proofs.Ytbkohlhonhmhmaa.PA
