-- written by a program of this session (a print of the translation with changes of its own)
import Derived.Test.YtbkohlhonhmhmaaPAx0
import Derived.Test.YtbkohlhonhmhmaaPAx7
import Derived.Test.YtbkohlhonhmhmaaPAx9
import Derived.Test.YtbkohlhonhmhmaaPAx12
import Derived.Test.YtbkohlhonhmhmaaPAx23
namespace Go.Proofs.Ytbkohlhonhmhmaa.PA
open Go.RowKit Go.Proofs.YtbkohlhonhmhmaaW.PrintWords Go.Proofs.YtbkohlhonhmhmaaW.PrintLast Go.Proofs.YtbkohlhonhmhmaaW.PrintMore
theorem pmAx21_0_ {P : Prop} (h : P := by first | (with_reducible assumption) | assumption) : P := h
theorem pmAx21_1_ {P : Prop} (h : P := by repeat (first | (with_reducible first | exact HB.out | apply below_alloc | apply pw_below_drewN | apply below_drew1 | refine below_set ?_ GE400.out) | exact HB.out)) : P := h
theorem pmAx21_2_ {P : Prop} (h : P := by first | rfl | (simp; done) | (simp [*]; done)) : P := h
theorem pmAx21_3_ {P : Prop} (h : P := by (with_reducible repeat (first | refine blk_drewN ?_ _ | refine blk_drew ?_ | refine blk_alloc ?_ _)); exact BK400.out) : P := h
theorem pmAx21_4_ {P : Prop} (h : P := by (with_reducible repeat (first | apply Kd.R_alloc | apply Kd.R_drewN | apply Kd.R_drew)); exact HO_9.out) : P := h
theorem pmAx21_5_ {P : Prop} (h : P := by have := HJ4.out; have := HJ14.out; have := HK3.out; omega) : P := h
theorem pmAx21_6_ {P : Prop} (h : P := by (with_reducible repeat (first | apply Kd.R_alloc | apply Kd.R_drewN | apply Kd.R_drew)); exact HO404.out) : P := h
theorem pmAx21_7_ {P : Prop} (h : P := by first | rfl | (simp; done) | (simp only [← hji47] <;> (first | rfl | simp)) | (simp [*]; done)) : P := h
theorem pmAx21_8_ {P : Prop} (h : P := by first | rfl | (simp; done) | (simp only [← hji48] <;> (first | rfl | simp)) | (simp [*]; done)) : P := h
theorem pmAx21_9_ {P : Prop} (h : P := by (try simp only [List.map_toArray, List.map_cons, List.map_nil]); first | done | rfl | (simp only [List.length_drop, List.length_take]; rfl)) : P := h
theorem pmAx21_10_ {P : Prop} (h : P := by repeat (first | (with_reducible first | exact HB.out | apply below_alloc | apply pw_below_drewN | apply below_drew1) | exact HB.out)) : P := h
attribute [local go_sem] run_index_arr max2_int min2_int max_two min_two max_three min_three max_four min_four   -- for this text's walks alone
set_option linter.unusedVariables false
set_option linter.unusedSimpArgs false

/-! ### parterrelaw28_ContentEven: function 5 -/
mutual
def parterrelaw28_ContentEven.j0 : Nat → List Int → Int → Int → Bool → Int → List (S57) → List Bool → List Int → Option (Bool)
  | 0, _, _, _, _, _, _, _, _ => none
  | k + 1, x1, x2, x3, x28, x401000, x401001, x401002, x401003 => if x28 = true then ((parterrelaw28_lives.f k).bind fun t401 => (some t401)) else ((content_Starts.f k x401000 x401001 x401002 x401003 x1 x2 x3).bind fun bt402 => ((tracks_Sum.f k x401000 x401001 x401002 x401003 x1).bind fun bt406 => (if bt402.2 = 0 then (if bt406.2 = 0 then (if (bt402.1.length : Int) = (x1.length : Int) then (if (x401003.length : Int) = (bt402.1.length : Int) then (parterrelaw28_ContentEven.j1 k x1 x2 x3 bt402.1 bt402.2 bt406.1 ((x401002.length : Int) != (bt402.1.length : Int)) x401000 x401001 x401002 x401003) else (parterrelaw28_ContentEven.j1 k x1 x2 x3 bt402.1 bt402.2 bt406.1 true x401000 x401001 x401002 x401003)) else (parterrelaw28_ContentEven.j1 k x1 x2 x3 bt402.1 bt402.2 bt406.1 true x401000 x401001 x401002 x401003)) else (parterrelaw28_ContentEven.j1 k x1 x2 x3 bt402.1 bt402.2 bt406.1 true x401000 x401001 x401002 x401003)) else (parterrelaw28_ContentEven.j1 k x1 x2 x3 bt402.1 bt402.2 bt406.1 true x401000 x401001 x401002 x401003))))
def parterrelaw28_ContentEven.j1 : Nat → List Int → Int → Int → List Int → Int → Int → Bool → Int → List (S57) → List Bool → List Int → Option (Bool)
  | 0, _, _, _, _, _, _, _, _, _, _, _ => none
  | k + 1, x1, x2, x3, x9, x10, x11, x72, x401000, x401001, x401002, x401003 => if x72 = true then (if x10 = 0 then (some false) else (if (x9.length : Int) = 0 then ((parterrelaw28_lives.f k).bind fun t408 => (some t408)) else (some false))) else (parterrelaw28_ContentEven.l0 k x1 x2 x3 x9 x11 1152921504606846976 0 0 false 0 (x9.length : Int) 0 x401000 x401001 x401002 x401003)
def parterrelaw28_ContentEven.l0 : Nat → List Int → Int → Int → List Int → Int → Int → Int → Int → Bool → Int → Int → Int → Int → List (S57) → List Bool → List Int → Option (Bool)
  | 0, _, _, _, _, _, _, _, _, _, _, _, _, _, _, _, _ => none
  | k + 1, x1, x2, x3, x9, x11, x13, x14, x15, x16, x17, x84, x85, x401000, x401001, x401002, x401003 => if x85 < x84 then (if 0 ≤ x85 then (if x85 < (x401003.length : Int) then (if x85 < (x9.length : Int) then (if x85 < (x1.length : Int) then (if x85 < (x401002.length : Int) then (if rdOf false x401002 x85 = true then (parterrelaw28_ContentEven.l0 k x1 x2 x3 x9 x11 x13 x14 x15 x16 (wrap64 ((wrap64 (x17 + (rd x401003 x85))) + (rd x1 x85))) x84 (wrap64 (x85 + 1)) x401000 x401001 x401002 x401003) else (if x16 = true then (if x3 < 7 then (if (wrap64 ((rd x9 x85) - (wrap64 (x17 + (rd x401003 x85))))) = x15 then (if x2 ≤ x11 then (if x3 ≥ 7 then (if (wrap64 ((rd x9 x85) - (wrap64 (x17 + (rd x401003 x85))))) = 0 then (parterrelaw28_ContentEven.l0 k x1 x2 x3 x9 x11 (mn x13 (wrap64 ((wrap64 ((rd x9 x85) - (wrap64 (x17 + (rd x401003 x85))))) - x15))) (mx x14 (wrap64 ((wrap64 ((rd x9 x85) - (wrap64 (x17 + (rd x401003 x85))))) - x15))) (wrap64 ((rd x9 x85) - (wrap64 (x17 + (rd x401003 x85))))) true (wrap64 ((wrap64 (x17 + (rd x401003 x85))) + (rd x1 x85))) x84 (wrap64 (x85 + 1)) x401000 x401001 x401002 x401003) else (some false)) else (parterrelaw28_ContentEven.l0 k x1 x2 x3 x9 x11 (mn x13 (wrap64 ((wrap64 ((rd x9 x85) - (wrap64 (x17 + (rd x401003 x85))))) - x15))) (mx x14 (wrap64 ((wrap64 ((rd x9 x85) - (wrap64 (x17 + (rd x401003 x85))))) - x15))) (wrap64 ((rd x9 x85) - (wrap64 (x17 + (rd x401003 x85))))) true (wrap64 ((wrap64 (x17 + (rd x401003 x85))) + (rd x1 x85))) x84 (wrap64 (x85 + 1)) x401000 x401001 x401002 x401003)) else (parterrelaw28_ContentEven.l0 k x1 x2 x3 x9 x11 (mn x13 (wrap64 ((wrap64 ((rd x9 x85) - (wrap64 (x17 + (rd x401003 x85))))) - x15))) (mx x14 (wrap64 ((wrap64 ((rd x9 x85) - (wrap64 (x17 + (rd x401003 x85))))) - x15))) (wrap64 ((rd x9 x85) - (wrap64 (x17 + (rd x401003 x85))))) true (wrap64 ((wrap64 (x17 + (rd x401003 x85))) + (rd x1 x85))) x84 (wrap64 (x85 + 1)) x401000 x401001 x401002 x401003)) else (some false)) else (if x2 ≤ x11 then (if x3 ≥ 7 then (if (wrap64 ((rd x9 x85) - (wrap64 (x17 + (rd x401003 x85))))) = 0 then (parterrelaw28_ContentEven.l0 k x1 x2 x3 x9 x11 (mn x13 (wrap64 ((wrap64 ((rd x9 x85) - (wrap64 (x17 + (rd x401003 x85))))) - x15))) (mx x14 (wrap64 ((wrap64 ((rd x9 x85) - (wrap64 (x17 + (rd x401003 x85))))) - x15))) (wrap64 ((rd x9 x85) - (wrap64 (x17 + (rd x401003 x85))))) true (wrap64 ((wrap64 (x17 + (rd x401003 x85))) + (rd x1 x85))) x84 (wrap64 (x85 + 1)) x401000 x401001 x401002 x401003) else (some false)) else (parterrelaw28_ContentEven.l0 k x1 x2 x3 x9 x11 (mn x13 (wrap64 ((wrap64 ((rd x9 x85) - (wrap64 (x17 + (rd x401003 x85))))) - x15))) (mx x14 (wrap64 ((wrap64 ((rd x9 x85) - (wrap64 (x17 + (rd x401003 x85))))) - x15))) (wrap64 ((rd x9 x85) - (wrap64 (x17 + (rd x401003 x85))))) true (wrap64 ((wrap64 (x17 + (rd x401003 x85))) + (rd x1 x85))) x84 (wrap64 (x85 + 1)) x401000 x401001 x401002 x401003)) else (parterrelaw28_ContentEven.l0 k x1 x2 x3 x9 x11 (mn x13 (wrap64 ((wrap64 ((rd x9 x85) - (wrap64 (x17 + (rd x401003 x85))))) - x15))) (mx x14 (wrap64 ((wrap64 ((rd x9 x85) - (wrap64 (x17 + (rd x401003 x85))))) - x15))) (wrap64 ((rd x9 x85) - (wrap64 (x17 + (rd x401003 x85))))) true (wrap64 ((wrap64 (x17 + (rd x401003 x85))) + (rd x1 x85))) x84 (wrap64 (x85 + 1)) x401000 x401001 x401002 x401003))) else (if x3 < 7 then (if x2 ≤ x11 then (if x3 ≥ 7 then (if (wrap64 ((rd x9 x85) - (wrap64 (x17 + (rd x401003 x85))))) = 0 then (parterrelaw28_ContentEven.l0 k x1 x2 x3 x9 x11 x13 x14 (wrap64 ((rd x9 x85) - (wrap64 (x17 + (rd x401003 x85))))) true (wrap64 ((wrap64 (x17 + (rd x401003 x85))) + (rd x1 x85))) x84 (wrap64 (x85 + 1)) x401000 x401001 x401002 x401003) else (some false)) else (parterrelaw28_ContentEven.l0 k x1 x2 x3 x9 x11 x13 x14 (wrap64 ((rd x9 x85) - (wrap64 (x17 + (rd x401003 x85))))) true (wrap64 ((wrap64 (x17 + (rd x401003 x85))) + (rd x1 x85))) x84 (wrap64 (x85 + 1)) x401000 x401001 x401002 x401003)) else (parterrelaw28_ContentEven.l0 k x1 x2 x3 x9 x11 x13 x14 (wrap64 ((rd x9 x85) - (wrap64 (x17 + (rd x401003 x85))))) true (wrap64 ((wrap64 (x17 + (rd x401003 x85))) + (rd x1 x85))) x84 (wrap64 (x85 + 1)) x401000 x401001 x401002 x401003)) else (if x2 ≤ x11 then (if x3 ≥ 7 then (if (wrap64 ((rd x9 x85) - (wrap64 (x17 + (rd x401003 x85))))) = 0 then (parterrelaw28_ContentEven.l0 k x1 x2 x3 x9 x11 x13 x14 (wrap64 ((rd x9 x85) - (wrap64 (x17 + (rd x401003 x85))))) true (wrap64 ((wrap64 (x17 + (rd x401003 x85))) + (rd x1 x85))) x84 (wrap64 (x85 + 1)) x401000 x401001 x401002 x401003) else (some false)) else (parterrelaw28_ContentEven.l0 k x1 x2 x3 x9 x11 x13 x14 (wrap64 ((rd x9 x85) - (wrap64 (x17 + (rd x401003 x85))))) true (wrap64 ((wrap64 (x17 + (rd x401003 x85))) + (rd x1 x85))) x84 (wrap64 (x85 + 1)) x401000 x401001 x401002 x401003)) else (parterrelaw28_ContentEven.l0 k x1 x2 x3 x9 x11 x13 x14 (wrap64 ((rd x9 x85) - (wrap64 (x17 + (rd x401003 x85))))) true (wrap64 ((wrap64 (x17 + (rd x401003 x85))) + (rd x1 x85))) x84 (wrap64 (x85 + 1)) x401000 x401001 x401002 x401003))))) else (none)) else (none)) else (none)) else (none)) else (none)) else (if x13 > x14 then ((parterrelaw28_lives.f k).bind fun t413 => (some t413)) else (if (wrap64 (x14 - x13)) ≤ 1 then ((parterrelaw28_lives.f k).bind fun t414 => (some t414)) else (some false)))
end
def parterrelaw28_ContentEven.f (k : Nat) (a0_0 : Int) (l0_1 : List (S57)) (l0_2 : List Bool) (l0_3 : List Int) (l1 : List Int) (a2 : Int) (a3 : Int) : Option (Bool) := if (l0_1.length : Int) > 300 then (parterrelaw28_ContentEven.j0 k l1 a2 a3 true a0_0 l0_1 l0_2 l0_3) else (parterrelaw28_ContentEven.j0 k l1 a2 a3 (decide ((l1.length : Int) > 300)) a0_0 l0_1 l0_2 l0_3)
theorem parterrelaw28_ContentEven.mono_l : ∀ k, (∀ y0 y1 y2 y3 y4 y5 y6 y7, LeO (parterrelaw28_ContentEven.j0 k y0 y1 y2 y3 y4 y5 y6 y7) (parterrelaw28_ContentEven.j0 (k + 1) y0 y1 y2 y3 y4 y5 y6 y7)) ∧ (∀ y0 y1 y2 y3 y4 y5 y6 y7 y8 y9 y10, LeO (parterrelaw28_ContentEven.j1 k y0 y1 y2 y3 y4 y5 y6 y7 y8 y9 y10) (parterrelaw28_ContentEven.j1 (k + 1) y0 y1 y2 y3 y4 y5 y6 y7 y8 y9 y10)) ∧ (∀ y0 y1 y2 y3 y4 y5 y6 y7 y8 y9 y10 y11 y12 y13 y14 y15, LeO (parterrelaw28_ContentEven.l0 k y0 y1 y2 y3 y4 y5 y6 y7 y8 y9 y10 y11 y12 y13 y14 y15) (parterrelaw28_ContentEven.l0 (k + 1) y0 y1 y2 y3 y4 y5 y6 y7 y8 y9 y10 y11 y12 y13 y14 y15))
  | 0 => ⟨fun _ _ _ _ _ _ _ _ r h => by simp [parterrelaw28_ContentEven.j0] at h, fun _ _ _ _ _ _ _ _ _ _ _ r h => by simp [parterrelaw28_ContentEven.j1] at h, fun _ _ _ _ _ _ _ _ _ _ _ _ _ _ _ _ r h => by simp [parterrelaw28_ContentEven.l0] at h⟩
  | k + 1 => by
    obtain ⟨ih0, ih1, ih2⟩ := parterrelaw28_ContentEven.mono_l k
    refine ⟨?_, ?_, ?_⟩
    · intro y0 y1 y2 y3 y4 y5 y6 y7
      unfold parterrelaw28_ContentEven.j0
      repeat' first
      | (with_reducible exact ih0 _ _ _ _ _ _ _ _)
      | (with_reducible exact ih1 _ _ _ _ _ _ _ _ _ _ _)
      | (with_reducible exact ih2 _ _ _ _ _ _ _ _ _ _ _ _ _ _ _ _)
      | (with_reducible exact content_Starts.mono _ _ _ _ _ _ _ _)
      | (with_reducible exact parterrelaw28_lives.mono _)
      | (with_reducible exact tracks_Sum.mono _ _ _ _ _ _)
      | (with_reducible exact LeO.refl _)
      | (with_reducible exact LeO.none _)
      | (with_reducible refine LeO.ite ?_ ?_)
      | (with_reducible refine LeO.bind ?_ (fun _ => ?_))
      | exact ih0 _ _ _ _ _ _ _ _
      | exact ih1 _ _ _ _ _ _ _ _ _ _ _
      | exact ih2 _ _ _ _ _ _ _ _ _ _ _ _ _ _ _ _
      | exact content_Starts.mono _ _ _ _ _ _ _ _
      | exact parterrelaw28_lives.mono _
      | exact tracks_Sum.mono _ _ _ _ _ _
      | exact LeO.none _
      | refine LeO.ite ?_ ?_
      | refine LeO.bind ?_ (fun _ => ?_)
    · intro y0 y1 y2 y3 y4 y5 y6 y7 y8 y9 y10
      unfold parterrelaw28_ContentEven.j1
      repeat' first
      | (with_reducible exact ih0 _ _ _ _ _ _ _ _)
      | (with_reducible exact ih1 _ _ _ _ _ _ _ _ _ _ _)
      | (with_reducible exact ih2 _ _ _ _ _ _ _ _ _ _ _ _ _ _ _ _)
      | (with_reducible exact content_Starts.mono _ _ _ _ _ _ _ _)
      | (with_reducible exact parterrelaw28_lives.mono _)
      | (with_reducible exact tracks_Sum.mono _ _ _ _ _ _)
      | (with_reducible exact LeO.refl _)
      | (with_reducible exact LeO.none _)
      | (with_reducible refine LeO.ite ?_ ?_)
      | (with_reducible refine LeO.bind ?_ (fun _ => ?_))
      | exact ih0 _ _ _ _ _ _ _ _
      | exact ih1 _ _ _ _ _ _ _ _ _ _ _
      | exact ih2 _ _ _ _ _ _ _ _ _ _ _ _ _ _ _ _
      | exact content_Starts.mono _ _ _ _ _ _ _ _
      | exact parterrelaw28_lives.mono _
      | exact tracks_Sum.mono _ _ _ _ _ _
      | exact LeO.none _
      | refine LeO.ite ?_ ?_
      | refine LeO.bind ?_ (fun _ => ?_)
    · intro y0 y1 y2 y3 y4 y5 y6 y7 y8 y9 y10 y11 y12 y13 y14 y15
      unfold parterrelaw28_ContentEven.l0
      repeat' first
      | (with_reducible exact ih0 _ _ _ _ _ _ _ _)
      | (with_reducible exact ih1 _ _ _ _ _ _ _ _ _ _ _)
      | (with_reducible exact ih2 _ _ _ _ _ _ _ _ _ _ _ _ _ _ _ _)
      | (with_reducible exact content_Starts.mono _ _ _ _ _ _ _ _)
      | (with_reducible exact parterrelaw28_lives.mono _)
      | (with_reducible exact tracks_Sum.mono _ _ _ _ _ _)
      | (with_reducible exact LeO.refl _)
      | (with_reducible exact LeO.none _)
      | (with_reducible refine LeO.ite ?_ ?_)
      | (with_reducible refine LeO.bind ?_ (fun _ => ?_))
      | exact ih0 _ _ _ _ _ _ _ _
      | exact ih1 _ _ _ _ _ _ _ _ _ _ _
      | exact ih2 _ _ _ _ _ _ _ _ _ _ _ _ _ _ _ _
      | exact content_Starts.mono _ _ _ _ _ _ _ _
      | exact parterrelaw28_lives.mono _
      | exact tracks_Sum.mono _ _ _ _ _ _
      | exact LeO.none _
      | refine LeO.ite ?_ ?_
      | refine LeO.bind ?_ (fun _ => ?_)
theorem parterrelaw28_ContentEven.mono : ∀ a0 a1 a2 a3 a4 a5 a6 k, LeO (parterrelaw28_ContentEven.f k a0 a1 a2 a3 a4 a5 a6) (parterrelaw28_ContentEven.f (k + 1) a0 a1 a2 a3 a4 a5 a6) := by
  intro a0 a1 a2 a3 a4 a5 a6 k
  obtain ⟨ih0, ih1, ih2⟩ := parterrelaw28_ContentEven.mono_l k
  unfold parterrelaw28_ContentEven.f
  repeat' first
      | (with_reducible exact ih0 _ _ _ _ _ _ _ _)
      | (with_reducible exact ih1 _ _ _ _ _ _ _ _ _ _ _)
      | (with_reducible exact ih2 _ _ _ _ _ _ _ _ _ _ _ _ _ _ _ _)
      | (with_reducible exact content_Starts.mono _ _ _ _ _ _ _ _)
      | (with_reducible exact parterrelaw28_lives.mono _)
      | (with_reducible exact tracks_Sum.mono _ _ _ _ _ _)
      | (with_reducible exact LeO.refl _)
      | (with_reducible exact LeO.none _)
      | (with_reducible refine LeO.ite ?_ ?_)
      | (with_reducible refine LeO.bind ?_ (fun _ => ?_))
      | exact ih0 _ _ _ _ _ _ _ _
      | exact ih1 _ _ _ _ _ _ _ _ _ _ _
      | exact ih2 _ _ _ _ _ _ _ _ _ _ _ _ _ _ _ _
      | exact content_Starts.mono _ _ _ _ _ _ _ _
      | exact parterrelaw28_lives.mono _
      | exact tracks_Sum.mono _ _ _ _ _ _
      | exact LeO.none _
      | refine LeO.ite ?_ ?_
      | refine LeO.bind ?_ (fun _ => ?_)
set_option maxHeartbeats 8000000 in
set_option maxRecDepth 100000 in
theorem parterrelaw28_ContentEven.calls (k : Nat) (a0_0 : Int) (A0_1 : Option Addr) (c0_1 : Nat) (l0_1 : List (S57)) (A0_2 : Option Addr) (c0_2 : Nat) (l0_2 : List Bool) (A0_3 : Option Addr) (c0_3 : Nat) (l0_3 : List Int) (A1 : Option Addr) (c1 : Nat) (l1 : List Int) (a2 : Int) (a3 : Int) (r : Bool) (w : World) (hr0_1 : Kd.C k57 w A0_1 l0_1.length l0_1) (hc0_1 : l0_1.length ≤ c0_1) (hr0_2 : Kd.C Kd.bool w A0_2 l0_2.length l0_2) (hc0_2 : l0_2.length ≤ c0_2) (hr0_3 : Kd.C (Kd.int .i64) w A0_3 l0_3.length l0_3) (hc0_3 : l0_3.length ≤ c0_3) (hr1 : Kd.C (Kd.int .i64) w A1 l1.length l1) (hc1 : l1.length ≤ c1) (h : parterrelaw28_ContentEven.f k a0_0 l0_1 l0_2 l0_3 l1 a2 a3 = some r) :
    Calls Try.prog 5 #[.agg #[.int .i64 a0_0, .slice A0_1 l0_1.length c0_1, .slice A0_2 l0_2.length c0_2, .slice A0_3 l0_3.length c0_3], .slice A1 l1.length c1, .int .i64 a2, .int .i64 a3] w fun e w' => e = .returned (.bool r) ∧ Below w.heap.size w w' := by
  have hu26 := Try.underlying26
  have HR0_1 := Aside0.mk hr0_1
  have HC0_1 := Aside0.mk hc0_1
  clear hr0_1 hc0_1
  have HR0_2 := Aside0.mk hr0_2
  have HC0_2 := Aside0.mk hc0_2
  clear hr0_2 hc0_2
  have HR0_3 := Aside0.mk hr0_3
  have HC0_3 := Aside0.mk hc0_3
  clear hr0_3 hc0_3
  have HR1 := Aside0.mk hr1
  have HC1 := Aside0.mk hc1
  clear hr1 hc1
  have HB := Aside0.mk (Below.refl w.heap.size w)
  have H : (if (l0_1.length : Int) > 300 then (parterrelaw28_ContentEven.j0 k l1 a2 a3 true a0_0 l0_1 l0_2 l0_3) else (parterrelaw28_ContentEven.j0 k l1 a2 a3 (decide ((l1.length : Int) > 300)) a0_0 l0_1 l0_2 l0_3)) = some r := h
  clear h
  have HC5 := Aside0.mk H
  clear H
  go_enter Try.func5, Try.ntmps5
  go_upto_region 1 with (first | ((with_reducible refine gate_dst (N := 4) rfl ?_); (try (refine gate_guard (by rfl) ?_; dsimp only)); refine box_event ?hg (N := 4) ?hd (cs := #[.int .i64 a0_0, .slice A0_1 l0_1.length c0_1, .slice A0_2 l0_2.length c0_2, .slice A0_3 l0_3.length c0_3]) (t := 26) ?hr ?_; (case hd => rfl); (case hg => rfl); (case hr => first | (go_simp; done) | (go_simp; rfl)); intro gb400 hg w6 hbox hb; have n0_ := Aside0.mk (below_step pmAx21_10_ hb); have n1_ := Aside0.mk (hbox); have n2_ := Aside0.mk ((by rw [hg]; exact (below_size pmAx21_10_) : w.heap.size ≤ gb400)); have n3_ := Aside0.mk ((by rw [hg]; exact (below_size pmAx21_10_) : w.heap.size ≤ gb400)); clear HB; have HB := n0_; have BK400 := n1_; have GW400 := n2_; have GE400 := n3_; clear n0_ n1_ n2_ n3_; clear hb hbox hg))
  (try simp only [Act.put, List.setIfInBounds_toArray, List.set_cons_zero, List.set_cons_succ])
  go_cut [28] (fun v28 wc => ∃ (kq : Nat) (x28_4 : Bool), v28 = .bool x28_4 ∧ Aside0 (parterrelaw28_ContentEven.j0 kq l1 a2 a3 x28_4 a0_0 l0_1 l0_2 l0_3 = some r) ∧ Aside0 (kq ≤ k) ∧ Aside0 (wc.heap[gb400]? = some (.cells #[.int .i64 a0_0, (.slice A0_1 l0_1.length c0_1), (.slice A0_2 l0_2.length c0_2), (.slice A0_3 l0_3.length c0_3)] 26 (0, 0))) ∧ Aside0 (Below w.heap.size w wc))
  case first =>
    have H := HC5.out
    clear HC5
    by_cases c7 : (l0_1.length : Int) > 300
    rotate_left
    · rw [if_neg c7] at H
      have c7b0 : decide (300 < (l0_1.length : Int)) = false := decide_eq_false c7
      have c7b1 : decide (300 < l0_1.length) = false := decide_eq_false (by omega)
      clear c7
      (first | rw [c7b0] | (simp only [i64_w, i32_w]; rw [c7b0]) | skip)
      have H' := Aside0.mk H
      clear H
      have hcz9_0 : w6.cell? ⟨gb400, 0, none⟩ = some (.int .i64 a0_0) := (blk_cell BK400.out 0).trans rfl
      have hcz9_1 : w6.cell? ⟨gb400, 1, none⟩ = some (.slice A0_1 l0_1.length c0_1) := (blk_cell BK400.out 1).trans rfl
      have hcz9_2 : w6.cell? ⟨gb400, 2, none⟩ = some (.slice A0_2 l0_2.length c0_2) := (blk_cell BK400.out 2).trans rfl
      have hcz9_3 : w6.cell? ⟨gb400, 3, none⟩ = some (.slice A0_3 l0_3.length c0_3) := (blk_cell BK400.out 3).trans rfl
      have hfz9_0 := blk_frozen BK400.out 0
      have hfz9_1 := blk_frozen BK400.out 1
      have hfz9_2 := blk_frozen BK400.out 2
      have hfz9_3 := blk_frozen BK400.out 3
      go_wp2
      go_meet
      case rel => exact ⟨_, (decide ((l1.length : Int) > 300)), pmAx21_2_, H', ⟨by first | omega | exact Nat.le_refl _⟩, ⟨pmAx21_3_⟩, ⟨pmAx21_1_⟩⟩
    rw [if_pos c7] at H
    have c7b0 : decide (300 < (l0_1.length : Int)) = true := decide_eq_true c7
    have c7b1 : decide (300 < l0_1.length) = true := decide_eq_true (by omega)
    clear c7
    (first | rw [c7b0] | (simp only [i64_w, i32_w]; rw [c7b0]) | skip)
    have H' := Aside0.mk H
    clear H
    have hcz8_0 : w6.cell? ⟨gb400, 0, none⟩ = some (.int .i64 a0_0) := (blk_cell BK400.out 0).trans rfl
    have hcz8_1 : w6.cell? ⟨gb400, 1, none⟩ = some (.slice A0_1 l0_1.length c0_1) := (blk_cell BK400.out 1).trans rfl
    have hcz8_2 : w6.cell? ⟨gb400, 2, none⟩ = some (.slice A0_2 l0_2.length c0_2) := (blk_cell BK400.out 2).trans rfl
    have hcz8_3 : w6.cell? ⟨gb400, 3, none⟩ = some (.slice A0_3 l0_3.length c0_3) := (blk_cell BK400.out 3).trans rfl
    have hfz8_0 := blk_frozen BK400.out 0
    have hfz8_1 := blk_frozen BK400.out 1
    have hfz8_2 := blk_frozen BK400.out 2
    have hfz8_3 := blk_frozen BK400.out 3
    go_wp2
    go_meet
    case rel => exact ⟨_, (true), pmAx21_2_, H', ⟨by first | omega | exact Nat.le_refl _⟩, ⟨pmAx21_3_⟩, ⟨pmAx21_1_⟩⟩
  case rest =>
    clear HC5
    try clear c1
    try clear p2
    try clear c5
    try clear c7
    try clear c7b0
    try clear c7b1
    try clear hcz8_0
    try clear hcz8_1
    try clear hcz8_2
    try clear hcz8_3
    try clear hcz9_0
    try clear hcz9_1
    try clear hcz9_2
    try clear hcz9_3
    try clear hfz8_0
    try clear hfz8_1
    try clear hfz8_2
    try clear hfz8_3
    try clear hfz9_0
    try clear hfz9_1
    try clear hfz9_2
    try clear hfz9_3
    obtain ⟨kq, x28_4, rfl, HA, HJ4, BK400, HB⟩ := hcut
    cases kq with
    | zero => exact absurd HA.out (by simp [parterrelaw28_ContentEven.j0])
    | succ kj4 =>
      have H := HA.out
      clear HA
      simp only [parterrelaw28_ContentEven.j0] at H
      by_cases c10 : x28_4 = true
      · subst c10
        have H1 : ((parterrelaw28_lives.f kj4).bind fun t401 => (some t401)) = some r := by rw [if_pos rfl] at H; exact H
        clear H
        have H := H1
        clear H1
        replace H := Option.bind_eq_some_iff.mp H
        obtain ⟨t401, A110, H⟩ := H
        replace H : (some t401) = some r := H
        have A11 := Aside0.mk A110
        clear A110
        obtain rfl := Option.some.inj H
        go_wp2_with (first | ((with_reducible refine gate_callee (f := 7) rfl ?_); refine goesL_ (some 29) rfl rfl Try.func7 (by kernel_rfl) rfl #[] rfl pmAx21_9_ ?_; (with_reducible refine (parterrelaw28_lives.calls kj4  t401 _ A11.out).mono ?_); rintro e w12 ⟨rfl, hb⟩; refine ⟨_, rfl, ?_⟩; have n0_ := Aside0.mk (blk_below (g := gb400) (o := .cells #[.int .i64 a0_0, .slice A0_1 l0_1.length c0_1, .slice A0_2 l0_2.length c0_2, .slice A0_3 l0_3.length c0_3] 26 (0, 0)) pmAx21_3_ hb); have n1_ := Aside0.mk (below_step pmAx21_1_ hb); clear BK400; clear HB; have BK400 := n0_; have HB := n1_; clear n0_ n1_; (try clear hb); (try clear hb2); (try clear hk); (try clear hi)))
        go_ret
        exact ⟨by first | rfl | (simp [errW_none, errW_some] <;> rfl) | (simp [*, errW_none, errW_some] <;> rfl), by repeat (first | (with_reducible first | exact HB.out | apply below_alloc | apply pw_below_drewN | apply below_drew1 | refine below_set ?_ GE400.out) | exact HB.out)⟩
      replace c10 := Bool.eq_false_iff.mpr c10
      subst c10
      have H1 : ((content_Starts.f kj4 a0_0 l0_1 l0_2 l0_3 l1 a2 a3).bind fun bt402 => ((tracks_Sum.f kj4 a0_0 l0_1 l0_2 l0_3 l1).bind fun bt406 => (if bt402.2 = 0 then (if bt406.2 = 0 then (if (bt402.1.length : Int) = (l1.length : Int) then (if (l0_3.length : Int) = (bt402.1.length : Int) then (parterrelaw28_ContentEven.j1 kj4 l1 a2 a3 bt402.1 bt402.2 bt406.1 ((l0_2.length : Int) != (bt402.1.length : Int)) a0_0 l0_1 l0_2 l0_3) else (parterrelaw28_ContentEven.j1 kj4 l1 a2 a3 bt402.1 bt402.2 bt406.1 true a0_0 l0_1 l0_2 l0_3)) else (parterrelaw28_ContentEven.j1 kj4 l1 a2 a3 bt402.1 bt402.2 bt406.1 true a0_0 l0_1 l0_2 l0_3)) else (parterrelaw28_ContentEven.j1 kj4 l1 a2 a3 bt402.1 bt402.2 bt406.1 true a0_0 l0_1 l0_2 l0_3)) else (parterrelaw28_ContentEven.j1 kj4 l1 a2 a3 bt402.1 bt402.2 bt406.1 true a0_0 l0_1 l0_2 l0_3)))) = some r := by rw [if_neg (show ¬ (false = true) by decide)] at H; exact H
      clear H
      have H := H1
      clear H1
      replace H := Option.bind_eq_some_iff.mp H
      obtain ⟨⟨t402, t405⟩, A130, H⟩ := H
      replace H : ((tracks_Sum.f kj4 a0_0 l0_1 l0_2 l0_3 l1).bind fun bt406 => (if t405 = 0 then (if bt406.2 = 0 then (if (t402.length : Int) = (l1.length : Int) then (if (l0_3.length : Int) = (t402.length : Int) then (parterrelaw28_ContentEven.j1 kj4 l1 a2 a3 t402 t405 bt406.1 ((l0_2.length : Int) != (t402.length : Int)) a0_0 l0_1 l0_2 l0_3) else (parterrelaw28_ContentEven.j1 kj4 l1 a2 a3 t402 t405 bt406.1 true a0_0 l0_1 l0_2 l0_3)) else (parterrelaw28_ContentEven.j1 kj4 l1 a2 a3 t402 t405 bt406.1 true a0_0 l0_1 l0_2 l0_3)) else (parterrelaw28_ContentEven.j1 kj4 l1 a2 a3 t402 t405 bt406.1 true a0_0 l0_1 l0_2 l0_3)) else (parterrelaw28_ContentEven.j1 kj4 l1 a2 a3 t402 t405 bt406.1 true a0_0 l0_1 l0_2 l0_3))) = some r := H
      have A13 := Aside0.mk A130
      clear A130
      replace H := Option.bind_eq_some_iff.mp H
      obtain ⟨⟨t406, t407⟩, A140, H⟩ := H
      replace H : (if t405 = 0 then (if t407 = 0 then (if (t402.length : Int) = (l1.length : Int) then (if (l0_3.length : Int) = (t402.length : Int) then (parterrelaw28_ContentEven.j1 kj4 l1 a2 a3 t402 t405 t406 ((l0_2.length : Int) != (t402.length : Int)) a0_0 l0_1 l0_2 l0_3) else (parterrelaw28_ContentEven.j1 kj4 l1 a2 a3 t402 t405 t406 true a0_0 l0_1 l0_2 l0_3)) else (parterrelaw28_ContentEven.j1 kj4 l1 a2 a3 t402 t405 t406 true a0_0 l0_1 l0_2 l0_3)) else (parterrelaw28_ContentEven.j1 kj4 l1 a2 a3 t402 t405 t406 true a0_0 l0_1 l0_2 l0_3)) else (parterrelaw28_ContentEven.j1 kj4 l1 a2 a3 t402 t405 t406 true a0_0 l0_1 l0_2 l0_3)) = some r := H
      have A14 := Aside0.mk A140
      clear A140
      have HC15 := Aside0.mk H
      clear H
      have hcz16_0 : wc.cell? ⟨gb400, 0, none⟩ = some (.int .i64 a0_0) := (blk_cell BK400.out 0).trans rfl
      have hcz16_1 : wc.cell? ⟨gb400, 1, none⟩ = some (.slice A0_1 l0_1.length c0_1) := (blk_cell BK400.out 1).trans rfl
      have hcz16_2 : wc.cell? ⟨gb400, 2, none⟩ = some (.slice A0_2 l0_2.length c0_2) := (blk_cell BK400.out 2).trans rfl
      have hcz16_3 : wc.cell? ⟨gb400, 3, none⟩ = some (.slice A0_3 l0_3.length c0_3) := (blk_cell BK400.out 3).trans rfl
      have hfz16_0 := blk_frozen BK400.out 0
      have hfz16_1 := blk_frozen BK400.out 1
      have hfz16_2 := blk_frozen BK400.out 2
      have hfz16_3 := blk_frozen BK400.out 3
      go_upto_region 5 with (first | ((with_reducible refine gate_callee (f := 8) rfl ?_); refine goesL_ (some 35) rfl rfl Try.func8 (by kernel_rfl) rfl #[.agg #[.int .i64 a0_0, .slice A0_1 l0_1.length c0_1, .slice A0_2 l0_2.length c0_2, .slice A0_3 l0_3.length c0_3], .slice A1 l1.length c1, .int .i64 a2, .int .i64 a3] rfl pmAx21_9_ ?_; (with_reducible refine (content_Starts.calls kj4 a0_0 _ _ l0_1 _ _ l0_2 _ _ l0_3 _ _ l1 a2 a3 t402 t405 _ ?side1 ?side2 ?side3 ?side4 ?side5 ?side6 ?side7 ?side8 A13.out).mono ?_); (case side1 => repeat (first | exact (Kd.C_below HR0_1.out HB.out) | (with_reducible refine Kd.C_alloc ?_ _) | (with_reducible refine Kd.C_drewN ?_ _) | (with_reducible refine Kd.C_drew ?_))); (case side2 => exact HC0_1.out); (case side3 => repeat (first | exact (Kd.C_below HR0_2.out HB.out) | (with_reducible refine Kd.C_alloc ?_ _) | (with_reducible refine Kd.C_drewN ?_ _) | (with_reducible refine Kd.C_drew ?_))); (case side4 => exact HC0_2.out); (case side5 => repeat (first | exact (Kd.C_below HR0_3.out HB.out) | (with_reducible refine Kd.C_alloc ?_ _) | (with_reducible refine Kd.C_drewN ?_ _) | (with_reducible refine Kd.C_drew ?_))); (case side6 => exact HC0_3.out); (case side7 => repeat (first | exact (Kd.C_below HR1.out HB.out) | (with_reducible refine Kd.C_alloc ?_ _) | (with_reducible refine Kd.C_drewN ?_ _) | (with_reducible refine Kd.C_drew ?_))); (case side8 => exact HC1.out); rintro e w17 ⟨v403, rfl, ho0, hb⟩; refine ⟨_, rfl, ?_⟩; have n0_ := Aside0.mk (Kd.R_lower ho0 (below_size pmAx21_1_)); have n1_ := Aside0.mk (blk_below (g := gb400) (o := .cells #[.int .i64 a0_0, .slice A0_1 l0_1.length c0_1, .slice A0_2 l0_2.length c0_2, .slice A0_3 l0_3.length c0_3] 26 (0, 0)) pmAx21_3_ hb); have n2_ := Aside0.mk (below_step pmAx21_1_ hb); clear BK400; clear HB; have HO404 := n0_; have BK400 := n1_; have HB := n2_; clear n0_ n1_ n2_; (try clear hb); (try clear hb2); (try clear hk); (try clear hi); (try clear ho0); have hcz18_0 : w17.cell? ⟨gb400, 0, none⟩ = some (.int .i64 a0_0) := (blk_cell BK400.out 0).trans rfl; have hcz18_1 : w17.cell? ⟨gb400, 1, none⟩ = some (.slice A0_1 l0_1.length c0_1) := (blk_cell BK400.out 1).trans rfl; have hcz18_2 : w17.cell? ⟨gb400, 2, none⟩ = some (.slice A0_2 l0_2.length c0_2) := (blk_cell BK400.out 2).trans rfl; have hcz18_3 : w17.cell? ⟨gb400, 3, none⟩ = some (.slice A0_3 l0_3.length c0_3) := (blk_cell BK400.out 3).trans rfl; have hfz18_0 := blk_frozen BK400.out 0; have hfz18_1 := blk_frozen BK400.out 1; have hfz18_2 := blk_frozen BK400.out 2; have hfz18_3 := blk_frozen BK400.out 3) | ((with_reducible refine gate_callee (f := 11) rfl ?_); refine goesL_ (some 41) rfl rfl Try.func11 (by kernel_rfl) rfl #[.agg #[.int .i64 a0_0, .slice A0_1 l0_1.length c0_1, .slice A0_2 l0_2.length c0_2, .slice A0_3 l0_3.length c0_3], .slice A1 l1.length c1] rfl pmAx21_9_ ?_; (with_reducible refine (tracks_Sum.calls kj4 a0_0 _ _ l0_1 _ _ l0_2 _ _ l0_3 _ _ l1 t406 t407 _ ?side1 ?side2 ?side3 ?side4 ?side5 ?side6 ?side7 ?side8 A14.out).mono ?_); (case side1 => repeat (first | exact (Kd.C_below HR0_1.out HB.out) | (with_reducible refine Kd.C_alloc ?_ _) | (with_reducible refine Kd.C_drewN ?_ _) | (with_reducible refine Kd.C_drew ?_))); (case side2 => exact HC0_1.out); (case side3 => repeat (first | exact (Kd.C_below HR0_2.out HB.out) | (with_reducible refine Kd.C_alloc ?_ _) | (with_reducible refine Kd.C_drewN ?_ _) | (with_reducible refine Kd.C_drew ?_))); (case side4 => exact HC0_2.out); (case side5 => repeat (first | exact (Kd.C_below HR0_3.out HB.out) | (with_reducible refine Kd.C_alloc ?_ _) | (with_reducible refine Kd.C_drewN ?_ _) | (with_reducible refine Kd.C_drew ?_))); (case side6 => exact HC0_3.out); (case side7 => repeat (first | exact (Kd.C_below HR1.out HB.out) | (with_reducible refine Kd.C_alloc ?_ _) | (with_reducible refine Kd.C_drewN ?_ _) | (with_reducible refine Kd.C_drew ?_))); (case side8 => exact HC1.out); rintro e w19 ⟨rfl, hb⟩; refine ⟨_, rfl, ?_⟩; have n0_ := Aside0.mk (Kd.R_below pmAx21_6_ hb); have n1_ := Aside0.mk (blk_below (g := gb400) (o := .cells #[.int .i64 a0_0, .slice A0_1 l0_1.length c0_1, .slice A0_2 l0_2.length c0_2, .slice A0_3 l0_3.length c0_3] 26 (0, 0)) pmAx21_3_ hb); have n2_ := Aside0.mk (below_step pmAx21_1_ hb); clear HO404; clear BK400; clear HB; have HO404 := n0_; have BK400 := n1_; have HB := n2_; clear n0_ n1_ n2_; (try clear hb); (try clear hb2); (try clear hk); (try clear hi)))
      (try simp only [Act.put, List.setIfInBounds_toArray, List.set_cons_zero, List.set_cons_succ])
      go_cut [72] (fun v72 wc => ∃ (kq : Nat) (x72_14 : Bool), v72 = .bool x72_14 ∧ Aside0 (parterrelaw28_ContentEven.j1 kq l1 a2 a3 t402 t405 t406 x72_14 a0_0 l0_1 l0_2 l0_3 = some r) ∧ Aside0 (kq ≤ kj4) ∧ Aside0 (Kd.R (Kd.int .i64) 3 wc w.heap.size (fun _ => True) v403 t402) ∧ Aside0 (wc.heap[gb400]? = some (.cells #[.int .i64 a0_0, (.slice A0_1 l0_1.length c0_1), (.slice A0_2 l0_2.length c0_2), (.slice A0_3 l0_3.length c0_3)] 26 (0, 0))) ∧ Aside0 (Below w.heap.size w wc))
      case first =>
        have H := HC15.out
        clear HC15
        by_cases c20 : t405 = 0
        rotate_left
        · rw [if_neg c20] at H
          have c20b0 : (t405 == 0) = false := beq_eq_false_iff_ne.mpr c20
          have c20b1 : (t405 != 0) = true := bne_iff_ne.mpr c20
          (first | rw [c20b0] | (simp only [i64_w, i32_w]; rw [c20b0]) | skip)
          have H' := Aside0.mk H
          clear H
          go_wp2
          go_meet
          case rel => exact ⟨_, (true), pmAx21_2_, H', ⟨by have := HJ4.out; first | omega | exact Nat.le_refl _⟩, ⟨pmAx21_6_⟩, ⟨pmAx21_3_⟩, ⟨pmAx21_1_⟩⟩
        rw [if_pos c20] at H
        have c20b0 : (t405 == 0) = true := beq_iff_eq.mpr c20
        have c20b1 : (t405 != 0) = false := bne_eq_false_iff_eq.mpr c20
        clear c20
        (first | rw [c20b0] | (simp only [i64_w, i32_w]; rw [c20b0]) | skip)
        by_cases c21 : t407 = 0
        rotate_left
        · rw [if_neg c21] at H
          have c21b0 : (t407 == 0) = false := beq_eq_false_iff_ne.mpr c21
          have c21b1 : (t407 != 0) = true := bne_iff_ne.mpr c21
          have H' := Aside0.mk H
          clear H
          go_wp2
          go_meet
          case rel => exact ⟨_, (true), pmAx21_2_, H', ⟨by have := HJ4.out; first | omega | exact Nat.le_refl _⟩, ⟨pmAx21_6_⟩, ⟨pmAx21_3_⟩, ⟨pmAx21_1_⟩⟩
        rw [if_pos c21] at H
        have c21b0 : (t407 == 0) = true := beq_iff_eq.mpr c21
        have c21b1 : (t407 != 0) = false := bne_eq_false_iff_eq.mpr c21
        clear c21
        by_cases c22 : (t402.length : Int) = (l1.length : Int)
        rotate_left
        · rw [if_neg c22] at H
          have c22b0 : ((t402.length : Int) == (l1.length : Int)) = false := beq_eq_false_iff_ne.mpr c22
          have c22b1 : ((t402.length : Int) != (l1.length : Int)) = true := bne_iff_ne.mpr c22
          have c22b2 : (t402.length == l1.length) = false := by first | simpa using c22 | (simp at c22 ⊢; omega)
          have H' := Aside0.mk H
          clear H
          obtain ⟨Ao28, co28, eo28⟩ := Kd.R_slice HO404.out
          subst eo28
          go_wp2
          go_meet
          case rel => exact ⟨_, (true), pmAx21_2_, H', ⟨by have := HJ4.out; first | omega | exact Nat.le_refl _⟩, ⟨pmAx21_6_⟩, ⟨pmAx21_3_⟩, ⟨pmAx21_1_⟩⟩
        rw [if_pos c22] at H
        have c22b0 : ((t402.length : Int) == (l1.length : Int)) = true := beq_iff_eq.mpr c22
        have c22b1 : ((t402.length : Int) != (l1.length : Int)) = false := bne_eq_false_iff_eq.mpr c22
        have c22b2 : (t402.length == l1.length) = true := by first | simpa using c22 | (simp at c22 ⊢; omega)
        clear c22
        by_cases c23 : (l0_3.length : Int) = (t402.length : Int)
        rotate_left
        · rw [if_neg c23] at H
          have c23b0 : ((l0_3.length : Int) == (t402.length : Int)) = false := beq_eq_false_iff_ne.mpr c23
          have c23b1 : ((l0_3.length : Int) != (t402.length : Int)) = true := bne_iff_ne.mpr c23
          have c23b2 : (l0_3.length == t402.length) = false := by first | simpa using c23 | (simp at c23 ⊢; omega)
          have H' := Aside0.mk H
          clear H
          obtain ⟨Ao26, co26, eo26⟩ := Kd.R_slice HO404.out
          subst eo26
          have hcz27_0 : w19.cell? ⟨gb400, 0, none⟩ = some (.int .i64 a0_0) := (blk_cell BK400.out 0).trans rfl
          have hcz27_1 : w19.cell? ⟨gb400, 1, none⟩ = some (.slice A0_1 l0_1.length c0_1) := (blk_cell BK400.out 1).trans rfl
          have hcz27_2 : w19.cell? ⟨gb400, 2, none⟩ = some (.slice A0_2 l0_2.length c0_2) := (blk_cell BK400.out 2).trans rfl
          have hcz27_3 : w19.cell? ⟨gb400, 3, none⟩ = some (.slice A0_3 l0_3.length c0_3) := (blk_cell BK400.out 3).trans rfl
          have hfz27_0 := blk_frozen BK400.out 0
          have hfz27_1 := blk_frozen BK400.out 1
          have hfz27_2 := blk_frozen BK400.out 2
          have hfz27_3 := blk_frozen BK400.out 3
          go_wp2
          go_meet
          case rel => exact ⟨_, (true), pmAx21_2_, H', ⟨by have := HJ4.out; first | omega | exact Nat.le_refl _⟩, ⟨pmAx21_6_⟩, ⟨pmAx21_3_⟩, ⟨pmAx21_1_⟩⟩
        rw [if_pos c23] at H
        have c23b0 : ((l0_3.length : Int) == (t402.length : Int)) = true := beq_iff_eq.mpr c23
        have c23b1 : ((l0_3.length : Int) != (t402.length : Int)) = false := bne_eq_false_iff_eq.mpr c23
        have c23b2 : (l0_3.length == t402.length) = true := by first | simpa using c23 | (simp at c23 ⊢; omega)
        clear c23
        have H' := Aside0.mk H
        clear H
        obtain ⟨Ao24, co24, eo24⟩ := Kd.R_slice HO404.out
        subst eo24
        have hcz25_0 : w19.cell? ⟨gb400, 0, none⟩ = some (.int .i64 a0_0) := (blk_cell BK400.out 0).trans rfl
        have hcz25_1 : w19.cell? ⟨gb400, 1, none⟩ = some (.slice A0_1 l0_1.length c0_1) := (blk_cell BK400.out 1).trans rfl
        have hcz25_2 : w19.cell? ⟨gb400, 2, none⟩ = some (.slice A0_2 l0_2.length c0_2) := (blk_cell BK400.out 2).trans rfl
        have hcz25_3 : w19.cell? ⟨gb400, 3, none⟩ = some (.slice A0_3 l0_3.length c0_3) := (blk_cell BK400.out 3).trans rfl
        have hfz25_0 := blk_frozen BK400.out 0
        have hfz25_1 := blk_frozen BK400.out 1
        have hfz25_2 := blk_frozen BK400.out 2
        have hfz25_3 := blk_frozen BK400.out 3
        go_wp2
        go_meet
        case rel => exact ⟨_, (((l0_2.length : Int) != (t402.length : Int))), pmAx21_2_, H', ⟨by have := HJ4.out; first | omega | exact Nat.le_refl _⟩, ⟨pmAx21_6_⟩, ⟨pmAx21_3_⟩, ⟨pmAx21_1_⟩⟩
      case rest =>
        clear HC15
        try clear c1
        try clear c2
        try clear p2
        try clear c5
        try clear c7
        try clear c7b0
        try clear c7b1
        try clear c8
        try clear c10
        try clear c11
        try clear c20
        try clear c20b0
        try clear c20b1
        try clear c21
        try clear c21b0
        try clear c21b1
        try clear c22
        try clear c22b0
        try clear c22b1
        try clear c22b2
        try clear c23
        try clear c23b0
        try clear c23b1
        try clear c23b2
        try clear hcz16_0
        try clear hcz16_1
        try clear hcz16_2
        try clear hcz16_3
        try clear hcz18_0
        try clear hcz18_1
        try clear hcz18_2
        try clear hcz18_3
        try clear hcz25_0
        try clear hcz25_1
        try clear hcz25_2
        try clear hcz25_3
        try clear hcz27_0
        try clear hcz27_1
        try clear hcz27_2
        try clear hcz27_3
        try clear hcz8_0
        try clear hcz8_1
        try clear hcz8_2
        try clear hcz8_3
        try clear hcz9_0
        try clear hcz9_1
        try clear hcz9_2
        try clear hcz9_3
        try clear hfz16_0
        try clear hfz16_1
        try clear hfz16_2
        try clear hfz16_3
        try clear hfz18_0
        try clear hfz18_1
        try clear hfz18_2
        try clear hfz18_3
        try clear hfz25_0
        try clear hfz25_1
        try clear hfz25_2
        try clear hfz25_3
        try clear hfz27_0
        try clear hfz27_1
        try clear hfz27_2
        try clear hfz27_3
        try clear hfz8_0
        try clear hfz8_1
        try clear hfz8_2
        try clear hfz8_3
        try clear hfz9_0
        try clear hfz9_1
        try clear hfz9_2
        try clear hfz9_3
        try clear p2
        obtain ⟨kq, x72_14, rfl, HA, HJ14, HO_9, BK400, HB⟩ := hcut
        cases kq with
        | zero => exact absurd HA.out (by simp [parterrelaw28_ContentEven.j1])
        | succ kj14 =>
          have H := HA.out
          clear HA
          simp only [parterrelaw28_ContentEven.j1] at H
          by_cases c29 : x72_14 = true
          · subst c29
            have H1 : (if t405 = 0 then (some false) else (if (t402.length : Int) = 0 then ((parterrelaw28_lives.f kj14).bind fun t408 => (some t408)) else (some false))) = some r := by rw [if_pos rfl] at H; exact H
            clear H
            have H := H1
            clear H1
            by_cases c30 : t405 = 0
            · rw [if_pos c30] at H
              have c30b0 : (t405 == 0) = true := beq_iff_eq.mpr c30
              have c30b1 : (t405 != 0) = false := bne_eq_false_iff_eq.mpr c30
              clear c30
              obtain rfl := Option.some.inj H
              go_wp2
              go_ret
              exact ⟨by first | rfl | (simp [errW_none, errW_some] <;> rfl) | (simp [*, errW_none, errW_some] <;> rfl), by repeat (first | (with_reducible first | exact HB.out | apply below_alloc | apply pw_below_drewN | apply below_drew1 | refine below_set ?_ GE400.out) | exact HB.out)⟩
            rw [if_neg c30] at H
            have c30b0 : (t405 == 0) = false := beq_eq_false_iff_ne.mpr c30
            have c30b1 : (t405 != 0) = true := bne_iff_ne.mpr c30
            by_cases c31 : (t402.length : Int) = 0
            rotate_left
            · rw [if_neg c31] at H
              have c31b0 : ((t402.length : Int) == 0) = false := beq_eq_false_iff_ne.mpr c31
              have c31b1 : ((t402.length : Int) != 0) = true := bne_iff_ne.mpr c31
              have c31b2 : ¬ (t402 = []) := fun h_ => c31 (by rw [h_]; rfl)
              obtain rfl := Option.some.inj H
              obtain ⟨Ao35, co35, eo35⟩ := Kd.R_slice HO_9.out
              subst eo35
              go_wp2
              go_ret
              exact ⟨by first | rfl | (simp [errW_none, errW_some] <;> rfl) | (simp [*, errW_none, errW_some] <;> rfl), by repeat (first | (with_reducible first | exact HB.out | apply below_alloc | apply pw_below_drewN | apply below_drew1 | refine below_set ?_ GE400.out) | exact HB.out)⟩
            rw [if_pos c31] at H
            have c31b0 : ((t402.length : Int) == 0) = true := beq_iff_eq.mpr c31
            have c31b1 : ((t402.length : Int) != 0) = false := bne_eq_false_iff_eq.mpr c31
            clear c31
            replace H := Option.bind_eq_some_iff.mp H
            obtain ⟨t408, A320, H⟩ := H
            replace H : (some t408) = some r := H
            have A32 := Aside0.mk A320
            clear A320
            obtain rfl := Option.some.inj H
            obtain ⟨Ao33, co33, eo33⟩ := Kd.R_slice HO_9.out
            subst eo33
            go_wp2_with (first | (go_at_call 7; (with_reducible refine (parterrelaw28_lives.calls kj14  t408 _ A32.out).mono ?_); rintro e w34 ⟨rfl, hb⟩; have n0_ := Aside0.mk (Kd.R_below pmAx21_4_ hb); have n1_ := Aside0.mk (blk_below (g := gb400) (o := .cells #[.int .i64 a0_0, .slice A0_1 l0_1.length c0_1, .slice A0_2 l0_2.length c0_2, .slice A0_3 l0_3.length c0_3] 26 (0, 0)) pmAx21_3_ hb); have n2_ := Aside0.mk (below_step pmAx21_1_ hb); clear HO_9; clear BK400; clear HB; have HO_9 := n0_; have BK400 := n1_; have HB := n2_; clear n0_ n1_ n2_; (try clear hb); (try clear hb2); (try clear hk); (try clear hi)))
            go_ret
            exact ⟨by first | rfl | (simp [errW_none, errW_some] <;> rfl) | (simp [*, errW_none, errW_some] <;> rfl), by repeat (first | (with_reducible first | exact HB.out | apply below_alloc | apply pw_below_drewN | apply below_drew1 | refine below_set ?_ GE400.out) | exact HB.out)⟩
          replace c29 := Bool.eq_false_iff.mpr c29
          subst c29
          have H1 : (parterrelaw28_ContentEven.l0 kj14 l1 a2 a3 t402 t406 1152921504606846976 0 0 false 0 (t402.length : Int) 0 a0_0 l0_1 l0_2 l0_3) = some r := by rw [if_neg (show ¬ (false = true) by decide)] at H; exact H
          clear H
          have H := H1
          clear H1
          have H' := Aside0.mk H
          clear H
          obtain ⟨Ao36, co36, eo36⟩ := Kd.R_slice HO_9.out
          subst eo36
          go_wp2
          go_loopg [13, 14, 15, 16, 17, 85] kj14 (fun kq v13 v14 v15 v16 v17 v85 w' => ∃ (x13_3 : Int) (x14_3 : Int) (x15_3 : Int) (x16_3 : Bool) (x17_3 : Int) (x85_3 : Int), v13 = .int .i64 x13_3 ∧ v14 = .int .i64 x14_3 ∧ v15 = .int .i64 x15_3 ∧ v16 = .bool x16_3 ∧ v17 = .int .i64 x17_3 ∧ v85 = .int .i64 x85_3 ∧ Aside0 (parterrelaw28_ContentEven.l0 kq l1 a2 a3 t402 t406 x13_3 x14_3 x15_3 x16_3 x17_3 (t402.length : Int) x85_3 a0_0 l0_1 l0_2 l0_3 = some r) ∧ Aside0 (kq ≤ kj14) ∧ Aside0 (Kd.R (Kd.int .i64) 3 w' w.heap.size (fun _ => True) (.slice Ao36 t402.length co36) t402) ∧ Aside0 (w'.heap[gb400]? = some (.cells #[.int .i64 a0_0, (.slice A0_1 l0_1.length c0_1), (.slice A0_2 l0_2.length c0_2), (.slice A0_3 l0_3.length c0_3)] 26 (0, 0))) ∧ Aside0 (Below w.heap.size w w'))
          case atStart => exact ⟨(1152921504606846976), (0), (0), (false), (0), (0), pmAx21_2_, pmAx21_2_, pmAx21_2_, pmAx21_2_, pmAx21_2_, pmAx21_2_, H', ⟨Nat.le_refl _⟩, ⟨pmAx21_4_⟩, ⟨pmAx21_3_⟩, ⟨pmAx21_1_⟩⟩
          case round =>
            clear H'
            try clear c1
            try clear c2
            try clear p2
            try clear c3
            try clear c5
            try clear c7
            try clear c7b0
            try clear c7b1
            try clear c8
            try clear c10
            try clear c11
            try clear c20
            try clear c20b0
            try clear c20b1
            try clear c21
            try clear c21b0
            try clear c21b1
            try clear c22
            try clear c22b0
            try clear c22b1
            try clear c22b2
            try clear c23
            try clear c23b0
            try clear c23b1
            try clear c23b2
            try clear c29
            try clear c30
            try clear c30b0
            try clear c30b1
            try clear c31
            try clear c31b0
            try clear c31b1
            try clear c31b2
            try clear hcz16_0
            try clear hcz16_1
            try clear hcz16_2
            try clear hcz16_3
            try clear hcz18_0
            try clear hcz18_1
            try clear hcz18_2
            try clear hcz18_3
            try clear hcz25_0
            try clear hcz25_1
            try clear hcz25_2
            try clear hcz25_3
            try clear hcz27_0
            try clear hcz27_1
            try clear hcz27_2
            try clear hcz27_3
            try clear hcz8_0
            try clear hcz8_1
            try clear hcz8_2
            try clear hcz8_3
            try clear hcz9_0
            try clear hcz9_1
            try clear hcz9_2
            try clear hcz9_3
            try clear hfz16_0
            try clear hfz16_1
            try clear hfz16_2
            try clear hfz16_3
            try clear hfz18_0
            try clear hfz18_1
            try clear hfz18_2
            try clear hfz18_3
            try clear hfz25_0
            try clear hfz25_1
            try clear hfz25_2
            try clear hfz25_3
            try clear hfz27_0
            try clear hfz27_1
            try clear hfz27_2
            try clear hfz27_3
            try clear hfz8_0
            try clear hfz8_1
            try clear hfz8_2
            try clear hfz8_3
            try clear hfz9_0
            try clear hfz9_1
            try clear hfz9_2
            try clear hfz9_3
            try clear p2
            obtain ⟨x13_3, x14_3, x15_3, x16_3, x17_3, x85_3, rfl, rfl, rfl, rfl, rfl, rfl, HA, HK3, HO_9, BK400, HB⟩ := hrel
            cases gk with
            | zero => exact absurd HA.out (by simp [parterrelaw28_ContentEven.l0])
            | succ k3 =>
              have H := HA.out
              clear HA
              simp only [parterrelaw28_ContentEven.l0] at H
              by_cases c37 : x85_3 < (t402.length : Int)
              rotate_left
              · rw [if_neg c37] at H
                have c37b0 : decide (x85_3 < (t402.length : Int)) = false := decide_eq_false c37
                clear c37
                by_cases c81 : x13_3 > x14_3
                · rw [if_pos c81] at H
                  have c81b0 : decide (x14_3 < x13_3) = true := decide_eq_true c81
                  clear c81
                  replace H := Option.bind_eq_some_iff.mp H
                  obtain ⟨t413, A820, H⟩ := H
                  replace H : (some t413) = some r := H
                  have A82 := Aside0.mk A820
                  clear A820
                  obtain rfl := Option.some.inj H
                  go_wp2_with (first | ((with_reducible refine gate_callee (f := 7) rfl ?_); refine goesL_ (some 151) rfl rfl Try.func7 (by kernel_rfl) rfl #[] rfl pmAx21_9_ ?_; (with_reducible refine (parterrelaw28_lives.calls k3  t413 _ A82.out).mono ?_); rintro e w83 ⟨rfl, hb⟩; refine ⟨_, rfl, ?_⟩; have n0_ := Aside0.mk (Kd.R_below pmAx21_4_ hb); have n1_ := Aside0.mk (blk_below (g := gb400) (o := .cells #[.int .i64 a0_0, .slice A0_1 l0_1.length c0_1, .slice A0_2 l0_2.length c0_2, .slice A0_3 l0_3.length c0_3] 26 (0, 0)) pmAx21_3_ hb); have n2_ := Aside0.mk (below_step pmAx21_1_ hb); clear HO_9; clear BK400; clear HB; have HO_9 := n0_; have BK400 := n1_; have HB := n2_; clear n0_ n1_ n2_; (try clear hb); (try clear hb2); (try clear hk); (try clear hi)))
                  go_ret
                  exact ⟨by first | rfl | (simp [errW_none, errW_some] <;> rfl) | (simp [*, errW_none, errW_some] <;> rfl), by repeat (first | (with_reducible first | exact HB.out | apply below_alloc | apply pw_below_drewN | apply below_drew1 | refine below_set ?_ GE400.out) | exact HB.out)⟩
                rw [if_neg c81] at H
                have c81b0 : decide (x14_3 < x13_3) = false := decide_eq_false c81
                clear c81
                by_cases c84 : (wrap64 (x14_3 - x13_3)) ≤ 1
                rotate_left
                · rw [if_neg c84] at H
                  have c84b0 : decide ((wrap64 (x14_3 - x13_3)) ≤ 1) = false := decide_eq_false c84
                  clear c84
                  obtain rfl := Option.some.inj H
                  go_wp2
                  go_ret
                  exact ⟨by first | rfl | (simp [errW_none, errW_some] <;> rfl) | (simp [*, errW_none, errW_some] <;> rfl), by repeat (first | (with_reducible first | exact HB.out | apply below_alloc | apply pw_below_drewN | apply below_drew1 | refine below_set ?_ GE400.out) | exact HB.out)⟩
                rw [if_pos c84] at H
                have c84b0 : decide ((wrap64 (x14_3 - x13_3)) ≤ 1) = true := decide_eq_true c84
                clear c84
                replace H := Option.bind_eq_some_iff.mp H
                obtain ⟨t414, A850, H⟩ := H
                replace H : (some t414) = some r := H
                have A85 := Aside0.mk A850
                clear A850
                obtain rfl := Option.some.inj H
                go_wp2_with (first | (go_at_call 7; (with_reducible refine (parterrelaw28_lives.calls k3  t414 _ A85.out).mono ?_); rintro e w86 ⟨rfl, hb⟩; have n0_ := Aside0.mk (Kd.R_below pmAx21_4_ hb); have n1_ := Aside0.mk (blk_below (g := gb400) (o := .cells #[.int .i64 a0_0, .slice A0_1 l0_1.length c0_1, .slice A0_2 l0_2.length c0_2, .slice A0_3 l0_3.length c0_3] 26 (0, 0)) pmAx21_3_ hb); have n2_ := Aside0.mk (below_step pmAx21_1_ hb); clear HO_9; clear BK400; clear HB; have HO_9 := n0_; have BK400 := n1_; have HB := n2_; clear n0_ n1_ n2_; (try clear hb); (try clear hb2); (try clear hk); (try clear hi)))
                go_ret
                exact ⟨by first | rfl | (simp [errW_none, errW_some] <;> rfl) | (simp [*, errW_none, errW_some] <;> rfl), by repeat (first | (with_reducible first | exact HB.out | apply below_alloc | apply pw_below_drewN | apply below_drew1 | refine below_set ?_ GE400.out) | exact HB.out)⟩
              rw [if_pos c37] at H
              have c37b0 : decide (x85_3 < (t402.length : Int)) = true := decide_eq_true c37
              clear c37
              by_cases c38 : 0 ≤ x85_3
              rotate_left
              · rw [if_neg c38] at H
                exact absurd H (by simp)
              rw [if_pos c38] at H
              have c38b0 : decide (0 ≤ x85_3) = true := decide_eq_true c38
              clear c38
              by_cases c39 : x85_3 < (l0_3.length : Int)
              rotate_left
              · rw [if_neg c39] at H
                exact absurd H (by simp)
              rw [if_pos c39] at H
              have c39b0 : decide (x85_3 < (l0_3.length : Int)) = true := decide_eq_true c39
              clear c39
              by_cases c40 : x85_3 < (t402.length : Int)
              rotate_left
              · rw [if_neg c40] at H
                exact absurd H (by simp)
              rw [if_pos c40] at H
              have c40b0 : decide (x85_3 < (t402.length : Int)) = true := decide_eq_true c40
              clear c40
              by_cases c41 : x85_3 < (l1.length : Int)
              rotate_left
              · rw [if_neg c41] at H
                exact absurd H (by simp)
              rw [if_pos c41] at H
              have c41b0 : decide (x85_3 < (l1.length : Int)) = true := decide_eq_true c41
              clear c41
              by_cases c42 : x85_3 < (l0_2.length : Int)
              rotate_left
              · rw [if_neg c42] at H
                exact absurd H (by simp)
              rw [if_pos c42] at H
              have c42b0 : decide (x85_3 < (l0_2.length : Int)) = true := decide_eq_true c42
              clear c42
              obtain ⟨bq43, hbq43⟩ : ∃ b_ : Bool, b_ = (rdOf false l0_2 x85_3) := ⟨_, rfl⟩
              replace H : (if bq43 = true then (parterrelaw28_ContentEven.l0 k3 l1 a2 a3 t402 t406 x13_3 x14_3 x15_3 x16_3 (wrap64 ((wrap64 (x17_3 + (rd l0_3 x85_3))) + (rd l1 x85_3))) (t402.length : Int) (wrap64 (x85_3 + 1)) a0_0 l0_1 l0_2 l0_3) else (if x16_3 = true then (if a3 < 7 then (if (wrap64 ((rd t402 x85_3) - (wrap64 (x17_3 + (rd l0_3 x85_3))))) = x15_3 then (if a2 ≤ t406 then (if a3 ≥ 7 then (if (wrap64 ((rd t402 x85_3) - (wrap64 (x17_3 + (rd l0_3 x85_3))))) = 0 then (parterrelaw28_ContentEven.l0 k3 l1 a2 a3 t402 t406 (mn x13_3 (wrap64 ((wrap64 ((rd t402 x85_3) - (wrap64 (x17_3 + (rd l0_3 x85_3))))) - x15_3))) (mx x14_3 (wrap64 ((wrap64 ((rd t402 x85_3) - (wrap64 (x17_3 + (rd l0_3 x85_3))))) - x15_3))) (wrap64 ((rd t402 x85_3) - (wrap64 (x17_3 + (rd l0_3 x85_3))))) true (wrap64 ((wrap64 (x17_3 + (rd l0_3 x85_3))) + (rd l1 x85_3))) (t402.length : Int) (wrap64 (x85_3 + 1)) a0_0 l0_1 l0_2 l0_3) else (some false)) else (parterrelaw28_ContentEven.l0 k3 l1 a2 a3 t402 t406 (mn x13_3 (wrap64 ((wrap64 ((rd t402 x85_3) - (wrap64 (x17_3 + (rd l0_3 x85_3))))) - x15_3))) (mx x14_3 (wrap64 ((wrap64 ((rd t402 x85_3) - (wrap64 (x17_3 + (rd l0_3 x85_3))))) - x15_3))) (wrap64 ((rd t402 x85_3) - (wrap64 (x17_3 + (rd l0_3 x85_3))))) true (wrap64 ((wrap64 (x17_3 + (rd l0_3 x85_3))) + (rd l1 x85_3))) (t402.length : Int) (wrap64 (x85_3 + 1)) a0_0 l0_1 l0_2 l0_3)) else (parterrelaw28_ContentEven.l0 k3 l1 a2 a3 t402 t406 (mn x13_3 (wrap64 ((wrap64 ((rd t402 x85_3) - (wrap64 (x17_3 + (rd l0_3 x85_3))))) - x15_3))) (mx x14_3 (wrap64 ((wrap64 ((rd t402 x85_3) - (wrap64 (x17_3 + (rd l0_3 x85_3))))) - x15_3))) (wrap64 ((rd t402 x85_3) - (wrap64 (x17_3 + (rd l0_3 x85_3))))) true (wrap64 ((wrap64 (x17_3 + (rd l0_3 x85_3))) + (rd l1 x85_3))) (t402.length : Int) (wrap64 (x85_3 + 1)) a0_0 l0_1 l0_2 l0_3)) else (some false)) else (if a2 ≤ t406 then (if a3 ≥ 7 then (if (wrap64 ((rd t402 x85_3) - (wrap64 (x17_3 + (rd l0_3 x85_3))))) = 0 then (parterrelaw28_ContentEven.l0 k3 l1 a2 a3 t402 t406 (mn x13_3 (wrap64 ((wrap64 ((rd t402 x85_3) - (wrap64 (x17_3 + (rd l0_3 x85_3))))) - x15_3))) (mx x14_3 (wrap64 ((wrap64 ((rd t402 x85_3) - (wrap64 (x17_3 + (rd l0_3 x85_3))))) - x15_3))) (wrap64 ((rd t402 x85_3) - (wrap64 (x17_3 + (rd l0_3 x85_3))))) true (wrap64 ((wrap64 (x17_3 + (rd l0_3 x85_3))) + (rd l1 x85_3))) (t402.length : Int) (wrap64 (x85_3 + 1)) a0_0 l0_1 l0_2 l0_3) else (some false)) else (parterrelaw28_ContentEven.l0 k3 l1 a2 a3 t402 t406 (mn x13_3 (wrap64 ((wrap64 ((rd t402 x85_3) - (wrap64 (x17_3 + (rd l0_3 x85_3))))) - x15_3))) (mx x14_3 (wrap64 ((wrap64 ((rd t402 x85_3) - (wrap64 (x17_3 + (rd l0_3 x85_3))))) - x15_3))) (wrap64 ((rd t402 x85_3) - (wrap64 (x17_3 + (rd l0_3 x85_3))))) true (wrap64 ((wrap64 (x17_3 + (rd l0_3 x85_3))) + (rd l1 x85_3))) (t402.length : Int) (wrap64 (x85_3 + 1)) a0_0 l0_1 l0_2 l0_3)) else (parterrelaw28_ContentEven.l0 k3 l1 a2 a3 t402 t406 (mn x13_3 (wrap64 ((wrap64 ((rd t402 x85_3) - (wrap64 (x17_3 + (rd l0_3 x85_3))))) - x15_3))) (mx x14_3 (wrap64 ((wrap64 ((rd t402 x85_3) - (wrap64 (x17_3 + (rd l0_3 x85_3))))) - x15_3))) (wrap64 ((rd t402 x85_3) - (wrap64 (x17_3 + (rd l0_3 x85_3))))) true (wrap64 ((wrap64 (x17_3 + (rd l0_3 x85_3))) + (rd l1 x85_3))) (t402.length : Int) (wrap64 (x85_3 + 1)) a0_0 l0_1 l0_2 l0_3))) else (if a3 < 7 then (if a2 ≤ t406 then (if a3 ≥ 7 then (if (wrap64 ((rd t402 x85_3) - (wrap64 (x17_3 + (rd l0_3 x85_3))))) = 0 then (parterrelaw28_ContentEven.l0 k3 l1 a2 a3 t402 t406 x13_3 x14_3 (wrap64 ((rd t402 x85_3) - (wrap64 (x17_3 + (rd l0_3 x85_3))))) true (wrap64 ((wrap64 (x17_3 + (rd l0_3 x85_3))) + (rd l1 x85_3))) (t402.length : Int) (wrap64 (x85_3 + 1)) a0_0 l0_1 l0_2 l0_3) else (some false)) else (parterrelaw28_ContentEven.l0 k3 l1 a2 a3 t402 t406 x13_3 x14_3 (wrap64 ((rd t402 x85_3) - (wrap64 (x17_3 + (rd l0_3 x85_3))))) true (wrap64 ((wrap64 (x17_3 + (rd l0_3 x85_3))) + (rd l1 x85_3))) (t402.length : Int) (wrap64 (x85_3 + 1)) a0_0 l0_1 l0_2 l0_3)) else (parterrelaw28_ContentEven.l0 k3 l1 a2 a3 t402 t406 x13_3 x14_3 (wrap64 ((rd t402 x85_3) - (wrap64 (x17_3 + (rd l0_3 x85_3))))) true (wrap64 ((wrap64 (x17_3 + (rd l0_3 x85_3))) + (rd l1 x85_3))) (t402.length : Int) (wrap64 (x85_3 + 1)) a0_0 l0_1 l0_2 l0_3)) else (if a2 ≤ t406 then (if a3 ≥ 7 then (if (wrap64 ((rd t402 x85_3) - (wrap64 (x17_3 + (rd l0_3 x85_3))))) = 0 then (parterrelaw28_ContentEven.l0 k3 l1 a2 a3 t402 t406 x13_3 x14_3 (wrap64 ((rd t402 x85_3) - (wrap64 (x17_3 + (rd l0_3 x85_3))))) true (wrap64 ((wrap64 (x17_3 + (rd l0_3 x85_3))) + (rd l1 x85_3))) (t402.length : Int) (wrap64 (x85_3 + 1)) a0_0 l0_1 l0_2 l0_3) else (some false)) else (parterrelaw28_ContentEven.l0 k3 l1 a2 a3 t402 t406 x13_3 x14_3 (wrap64 ((rd t402 x85_3) - (wrap64 (x17_3 + (rd l0_3 x85_3))))) true (wrap64 ((wrap64 (x17_3 + (rd l0_3 x85_3))) + (rd l1 x85_3))) (t402.length : Int) (wrap64 (x85_3 + 1)) a0_0 l0_1 l0_2 l0_3)) else (parterrelaw28_ContentEven.l0 k3 l1 a2 a3 t402 t406 x13_3 x14_3 (wrap64 ((rd t402 x85_3) - (wrap64 (x17_3 + (rd l0_3 x85_3))))) true (wrap64 ((wrap64 (x17_3 + (rd l0_3 x85_3))) + (rd l1 x85_3))) (t402.length : Int) (wrap64 (x85_3 + 1)) a0_0 l0_1 l0_2 l0_3))))) = some r := by rw [← hbq43] at H; exact H
              have Nbq43 := Aside0.mk hbq43
              clear hbq43
              by_cases c44 : bq43 = true
              · subst c44
                have H1 : (parterrelaw28_ContentEven.l0 k3 l1 a2 a3 t402 t406 x13_3 x14_3 x15_3 x16_3 (wrap64 ((wrap64 (x17_3 + (rd l0_3 x85_3))) + (rd l1 x85_3))) (t402.length : Int) (wrap64 (x85_3 + 1)) a0_0 l0_1 l0_2 l0_3) = some r := by rw [if_pos rfl] at H; exact H
                clear H
                have H := H1
                clear H1
                have H' := Aside0.mk H
                clear H
                have hcz45_0 : wr.cell? ⟨gb400, 0, none⟩ = some (.int .i64 a0_0) := (blk_cell BK400.out 0).trans rfl
                have hcz45_1 : wr.cell? ⟨gb400, 1, none⟩ = some (.slice A0_1 l0_1.length c0_1) := (blk_cell BK400.out 1).trans rfl
                have hcz45_2 : wr.cell? ⟨gb400, 2, none⟩ = some (.slice A0_2 l0_2.length c0_2) := (blk_cell BK400.out 2).trans rfl
                have hcz45_3 : wr.cell? ⟨gb400, 3, none⟩ = some (.slice A0_3 l0_3.length c0_3) := (blk_cell BK400.out 3).trans rfl
                have hfz45_0 := blk_frozen BK400.out 0
                have hfz45_1 := blk_frozen BK400.out 1
                have hfz45_2 := blk_frozen BK400.out 2
                have hfz45_3 := blk_frozen BK400.out 3
                have p409 : 0 ≤ (x85_3 : Int) := of_decide_eq_true pmAx21_0_
                have q409 : x85_3 < (l0_3.length : Int) := of_decide_eq_true pmAx21_0_
                obtain ⟨ad409, e409, hx409_0⟩ := Kd.at_int HR0_3.out x85_3 p409 q409
                cases e409
                replace hx409_0 := (HB.out.cell (World.block_lt_of_cell? w _ hx409_0)).trans hx409_0
                replace p409 := eq_true p409
                replace q409 := eq_true q409
                have p410 : 0 ≤ (x85_3 : Int) := of_decide_eq_true pmAx21_0_
                have q410 : x85_3 < (t402.length : Int) := of_decide_eq_true pmAx21_0_
                obtain ⟨ad410, e410, hx410_0⟩ := Kd.at_int (Kd.R_reads' HO_9.out).2.2 x85_3 p410 q410
                cases e410
                replace p410 := eq_true p410
                replace q410 := eq_true q410
                have p411 : 0 ≤ (x85_3 : Int) := of_decide_eq_true pmAx21_0_
                have q411 : x85_3 < (l1.length : Int) := of_decide_eq_true pmAx21_0_
                obtain ⟨ad411, e411, hx411_0⟩ := Kd.at_int HR1.out x85_3 p411 q411
                cases e411
                replace hx411_0 := (HB.out.cell (World.block_lt_of_cell? w _ hx411_0)).trans hx411_0
                replace p411 := eq_true p411
                replace q411 := eq_true q411
                have p412 : 0 ≤ (x85_3 : Int) := of_decide_eq_true pmAx21_0_
                have q412 : x85_3 < (l0_2.length : Int) := of_decide_eq_true pmAx21_0_
                obtain ⟨ad412, e412, hx412_0⟩ := Kd.at_bool HR0_2.out x85_3 p412 q412
                (try rw [← Nbq43.out] at hx412_0)
                cases e412
                replace hx412_0 := (HB.out.cell (World.block_lt_of_cell? w _ hx412_0)).trans hx412_0
                replace p412 := eq_true p412
                replace q412 := eq_true q412
                as_aux_lemma =>
                  go_wp2
                  go_roundg k3
                  case measure => have := HJ4.out; have := HJ14.out; have := HK3.out; omega
                  case rel => exact ⟨(x13_3), (x14_3), (x15_3), (x16_3), (wrap64 ((wrap64 (x17_3 + (rd l0_3 x85_3))) + (rd l1 x85_3))), (wrap64 (x85_3 + 1)), pmAx21_2_, pmAx21_2_, pmAx21_2_, pmAx21_2_, pmAx21_2_, pmAx21_2_, H', ⟨pmAx21_5_⟩, ⟨pmAx21_4_⟩, ⟨pmAx21_3_⟩, ⟨pmAx21_1_⟩⟩
              replace c44 := Bool.eq_false_iff.mpr c44
              subst c44
              have H1 : (if x16_3 = true then (if a3 < 7 then (if (wrap64 ((rd t402 x85_3) - (wrap64 (x17_3 + (rd l0_3 x85_3))))) = x15_3 then (if a2 ≤ t406 then (if a3 ≥ 7 then (if (wrap64 ((rd t402 x85_3) - (wrap64 (x17_3 + (rd l0_3 x85_3))))) = 0 then (parterrelaw28_ContentEven.l0 k3 l1 a2 a3 t402 t406 (mn x13_3 (wrap64 ((wrap64 ((rd t402 x85_3) - (wrap64 (x17_3 + (rd l0_3 x85_3))))) - x15_3))) (mx x14_3 (wrap64 ((wrap64 ((rd t402 x85_3) - (wrap64 (x17_3 + (rd l0_3 x85_3))))) - x15_3))) (wrap64 ((rd t402 x85_3) - (wrap64 (x17_3 + (rd l0_3 x85_3))))) true (wrap64 ((wrap64 (x17_3 + (rd l0_3 x85_3))) + (rd l1 x85_3))) (t402.length : Int) (wrap64 (x85_3 + 1)) a0_0 l0_1 l0_2 l0_3) else (some false)) else (parterrelaw28_ContentEven.l0 k3 l1 a2 a3 t402 t406 (mn x13_3 (wrap64 ((wrap64 ((rd t402 x85_3) - (wrap64 (x17_3 + (rd l0_3 x85_3))))) - x15_3))) (mx x14_3 (wrap64 ((wrap64 ((rd t402 x85_3) - (wrap64 (x17_3 + (rd l0_3 x85_3))))) - x15_3))) (wrap64 ((rd t402 x85_3) - (wrap64 (x17_3 + (rd l0_3 x85_3))))) true (wrap64 ((wrap64 (x17_3 + (rd l0_3 x85_3))) + (rd l1 x85_3))) (t402.length : Int) (wrap64 (x85_3 + 1)) a0_0 l0_1 l0_2 l0_3)) else (parterrelaw28_ContentEven.l0 k3 l1 a2 a3 t402 t406 (mn x13_3 (wrap64 ((wrap64 ((rd t402 x85_3) - (wrap64 (x17_3 + (rd l0_3 x85_3))))) - x15_3))) (mx x14_3 (wrap64 ((wrap64 ((rd t402 x85_3) - (wrap64 (x17_3 + (rd l0_3 x85_3))))) - x15_3))) (wrap64 ((rd t402 x85_3) - (wrap64 (x17_3 + (rd l0_3 x85_3))))) true (wrap64 ((wrap64 (x17_3 + (rd l0_3 x85_3))) + (rd l1 x85_3))) (t402.length : Int) (wrap64 (x85_3 + 1)) a0_0 l0_1 l0_2 l0_3)) else (some false)) else (if a2 ≤ t406 then (if a3 ≥ 7 then (if (wrap64 ((rd t402 x85_3) - (wrap64 (x17_3 + (rd l0_3 x85_3))))) = 0 then (parterrelaw28_ContentEven.l0 k3 l1 a2 a3 t402 t406 (mn x13_3 (wrap64 ((wrap64 ((rd t402 x85_3) - (wrap64 (x17_3 + (rd l0_3 x85_3))))) - x15_3))) (mx x14_3 (wrap64 ((wrap64 ((rd t402 x85_3) - (wrap64 (x17_3 + (rd l0_3 x85_3))))) - x15_3))) (wrap64 ((rd t402 x85_3) - (wrap64 (x17_3 + (rd l0_3 x85_3))))) true (wrap64 ((wrap64 (x17_3 + (rd l0_3 x85_3))) + (rd l1 x85_3))) (t402.length : Int) (wrap64 (x85_3 + 1)) a0_0 l0_1 l0_2 l0_3) else (some false)) else (parterrelaw28_ContentEven.l0 k3 l1 a2 a3 t402 t406 (mn x13_3 (wrap64 ((wrap64 ((rd t402 x85_3) - (wrap64 (x17_3 + (rd l0_3 x85_3))))) - x15_3))) (mx x14_3 (wrap64 ((wrap64 ((rd t402 x85_3) - (wrap64 (x17_3 + (rd l0_3 x85_3))))) - x15_3))) (wrap64 ((rd t402 x85_3) - (wrap64 (x17_3 + (rd l0_3 x85_3))))) true (wrap64 ((wrap64 (x17_3 + (rd l0_3 x85_3))) + (rd l1 x85_3))) (t402.length : Int) (wrap64 (x85_3 + 1)) a0_0 l0_1 l0_2 l0_3)) else (parterrelaw28_ContentEven.l0 k3 l1 a2 a3 t402 t406 (mn x13_3 (wrap64 ((wrap64 ((rd t402 x85_3) - (wrap64 (x17_3 + (rd l0_3 x85_3))))) - x15_3))) (mx x14_3 (wrap64 ((wrap64 ((rd t402 x85_3) - (wrap64 (x17_3 + (rd l0_3 x85_3))))) - x15_3))) (wrap64 ((rd t402 x85_3) - (wrap64 (x17_3 + (rd l0_3 x85_3))))) true (wrap64 ((wrap64 (x17_3 + (rd l0_3 x85_3))) + (rd l1 x85_3))) (t402.length : Int) (wrap64 (x85_3 + 1)) a0_0 l0_1 l0_2 l0_3))) else (if a3 < 7 then (if a2 ≤ t406 then (if a3 ≥ 7 then (if (wrap64 ((rd t402 x85_3) - (wrap64 (x17_3 + (rd l0_3 x85_3))))) = 0 then (parterrelaw28_ContentEven.l0 k3 l1 a2 a3 t402 t406 x13_3 x14_3 (wrap64 ((rd t402 x85_3) - (wrap64 (x17_3 + (rd l0_3 x85_3))))) true (wrap64 ((wrap64 (x17_3 + (rd l0_3 x85_3))) + (rd l1 x85_3))) (t402.length : Int) (wrap64 (x85_3 + 1)) a0_0 l0_1 l0_2 l0_3) else (some false)) else (parterrelaw28_ContentEven.l0 k3 l1 a2 a3 t402 t406 x13_3 x14_3 (wrap64 ((rd t402 x85_3) - (wrap64 (x17_3 + (rd l0_3 x85_3))))) true (wrap64 ((wrap64 (x17_3 + (rd l0_3 x85_3))) + (rd l1 x85_3))) (t402.length : Int) (wrap64 (x85_3 + 1)) a0_0 l0_1 l0_2 l0_3)) else (parterrelaw28_ContentEven.l0 k3 l1 a2 a3 t402 t406 x13_3 x14_3 (wrap64 ((rd t402 x85_3) - (wrap64 (x17_3 + (rd l0_3 x85_3))))) true (wrap64 ((wrap64 (x17_3 + (rd l0_3 x85_3))) + (rd l1 x85_3))) (t402.length : Int) (wrap64 (x85_3 + 1)) a0_0 l0_1 l0_2 l0_3)) else (if a2 ≤ t406 then (if a3 ≥ 7 then (if (wrap64 ((rd t402 x85_3) - (wrap64 (x17_3 + (rd l0_3 x85_3))))) = 0 then (parterrelaw28_ContentEven.l0 k3 l1 a2 a3 t402 t406 x13_3 x14_3 (wrap64 ((rd t402 x85_3) - (wrap64 (x17_3 + (rd l0_3 x85_3))))) true (wrap64 ((wrap64 (x17_3 + (rd l0_3 x85_3))) + (rd l1 x85_3))) (t402.length : Int) (wrap64 (x85_3 + 1)) a0_0 l0_1 l0_2 l0_3) else (some false)) else (parterrelaw28_ContentEven.l0 k3 l1 a2 a3 t402 t406 x13_3 x14_3 (wrap64 ((rd t402 x85_3) - (wrap64 (x17_3 + (rd l0_3 x85_3))))) true (wrap64 ((wrap64 (x17_3 + (rd l0_3 x85_3))) + (rd l1 x85_3))) (t402.length : Int) (wrap64 (x85_3 + 1)) a0_0 l0_1 l0_2 l0_3)) else (parterrelaw28_ContentEven.l0 k3 l1 a2 a3 t402 t406 x13_3 x14_3 (wrap64 ((rd t402 x85_3) - (wrap64 (x17_3 + (rd l0_3 x85_3))))) true (wrap64 ((wrap64 (x17_3 + (rd l0_3 x85_3))) + (rd l1 x85_3))) (t402.length : Int) (wrap64 (x85_3 + 1)) a0_0 l0_1 l0_2 l0_3)))) = some r := by rw [if_neg (show ¬ (false = true) by decide)] at H; exact H
              clear H
              have H := H1
              clear H1
              by_cases c46 : x16_3 = true
              rotate_left
              · replace c46 := Bool.eq_false_iff.mpr c46
                subst c46
                have H1 : (if a3 < 7 then (if a2 ≤ t406 then (if a3 ≥ 7 then (if (wrap64 ((rd t402 x85_3) - (wrap64 (x17_3 + (rd l0_3 x85_3))))) = 0 then (parterrelaw28_ContentEven.l0 k3 l1 a2 a3 t402 t406 x13_3 x14_3 (wrap64 ((rd t402 x85_3) - (wrap64 (x17_3 + (rd l0_3 x85_3))))) true (wrap64 ((wrap64 (x17_3 + (rd l0_3 x85_3))) + (rd l1 x85_3))) (t402.length : Int) (wrap64 (x85_3 + 1)) a0_0 l0_1 l0_2 l0_3) else (some false)) else (parterrelaw28_ContentEven.l0 k3 l1 a2 a3 t402 t406 x13_3 x14_3 (wrap64 ((rd t402 x85_3) - (wrap64 (x17_3 + (rd l0_3 x85_3))))) true (wrap64 ((wrap64 (x17_3 + (rd l0_3 x85_3))) + (rd l1 x85_3))) (t402.length : Int) (wrap64 (x85_3 + 1)) a0_0 l0_1 l0_2 l0_3)) else (parterrelaw28_ContentEven.l0 k3 l1 a2 a3 t402 t406 x13_3 x14_3 (wrap64 ((rd t402 x85_3) - (wrap64 (x17_3 + (rd l0_3 x85_3))))) true (wrap64 ((wrap64 (x17_3 + (rd l0_3 x85_3))) + (rd l1 x85_3))) (t402.length : Int) (wrap64 (x85_3 + 1)) a0_0 l0_1 l0_2 l0_3)) else (if a2 ≤ t406 then (if a3 ≥ 7 then (if (wrap64 ((rd t402 x85_3) - (wrap64 (x17_3 + (rd l0_3 x85_3))))) = 0 then (parterrelaw28_ContentEven.l0 k3 l1 a2 a3 t402 t406 x13_3 x14_3 (wrap64 ((rd t402 x85_3) - (wrap64 (x17_3 + (rd l0_3 x85_3))))) true (wrap64 ((wrap64 (x17_3 + (rd l0_3 x85_3))) + (rd l1 x85_3))) (t402.length : Int) (wrap64 (x85_3 + 1)) a0_0 l0_1 l0_2 l0_3) else (some false)) else (parterrelaw28_ContentEven.l0 k3 l1 a2 a3 t402 t406 x13_3 x14_3 (wrap64 ((rd t402 x85_3) - (wrap64 (x17_3 + (rd l0_3 x85_3))))) true (wrap64 ((wrap64 (x17_3 + (rd l0_3 x85_3))) + (rd l1 x85_3))) (t402.length : Int) (wrap64 (x85_3 + 1)) a0_0 l0_1 l0_2 l0_3)) else (parterrelaw28_ContentEven.l0 k3 l1 a2 a3 t402 t406 x13_3 x14_3 (wrap64 ((rd t402 x85_3) - (wrap64 (x17_3 + (rd l0_3 x85_3))))) true (wrap64 ((wrap64 (x17_3 + (rd l0_3 x85_3))) + (rd l1 x85_3))) (t402.length : Int) (wrap64 (x85_3 + 1)) a0_0 l0_1 l0_2 l0_3))) = some r := by rw [if_neg (show ¬ (false = true) by decide)] at H; exact H
                clear H
                have H := H1
                clear H1
                by_cases c66 : a3 < 7
                rotate_left
                · rw [if_neg c66] at H
                  have c66b0 : decide (a3 < 7) = false := decide_eq_false c66
                  clear c66
                  by_cases c74 : a2 ≤ t406
                  rotate_left
                  · rw [if_neg c74] at H
                    have c74b0 : decide (a2 ≤ t406) = false := decide_eq_false c74
                    clear c74
                    have H' := Aside0.mk H
                    clear H
                    have hcz80_0 : wr.cell? ⟨gb400, 0, none⟩ = some (.int .i64 a0_0) := (blk_cell BK400.out 0).trans rfl
                    have hcz80_1 : wr.cell? ⟨gb400, 1, none⟩ = some (.slice A0_1 l0_1.length c0_1) := (blk_cell BK400.out 1).trans rfl
                    have hcz80_2 : wr.cell? ⟨gb400, 2, none⟩ = some (.slice A0_2 l0_2.length c0_2) := (blk_cell BK400.out 2).trans rfl
                    have hcz80_3 : wr.cell? ⟨gb400, 3, none⟩ = some (.slice A0_3 l0_3.length c0_3) := (blk_cell BK400.out 3).trans rfl
                    have hfz80_0 := blk_frozen BK400.out 0
                    have hfz80_1 := blk_frozen BK400.out 1
                    have hfz80_2 := blk_frozen BK400.out 2
                    have hfz80_3 := blk_frozen BK400.out 3
                    have p409 : 0 ≤ (x85_3 : Int) := of_decide_eq_true pmAx21_0_
                    have q409 : x85_3 < (l0_3.length : Int) := of_decide_eq_true pmAx21_0_
                    obtain ⟨ad409, e409, hx409_0⟩ := Kd.at_int HR0_3.out x85_3 p409 q409
                    cases e409
                    replace hx409_0 := (HB.out.cell (World.block_lt_of_cell? w _ hx409_0)).trans hx409_0
                    replace p409 := eq_true p409
                    replace q409 := eq_true q409
                    have p410 : 0 ≤ (x85_3 : Int) := of_decide_eq_true pmAx21_0_
                    have q410 : x85_3 < (t402.length : Int) := of_decide_eq_true pmAx21_0_
                    obtain ⟨ad410, e410, hx410_0⟩ := Kd.at_int (Kd.R_reads' HO_9.out).2.2 x85_3 p410 q410
                    cases e410
                    replace p410 := eq_true p410
                    replace q410 := eq_true q410
                    have p411 : 0 ≤ (x85_3 : Int) := of_decide_eq_true pmAx21_0_
                    have q411 : x85_3 < (l1.length : Int) := of_decide_eq_true pmAx21_0_
                    obtain ⟨ad411, e411, hx411_0⟩ := Kd.at_int HR1.out x85_3 p411 q411
                    cases e411
                    replace hx411_0 := (HB.out.cell (World.block_lt_of_cell? w _ hx411_0)).trans hx411_0
                    replace p411 := eq_true p411
                    replace q411 := eq_true q411
                    have p412 : 0 ≤ (x85_3 : Int) := of_decide_eq_true pmAx21_0_
                    have q412 : x85_3 < (l0_2.length : Int) := of_decide_eq_true pmAx21_0_
                    obtain ⟨ad412, e412, hx412_0⟩ := Kd.at_bool HR0_2.out x85_3 p412 q412
                    (try rw [← Nbq43.out] at hx412_0)
                    cases e412
                    replace hx412_0 := (HB.out.cell (World.block_lt_of_cell? w _ hx412_0)).trans hx412_0
                    replace p412 := eq_true p412
                    replace q412 := eq_true q412
                    as_aux_lemma =>
                      go_wp2
                      go_roundg k3
                      case measure => have := HJ4.out; have := HJ14.out; have := HK3.out; omega
                      case rel => exact ⟨(x13_3), (x14_3), (wrap64 ((rd t402 x85_3) - (wrap64 (x17_3 + (rd l0_3 x85_3))))), (true), (wrap64 ((wrap64 (x17_3 + (rd l0_3 x85_3))) + (rd l1 x85_3))), (wrap64 (x85_3 + 1)), pmAx21_2_, pmAx21_2_, pmAx21_2_, pmAx21_2_, pmAx21_2_, pmAx21_2_, H', ⟨pmAx21_5_⟩, ⟨pmAx21_4_⟩, ⟨pmAx21_3_⟩, ⟨pmAx21_1_⟩⟩
                  rw [if_pos c74] at H
                  have c74b0 : decide (a2 ≤ t406) = true := decide_eq_true c74
                  clear c74
                  by_cases c75 : a3 ≥ 7
                  rotate_left
                  · rw [if_neg c75] at H
                    have c75b0 : decide (7 ≤ a3) = false := decide_eq_false c75
                    clear c75
                    have H' := Aside0.mk H
                    clear H
                    have hcz79_0 : wr.cell? ⟨gb400, 0, none⟩ = some (.int .i64 a0_0) := (blk_cell BK400.out 0).trans rfl
                    have hcz79_1 : wr.cell? ⟨gb400, 1, none⟩ = some (.slice A0_1 l0_1.length c0_1) := (blk_cell BK400.out 1).trans rfl
                    have hcz79_2 : wr.cell? ⟨gb400, 2, none⟩ = some (.slice A0_2 l0_2.length c0_2) := (blk_cell BK400.out 2).trans rfl
                    have hcz79_3 : wr.cell? ⟨gb400, 3, none⟩ = some (.slice A0_3 l0_3.length c0_3) := (blk_cell BK400.out 3).trans rfl
                    have hfz79_0 := blk_frozen BK400.out 0
                    have hfz79_1 := blk_frozen BK400.out 1
                    have hfz79_2 := blk_frozen BK400.out 2
                    have hfz79_3 := blk_frozen BK400.out 3
                    have p409 : 0 ≤ (x85_3 : Int) := of_decide_eq_true pmAx21_0_
                    have q409 : x85_3 < (l0_3.length : Int) := of_decide_eq_true pmAx21_0_
                    obtain ⟨ad409, e409, hx409_0⟩ := Kd.at_int HR0_3.out x85_3 p409 q409
                    cases e409
                    replace hx409_0 := (HB.out.cell (World.block_lt_of_cell? w _ hx409_0)).trans hx409_0
                    replace p409 := eq_true p409
                    replace q409 := eq_true q409
                    have p410 : 0 ≤ (x85_3 : Int) := of_decide_eq_true pmAx21_0_
                    have q410 : x85_3 < (t402.length : Int) := of_decide_eq_true pmAx21_0_
                    obtain ⟨ad410, e410, hx410_0⟩ := Kd.at_int (Kd.R_reads' HO_9.out).2.2 x85_3 p410 q410
                    cases e410
                    replace p410 := eq_true p410
                    replace q410 := eq_true q410
                    have p411 : 0 ≤ (x85_3 : Int) := of_decide_eq_true pmAx21_0_
                    have q411 : x85_3 < (l1.length : Int) := of_decide_eq_true pmAx21_0_
                    obtain ⟨ad411, e411, hx411_0⟩ := Kd.at_int HR1.out x85_3 p411 q411
                    cases e411
                    replace hx411_0 := (HB.out.cell (World.block_lt_of_cell? w _ hx411_0)).trans hx411_0
                    replace p411 := eq_true p411
                    replace q411 := eq_true q411
                    have p412 : 0 ≤ (x85_3 : Int) := of_decide_eq_true pmAx21_0_
                    have q412 : x85_3 < (l0_2.length : Int) := of_decide_eq_true pmAx21_0_
                    obtain ⟨ad412, e412, hx412_0⟩ := Kd.at_bool HR0_2.out x85_3 p412 q412
                    (try rw [← Nbq43.out] at hx412_0)
                    cases e412
                    replace hx412_0 := (HB.out.cell (World.block_lt_of_cell? w _ hx412_0)).trans hx412_0
                    replace p412 := eq_true p412
                    replace q412 := eq_true q412
                    as_aux_lemma =>
                      go_wp2
                      go_roundg k3
                      case measure => have := HJ4.out; have := HJ14.out; have := HK3.out; omega
                      case rel => exact ⟨(x13_3), (x14_3), (wrap64 ((rd t402 x85_3) - (wrap64 (x17_3 + (rd l0_3 x85_3))))), (true), (wrap64 ((wrap64 (x17_3 + (rd l0_3 x85_3))) + (rd l1 x85_3))), (wrap64 (x85_3 + 1)), pmAx21_2_, pmAx21_2_, pmAx21_2_, pmAx21_2_, pmAx21_2_, pmAx21_2_, H', ⟨pmAx21_5_⟩, ⟨pmAx21_4_⟩, ⟨pmAx21_3_⟩, ⟨pmAx21_1_⟩⟩
                  rw [if_pos c75] at H
                  have c75b0 : decide (7 ≤ a3) = true := decide_eq_true c75
                  clear c75
                  by_cases c76 : (wrap64 ((rd t402 x85_3) - (wrap64 (x17_3 + (rd l0_3 x85_3))))) = 0
                  rotate_left
                  · rw [if_neg c76] at H
                    have c76b0 : ((wrap64 ((rd t402 x85_3) - (wrap64 (x17_3 + (rd l0_3 x85_3))))) == 0) = false := beq_eq_false_iff_ne.mpr c76
                    have c76b1 : ((wrap64 ((rd t402 x85_3) - (wrap64 (x17_3 + (rd l0_3 x85_3))))) != 0) = true := bne_iff_ne.mpr c76
                    obtain rfl := Option.some.inj H
                    have hcz78_0 : wr.cell? ⟨gb400, 0, none⟩ = some (.int .i64 a0_0) := (blk_cell BK400.out 0).trans rfl
                    have hcz78_1 : wr.cell? ⟨gb400, 1, none⟩ = some (.slice A0_1 l0_1.length c0_1) := (blk_cell BK400.out 1).trans rfl
                    have hcz78_2 : wr.cell? ⟨gb400, 2, none⟩ = some (.slice A0_2 l0_2.length c0_2) := (blk_cell BK400.out 2).trans rfl
                    have hcz78_3 : wr.cell? ⟨gb400, 3, none⟩ = some (.slice A0_3 l0_3.length c0_3) := (blk_cell BK400.out 3).trans rfl
                    have hfz78_0 := blk_frozen BK400.out 0
                    have hfz78_1 := blk_frozen BK400.out 1
                    have hfz78_2 := blk_frozen BK400.out 2
                    have hfz78_3 := blk_frozen BK400.out 3
                    have p409 : 0 ≤ (x85_3 : Int) := of_decide_eq_true pmAx21_0_
                    have q409 : x85_3 < (l0_3.length : Int) := of_decide_eq_true pmAx21_0_
                    obtain ⟨ad409, e409, hx409_0⟩ := Kd.at_int HR0_3.out x85_3 p409 q409
                    cases e409
                    replace hx409_0 := (HB.out.cell (World.block_lt_of_cell? w _ hx409_0)).trans hx409_0
                    replace p409 := eq_true p409
                    replace q409 := eq_true q409
                    have p410 : 0 ≤ (x85_3 : Int) := of_decide_eq_true pmAx21_0_
                    have q410 : x85_3 < (t402.length : Int) := of_decide_eq_true pmAx21_0_
                    obtain ⟨ad410, e410, hx410_0⟩ := Kd.at_int (Kd.R_reads' HO_9.out).2.2 x85_3 p410 q410
                    cases e410
                    replace p410 := eq_true p410
                    replace q410 := eq_true q410
                    have p411 : 0 ≤ (x85_3 : Int) := of_decide_eq_true pmAx21_0_
                    have q411 : x85_3 < (l1.length : Int) := of_decide_eq_true pmAx21_0_
                    obtain ⟨ad411, e411, hx411_0⟩ := Kd.at_int HR1.out x85_3 p411 q411
                    cases e411
                    replace hx411_0 := (HB.out.cell (World.block_lt_of_cell? w _ hx411_0)).trans hx411_0
                    replace p411 := eq_true p411
                    replace q411 := eq_true q411
                    have p412 : 0 ≤ (x85_3 : Int) := of_decide_eq_true pmAx21_0_
                    have q412 : x85_3 < (l0_2.length : Int) := of_decide_eq_true pmAx21_0_
                    obtain ⟨ad412, e412, hx412_0⟩ := Kd.at_bool HR0_2.out x85_3 p412 q412
                    (try rw [← Nbq43.out] at hx412_0)
                    cases e412
                    replace hx412_0 := (HB.out.cell (World.block_lt_of_cell? w _ hx412_0)).trans hx412_0
                    replace p412 := eq_true p412
                    replace q412 := eq_true q412
                    as_aux_lemma =>
                      go_wp2
                      go_ret
                      exact ⟨by first | rfl | (simp [errW_none, errW_some] <;> rfl) | (simp [*, errW_none, errW_some] <;> rfl), by repeat (first | (with_reducible first | exact HB.out | apply below_alloc | apply pw_below_drewN | apply below_drew1 | refine below_set ?_ GE400.out) | exact HB.out)⟩
                  rw [if_pos c76] at H
                  have c76b0 : ((wrap64 ((rd t402 x85_3) - (wrap64 (x17_3 + (rd l0_3 x85_3))))) == 0) = true := beq_iff_eq.mpr c76
                  have c76b1 : ((wrap64 ((rd t402 x85_3) - (wrap64 (x17_3 + (rd l0_3 x85_3))))) != 0) = false := bne_eq_false_iff_eq.mpr c76
                  clear c76
                  have H' := Aside0.mk H
                  clear H
                  have hcz77_0 : wr.cell? ⟨gb400, 0, none⟩ = some (.int .i64 a0_0) := (blk_cell BK400.out 0).trans rfl
                  have hcz77_1 : wr.cell? ⟨gb400, 1, none⟩ = some (.slice A0_1 l0_1.length c0_1) := (blk_cell BK400.out 1).trans rfl
                  have hcz77_2 : wr.cell? ⟨gb400, 2, none⟩ = some (.slice A0_2 l0_2.length c0_2) := (blk_cell BK400.out 2).trans rfl
                  have hcz77_3 : wr.cell? ⟨gb400, 3, none⟩ = some (.slice A0_3 l0_3.length c0_3) := (blk_cell BK400.out 3).trans rfl
                  have hfz77_0 := blk_frozen BK400.out 0
                  have hfz77_1 := blk_frozen BK400.out 1
                  have hfz77_2 := blk_frozen BK400.out 2
                  have hfz77_3 := blk_frozen BK400.out 3
                  have p409 : 0 ≤ (x85_3 : Int) := of_decide_eq_true pmAx21_0_
                  have q409 : x85_3 < (l0_3.length : Int) := of_decide_eq_true pmAx21_0_
                  obtain ⟨ad409, e409, hx409_0⟩ := Kd.at_int HR0_3.out x85_3 p409 q409
                  cases e409
                  replace hx409_0 := (HB.out.cell (World.block_lt_of_cell? w _ hx409_0)).trans hx409_0
                  replace p409 := eq_true p409
                  replace q409 := eq_true q409
                  have p410 : 0 ≤ (x85_3 : Int) := of_decide_eq_true pmAx21_0_
                  have q410 : x85_3 < (t402.length : Int) := of_decide_eq_true pmAx21_0_
                  obtain ⟨ad410, e410, hx410_0⟩ := Kd.at_int (Kd.R_reads' HO_9.out).2.2 x85_3 p410 q410
                  cases e410
                  replace p410 := eq_true p410
                  replace q410 := eq_true q410
                  have p411 : 0 ≤ (x85_3 : Int) := of_decide_eq_true pmAx21_0_
                  have q411 : x85_3 < (l1.length : Int) := of_decide_eq_true pmAx21_0_
                  obtain ⟨ad411, e411, hx411_0⟩ := Kd.at_int HR1.out x85_3 p411 q411
                  cases e411
                  replace hx411_0 := (HB.out.cell (World.block_lt_of_cell? w _ hx411_0)).trans hx411_0
                  replace p411 := eq_true p411
                  replace q411 := eq_true q411
                  have p412 : 0 ≤ (x85_3 : Int) := of_decide_eq_true pmAx21_0_
                  have q412 : x85_3 < (l0_2.length : Int) := of_decide_eq_true pmAx21_0_
                  obtain ⟨ad412, e412, hx412_0⟩ := Kd.at_bool HR0_2.out x85_3 p412 q412
                  (try rw [← Nbq43.out] at hx412_0)
                  cases e412
                  replace hx412_0 := (HB.out.cell (World.block_lt_of_cell? w _ hx412_0)).trans hx412_0
                  replace p412 := eq_true p412
                  replace q412 := eq_true q412
                  go_wp2
                  go_roundg k3
                  case measure => have := HJ4.out; have := HJ14.out; have := HK3.out; omega
                  case rel => exact ⟨(x13_3), (x14_3), (wrap64 ((rd t402 x85_3) - (wrap64 (x17_3 + (rd l0_3 x85_3))))), (true), (wrap64 ((wrap64 (x17_3 + (rd l0_3 x85_3))) + (rd l1 x85_3))), (wrap64 (x85_3 + 1)), pmAx21_2_, pmAx21_2_, pmAx21_2_, pmAx21_2_, pmAx21_2_, pmAx21_2_, H', ⟨pmAx21_5_⟩, ⟨pmAx21_4_⟩, ⟨pmAx21_3_⟩, ⟨pmAx21_1_⟩⟩
                rw [if_pos c66] at H
                have c66b0 : decide (a3 < 7) = true := decide_eq_true c66
                clear c66
                by_cases c67 : a2 ≤ t406
                rotate_left
                · rw [if_neg c67] at H
                  have c67b0 : decide (a2 ≤ t406) = false := decide_eq_false c67
                  clear c67
                  have H' := Aside0.mk H
                  clear H
                  have hcz73_0 : wr.cell? ⟨gb400, 0, none⟩ = some (.int .i64 a0_0) := (blk_cell BK400.out 0).trans rfl
                  have hcz73_1 : wr.cell? ⟨gb400, 1, none⟩ = some (.slice A0_1 l0_1.length c0_1) := (blk_cell BK400.out 1).trans rfl
                  have hcz73_2 : wr.cell? ⟨gb400, 2, none⟩ = some (.slice A0_2 l0_2.length c0_2) := (blk_cell BK400.out 2).trans rfl
                  have hcz73_3 : wr.cell? ⟨gb400, 3, none⟩ = some (.slice A0_3 l0_3.length c0_3) := (blk_cell BK400.out 3).trans rfl
                  have hfz73_0 := blk_frozen BK400.out 0
                  have hfz73_1 := blk_frozen BK400.out 1
                  have hfz73_2 := blk_frozen BK400.out 2
                  have hfz73_3 := blk_frozen BK400.out 3
                  have p409 : 0 ≤ (x85_3 : Int) := of_decide_eq_true pmAx21_0_
                  have q409 : x85_3 < (l0_3.length : Int) := of_decide_eq_true pmAx21_0_
                  obtain ⟨ad409, e409, hx409_0⟩ := Kd.at_int HR0_3.out x85_3 p409 q409
                  cases e409
                  replace hx409_0 := (HB.out.cell (World.block_lt_of_cell? w _ hx409_0)).trans hx409_0
                  replace p409 := eq_true p409
                  replace q409 := eq_true q409
                  have p410 : 0 ≤ (x85_3 : Int) := of_decide_eq_true pmAx21_0_
                  have q410 : x85_3 < (t402.length : Int) := of_decide_eq_true pmAx21_0_
                  obtain ⟨ad410, e410, hx410_0⟩ := Kd.at_int (Kd.R_reads' HO_9.out).2.2 x85_3 p410 q410
                  cases e410
                  replace p410 := eq_true p410
                  replace q410 := eq_true q410
                  have p411 : 0 ≤ (x85_3 : Int) := of_decide_eq_true pmAx21_0_
                  have q411 : x85_3 < (l1.length : Int) := of_decide_eq_true pmAx21_0_
                  obtain ⟨ad411, e411, hx411_0⟩ := Kd.at_int HR1.out x85_3 p411 q411
                  cases e411
                  replace hx411_0 := (HB.out.cell (World.block_lt_of_cell? w _ hx411_0)).trans hx411_0
                  replace p411 := eq_true p411
                  replace q411 := eq_true q411
                  have p412 : 0 ≤ (x85_3 : Int) := of_decide_eq_true pmAx21_0_
                  have q412 : x85_3 < (l0_2.length : Int) := of_decide_eq_true pmAx21_0_
                  obtain ⟨ad412, e412, hx412_0⟩ := Kd.at_bool HR0_2.out x85_3 p412 q412
                  (try rw [← Nbq43.out] at hx412_0)
                  cases e412
                  replace hx412_0 := (HB.out.cell (World.block_lt_of_cell? w _ hx412_0)).trans hx412_0
                  replace p412 := eq_true p412
                  replace q412 := eq_true q412
                  as_aux_lemma =>
                    go_wp2
                    go_roundg k3
                    case measure => have := HJ4.out; have := HJ14.out; have := HK3.out; omega
                    case rel => exact ⟨(x13_3), (x14_3), (wrap64 ((rd t402 x85_3) - (wrap64 (x17_3 + (rd l0_3 x85_3))))), (true), (wrap64 ((wrap64 (x17_3 + (rd l0_3 x85_3))) + (rd l1 x85_3))), (wrap64 (x85_3 + 1)), pmAx21_2_, pmAx21_2_, pmAx21_2_, pmAx21_2_, pmAx21_2_, pmAx21_2_, H', ⟨pmAx21_5_⟩, ⟨pmAx21_4_⟩, ⟨pmAx21_3_⟩, ⟨pmAx21_1_⟩⟩
                rw [if_pos c67] at H
                have c67b0 : decide (a2 ≤ t406) = true := decide_eq_true c67
                clear c67
                by_cases c68 : a3 ≥ 7
                rotate_left
                · rw [if_neg c68] at H
                  have c68b0 : decide (7 ≤ a3) = false := decide_eq_false c68
                  clear c68
                  have H' := Aside0.mk H
                  clear H
                  have hcz72_0 : wr.cell? ⟨gb400, 0, none⟩ = some (.int .i64 a0_0) := (blk_cell BK400.out 0).trans rfl
                  have hcz72_1 : wr.cell? ⟨gb400, 1, none⟩ = some (.slice A0_1 l0_1.length c0_1) := (blk_cell BK400.out 1).trans rfl
                  have hcz72_2 : wr.cell? ⟨gb400, 2, none⟩ = some (.slice A0_2 l0_2.length c0_2) := (blk_cell BK400.out 2).trans rfl
                  have hcz72_3 : wr.cell? ⟨gb400, 3, none⟩ = some (.slice A0_3 l0_3.length c0_3) := (blk_cell BK400.out 3).trans rfl
                  have hfz72_0 := blk_frozen BK400.out 0
                  have hfz72_1 := blk_frozen BK400.out 1
                  have hfz72_2 := blk_frozen BK400.out 2
                  have hfz72_3 := blk_frozen BK400.out 3
                  have p409 : 0 ≤ (x85_3 : Int) := of_decide_eq_true pmAx21_0_
                  have q409 : x85_3 < (l0_3.length : Int) := of_decide_eq_true pmAx21_0_
                  obtain ⟨ad409, e409, hx409_0⟩ := Kd.at_int HR0_3.out x85_3 p409 q409
                  cases e409
                  replace hx409_0 := (HB.out.cell (World.block_lt_of_cell? w _ hx409_0)).trans hx409_0
                  replace p409 := eq_true p409
                  replace q409 := eq_true q409
                  have p410 : 0 ≤ (x85_3 : Int) := of_decide_eq_true pmAx21_0_
                  have q410 : x85_3 < (t402.length : Int) := of_decide_eq_true pmAx21_0_
                  obtain ⟨ad410, e410, hx410_0⟩ := Kd.at_int (Kd.R_reads' HO_9.out).2.2 x85_3 p410 q410
                  cases e410
                  replace p410 := eq_true p410
                  replace q410 := eq_true q410
                  have p411 : 0 ≤ (x85_3 : Int) := of_decide_eq_true pmAx21_0_
                  have q411 : x85_3 < (l1.length : Int) := of_decide_eq_true pmAx21_0_
                  obtain ⟨ad411, e411, hx411_0⟩ := Kd.at_int HR1.out x85_3 p411 q411
                  cases e411
                  replace hx411_0 := (HB.out.cell (World.block_lt_of_cell? w _ hx411_0)).trans hx411_0
                  replace p411 := eq_true p411
                  replace q411 := eq_true q411
                  have p412 : 0 ≤ (x85_3 : Int) := of_decide_eq_true pmAx21_0_
                  have q412 : x85_3 < (l0_2.length : Int) := of_decide_eq_true pmAx21_0_
                  obtain ⟨ad412, e412, hx412_0⟩ := Kd.at_bool HR0_2.out x85_3 p412 q412
                  (try rw [← Nbq43.out] at hx412_0)
                  cases e412
                  replace hx412_0 := (HB.out.cell (World.block_lt_of_cell? w _ hx412_0)).trans hx412_0
                  replace p412 := eq_true p412
                  replace q412 := eq_true q412
                  as_aux_lemma =>
                    go_wp2
                    go_roundg k3
                    case measure => have := HJ4.out; have := HJ14.out; have := HK3.out; omega
                    case rel => exact ⟨(x13_3), (x14_3), (wrap64 ((rd t402 x85_3) - (wrap64 (x17_3 + (rd l0_3 x85_3))))), (true), (wrap64 ((wrap64 (x17_3 + (rd l0_3 x85_3))) + (rd l1 x85_3))), (wrap64 (x85_3 + 1)), pmAx21_2_, pmAx21_2_, pmAx21_2_, pmAx21_2_, pmAx21_2_, pmAx21_2_, H', ⟨pmAx21_5_⟩, ⟨pmAx21_4_⟩, ⟨pmAx21_3_⟩, ⟨pmAx21_1_⟩⟩
                rw [if_pos c68] at H
                have c68b0 : decide (7 ≤ a3) = true := decide_eq_true c68
                clear c68
                by_cases c69 : (wrap64 ((rd t402 x85_3) - (wrap64 (x17_3 + (rd l0_3 x85_3))))) = 0
                rotate_left
                · rw [if_neg c69] at H
                  have c69b0 : ((wrap64 ((rd t402 x85_3) - (wrap64 (x17_3 + (rd l0_3 x85_3))))) == 0) = false := beq_eq_false_iff_ne.mpr c69
                  have c69b1 : ((wrap64 ((rd t402 x85_3) - (wrap64 (x17_3 + (rd l0_3 x85_3))))) != 0) = true := bne_iff_ne.mpr c69
                  obtain rfl := Option.some.inj H
                  have hcz71_0 : wr.cell? ⟨gb400, 0, none⟩ = some (.int .i64 a0_0) := (blk_cell BK400.out 0).trans rfl
                  have hcz71_1 : wr.cell? ⟨gb400, 1, none⟩ = some (.slice A0_1 l0_1.length c0_1) := (blk_cell BK400.out 1).trans rfl
                  have hcz71_2 : wr.cell? ⟨gb400, 2, none⟩ = some (.slice A0_2 l0_2.length c0_2) := (blk_cell BK400.out 2).trans rfl
                  have hcz71_3 : wr.cell? ⟨gb400, 3, none⟩ = some (.slice A0_3 l0_3.length c0_3) := (blk_cell BK400.out 3).trans rfl
                  have hfz71_0 := blk_frozen BK400.out 0
                  have hfz71_1 := blk_frozen BK400.out 1
                  have hfz71_2 := blk_frozen BK400.out 2
                  have hfz71_3 := blk_frozen BK400.out 3
                  have p409 : 0 ≤ (x85_3 : Int) := of_decide_eq_true pmAx21_0_
                  have q409 : x85_3 < (l0_3.length : Int) := of_decide_eq_true pmAx21_0_
                  obtain ⟨ad409, e409, hx409_0⟩ := Kd.at_int HR0_3.out x85_3 p409 q409
                  cases e409
                  replace hx409_0 := (HB.out.cell (World.block_lt_of_cell? w _ hx409_0)).trans hx409_0
                  replace p409 := eq_true p409
                  replace q409 := eq_true q409
                  have p410 : 0 ≤ (x85_3 : Int) := of_decide_eq_true pmAx21_0_
                  have q410 : x85_3 < (t402.length : Int) := of_decide_eq_true pmAx21_0_
                  obtain ⟨ad410, e410, hx410_0⟩ := Kd.at_int (Kd.R_reads' HO_9.out).2.2 x85_3 p410 q410
                  cases e410
                  replace p410 := eq_true p410
                  replace q410 := eq_true q410
                  have p411 : 0 ≤ (x85_3 : Int) := of_decide_eq_true pmAx21_0_
                  have q411 : x85_3 < (l1.length : Int) := of_decide_eq_true pmAx21_0_
                  obtain ⟨ad411, e411, hx411_0⟩ := Kd.at_int HR1.out x85_3 p411 q411
                  cases e411
                  replace hx411_0 := (HB.out.cell (World.block_lt_of_cell? w _ hx411_0)).trans hx411_0
                  replace p411 := eq_true p411
                  replace q411 := eq_true q411
                  have p412 : 0 ≤ (x85_3 : Int) := of_decide_eq_true pmAx21_0_
                  have q412 : x85_3 < (l0_2.length : Int) := of_decide_eq_true pmAx21_0_
                  obtain ⟨ad412, e412, hx412_0⟩ := Kd.at_bool HR0_2.out x85_3 p412 q412
                  (try rw [← Nbq43.out] at hx412_0)
                  cases e412
                  replace hx412_0 := (HB.out.cell (World.block_lt_of_cell? w _ hx412_0)).trans hx412_0
                  replace p412 := eq_true p412
                  replace q412 := eq_true q412
                  as_aux_lemma =>
                    go_wp2
                    go_ret
                    exact ⟨by first | rfl | (simp [errW_none, errW_some] <;> rfl) | (simp [*, errW_none, errW_some] <;> rfl), by repeat (first | (with_reducible first | exact HB.out | apply below_alloc | apply pw_below_drewN | apply below_drew1 | refine below_set ?_ GE400.out) | exact HB.out)⟩
                rw [if_pos c69] at H
                have c69b0 : ((wrap64 ((rd t402 x85_3) - (wrap64 (x17_3 + (rd l0_3 x85_3))))) == 0) = true := beq_iff_eq.mpr c69
                have c69b1 : ((wrap64 ((rd t402 x85_3) - (wrap64 (x17_3 + (rd l0_3 x85_3))))) != 0) = false := bne_eq_false_iff_eq.mpr c69
                clear c69
                have H' := Aside0.mk H
                clear H
                have hcz70_0 : wr.cell? ⟨gb400, 0, none⟩ = some (.int .i64 a0_0) := (blk_cell BK400.out 0).trans rfl
                have hcz70_1 : wr.cell? ⟨gb400, 1, none⟩ = some (.slice A0_1 l0_1.length c0_1) := (blk_cell BK400.out 1).trans rfl
                have hcz70_2 : wr.cell? ⟨gb400, 2, none⟩ = some (.slice A0_2 l0_2.length c0_2) := (blk_cell BK400.out 2).trans rfl
                have hcz70_3 : wr.cell? ⟨gb400, 3, none⟩ = some (.slice A0_3 l0_3.length c0_3) := (blk_cell BK400.out 3).trans rfl
                have hfz70_0 := blk_frozen BK400.out 0
                have hfz70_1 := blk_frozen BK400.out 1
                have hfz70_2 := blk_frozen BK400.out 2
                have hfz70_3 := blk_frozen BK400.out 3
                have p409 : 0 ≤ (x85_3 : Int) := of_decide_eq_true pmAx21_0_
                have q409 : x85_3 < (l0_3.length : Int) := of_decide_eq_true pmAx21_0_
                obtain ⟨ad409, e409, hx409_0⟩ := Kd.at_int HR0_3.out x85_3 p409 q409
                cases e409
                replace hx409_0 := (HB.out.cell (World.block_lt_of_cell? w _ hx409_0)).trans hx409_0
                replace p409 := eq_true p409
                replace q409 := eq_true q409
                have p410 : 0 ≤ (x85_3 : Int) := of_decide_eq_true pmAx21_0_
                have q410 : x85_3 < (t402.length : Int) := of_decide_eq_true pmAx21_0_
                obtain ⟨ad410, e410, hx410_0⟩ := Kd.at_int (Kd.R_reads' HO_9.out).2.2 x85_3 p410 q410
                cases e410
                replace p410 := eq_true p410
                replace q410 := eq_true q410
                have p411 : 0 ≤ (x85_3 : Int) := of_decide_eq_true pmAx21_0_
                have q411 : x85_3 < (l1.length : Int) := of_decide_eq_true pmAx21_0_
                obtain ⟨ad411, e411, hx411_0⟩ := Kd.at_int HR1.out x85_3 p411 q411
                cases e411
                replace hx411_0 := (HB.out.cell (World.block_lt_of_cell? w _ hx411_0)).trans hx411_0
                replace p411 := eq_true p411
                replace q411 := eq_true q411
                have p412 : 0 ≤ (x85_3 : Int) := of_decide_eq_true pmAx21_0_
                have q412 : x85_3 < (l0_2.length : Int) := of_decide_eq_true pmAx21_0_
                obtain ⟨ad412, e412, hx412_0⟩ := Kd.at_bool HR0_2.out x85_3 p412 q412
                (try rw [← Nbq43.out] at hx412_0)
                cases e412
                replace hx412_0 := (HB.out.cell (World.block_lt_of_cell? w _ hx412_0)).trans hx412_0
                replace p412 := eq_true p412
                replace q412 := eq_true q412
                go_wp2
                go_roundg k3
                case measure => have := HJ4.out; have := HJ14.out; have := HK3.out; omega
                case rel => exact ⟨(x13_3), (x14_3), (wrap64 ((rd t402 x85_3) - (wrap64 (x17_3 + (rd l0_3 x85_3))))), (true), (wrap64 ((wrap64 (x17_3 + (rd l0_3 x85_3))) + (rd l1 x85_3))), (wrap64 (x85_3 + 1)), pmAx21_2_, pmAx21_2_, pmAx21_2_, pmAx21_2_, pmAx21_2_, pmAx21_2_, H', ⟨pmAx21_5_⟩, ⟨pmAx21_4_⟩, ⟨pmAx21_3_⟩, ⟨pmAx21_1_⟩⟩
              subst c46
              have H1 : (if a3 < 7 then (if (wrap64 ((rd t402 x85_3) - (wrap64 (x17_3 + (rd l0_3 x85_3))))) = x15_3 then (if a2 ≤ t406 then (if a3 ≥ 7 then (if (wrap64 ((rd t402 x85_3) - (wrap64 (x17_3 + (rd l0_3 x85_3))))) = 0 then (parterrelaw28_ContentEven.l0 k3 l1 a2 a3 t402 t406 (mn x13_3 (wrap64 ((wrap64 ((rd t402 x85_3) - (wrap64 (x17_3 + (rd l0_3 x85_3))))) - x15_3))) (mx x14_3 (wrap64 ((wrap64 ((rd t402 x85_3) - (wrap64 (x17_3 + (rd l0_3 x85_3))))) - x15_3))) (wrap64 ((rd t402 x85_3) - (wrap64 (x17_3 + (rd l0_3 x85_3))))) true (wrap64 ((wrap64 (x17_3 + (rd l0_3 x85_3))) + (rd l1 x85_3))) (t402.length : Int) (wrap64 (x85_3 + 1)) a0_0 l0_1 l0_2 l0_3) else (some false)) else (parterrelaw28_ContentEven.l0 k3 l1 a2 a3 t402 t406 (mn x13_3 (wrap64 ((wrap64 ((rd t402 x85_3) - (wrap64 (x17_3 + (rd l0_3 x85_3))))) - x15_3))) (mx x14_3 (wrap64 ((wrap64 ((rd t402 x85_3) - (wrap64 (x17_3 + (rd l0_3 x85_3))))) - x15_3))) (wrap64 ((rd t402 x85_3) - (wrap64 (x17_3 + (rd l0_3 x85_3))))) true (wrap64 ((wrap64 (x17_3 + (rd l0_3 x85_3))) + (rd l1 x85_3))) (t402.length : Int) (wrap64 (x85_3 + 1)) a0_0 l0_1 l0_2 l0_3)) else (parterrelaw28_ContentEven.l0 k3 l1 a2 a3 t402 t406 (mn x13_3 (wrap64 ((wrap64 ((rd t402 x85_3) - (wrap64 (x17_3 + (rd l0_3 x85_3))))) - x15_3))) (mx x14_3 (wrap64 ((wrap64 ((rd t402 x85_3) - (wrap64 (x17_3 + (rd l0_3 x85_3))))) - x15_3))) (wrap64 ((rd t402 x85_3) - (wrap64 (x17_3 + (rd l0_3 x85_3))))) true (wrap64 ((wrap64 (x17_3 + (rd l0_3 x85_3))) + (rd l1 x85_3))) (t402.length : Int) (wrap64 (x85_3 + 1)) a0_0 l0_1 l0_2 l0_3)) else (some false)) else (if a2 ≤ t406 then (if a3 ≥ 7 then (if (wrap64 ((rd t402 x85_3) - (wrap64 (x17_3 + (rd l0_3 x85_3))))) = 0 then (parterrelaw28_ContentEven.l0 k3 l1 a2 a3 t402 t406 (mn x13_3 (wrap64 ((wrap64 ((rd t402 x85_3) - (wrap64 (x17_3 + (rd l0_3 x85_3))))) - x15_3))) (mx x14_3 (wrap64 ((wrap64 ((rd t402 x85_3) - (wrap64 (x17_3 + (rd l0_3 x85_3))))) - x15_3))) (wrap64 ((rd t402 x85_3) - (wrap64 (x17_3 + (rd l0_3 x85_3))))) true (wrap64 ((wrap64 (x17_3 + (rd l0_3 x85_3))) + (rd l1 x85_3))) (t402.length : Int) (wrap64 (x85_3 + 1)) a0_0 l0_1 l0_2 l0_3) else (some false)) else (parterrelaw28_ContentEven.l0 k3 l1 a2 a3 t402 t406 (mn x13_3 (wrap64 ((wrap64 ((rd t402 x85_3) - (wrap64 (x17_3 + (rd l0_3 x85_3))))) - x15_3))) (mx x14_3 (wrap64 ((wrap64 ((rd t402 x85_3) - (wrap64 (x17_3 + (rd l0_3 x85_3))))) - x15_3))) (wrap64 ((rd t402 x85_3) - (wrap64 (x17_3 + (rd l0_3 x85_3))))) true (wrap64 ((wrap64 (x17_3 + (rd l0_3 x85_3))) + (rd l1 x85_3))) (t402.length : Int) (wrap64 (x85_3 + 1)) a0_0 l0_1 l0_2 l0_3)) else (parterrelaw28_ContentEven.l0 k3 l1 a2 a3 t402 t406 (mn x13_3 (wrap64 ((wrap64 ((rd t402 x85_3) - (wrap64 (x17_3 + (rd l0_3 x85_3))))) - x15_3))) (mx x14_3 (wrap64 ((wrap64 ((rd t402 x85_3) - (wrap64 (x17_3 + (rd l0_3 x85_3))))) - x15_3))) (wrap64 ((rd t402 x85_3) - (wrap64 (x17_3 + (rd l0_3 x85_3))))) true (wrap64 ((wrap64 (x17_3 + (rd l0_3 x85_3))) + (rd l1 x85_3))) (t402.length : Int) (wrap64 (x85_3 + 1)) a0_0 l0_1 l0_2 l0_3))) = some r := by rw [if_pos rfl] at H; exact H
              clear H
              have H := H1
              clear H1
              obtain ⟨ji47, hji47⟩ : ∃ j_ : Int, (mn x13_3 (wrap64 ((wrap64 ((rd t402 x85_3) - (wrap64 (x17_3 + (rd l0_3 x85_3))))) - x15_3))) = j_ := ⟨_, rfl⟩
              replace H : (if a3 < 7 then (if (wrap64 ((rd t402 x85_3) - (wrap64 (x17_3 + (rd l0_3 x85_3))))) = x15_3 then (if a2 ≤ t406 then (if a3 ≥ 7 then (if (wrap64 ((rd t402 x85_3) - (wrap64 (x17_3 + (rd l0_3 x85_3))))) = 0 then (parterrelaw28_ContentEven.l0 k3 l1 a2 a3 t402 t406 ji47 (mx x14_3 (wrap64 ((wrap64 ((rd t402 x85_3) - (wrap64 (x17_3 + (rd l0_3 x85_3))))) - x15_3))) (wrap64 ((rd t402 x85_3) - (wrap64 (x17_3 + (rd l0_3 x85_3))))) true (wrap64 ((wrap64 (x17_3 + (rd l0_3 x85_3))) + (rd l1 x85_3))) (t402.length : Int) (wrap64 (x85_3 + 1)) a0_0 l0_1 l0_2 l0_3) else (some false)) else (parterrelaw28_ContentEven.l0 k3 l1 a2 a3 t402 t406 ji47 (mx x14_3 (wrap64 ((wrap64 ((rd t402 x85_3) - (wrap64 (x17_3 + (rd l0_3 x85_3))))) - x15_3))) (wrap64 ((rd t402 x85_3) - (wrap64 (x17_3 + (rd l0_3 x85_3))))) true (wrap64 ((wrap64 (x17_3 + (rd l0_3 x85_3))) + (rd l1 x85_3))) (t402.length : Int) (wrap64 (x85_3 + 1)) a0_0 l0_1 l0_2 l0_3)) else (parterrelaw28_ContentEven.l0 k3 l1 a2 a3 t402 t406 ji47 (mx x14_3 (wrap64 ((wrap64 ((rd t402 x85_3) - (wrap64 (x17_3 + (rd l0_3 x85_3))))) - x15_3))) (wrap64 ((rd t402 x85_3) - (wrap64 (x17_3 + (rd l0_3 x85_3))))) true (wrap64 ((wrap64 (x17_3 + (rd l0_3 x85_3))) + (rd l1 x85_3))) (t402.length : Int) (wrap64 (x85_3 + 1)) a0_0 l0_1 l0_2 l0_3)) else (some false)) else (if a2 ≤ t406 then (if a3 ≥ 7 then (if (wrap64 ((rd t402 x85_3) - (wrap64 (x17_3 + (rd l0_3 x85_3))))) = 0 then (parterrelaw28_ContentEven.l0 k3 l1 a2 a3 t402 t406 ji47 (mx x14_3 (wrap64 ((wrap64 ((rd t402 x85_3) - (wrap64 (x17_3 + (rd l0_3 x85_3))))) - x15_3))) (wrap64 ((rd t402 x85_3) - (wrap64 (x17_3 + (rd l0_3 x85_3))))) true (wrap64 ((wrap64 (x17_3 + (rd l0_3 x85_3))) + (rd l1 x85_3))) (t402.length : Int) (wrap64 (x85_3 + 1)) a0_0 l0_1 l0_2 l0_3) else (some false)) else (parterrelaw28_ContentEven.l0 k3 l1 a2 a3 t402 t406 ji47 (mx x14_3 (wrap64 ((wrap64 ((rd t402 x85_3) - (wrap64 (x17_3 + (rd l0_3 x85_3))))) - x15_3))) (wrap64 ((rd t402 x85_3) - (wrap64 (x17_3 + (rd l0_3 x85_3))))) true (wrap64 ((wrap64 (x17_3 + (rd l0_3 x85_3))) + (rd l1 x85_3))) (t402.length : Int) (wrap64 (x85_3 + 1)) a0_0 l0_1 l0_2 l0_3)) else (parterrelaw28_ContentEven.l0 k3 l1 a2 a3 t402 t406 ji47 (mx x14_3 (wrap64 ((wrap64 ((rd t402 x85_3) - (wrap64 (x17_3 + (rd l0_3 x85_3))))) - x15_3))) (wrap64 ((rd t402 x85_3) - (wrap64 (x17_3 + (rd l0_3 x85_3))))) true (wrap64 ((wrap64 (x17_3 + (rd l0_3 x85_3))) + (rd l1 x85_3))) (t402.length : Int) (wrap64 (x85_3 + 1)) a0_0 l0_1 l0_2 l0_3))) = some r := by first | (rw [hji47] at H; exact H) | (simp only [hji47] at H ⊢; exact H)
              have hji47_ : (if (wrap64 ((wrap64 ((rd t402 x85_3) - (wrap64 (x17_3 + (rd l0_3 x85_3))))) - x15_3)) < x13_3 then (wrap64 ((wrap64 ((rd t402 x85_3) - (wrap64 (x17_3 + (rd l0_3 x85_3))))) - x15_3)) else x13_3) = ji47 := hji47
              obtain ⟨ji48, hji48⟩ : ∃ j_ : Int, (mx x14_3 (wrap64 ((wrap64 ((rd t402 x85_3) - (wrap64 (x17_3 + (rd l0_3 x85_3))))) - x15_3))) = j_ := ⟨_, rfl⟩
              replace H : (if a3 < 7 then (if (wrap64 ((rd t402 x85_3) - (wrap64 (x17_3 + (rd l0_3 x85_3))))) = x15_3 then (if a2 ≤ t406 then (if a3 ≥ 7 then (if (wrap64 ((rd t402 x85_3) - (wrap64 (x17_3 + (rd l0_3 x85_3))))) = 0 then (parterrelaw28_ContentEven.l0 k3 l1 a2 a3 t402 t406 ji47 ji48 (wrap64 ((rd t402 x85_3) - (wrap64 (x17_3 + (rd l0_3 x85_3))))) true (wrap64 ((wrap64 (x17_3 + (rd l0_3 x85_3))) + (rd l1 x85_3))) (t402.length : Int) (wrap64 (x85_3 + 1)) a0_0 l0_1 l0_2 l0_3) else (some false)) else (parterrelaw28_ContentEven.l0 k3 l1 a2 a3 t402 t406 ji47 ji48 (wrap64 ((rd t402 x85_3) - (wrap64 (x17_3 + (rd l0_3 x85_3))))) true (wrap64 ((wrap64 (x17_3 + (rd l0_3 x85_3))) + (rd l1 x85_3))) (t402.length : Int) (wrap64 (x85_3 + 1)) a0_0 l0_1 l0_2 l0_3)) else (parterrelaw28_ContentEven.l0 k3 l1 a2 a3 t402 t406 ji47 ji48 (wrap64 ((rd t402 x85_3) - (wrap64 (x17_3 + (rd l0_3 x85_3))))) true (wrap64 ((wrap64 (x17_3 + (rd l0_3 x85_3))) + (rd l1 x85_3))) (t402.length : Int) (wrap64 (x85_3 + 1)) a0_0 l0_1 l0_2 l0_3)) else (some false)) else (if a2 ≤ t406 then (if a3 ≥ 7 then (if (wrap64 ((rd t402 x85_3) - (wrap64 (x17_3 + (rd l0_3 x85_3))))) = 0 then (parterrelaw28_ContentEven.l0 k3 l1 a2 a3 t402 t406 ji47 ji48 (wrap64 ((rd t402 x85_3) - (wrap64 (x17_3 + (rd l0_3 x85_3))))) true (wrap64 ((wrap64 (x17_3 + (rd l0_3 x85_3))) + (rd l1 x85_3))) (t402.length : Int) (wrap64 (x85_3 + 1)) a0_0 l0_1 l0_2 l0_3) else (some false)) else (parterrelaw28_ContentEven.l0 k3 l1 a2 a3 t402 t406 ji47 ji48 (wrap64 ((rd t402 x85_3) - (wrap64 (x17_3 + (rd l0_3 x85_3))))) true (wrap64 ((wrap64 (x17_3 + (rd l0_3 x85_3))) + (rd l1 x85_3))) (t402.length : Int) (wrap64 (x85_3 + 1)) a0_0 l0_1 l0_2 l0_3)) else (parterrelaw28_ContentEven.l0 k3 l1 a2 a3 t402 t406 ji47 ji48 (wrap64 ((rd t402 x85_3) - (wrap64 (x17_3 + (rd l0_3 x85_3))))) true (wrap64 ((wrap64 (x17_3 + (rd l0_3 x85_3))) + (rd l1 x85_3))) (t402.length : Int) (wrap64 (x85_3 + 1)) a0_0 l0_1 l0_2 l0_3))) = some r := by first | (rw [hji48] at H; exact H) | (simp only [hji48] at H ⊢; exact H)
              have hji48_ : (if x14_3 < (wrap64 ((wrap64 ((rd t402 x85_3) - (wrap64 (x17_3 + (rd l0_3 x85_3))))) - x15_3)) then (wrap64 ((wrap64 ((rd t402 x85_3) - (wrap64 (x17_3 + (rd l0_3 x85_3))))) - x15_3)) else x14_3) = ji48 := hji48
              by_cases c49 : a3 < 7
              rotate_left
              · rw [if_neg c49] at H
                have c49b0 : decide (a3 < 7) = false := decide_eq_false c49
                clear c49
                by_cases c59 : a2 ≤ t406
                rotate_left
                · rw [if_neg c59] at H
                  have c59b0 : decide (a2 ≤ t406) = false := decide_eq_false c59
                  clear c59
                  have H' := Aside0.mk H
                  clear H
                  have hcz65_0 : wr.cell? ⟨gb400, 0, none⟩ = some (.int .i64 a0_0) := (blk_cell BK400.out 0).trans rfl
                  have hcz65_1 : wr.cell? ⟨gb400, 1, none⟩ = some (.slice A0_1 l0_1.length c0_1) := (blk_cell BK400.out 1).trans rfl
                  have hcz65_2 : wr.cell? ⟨gb400, 2, none⟩ = some (.slice A0_2 l0_2.length c0_2) := (blk_cell BK400.out 2).trans rfl
                  have hcz65_3 : wr.cell? ⟨gb400, 3, none⟩ = some (.slice A0_3 l0_3.length c0_3) := (blk_cell BK400.out 3).trans rfl
                  have hfz65_0 := blk_frozen BK400.out 0
                  have hfz65_1 := blk_frozen BK400.out 1
                  have hfz65_2 := blk_frozen BK400.out 2
                  have hfz65_3 := blk_frozen BK400.out 3
                  have p409 : 0 ≤ (x85_3 : Int) := of_decide_eq_true pmAx21_0_
                  have q409 : x85_3 < (l0_3.length : Int) := of_decide_eq_true pmAx21_0_
                  obtain ⟨ad409, e409, hx409_0⟩ := Kd.at_int HR0_3.out x85_3 p409 q409
                  cases e409
                  replace hx409_0 := (HB.out.cell (World.block_lt_of_cell? w _ hx409_0)).trans hx409_0
                  replace p409 := eq_true p409
                  replace q409 := eq_true q409
                  have p410 : 0 ≤ (x85_3 : Int) := of_decide_eq_true pmAx21_0_
                  have q410 : x85_3 < (t402.length : Int) := of_decide_eq_true pmAx21_0_
                  obtain ⟨ad410, e410, hx410_0⟩ := Kd.at_int (Kd.R_reads' HO_9.out).2.2 x85_3 p410 q410
                  cases e410
                  replace p410 := eq_true p410
                  replace q410 := eq_true q410
                  have p411 : 0 ≤ (x85_3 : Int) := of_decide_eq_true pmAx21_0_
                  have q411 : x85_3 < (l1.length : Int) := of_decide_eq_true pmAx21_0_
                  obtain ⟨ad411, e411, hx411_0⟩ := Kd.at_int HR1.out x85_3 p411 q411
                  cases e411
                  replace hx411_0 := (HB.out.cell (World.block_lt_of_cell? w _ hx411_0)).trans hx411_0
                  replace p411 := eq_true p411
                  replace q411 := eq_true q411
                  have p412 : 0 ≤ (x85_3 : Int) := of_decide_eq_true pmAx21_0_
                  have q412 : x85_3 < (l0_2.length : Int) := of_decide_eq_true pmAx21_0_
                  obtain ⟨ad412, e412, hx412_0⟩ := Kd.at_bool HR0_2.out x85_3 p412 q412
                  (try rw [← Nbq43.out] at hx412_0)
                  cases e412
                  replace hx412_0 := (HB.out.cell (World.block_lt_of_cell? w _ hx412_0)).trans hx412_0
                  replace p412 := eq_true p412
                  replace q412 := eq_true q412
                  as_aux_lemma =>
                    go_wp2
                    go_roundg k3
                    case measure => have := HJ4.out; have := HJ14.out; have := HK3.out; omega
                    case rel => exact ⟨(ji47), (ji48), (wrap64 ((rd t402 x85_3) - (wrap64 (x17_3 + (rd l0_3 x85_3))))), (true), (wrap64 ((wrap64 (x17_3 + (rd l0_3 x85_3))) + (rd l1 x85_3))), (wrap64 (x85_3 + 1)), pmAx21_7_, pmAx21_8_, pmAx21_2_, pmAx21_2_, pmAx21_2_, pmAx21_2_, H', ⟨pmAx21_5_⟩, ⟨pmAx21_4_⟩, ⟨pmAx21_3_⟩, ⟨pmAx21_1_⟩⟩
                rw [if_pos c59] at H
                have c59b0 : decide (a2 ≤ t406) = true := decide_eq_true c59
                clear c59
                by_cases c60 : a3 ≥ 7
                rotate_left
                · rw [if_neg c60] at H
                  have c60b0 : decide (7 ≤ a3) = false := decide_eq_false c60
                  clear c60
                  have H' := Aside0.mk H
                  clear H
                  have hcz64_0 : wr.cell? ⟨gb400, 0, none⟩ = some (.int .i64 a0_0) := (blk_cell BK400.out 0).trans rfl
                  have hcz64_1 : wr.cell? ⟨gb400, 1, none⟩ = some (.slice A0_1 l0_1.length c0_1) := (blk_cell BK400.out 1).trans rfl
                  have hcz64_2 : wr.cell? ⟨gb400, 2, none⟩ = some (.slice A0_2 l0_2.length c0_2) := (blk_cell BK400.out 2).trans rfl
                  have hcz64_3 : wr.cell? ⟨gb400, 3, none⟩ = some (.slice A0_3 l0_3.length c0_3) := (blk_cell BK400.out 3).trans rfl
                  have hfz64_0 := blk_frozen BK400.out 0
                  have hfz64_1 := blk_frozen BK400.out 1
                  have hfz64_2 := blk_frozen BK400.out 2
                  have hfz64_3 := blk_frozen BK400.out 3
                  have p409 : 0 ≤ (x85_3 : Int) := of_decide_eq_true pmAx21_0_
                  have q409 : x85_3 < (l0_3.length : Int) := of_decide_eq_true pmAx21_0_
                  obtain ⟨ad409, e409, hx409_0⟩ := Kd.at_int HR0_3.out x85_3 p409 q409
                  cases e409
                  replace hx409_0 := (HB.out.cell (World.block_lt_of_cell? w _ hx409_0)).trans hx409_0
                  replace p409 := eq_true p409
                  replace q409 := eq_true q409
                  have p410 : 0 ≤ (x85_3 : Int) := of_decide_eq_true pmAx21_0_
                  have q410 : x85_3 < (t402.length : Int) := of_decide_eq_true pmAx21_0_
                  obtain ⟨ad410, e410, hx410_0⟩ := Kd.at_int (Kd.R_reads' HO_9.out).2.2 x85_3 p410 q410
                  cases e410
                  replace p410 := eq_true p410
                  replace q410 := eq_true q410
                  have p411 : 0 ≤ (x85_3 : Int) := of_decide_eq_true pmAx21_0_
                  have q411 : x85_3 < (l1.length : Int) := of_decide_eq_true pmAx21_0_
                  obtain ⟨ad411, e411, hx411_0⟩ := Kd.at_int HR1.out x85_3 p411 q411
                  cases e411
                  replace hx411_0 := (HB.out.cell (World.block_lt_of_cell? w _ hx411_0)).trans hx411_0
                  replace p411 := eq_true p411
                  replace q411 := eq_true q411
                  have p412 : 0 ≤ (x85_3 : Int) := of_decide_eq_true pmAx21_0_
                  have q412 : x85_3 < (l0_2.length : Int) := of_decide_eq_true pmAx21_0_
                  obtain ⟨ad412, e412, hx412_0⟩ := Kd.at_bool HR0_2.out x85_3 p412 q412
                  (try rw [← Nbq43.out] at hx412_0)
                  cases e412
                  replace hx412_0 := (HB.out.cell (World.block_lt_of_cell? w _ hx412_0)).trans hx412_0
                  replace p412 := eq_true p412
                  replace q412 := eq_true q412
                  as_aux_lemma =>
                    go_wp2
                    go_roundg k3
                    case measure => have := HJ4.out; have := HJ14.out; have := HK3.out; omega
                    case rel => exact ⟨(ji47), (ji48), (wrap64 ((rd t402 x85_3) - (wrap64 (x17_3 + (rd l0_3 x85_3))))), (true), (wrap64 ((wrap64 (x17_3 + (rd l0_3 x85_3))) + (rd l1 x85_3))), (wrap64 (x85_3 + 1)), pmAx21_7_, pmAx21_8_, pmAx21_2_, pmAx21_2_, pmAx21_2_, pmAx21_2_, H', ⟨pmAx21_5_⟩, ⟨pmAx21_4_⟩, ⟨pmAx21_3_⟩, ⟨pmAx21_1_⟩⟩
                rw [if_pos c60] at H
                have c60b0 : decide (7 ≤ a3) = true := decide_eq_true c60
                clear c60
                by_cases c61 : (wrap64 ((rd t402 x85_3) - (wrap64 (x17_3 + (rd l0_3 x85_3))))) = 0
                rotate_left
                · rw [if_neg c61] at H
                  have c61b0 : ((wrap64 ((rd t402 x85_3) - (wrap64 (x17_3 + (rd l0_3 x85_3))))) == 0) = false := beq_eq_false_iff_ne.mpr c61
                  have c61b1 : ((wrap64 ((rd t402 x85_3) - (wrap64 (x17_3 + (rd l0_3 x85_3))))) != 0) = true := bne_iff_ne.mpr c61
                  obtain rfl := Option.some.inj H
                  have hcz63_0 : wr.cell? ⟨gb400, 0, none⟩ = some (.int .i64 a0_0) := (blk_cell BK400.out 0).trans rfl
                  have hcz63_1 : wr.cell? ⟨gb400, 1, none⟩ = some (.slice A0_1 l0_1.length c0_1) := (blk_cell BK400.out 1).trans rfl
                  have hcz63_2 : wr.cell? ⟨gb400, 2, none⟩ = some (.slice A0_2 l0_2.length c0_2) := (blk_cell BK400.out 2).trans rfl
                  have hcz63_3 : wr.cell? ⟨gb400, 3, none⟩ = some (.slice A0_3 l0_3.length c0_3) := (blk_cell BK400.out 3).trans rfl
                  have hfz63_0 := blk_frozen BK400.out 0
                  have hfz63_1 := blk_frozen BK400.out 1
                  have hfz63_2 := blk_frozen BK400.out 2
                  have hfz63_3 := blk_frozen BK400.out 3
                  have p409 : 0 ≤ (x85_3 : Int) := of_decide_eq_true pmAx21_0_
                  have q409 : x85_3 < (l0_3.length : Int) := of_decide_eq_true pmAx21_0_
                  obtain ⟨ad409, e409, hx409_0⟩ := Kd.at_int HR0_3.out x85_3 p409 q409
                  cases e409
                  replace hx409_0 := (HB.out.cell (World.block_lt_of_cell? w _ hx409_0)).trans hx409_0
                  replace p409 := eq_true p409
                  replace q409 := eq_true q409
                  have p410 : 0 ≤ (x85_3 : Int) := of_decide_eq_true pmAx21_0_
                  have q410 : x85_3 < (t402.length : Int) := of_decide_eq_true pmAx21_0_
                  obtain ⟨ad410, e410, hx410_0⟩ := Kd.at_int (Kd.R_reads' HO_9.out).2.2 x85_3 p410 q410
                  cases e410
                  replace p410 := eq_true p410
                  replace q410 := eq_true q410
                  have p411 : 0 ≤ (x85_3 : Int) := of_decide_eq_true pmAx21_0_
                  have q411 : x85_3 < (l1.length : Int) := of_decide_eq_true pmAx21_0_
                  obtain ⟨ad411, e411, hx411_0⟩ := Kd.at_int HR1.out x85_3 p411 q411
                  cases e411
                  replace hx411_0 := (HB.out.cell (World.block_lt_of_cell? w _ hx411_0)).trans hx411_0
                  replace p411 := eq_true p411
                  replace q411 := eq_true q411
                  have p412 : 0 ≤ (x85_3 : Int) := of_decide_eq_true pmAx21_0_
                  have q412 : x85_3 < (l0_2.length : Int) := of_decide_eq_true pmAx21_0_
                  obtain ⟨ad412, e412, hx412_0⟩ := Kd.at_bool HR0_2.out x85_3 p412 q412
                  (try rw [← Nbq43.out] at hx412_0)
                  cases e412
                  replace hx412_0 := (HB.out.cell (World.block_lt_of_cell? w _ hx412_0)).trans hx412_0
                  replace p412 := eq_true p412
                  replace q412 := eq_true q412
                  as_aux_lemma =>
                    go_wp2
                    go_ret
                    exact ⟨by first | rfl | (simp [errW_none, errW_some] <;> rfl) | (simp only [← hji47, ← hji48]; first | rfl | (simp [errW_none, errW_some] <;> rfl)) | (simp [*, errW_none, errW_some] <;> rfl), by repeat (first | (with_reducible first | exact HB.out | apply below_alloc | apply pw_below_drewN | apply below_drew1 | refine below_set ?_ GE400.out) | exact HB.out)⟩
                rw [if_pos c61] at H
                have c61b0 : ((wrap64 ((rd t402 x85_3) - (wrap64 (x17_3 + (rd l0_3 x85_3))))) == 0) = true := beq_iff_eq.mpr c61
                have c61b1 : ((wrap64 ((rd t402 x85_3) - (wrap64 (x17_3 + (rd l0_3 x85_3))))) != 0) = false := bne_eq_false_iff_eq.mpr c61
                clear c61
                have H' := Aside0.mk H
                clear H
                have hcz62_0 : wr.cell? ⟨gb400, 0, none⟩ = some (.int .i64 a0_0) := (blk_cell BK400.out 0).trans rfl
                have hcz62_1 : wr.cell? ⟨gb400, 1, none⟩ = some (.slice A0_1 l0_1.length c0_1) := (blk_cell BK400.out 1).trans rfl
                have hcz62_2 : wr.cell? ⟨gb400, 2, none⟩ = some (.slice A0_2 l0_2.length c0_2) := (blk_cell BK400.out 2).trans rfl
                have hcz62_3 : wr.cell? ⟨gb400, 3, none⟩ = some (.slice A0_3 l0_3.length c0_3) := (blk_cell BK400.out 3).trans rfl
                have hfz62_0 := blk_frozen BK400.out 0
                have hfz62_1 := blk_frozen BK400.out 1
                have hfz62_2 := blk_frozen BK400.out 2
                have hfz62_3 := blk_frozen BK400.out 3
                have p409 : 0 ≤ (x85_3 : Int) := of_decide_eq_true pmAx21_0_
                have q409 : x85_3 < (l0_3.length : Int) := of_decide_eq_true pmAx21_0_
                obtain ⟨ad409, e409, hx409_0⟩ := Kd.at_int HR0_3.out x85_3 p409 q409
                cases e409
                replace hx409_0 := (HB.out.cell (World.block_lt_of_cell? w _ hx409_0)).trans hx409_0
                replace p409 := eq_true p409
                replace q409 := eq_true q409
                have p410 : 0 ≤ (x85_3 : Int) := of_decide_eq_true pmAx21_0_
                have q410 : x85_3 < (t402.length : Int) := of_decide_eq_true pmAx21_0_
                obtain ⟨ad410, e410, hx410_0⟩ := Kd.at_int (Kd.R_reads' HO_9.out).2.2 x85_3 p410 q410
                cases e410
                replace p410 := eq_true p410
                replace q410 := eq_true q410
                have p411 : 0 ≤ (x85_3 : Int) := of_decide_eq_true pmAx21_0_
                have q411 : x85_3 < (l1.length : Int) := of_decide_eq_true pmAx21_0_
                obtain ⟨ad411, e411, hx411_0⟩ := Kd.at_int HR1.out x85_3 p411 q411
                cases e411
                replace hx411_0 := (HB.out.cell (World.block_lt_of_cell? w _ hx411_0)).trans hx411_0
                replace p411 := eq_true p411
                replace q411 := eq_true q411
                have p412 : 0 ≤ (x85_3 : Int) := of_decide_eq_true pmAx21_0_
                have q412 : x85_3 < (l0_2.length : Int) := of_decide_eq_true pmAx21_0_
                obtain ⟨ad412, e412, hx412_0⟩ := Kd.at_bool HR0_2.out x85_3 p412 q412
                (try rw [← Nbq43.out] at hx412_0)
                cases e412
                replace hx412_0 := (HB.out.cell (World.block_lt_of_cell? w _ hx412_0)).trans hx412_0
                replace p412 := eq_true p412
                replace q412 := eq_true q412
                go_wp2
                go_roundg k3
                case measure => have := HJ4.out; have := HJ14.out; have := HK3.out; omega
                case rel => exact ⟨(ji47), (ji48), (wrap64 ((rd t402 x85_3) - (wrap64 (x17_3 + (rd l0_3 x85_3))))), (true), (wrap64 ((wrap64 (x17_3 + (rd l0_3 x85_3))) + (rd l1 x85_3))), (wrap64 (x85_3 + 1)), pmAx21_7_, pmAx21_8_, pmAx21_2_, pmAx21_2_, pmAx21_2_, pmAx21_2_, H', ⟨pmAx21_5_⟩, ⟨pmAx21_4_⟩, ⟨pmAx21_3_⟩, ⟨pmAx21_1_⟩⟩
              rw [if_pos c49] at H
              have c49b0 : decide (a3 < 7) = true := decide_eq_true c49
              clear c49
              by_cases c50 : (wrap64 ((rd t402 x85_3) - (wrap64 (x17_3 + (rd l0_3 x85_3))))) = x15_3
              rotate_left
              · rw [if_neg c50] at H
                have c50b0 : ((wrap64 ((rd t402 x85_3) - (wrap64 (x17_3 + (rd l0_3 x85_3))))) == x15_3) = false := beq_eq_false_iff_ne.mpr c50
                have c50b1 : ((wrap64 ((rd t402 x85_3) - (wrap64 (x17_3 + (rd l0_3 x85_3))))) != x15_3) = true := bne_iff_ne.mpr c50
                obtain rfl := Option.some.inj H
                have hcz58_0 : wr.cell? ⟨gb400, 0, none⟩ = some (.int .i64 a0_0) := (blk_cell BK400.out 0).trans rfl
                have hcz58_1 : wr.cell? ⟨gb400, 1, none⟩ = some (.slice A0_1 l0_1.length c0_1) := (blk_cell BK400.out 1).trans rfl
                have hcz58_2 : wr.cell? ⟨gb400, 2, none⟩ = some (.slice A0_2 l0_2.length c0_2) := (blk_cell BK400.out 2).trans rfl
                have hcz58_3 : wr.cell? ⟨gb400, 3, none⟩ = some (.slice A0_3 l0_3.length c0_3) := (blk_cell BK400.out 3).trans rfl
                have hfz58_0 := blk_frozen BK400.out 0
                have hfz58_1 := blk_frozen BK400.out 1
                have hfz58_2 := blk_frozen BK400.out 2
                have hfz58_3 := blk_frozen BK400.out 3
                have p409 : 0 ≤ (x85_3 : Int) := of_decide_eq_true pmAx21_0_
                have q409 : x85_3 < (l0_3.length : Int) := of_decide_eq_true pmAx21_0_
                obtain ⟨ad409, e409, hx409_0⟩ := Kd.at_int HR0_3.out x85_3 p409 q409
                cases e409
                replace hx409_0 := (HB.out.cell (World.block_lt_of_cell? w _ hx409_0)).trans hx409_0
                replace p409 := eq_true p409
                replace q409 := eq_true q409
                have p410 : 0 ≤ (x85_3 : Int) := of_decide_eq_true pmAx21_0_
                have q410 : x85_3 < (t402.length : Int) := of_decide_eq_true pmAx21_0_
                obtain ⟨ad410, e410, hx410_0⟩ := Kd.at_int (Kd.R_reads' HO_9.out).2.2 x85_3 p410 q410
                cases e410
                replace p410 := eq_true p410
                replace q410 := eq_true q410
                have p411 : 0 ≤ (x85_3 : Int) := of_decide_eq_true pmAx21_0_
                have q411 : x85_3 < (l1.length : Int) := of_decide_eq_true pmAx21_0_
                obtain ⟨ad411, e411, hx411_0⟩ := Kd.at_int HR1.out x85_3 p411 q411
                cases e411
                replace hx411_0 := (HB.out.cell (World.block_lt_of_cell? w _ hx411_0)).trans hx411_0
                replace p411 := eq_true p411
                replace q411 := eq_true q411
                have p412 : 0 ≤ (x85_3 : Int) := of_decide_eq_true pmAx21_0_
                have q412 : x85_3 < (l0_2.length : Int) := of_decide_eq_true pmAx21_0_
                obtain ⟨ad412, e412, hx412_0⟩ := Kd.at_bool HR0_2.out x85_3 p412 q412
                (try rw [← Nbq43.out] at hx412_0)
                cases e412
                replace hx412_0 := (HB.out.cell (World.block_lt_of_cell? w _ hx412_0)).trans hx412_0
                replace p412 := eq_true p412
                replace q412 := eq_true q412
                as_aux_lemma =>
                  go_wp2
                  go_ret
                  exact ⟨by first | rfl | (simp [errW_none, errW_some] <;> rfl) | (simp only [← hji47, ← hji48]; first | rfl | (simp [errW_none, errW_some] <;> rfl)) | (simp [*, errW_none, errW_some] <;> rfl), by repeat (first | (with_reducible first | exact HB.out | apply below_alloc | apply pw_below_drewN | apply below_drew1 | refine below_set ?_ GE400.out) | exact HB.out)⟩
              rw [if_pos c50] at H
              have c50b0 : ((wrap64 ((rd t402 x85_3) - (wrap64 (x17_3 + (rd l0_3 x85_3))))) == x15_3) = true := beq_iff_eq.mpr c50
              have c50b1 : ((wrap64 ((rd t402 x85_3) - (wrap64 (x17_3 + (rd l0_3 x85_3))))) != x15_3) = false := bne_eq_false_iff_eq.mpr c50
              clear c50
              by_cases c51 : a2 ≤ t406
              rotate_left
              · rw [if_neg c51] at H
                have c51b0 : decide (a2 ≤ t406) = false := decide_eq_false c51
                clear c51
                have H' := Aside0.mk H
                clear H
                have hcz57_0 : wr.cell? ⟨gb400, 0, none⟩ = some (.int .i64 a0_0) := (blk_cell BK400.out 0).trans rfl
                have hcz57_1 : wr.cell? ⟨gb400, 1, none⟩ = some (.slice A0_1 l0_1.length c0_1) := (blk_cell BK400.out 1).trans rfl
                have hcz57_2 : wr.cell? ⟨gb400, 2, none⟩ = some (.slice A0_2 l0_2.length c0_2) := (blk_cell BK400.out 2).trans rfl
                have hcz57_3 : wr.cell? ⟨gb400, 3, none⟩ = some (.slice A0_3 l0_3.length c0_3) := (blk_cell BK400.out 3).trans rfl
                have hfz57_0 := blk_frozen BK400.out 0
                have hfz57_1 := blk_frozen BK400.out 1
                have hfz57_2 := blk_frozen BK400.out 2
                have hfz57_3 := blk_frozen BK400.out 3
                have p409 : 0 ≤ (x85_3 : Int) := of_decide_eq_true pmAx21_0_
                have q409 : x85_3 < (l0_3.length : Int) := of_decide_eq_true pmAx21_0_
                obtain ⟨ad409, e409, hx409_0⟩ := Kd.at_int HR0_3.out x85_3 p409 q409
                cases e409
                replace hx409_0 := (HB.out.cell (World.block_lt_of_cell? w _ hx409_0)).trans hx409_0
                replace p409 := eq_true p409
                replace q409 := eq_true q409
                have p410 : 0 ≤ (x85_3 : Int) := of_decide_eq_true pmAx21_0_
                have q410 : x85_3 < (t402.length : Int) := of_decide_eq_true pmAx21_0_
                obtain ⟨ad410, e410, hx410_0⟩ := Kd.at_int (Kd.R_reads' HO_9.out).2.2 x85_3 p410 q410
                cases e410
                replace p410 := eq_true p410
                replace q410 := eq_true q410
                have p411 : 0 ≤ (x85_3 : Int) := of_decide_eq_true pmAx21_0_
                have q411 : x85_3 < (l1.length : Int) := of_decide_eq_true pmAx21_0_
                obtain ⟨ad411, e411, hx411_0⟩ := Kd.at_int HR1.out x85_3 p411 q411
                cases e411
                replace hx411_0 := (HB.out.cell (World.block_lt_of_cell? w _ hx411_0)).trans hx411_0
                replace p411 := eq_true p411
                replace q411 := eq_true q411
                have p412 : 0 ≤ (x85_3 : Int) := of_decide_eq_true pmAx21_0_
                have q412 : x85_3 < (l0_2.length : Int) := of_decide_eq_true pmAx21_0_
                obtain ⟨ad412, e412, hx412_0⟩ := Kd.at_bool HR0_2.out x85_3 p412 q412
                (try rw [← Nbq43.out] at hx412_0)
                cases e412
                replace hx412_0 := (HB.out.cell (World.block_lt_of_cell? w _ hx412_0)).trans hx412_0
                replace p412 := eq_true p412
                replace q412 := eq_true q412
                as_aux_lemma =>
                  go_wp2
                  go_roundg k3
                  case measure => have := HJ4.out; have := HJ14.out; have := HK3.out; omega
                  case rel => exact ⟨(ji47), (ji48), (wrap64 ((rd t402 x85_3) - (wrap64 (x17_3 + (rd l0_3 x85_3))))), (true), (wrap64 ((wrap64 (x17_3 + (rd l0_3 x85_3))) + (rd l1 x85_3))), (wrap64 (x85_3 + 1)), pmAx21_7_, pmAx21_8_, pmAx21_2_, pmAx21_2_, pmAx21_2_, pmAx21_2_, H', ⟨pmAx21_5_⟩, ⟨pmAx21_4_⟩, ⟨pmAx21_3_⟩, ⟨pmAx21_1_⟩⟩
              rw [if_pos c51] at H
              have c51b0 : decide (a2 ≤ t406) = true := decide_eq_true c51
              clear c51
              by_cases c52 : a3 ≥ 7
              rotate_left
              · rw [if_neg c52] at H
                have c52b0 : decide (7 ≤ a3) = false := decide_eq_false c52
                clear c52
                have H' := Aside0.mk H
                clear H
                have hcz56_0 : wr.cell? ⟨gb400, 0, none⟩ = some (.int .i64 a0_0) := (blk_cell BK400.out 0).trans rfl
                have hcz56_1 : wr.cell? ⟨gb400, 1, none⟩ = some (.slice A0_1 l0_1.length c0_1) := (blk_cell BK400.out 1).trans rfl
                have hcz56_2 : wr.cell? ⟨gb400, 2, none⟩ = some (.slice A0_2 l0_2.length c0_2) := (blk_cell BK400.out 2).trans rfl
                have hcz56_3 : wr.cell? ⟨gb400, 3, none⟩ = some (.slice A0_3 l0_3.length c0_3) := (blk_cell BK400.out 3).trans rfl
                have hfz56_0 := blk_frozen BK400.out 0
                have hfz56_1 := blk_frozen BK400.out 1
                have hfz56_2 := blk_frozen BK400.out 2
                have hfz56_3 := blk_frozen BK400.out 3
                have p409 : 0 ≤ (x85_3 : Int) := of_decide_eq_true pmAx21_0_
                have q409 : x85_3 < (l0_3.length : Int) := of_decide_eq_true pmAx21_0_
                obtain ⟨ad409, e409, hx409_0⟩ := Kd.at_int HR0_3.out x85_3 p409 q409
                cases e409
                replace hx409_0 := (HB.out.cell (World.block_lt_of_cell? w _ hx409_0)).trans hx409_0
                replace p409 := eq_true p409
                replace q409 := eq_true q409
                have p410 : 0 ≤ (x85_3 : Int) := of_decide_eq_true pmAx21_0_
                have q410 : x85_3 < (t402.length : Int) := of_decide_eq_true pmAx21_0_
                obtain ⟨ad410, e410, hx410_0⟩ := Kd.at_int (Kd.R_reads' HO_9.out).2.2 x85_3 p410 q410
                cases e410
                replace p410 := eq_true p410
                replace q410 := eq_true q410
                have p411 : 0 ≤ (x85_3 : Int) := of_decide_eq_true pmAx21_0_
                have q411 : x85_3 < (l1.length : Int) := of_decide_eq_true pmAx21_0_
                obtain ⟨ad411, e411, hx411_0⟩ := Kd.at_int HR1.out x85_3 p411 q411
                cases e411
                replace hx411_0 := (HB.out.cell (World.block_lt_of_cell? w _ hx411_0)).trans hx411_0
                replace p411 := eq_true p411
                replace q411 := eq_true q411
                have p412 : 0 ≤ (x85_3 : Int) := of_decide_eq_true pmAx21_0_
                have q412 : x85_3 < (l0_2.length : Int) := of_decide_eq_true pmAx21_0_
                obtain ⟨ad412, e412, hx412_0⟩ := Kd.at_bool HR0_2.out x85_3 p412 q412
                (try rw [← Nbq43.out] at hx412_0)
                cases e412
                replace hx412_0 := (HB.out.cell (World.block_lt_of_cell? w _ hx412_0)).trans hx412_0
                replace p412 := eq_true p412
                replace q412 := eq_true q412
                as_aux_lemma =>
                  go_wp2
                  go_roundg k3
                  case measure => have := HJ4.out; have := HJ14.out; have := HK3.out; omega
                  case rel => exact ⟨(ji47), (ji48), (wrap64 ((rd t402 x85_3) - (wrap64 (x17_3 + (rd l0_3 x85_3))))), (true), (wrap64 ((wrap64 (x17_3 + (rd l0_3 x85_3))) + (rd l1 x85_3))), (wrap64 (x85_3 + 1)), pmAx21_7_, pmAx21_8_, pmAx21_2_, pmAx21_2_, pmAx21_2_, pmAx21_2_, H', ⟨pmAx21_5_⟩, ⟨pmAx21_4_⟩, ⟨pmAx21_3_⟩, ⟨pmAx21_1_⟩⟩
              rw [if_pos c52] at H
              have c52b0 : decide (7 ≤ a3) = true := decide_eq_true c52
              clear c52
              by_cases c53 : (wrap64 ((rd t402 x85_3) - (wrap64 (x17_3 + (rd l0_3 x85_3))))) = 0
              rotate_left
              · rw [if_neg c53] at H
                have c53b0 : ((wrap64 ((rd t402 x85_3) - (wrap64 (x17_3 + (rd l0_3 x85_3))))) == 0) = false := beq_eq_false_iff_ne.mpr c53
                have c53b1 : ((wrap64 ((rd t402 x85_3) - (wrap64 (x17_3 + (rd l0_3 x85_3))))) != 0) = true := bne_iff_ne.mpr c53
                obtain rfl := Option.some.inj H
                have hcz55_0 : wr.cell? ⟨gb400, 0, none⟩ = some (.int .i64 a0_0) := (blk_cell BK400.out 0).trans rfl
                have hcz55_1 : wr.cell? ⟨gb400, 1, none⟩ = some (.slice A0_1 l0_1.length c0_1) := (blk_cell BK400.out 1).trans rfl
                have hcz55_2 : wr.cell? ⟨gb400, 2, none⟩ = some (.slice A0_2 l0_2.length c0_2) := (blk_cell BK400.out 2).trans rfl
                have hcz55_3 : wr.cell? ⟨gb400, 3, none⟩ = some (.slice A0_3 l0_3.length c0_3) := (blk_cell BK400.out 3).trans rfl
                have hfz55_0 := blk_frozen BK400.out 0
                have hfz55_1 := blk_frozen BK400.out 1
                have hfz55_2 := blk_frozen BK400.out 2
                have hfz55_3 := blk_frozen BK400.out 3
                have p409 : 0 ≤ (x85_3 : Int) := of_decide_eq_true pmAx21_0_
                have q409 : x85_3 < (l0_3.length : Int) := of_decide_eq_true pmAx21_0_
                obtain ⟨ad409, e409, hx409_0⟩ := Kd.at_int HR0_3.out x85_3 p409 q409
                cases e409
                replace hx409_0 := (HB.out.cell (World.block_lt_of_cell? w _ hx409_0)).trans hx409_0
                replace p409 := eq_true p409
                replace q409 := eq_true q409
                have p410 : 0 ≤ (x85_3 : Int) := of_decide_eq_true pmAx21_0_
                have q410 : x85_3 < (t402.length : Int) := of_decide_eq_true pmAx21_0_
                obtain ⟨ad410, e410, hx410_0⟩ := Kd.at_int (Kd.R_reads' HO_9.out).2.2 x85_3 p410 q410
                cases e410
                replace p410 := eq_true p410
                replace q410 := eq_true q410
                have p411 : 0 ≤ (x85_3 : Int) := of_decide_eq_true pmAx21_0_
                have q411 : x85_3 < (l1.length : Int) := of_decide_eq_true pmAx21_0_
                obtain ⟨ad411, e411, hx411_0⟩ := Kd.at_int HR1.out x85_3 p411 q411
                cases e411
                replace hx411_0 := (HB.out.cell (World.block_lt_of_cell? w _ hx411_0)).trans hx411_0
                replace p411 := eq_true p411
                replace q411 := eq_true q411
                have p412 : 0 ≤ (x85_3 : Int) := of_decide_eq_true pmAx21_0_
                have q412 : x85_3 < (l0_2.length : Int) := of_decide_eq_true pmAx21_0_
                obtain ⟨ad412, e412, hx412_0⟩ := Kd.at_bool HR0_2.out x85_3 p412 q412
                (try rw [← Nbq43.out] at hx412_0)
                cases e412
                replace hx412_0 := (HB.out.cell (World.block_lt_of_cell? w _ hx412_0)).trans hx412_0
                replace p412 := eq_true p412
                replace q412 := eq_true q412
                as_aux_lemma =>
                  go_wp2
                  go_ret
                  exact ⟨by first | rfl | (simp [errW_none, errW_some] <;> rfl) | (simp only [← hji47, ← hji48]; first | rfl | (simp [errW_none, errW_some] <;> rfl)) | (simp [*, errW_none, errW_some] <;> rfl), by repeat (first | (with_reducible first | exact HB.out | apply below_alloc | apply pw_below_drewN | apply below_drew1 | refine below_set ?_ GE400.out) | exact HB.out)⟩
              rw [if_pos c53] at H
              have c53b0 : ((wrap64 ((rd t402 x85_3) - (wrap64 (x17_3 + (rd l0_3 x85_3))))) == 0) = true := beq_iff_eq.mpr c53
              have c53b1 : ((wrap64 ((rd t402 x85_3) - (wrap64 (x17_3 + (rd l0_3 x85_3))))) != 0) = false := bne_eq_false_iff_eq.mpr c53
              clear c53
              have H' := Aside0.mk H
              clear H
              have hcz54_0 : wr.cell? ⟨gb400, 0, none⟩ = some (.int .i64 a0_0) := (blk_cell BK400.out 0).trans rfl
              have hcz54_1 : wr.cell? ⟨gb400, 1, none⟩ = some (.slice A0_1 l0_1.length c0_1) := (blk_cell BK400.out 1).trans rfl
              have hcz54_2 : wr.cell? ⟨gb400, 2, none⟩ = some (.slice A0_2 l0_2.length c0_2) := (blk_cell BK400.out 2).trans rfl
              have hcz54_3 : wr.cell? ⟨gb400, 3, none⟩ = some (.slice A0_3 l0_3.length c0_3) := (blk_cell BK400.out 3).trans rfl
              have hfz54_0 := blk_frozen BK400.out 0
              have hfz54_1 := blk_frozen BK400.out 1
              have hfz54_2 := blk_frozen BK400.out 2
              have hfz54_3 := blk_frozen BK400.out 3
              have p409 : 0 ≤ (x85_3 : Int) := of_decide_eq_true pmAx21_0_
              have q409 : x85_3 < (l0_3.length : Int) := of_decide_eq_true pmAx21_0_
              obtain ⟨ad409, e409, hx409_0⟩ := Kd.at_int HR0_3.out x85_3 p409 q409
              cases e409
              replace hx409_0 := (HB.out.cell (World.block_lt_of_cell? w _ hx409_0)).trans hx409_0
              replace p409 := eq_true p409
              replace q409 := eq_true q409
              have p410 : 0 ≤ (x85_3 : Int) := of_decide_eq_true pmAx21_0_
              have q410 : x85_3 < (t402.length : Int) := of_decide_eq_true pmAx21_0_
              obtain ⟨ad410, e410, hx410_0⟩ := Kd.at_int (Kd.R_reads' HO_9.out).2.2 x85_3 p410 q410
              cases e410
              replace p410 := eq_true p410
              replace q410 := eq_true q410
              have p411 : 0 ≤ (x85_3 : Int) := of_decide_eq_true pmAx21_0_
              have q411 : x85_3 < (l1.length : Int) := of_decide_eq_true pmAx21_0_
              obtain ⟨ad411, e411, hx411_0⟩ := Kd.at_int HR1.out x85_3 p411 q411
              cases e411
              replace hx411_0 := (HB.out.cell (World.block_lt_of_cell? w _ hx411_0)).trans hx411_0
              replace p411 := eq_true p411
              replace q411 := eq_true q411
              have p412 : 0 ≤ (x85_3 : Int) := of_decide_eq_true pmAx21_0_
              have q412 : x85_3 < (l0_2.length : Int) := of_decide_eq_true pmAx21_0_
              obtain ⟨ad412, e412, hx412_0⟩ := Kd.at_bool HR0_2.out x85_3 p412 q412
              (try rw [← Nbq43.out] at hx412_0)
              cases e412
              replace hx412_0 := (HB.out.cell (World.block_lt_of_cell? w _ hx412_0)).trans hx412_0
              replace p412 := eq_true p412
              replace q412 := eq_true q412
              go_wp2
              go_roundg k3
              case measure => have := HJ4.out; have := HJ14.out; have := HK3.out; omega
              case rel => exact ⟨(ji47), (ji48), (wrap64 ((rd t402 x85_3) - (wrap64 (x17_3 + (rd l0_3 x85_3))))), (true), (wrap64 ((wrap64 (x17_3 + (rd l0_3 x85_3))) + (rd l1 x85_3))), (wrap64 (x85_3 + 1)), pmAx21_7_, pmAx21_8_, pmAx21_2_, pmAx21_2_, pmAx21_2_, pmAx21_2_, H', ⟨pmAx21_5_⟩, ⟨pmAx21_4_⟩, ⟨pmAx21_3_⟩, ⟨pmAx21_1_⟩⟩
/-- THE ONE PURE STATEMENT of parterrelaw28_ContentEven. -/
def parterrelaw28_ContentEven.Pure : Prop := ∀ (a0_0 : Int) (l0_1 : List (S57)) (l0_2 : List Bool) (l0_3 : List Int) (l1 : List Int) (a2 : Int) (a3 : Int), (Lit.int .i64 a0_0).wf = true → l0_1.length ≤ 9223372036854775807 → (∀ e_ ∈ l0_1, wf57 e_) → l0_2.length ≤ 9223372036854775807 → (∀ e_ ∈ l0_2, True) → l0_3.length ≤ 9223372036854775807 → (∀ e_ ∈ l0_3, (Lit.int .i64 e_).wf = true) → l1.length ≤ 9223372036854775807 → l1.length * 8 ≤ 140737488351232 → (∀ e_ ∈ l1, (Lit.int .i64 e_).wf = true) → (Lit.int .i64 a2).wf = true → (Lit.int .i64 a3).wf = true → ∃ k, parterrelaw28_ContentEven.f k a0_0 l0_1 l0_2 l0_3 l1 a2 a3 = some true

end Go.Proofs.Ytbkohlhonhmhmaa.PA
