-- written by a program of this session (a print of the translation with changes of its own)
import Derived.Test.YtbkohlhonhmhmaaPAx0
import Derived.Test.YtbkohlhonhmhmaaPAx1
import Derived.Test.YtbkohlhonhmhmaaPAx9
import Derived.Test.YtbkohlhonhmhmaaPAx10
import Derived.Test.YtbkohlhonhmhmaaPAx11
namespace Go.Proofs.Ytbkohlhonhmhmaa.PA
open Go.RowKit Go.Proofs.YtbkohlhonhmhmaaW.PrintWords Go.Proofs.YtbkohlhonhmhmaaW.PrintLast Go.Proofs.YtbkohlhonhmhmaaW.PrintMore
abbrev poAx12_0 (a0 : Int) (a1 : Int) (a2 : Int) (a3 : Int) (a4 : Bool) (a5 : Int) (a6 : Int) : Obj := .cells #[.int .i64 a0, .int .i64 a1, .int .i64 a2, .int .i64 a3, .bool a4, .int .i64 a5, .int .i64 a6] 57 (0, 0)
theorem pmAx12_0_ {P : Prop} (h : P := by repeat (first | (with_reducible first | exact HB.out | apply below_alloc | apply pw_below_drewN | apply below_drew1) | exact HB.out)) : P := h
theorem pmAx12_1_ {P : Prop} (h : P := by (try simp only [List.map_toArray, List.map_cons, List.map_nil]); first | done | rfl | (simp only [List.length_drop, List.length_take]; rfl)) : P := h
theorem pmAx12_2_ {P : Prop} (h : P := by repeat (first | (with_reducible first | exact HB.out | apply below_alloc | apply pw_below_drewN | apply below_drew1 | refine below_set ?_ GE224.out) | exact HB.out)) : P := h
theorem pmAx12_3_ {P : Prop} (h : P := by (with_reducible repeat (first | apply Kd.R_alloc | apply Kd.R_drewN | apply Kd.R_drew)); exact HO220.out) : P := h
theorem pmAx12_4_ {P : Prop} (h : P := by (with_reducible repeat (first | apply Kd.R_alloc | apply Kd.R_drewN | apply Kd.R_drew)); exact HO223.out) : P := h
theorem pmAx12_5_ {P : Prop} (h : P := by (with_reducible repeat (first | apply Kd.R_alloc | apply Kd.R_drewN | apply Kd.R_drew)); exact HO227.out) : P := h
theorem pmAx12_6_ {P : Prop} (h : P := by (with_reducible repeat (first | apply Kd.R_alloc | apply Kd.R_drewN | apply Kd.R_drew)); exact HO231.out) : P := h
theorem pmAx12_7_ {P : Prop} (h : P := by rw [hg]; exact (below_size pmAx12_0_)) : P := h
theorem pmAx12_8_ {P : Prop} (h : P := by (with_reducible repeat (first | apply Kd.R_alloc | apply Kd.R_drewN | apply Kd.R_drew)); exact HO214.out) : P := h
theorem pmAx12_9_ {P : Prop} (h : P := by (with_reducible repeat (first | apply Kd.R_alloc | apply Kd.R_drewN | apply Kd.R_drew)); exact HO217.out) : P := h
theorem pmAx12_10_ {P : Prop} (h : P := by (with_reducible repeat (first | refine blk_drewN ?_ _ | refine blk_drew ?_ | refine blk_alloc ?_ _)); exact BK224.out) : P := h
theorem pmAx12_11_ {P : Prop} (h : P := by (with_reducible repeat (first | apply Kd.R_alloc | apply Kd.R_drewN | apply Kd.R_drew)); exact HO235.out) : P := h
theorem pmAx12_12_ {P : Prop} (h : P := by (with_reducible repeat (first | apply Kd.R_alloc | apply Kd.R_drewN | apply Kd.R_drew)); exact (Kd.R_mono (Kd.R_far (p := ⟨gb224, 3, none⟩) (Kd.R_far (p := ⟨gb224, 2, none⟩) (Kd.R_far (p := ⟨gb224, 1, none⟩) (Kd.R_far (p := ⟨gb224, 0, none⟩) (Kd.R_types HO220.out BK224.out (by decide)) (fun _ hk => hk.2) (.int .i64 t211)) (fun _ hk => hk.2) (.slice Ao74 t212.length co74)) (fun _ hk => hk.2) (.slice Ao75 t215.length co75)) (fun _ hk => hk.2) (.slice Ao76 t218.length co76)) (fun _ h_ => h_.1))) : P := h
theorem pmAx12_13_ {P : Prop} (h : P := by (with_reducible repeat (first | apply Kd.R_alloc | apply Kd.R_drewN | apply Kd.R_drew)); exact (Kd.R_mono (Kd.R_far (p := ⟨gb224, 3, none⟩) (Kd.R_far (p := ⟨gb224, 2, none⟩) (Kd.R_far (p := ⟨gb224, 1, none⟩) (Kd.R_far (p := ⟨gb224, 0, none⟩) (Kd.R_types HO223.out BK224.out (by decide)) (fun _ hk => hk.2) (.int .i64 t211)) (fun _ hk => hk.2) (.slice Ao74 t212.length co74)) (fun _ hk => hk.2) (.slice Ao75 t215.length co75)) (fun _ hk => hk.2) (.slice Ao76 t218.length co76)) (fun _ h_ => h_.1))) : P := h
theorem pmAx12_14_ {P : Prop} (h : P := by (with_reducible repeat (first | apply Kd.R_alloc | apply Kd.R_drewN | apply Kd.R_drew)); exact (Kd.R_mono (Kd.R_far (p := ⟨gb224, 3, none⟩) (Kd.R_far (p := ⟨gb224, 2, none⟩) (Kd.R_far (p := ⟨gb224, 1, none⟩) (Kd.R_far (p := ⟨gb224, 0, none⟩) (Kd.R_types HO220.out BK224.out (by decide)) (fun _ hk => hk.2) (.int .i64 t211)) (fun _ hk => hk.2) (.slice Ao58 t212.length co58)) (fun _ hk => hk.2) (.slice Ao59 t215.length co59)) (fun _ hk => hk.2) (.slice Ao60 t218.length co60)) (fun _ h_ => h_.1))) : P := h
theorem pmAx12_15_ {P : Prop} (h : P := by (with_reducible repeat (first | apply Kd.R_alloc | apply Kd.R_drewN | apply Kd.R_drew)); exact (Kd.R_mono (Kd.R_far (p := ⟨gb224, 3, none⟩) (Kd.R_far (p := ⟨gb224, 2, none⟩) (Kd.R_far (p := ⟨gb224, 1, none⟩) (Kd.R_far (p := ⟨gb224, 0, none⟩) (Kd.R_types HO223.out BK224.out (by decide)) (fun _ hk => hk.2) (.int .i64 t211)) (fun _ hk => hk.2) (.slice Ao58 t212.length co58)) (fun _ hk => hk.2) (.slice Ao59 t215.length co59)) (fun _ hk => hk.2) (.slice Ao60 t218.length co60)) (fun _ h_ => h_.1))) : P := h
theorem pmAx12_16_ {P : Prop} (h : P := by (with_reducible repeat (first | apply Kd.R_alloc | apply Kd.R_drewN | apply Kd.R_drew)); exact (Kd.R_mono (Kd.R_far (p := ⟨gb224, 3, none⟩) (Kd.R_far (p := ⟨gb224, 2, none⟩) (Kd.R_far (p := ⟨gb224, 1, none⟩) (Kd.R_far (p := ⟨gb224, 0, none⟩) (Kd.R_types HO220.out BK224.out (by decide)) (fun _ hk => hk.2) (.int .i64 t211)) (fun _ hk => hk.2) (.slice Ao38 t212.length co38)) (fun _ hk => hk.2) (.slice Ao39 t215.length co39)) (fun _ hk => hk.2) (.slice Ao40 t218.length co40)) (fun _ h_ => h_.1))) : P := h
theorem pmAx12_17_ {P : Prop} (h : P := by (with_reducible repeat (first | apply Kd.R_alloc | apply Kd.R_drewN | apply Kd.R_drew)); exact (Kd.R_mono (Kd.R_far (p := ⟨gb224, 3, none⟩) (Kd.R_far (p := ⟨gb224, 2, none⟩) (Kd.R_far (p := ⟨gb224, 1, none⟩) (Kd.R_far (p := ⟨gb224, 0, none⟩) (Kd.R_types HO223.out BK224.out (by decide)) (fun _ hk => hk.2) (.int .i64 t211)) (fun _ hk => hk.2) (.slice Ao38 t212.length co38)) (fun _ hk => hk.2) (.slice Ao39 t215.length co39)) (fun _ hk => hk.2) (.slice Ao40 t218.length co40)) (fun _ h_ => h_.1))) : P := h
theorem pmAx12_18_ {P : Prop} (h : P := by (with_reducible repeat (first | apply Kd.R_alloc | apply Kd.R_drewN | apply Kd.R_drew)); exact (Kd.R_mono (Kd.R_far (p := ⟨gb224, 3, none⟩) (Kd.R_far (p := ⟨gb224, 2, none⟩) (Kd.R_far (p := ⟨gb224, 1, none⟩) (Kd.R_far (p := ⟨gb224, 0, none⟩) (Kd.R_types HO220.out BK224.out (by decide)) (fun _ hk => hk.2) (.int .i64 t211)) (fun _ hk => hk.2) (.slice Ao14 t212.length co14)) (fun _ hk => hk.2) (.slice Ao15 t215.length co15)) (fun _ hk => hk.2) (.slice Ao16 t218.length co16)) (fun _ h_ => h_.1))) : P := h
theorem pmAx12_19_ {P : Prop} (h : P := by (with_reducible repeat (first | apply Kd.R_alloc | apply Kd.R_drewN | apply Kd.R_drew)); exact (Kd.R_mono (Kd.R_far (p := ⟨gb224, 3, none⟩) (Kd.R_far (p := ⟨gb224, 2, none⟩) (Kd.R_far (p := ⟨gb224, 1, none⟩) (Kd.R_far (p := ⟨gb224, 0, none⟩) (Kd.R_types HO223.out BK224.out (by decide)) (fun _ hk => hk.2) (.int .i64 t211)) (fun _ hk => hk.2) (.slice Ao14 t212.length co14)) (fun _ hk => hk.2) (.slice Ao15 t215.length co15)) (fun _ hk => hk.2) (.slice Ao16 t218.length co16)) (fun _ h_ => h_.1))) : P := h
theorem pmAx12_20_ {P : Prop} (h : P := by repeat (first | (with_reducible first | exact HB.out | apply below_alloc | apply pw_below_drewN | apply below_drew1 | refine below_set ?_ GE260.out) | exact HB.out)) : P := h
theorem pmAx12_21_ {P : Prop} (h : P := by (with_reducible repeat (first | refine blk_drewN ?_ _ | refine blk_drew ?_ | refine blk_alloc ?_ _)); exact BK260.out) : P := h
theorem pmAx12_22_ {P : Prop} (h : P := by kernel_rfl) : P := h
theorem pmAx12_23_ {P : Prop} (h : P := by (with_reducible repeat (first | apply Kd.R_alloc | apply Kd.R_drewN | apply Kd.R_drew)); exact HO239.out) : P := h
theorem pmAx12_24_ {P : Prop} (h : P := by (with_reducible repeat (first | apply Kd.R_alloc | apply Kd.R_drewN | apply Kd.R_drew)); exact (Kd.R_mono (Kd.R_far (p := ⟨gb224, 3, none⟩) (Kd.R_far (p := ⟨gb224, 2, none⟩) (Kd.R_far (p := ⟨gb224, 1, none⟩) (Kd.R_far (p := ⟨gb224, 0, none⟩) (Kd.R_types HO214.out BK224.out (by decide)) (fun _ hk => hk.2) (.int .i64 t211)) (fun _ hk => hk.2) (.slice Ao74 t212.length co74)) (fun _ hk => hk.2) (.slice Ao75 t215.length co75)) (fun _ hk => hk.2) (.slice Ao76 t218.length co76)) (fun _ h_ => h_.1))) : P := h
theorem pmAx12_25_ {P : Prop} (h : P := by (with_reducible repeat (first | apply Kd.R_alloc | apply Kd.R_drewN | apply Kd.R_drew)); exact (Kd.R_mono (Kd.R_far (p := ⟨gb224, 3, none⟩) (Kd.R_far (p := ⟨gb224, 2, none⟩) (Kd.R_far (p := ⟨gb224, 1, none⟩) (Kd.R_far (p := ⟨gb224, 0, none⟩) (Kd.R_types HO217.out BK224.out (by decide)) (fun _ hk => hk.2) (.int .i64 t211)) (fun _ hk => hk.2) (.slice Ao74 t212.length co74)) (fun _ hk => hk.2) (.slice Ao75 t215.length co75)) (fun _ hk => hk.2) (.slice Ao76 t218.length co76)) (fun _ h_ => h_.1))) : P := h
theorem pmAx12_26_ {P : Prop} (h : P := by (with_reducible repeat (first | apply Kd.R_alloc | apply Kd.R_drewN | apply Kd.R_drew)); exact (Kd.R_mono (Kd.R_far (p := ⟨gb224, 3, none⟩) (Kd.R_far (p := ⟨gb224, 2, none⟩) (Kd.R_far (p := ⟨gb224, 1, none⟩) (Kd.R_far (p := ⟨gb224, 0, none⟩) (Kd.R_types HO214.out BK224.out (by decide)) (fun _ hk => hk.2) (.int .i64 t211)) (fun _ hk => hk.2) (.slice Ao58 t212.length co58)) (fun _ hk => hk.2) (.slice Ao59 t215.length co59)) (fun _ hk => hk.2) (.slice Ao60 t218.length co60)) (fun _ h_ => h_.1))) : P := h
theorem pmAx12_27_ {P : Prop} (h : P := by (with_reducible repeat (first | apply Kd.R_alloc | apply Kd.R_drewN | apply Kd.R_drew)); exact (Kd.R_mono (Kd.R_far (p := ⟨gb224, 3, none⟩) (Kd.R_far (p := ⟨gb224, 2, none⟩) (Kd.R_far (p := ⟨gb224, 1, none⟩) (Kd.R_far (p := ⟨gb224, 0, none⟩) (Kd.R_types HO217.out BK224.out (by decide)) (fun _ hk => hk.2) (.int .i64 t211)) (fun _ hk => hk.2) (.slice Ao58 t212.length co58)) (fun _ hk => hk.2) (.slice Ao59 t215.length co59)) (fun _ hk => hk.2) (.slice Ao60 t218.length co60)) (fun _ h_ => h_.1))) : P := h
theorem pmAx12_28_ {P : Prop} (h : P := by (with_reducible repeat (first | apply Kd.R_alloc | apply Kd.R_drewN | apply Kd.R_drew)); exact (Kd.R_mono (Kd.R_far (p := ⟨gb224, 3, none⟩) (Kd.R_far (p := ⟨gb224, 2, none⟩) (Kd.R_far (p := ⟨gb224, 1, none⟩) (Kd.R_far (p := ⟨gb224, 0, none⟩) (Kd.R_types HO214.out BK224.out (by decide)) (fun _ hk => hk.2) (.int .i64 t211)) (fun _ hk => hk.2) (.slice Ao38 t212.length co38)) (fun _ hk => hk.2) (.slice Ao39 t215.length co39)) (fun _ hk => hk.2) (.slice Ao40 t218.length co40)) (fun _ h_ => h_.1))) : P := h
theorem pmAx12_29_ {P : Prop} (h : P := by (with_reducible repeat (first | apply Kd.R_alloc | apply Kd.R_drewN | apply Kd.R_drew)); exact (Kd.R_mono (Kd.R_far (p := ⟨gb224, 3, none⟩) (Kd.R_far (p := ⟨gb224, 2, none⟩) (Kd.R_far (p := ⟨gb224, 1, none⟩) (Kd.R_far (p := ⟨gb224, 0, none⟩) (Kd.R_types HO217.out BK224.out (by decide)) (fun _ hk => hk.2) (.int .i64 t211)) (fun _ hk => hk.2) (.slice Ao38 t212.length co38)) (fun _ hk => hk.2) (.slice Ao39 t215.length co39)) (fun _ hk => hk.2) (.slice Ao40 t218.length co40)) (fun _ h_ => h_.1))) : P := h
theorem pmAx12_30_ {P : Prop} (h : P := by (with_reducible repeat (first | apply Kd.R_alloc | apply Kd.R_drewN | apply Kd.R_drew)); exact (Kd.R_mono (Kd.R_far (p := ⟨gb224, 3, none⟩) (Kd.R_far (p := ⟨gb224, 2, none⟩) (Kd.R_far (p := ⟨gb224, 1, none⟩) (Kd.R_far (p := ⟨gb224, 0, none⟩) (Kd.R_types HO214.out BK224.out (by decide)) (fun _ hk => hk.2) (.int .i64 t211)) (fun _ hk => hk.2) (.slice Ao14 t212.length co14)) (fun _ hk => hk.2) (.slice Ao15 t215.length co15)) (fun _ hk => hk.2) (.slice Ao16 t218.length co16)) (fun _ h_ => h_.1))) : P := h
theorem pmAx12_31_ {P : Prop} (h : P := by (with_reducible repeat (first | apply Kd.R_alloc | apply Kd.R_drewN | apply Kd.R_drew)); exact (Kd.R_mono (Kd.R_far (p := ⟨gb224, 3, none⟩) (Kd.R_far (p := ⟨gb224, 2, none⟩) (Kd.R_far (p := ⟨gb224, 1, none⟩) (Kd.R_far (p := ⟨gb224, 0, none⟩) (Kd.R_types HO217.out BK224.out (by decide)) (fun _ hk => hk.2) (.int .i64 t211)) (fun _ hk => hk.2) (.slice Ao14 t212.length co14)) (fun _ hk => hk.2) (.slice Ao15 t215.length co15)) (fun _ hk => hk.2) (.slice Ao16 t218.length co16)) (fun _ h_ => h_.1))) : P := h
attribute [local go_sem] run_index_arr max2_int min2_int max_two min_two max_three min_three max_four min_four   -- for this text's walks alone
set_option linter.unusedVariables false
set_option linter.unusedSimpArgs false

attribute [local go_sem high] eqA55
/-! ### parterrelaw28_lives: function 7 -/
def parterrelaw28_lives.f (k : Nat)  : Option (Bool) := (parterrelaw28_three.f).bind fun bt211 => ((content_Starts.f k bt211.1 bt211.2.1 bt211.2.2.1 bt211.2.2.2.1 bt211.2.2.2.2 60 7).bind fun bt225 => ((content_Starts.f k bt211.1 bt211.2.1 bt211.2.2.1 bt211.2.2.2.1 bt211.2.2.2.2 60 8).bind fun bt229 => ((content_Starts.f k bt211.1 bt211.2.1 bt211.2.2.1 bt211.2.2.2.1 bt211.2.2.2.2 60 9).bind fun bt233 => (if bt233.2 = 0 then ((parterreref01_Ints.f k bt225.1 (([0, 25, 50] : List Int))).bind fun t240 => (if t240 = true then ((parterreref01_Ints.f k bt229.1 (([5, 25, 45] : List Int))).bind fun t244 => (if t244 = true then ((parterreref01_Ints.f k bt233.1 (([7, 25, 42] : List Int))).bind fun t248 => (some t248)) else (some false))) else (some false))) else (some false)))))
theorem parterrelaw28_lives.mono : ∀ k, LeO (parterrelaw28_lives.f k ) (parterrelaw28_lives.f (k + 1) ) := by
  intro  k
  unfold parterrelaw28_lives.f
  repeat' first
      | (with_reducible exact content_Starts.mono _ _ _ _ _ _ _ _)
      | (with_reducible exact parterreref01_Ints.mono _ _ _)
      | (with_reducible exact LeO.refl _)
      | (with_reducible exact LeO.none _)
      | (with_reducible refine LeO.ite ?_ ?_)
      | (with_reducible refine LeO.bind ?_ (fun _ => ?_))
      | exact content_Starts.mono _ _ _ _ _ _ _ _
      | exact parterreref01_Ints.mono _ _ _
      | exact LeO.none _
      | refine LeO.ite ?_ ?_
      | refine LeO.bind ?_ (fun _ => ?_)
set_option maxHeartbeats 8000000 in
set_option maxRecDepth 100000 in
theorem parterrelaw28_lives.calls (k : Nat)  (r : Bool) (w : World) (h : parterrelaw28_lives.f k  = some r) :
    Calls Try.prog 7 #[] w fun e w' => e = .returned (.bool r) ∧ Below w.heap.size w w' := by
  have hu26 := Try.underlying26
  have HB := Aside0.mk (Below.refl w.heap.size w)
  have H : ((parterrelaw28_three.f).bind fun bt211 => ((content_Starts.f k bt211.1 bt211.2.1 bt211.2.2.1 bt211.2.2.2.1 bt211.2.2.2.2 60 7).bind fun bt225 => ((content_Starts.f k bt211.1 bt211.2.1 bt211.2.2.1 bt211.2.2.2.1 bt211.2.2.2.2 60 8).bind fun bt229 => ((content_Starts.f k bt211.1 bt211.2.1 bt211.2.2.1 bt211.2.2.2.1 bt211.2.2.2.2 60 9).bind fun bt233 => (if bt233.2 = 0 then ((parterreref01_Ints.f k bt225.1 (([0, 25, 50] : List Int))).bind fun t240 => (if t240 = true then ((parterreref01_Ints.f k bt229.1 (([5, 25, 45] : List Int))).bind fun t244 => (if t244 = true then ((parterreref01_Ints.f k bt233.1 (([7, 25, 42] : List Int))).bind fun t248 => (some t248)) else (some false))) else (some false))) else (some false)))))) = some r := h
  clear h
  replace H := Option.bind_eq_some_iff.mp H
  obtain ⟨⟨t211, t212, t215, t218, t221⟩, A10, H⟩ := H
  replace H : ((content_Starts.f k t211 t212 t215 t218 t221 60 7).bind fun bt225 => ((content_Starts.f k t211 t212 t215 t218 t221 60 8).bind fun bt229 => ((content_Starts.f k t211 t212 t215 t218 t221 60 9).bind fun bt233 => (if bt233.2 = 0 then ((parterreref01_Ints.f k bt225.1 (([0, 25, 50] : List Int))).bind fun t240 => (if t240 = true then ((parterreref01_Ints.f k bt229.1 (([5, 25, 45] : List Int))).bind fun t244 => (if t244 = true then ((parterreref01_Ints.f k bt233.1 (([7, 25, 42] : List Int))).bind fun t248 => (some t248)) else (some false))) else (some false))) else (some false))))) = some r := H
  have A1 := Aside0.mk A10
  clear A10
  replace H := Option.bind_eq_some_iff.mp H
  obtain ⟨⟨t225, t228⟩, A20, H⟩ := H
  replace H : ((content_Starts.f k t211 t212 t215 t218 t221 60 8).bind fun bt229 => ((content_Starts.f k t211 t212 t215 t218 t221 60 9).bind fun bt233 => (if bt233.2 = 0 then ((parterreref01_Ints.f k t225 (([0, 25, 50] : List Int))).bind fun t240 => (if t240 = true then ((parterreref01_Ints.f k bt229.1 (([5, 25, 45] : List Int))).bind fun t244 => (if t244 = true then ((parterreref01_Ints.f k bt233.1 (([7, 25, 42] : List Int))).bind fun t248 => (some t248)) else (some false))) else (some false))) else (some false)))) = some r := H
  have A2 := Aside0.mk A20
  clear A20
  replace H := Option.bind_eq_some_iff.mp H
  obtain ⟨⟨t229, t232⟩, A30, H⟩ := H
  replace H : ((content_Starts.f k t211 t212 t215 t218 t221 60 9).bind fun bt233 => (if bt233.2 = 0 then ((parterreref01_Ints.f k t225 (([0, 25, 50] : List Int))).bind fun t240 => (if t240 = true then ((parterreref01_Ints.f k t229 (([5, 25, 45] : List Int))).bind fun t244 => (if t244 = true then ((parterreref01_Ints.f k bt233.1 (([7, 25, 42] : List Int))).bind fun t248 => (some t248)) else (some false))) else (some false))) else (some false))) = some r := H
  have A3 := Aside0.mk A30
  clear A30
  replace H := Option.bind_eq_some_iff.mp H
  obtain ⟨⟨t233, t236⟩, A40, H⟩ := H
  replace H : (if t236 = 0 then ((parterreref01_Ints.f k t225 (([0, 25, 50] : List Int))).bind fun t240 => (if t240 = true then ((parterreref01_Ints.f k t229 (([5, 25, 45] : List Int))).bind fun t244 => (if t244 = true then ((parterreref01_Ints.f k t233 (([7, 25, 42] : List Int))).bind fun t248 => (some t248)) else (some false))) else (some false))) else (some false)) = some r := H
  have A4 := Aside0.mk A40
  clear A40
  by_cases c5 : t236 = 0
  rotate_left
  · rw [if_neg c5] at H
    have c5b0 : (t236 == 0) = false := beq_eq_false_iff_ne.mpr c5
    have c5b1 : (t236 != 0) = true := bne_iff_ne.mpr c5
    obtain rfl := Option.some.inj H
    go_enter Try.func7, Try.ntmps7
    go_wp2_with (first | ((with_reducible refine gate_callee (f := 14) rfl ?_); refine goesL_ (some 10) rfl rfl Try.func14 pmAx12_22_ rfl #[] rfl pmAx12_1_ ?_; (with_reducible refine (parterrelaw28_three.calls  t211 t212 t215 t218 t221 _ A1.out).mono ?_); rintro e w71 ⟨v213, v216, v219, v222, rfl, ho0, ho1, ho2, ho3, hb⟩; refine ⟨_, rfl, ?_⟩; have n0_ := Aside0.mk (Kd.R_lower ho0 (below_size pmAx12_0_)); have n1_ := Aside0.mk (Kd.R_lower ho1 (below_size pmAx12_0_)); have n2_ := Aside0.mk (Kd.R_lower ho2 (below_size pmAx12_0_)); have n3_ := Aside0.mk (Kd.R_lower ho3 (below_size pmAx12_0_)); have n4_ := Aside0.mk (below_step pmAx12_0_ hb); clear HB; have HO214 := n0_; have HO217 := n1_; have HO220 := n2_; have HO223 := n3_; have HB := n4_; clear n0_ n1_ n2_ n3_ n4_; (try clear hb); (try clear hb2); (try clear hk); (try clear hi); (try clear ho0); (try clear ho1); (try clear ho2); (try clear ho3)) | ((with_reducible refine gate_dst (N := 1) rfl ?_); (try (refine gate_guard (by rfl) ?_; dsimp only)); refine box_event ?hg (N := 1) ?hd (cs := #[.int .i64 0, .slice none 0 0, .slice none 0 0, .slice none 0 0]) (t := 26) ?hr ?_; (case hd => rfl); (case hg => rfl); (case hr => first | (go_simp; done) | (go_simp; rfl)); intro gb224 hg w72 hbox hb; have n0_ := Aside0.mk (Kd.R_below pmAx12_8_ hb); have n1_ := Aside0.mk (Kd.R_below pmAx12_9_ hb); have n2_ := Aside0.mk (Kd.R_below pmAx12_3_ hb); have n3_ := Aside0.mk (Kd.R_below pmAx12_4_ hb); have n4_ := Aside0.mk (below_step pmAx12_0_ hb); have n5_ := Aside0.mk (hbox); have n6_ := Aside0.mk ((pmAx12_7_ : w.heap.size ≤ gb224)); have n7_ := Aside0.mk ((pmAx12_7_ : w.heap.size ≤ gb224)); clear HO214; clear HO217; clear HO220; clear HO223; clear HB; have HO214 := n0_; have HO217 := n1_; have HO220 := n2_; have HO223 := n3_; have HB := n4_; have BK224 := n5_; have GW224 := n6_; have GE224 := n7_; clear n0_ n1_ n2_ n3_ n4_ n5_ n6_ n7_; clear hb hbox hg; have hcz73_0 : w72.cell? ⟨gb224, 0, none⟩ = some (.int .i64 0) := (blk_cell BK224.out 0).trans rfl; have hcz73_1 : w72.cell? ⟨gb224, 1, none⟩ = some (.slice none 0 0) := (blk_cell BK224.out 1).trans rfl; have hcz73_2 : w72.cell? ⟨gb224, 2, none⟩ = some (.slice none 0 0) := (blk_cell BK224.out 2).trans rfl; have hcz73_3 : w72.cell? ⟨gb224, 3, none⟩ = some (.slice none 0 0) := (blk_cell BK224.out 3).trans rfl; have hfz73_0 := blk_frozen BK224.out 0; have hfz73_1 := blk_frozen BK224.out 1; have hfz73_2 := blk_frozen BK224.out 2; have hfz73_3 := blk_frozen BK224.out 3; obtain ⟨Ao74, co74, eo74⟩ := Kd.R_slice HO214.out; subst eo74; obtain ⟨Ao75, co75, eo75⟩ := Kd.R_slice HO217.out; subst eo75; obtain ⟨Ao76, co76, eo76⟩ := Kd.R_slice HO220.out; subst eo76; obtain ⟨Ao77, co77, eo77⟩ := Kd.R_slice HO223.out; subst eo77) | ((with_reducible refine gate_callee (f := 8) rfl ?_); refine goesL_ (some 16) rfl rfl Try.func8 pmAx12_22_ rfl #[.agg #[.int .i64 t211, .slice Ao74 t212.length co74, .slice Ao75 t215.length co75, .slice Ao76 t218.length co76], .slice Ao77 t221.length co77, .int .i64 60, .int .i64 7] rfl pmAx12_1_ ?_; (with_reducible refine (content_Starts.calls k t211 _ _ t212 _ _ t215 _ _ t218 _ _ t221 60 7 t225 t228 _ ?side1 ?side2 ?side3 ?side4 ?side5 ?side6 ?side7 ?side8 A2.out).mono ?_); (case side1 => refine (Kd.R_reads' (e := 57) (base := w.heap.size) (ok := fun k_ => True) (n := t212.length) (c := co74) ?_).2.2; exact pmAx12_24_); (case side2 => exact (Kd.R_reads' HO214.out).2.1); (case side3 => refine (Kd.R_reads' (e := 4) (base := w.heap.size) (ok := fun k_ => True) (n := t215.length) (c := co75) ?_).2.2; exact pmAx12_25_); (case side4 => exact (Kd.R_reads' HO217.out).2.1); (case side5 => refine (Kd.R_reads' (e := 3) (base := w.heap.size) (ok := fun k_ => some k_ ≠ (.slice Ao77 t221.length co77 : Value).ownBlock) (n := t218.length) (c := co76) ?_).2.2; exact pmAx12_12_); (case side6 => exact (Kd.R_reads' HO220.out).2.1); (case side7 => refine (Kd.R_reads' (e := 3) (base := w.heap.size) (ok := fun k_ => some k_ ≠ (.slice Ao76 t218.length co76 : Value).ownBlock) (n := t221.length) (c := co77) ?_).2.2; exact pmAx12_13_); (case side8 => exact (Kd.R_reads' HO223.out).2.1); rintro e w78 ⟨v226, rfl, ho0, hb⟩; refine ⟨_, rfl, ?_⟩; have n0_ := Aside0.mk (Kd.R_below pmAx12_24_ hb); have n1_ := Aside0.mk (Kd.R_below pmAx12_25_ hb); have n2_ := Aside0.mk (Kd.R_elder' pmAx12_12_ (Kd.R_base ho0) hb); have n3_ := Aside0.mk (Kd.R_elder' pmAx12_13_ (Kd.R_base ho0) hb); have n4_ := Aside0.mk (Kd.R_lower (Kd.R_new' (Kd.R_new' ho0 (Kd.R_lt pmAx12_12_)) (Kd.R_lt pmAx12_13_)) (below_size pmAx12_2_)); have n5_ := Aside0.mk (blk_below (g := gb224) (o := .cells #[.int .i64 t211, .slice Ao74 t212.length co74, .slice Ao75 t215.length co75, .slice Ao76 t218.length co76] 26 (0, 0)) (by (with_reducible repeat (first | refine blk_drewN ?_ _ | refine blk_drew ?_ | refine blk_alloc ?_ _)); refine blk_put (cs := #[.int .i64 t211, .slice Ao74 t212.length co74, .slice Ao75 t215.length co75, .slice none 0 0]) ?_ 3 _ rfl; (with_reducible repeat (first | refine blk_drewN ?_ _ | refine blk_drew ?_ | refine blk_alloc ?_ _)); refine blk_put (cs := #[.int .i64 t211, .slice Ao74 t212.length co74, .slice none 0 0, .slice none 0 0]) ?_ 2 _ rfl; (with_reducible repeat (first | refine blk_drewN ?_ _ | refine blk_drew ?_ | refine blk_alloc ?_ _)); refine blk_put (cs := #[.int .i64 t211, .slice none 0 0, .slice none 0 0, .slice none 0 0]) ?_ 1 _ rfl; (with_reducible repeat (first | refine blk_drewN ?_ _ | refine blk_drew ?_ | refine blk_alloc ?_ _)); refine blk_put (cs := #[.int .i64 0, .slice none 0 0, .slice none 0 0, .slice none 0 0]) ?_ 0 _ rfl; (with_reducible repeat (first | refine blk_drewN ?_ _ | refine blk_drew ?_ | refine blk_alloc ?_ _)); exact BK224.out) hb); have n6_ := Aside0.mk (below_step pmAx12_2_ hb); clear HO214; clear HO217; clear HO220; clear HO223; clear BK224; clear HB; have HO214 := n0_; have HO217 := n1_; have HO220 := n2_; have HO223 := n3_; have HO227 := n4_; have BK224 := n5_; have HB := n6_; clear n0_ n1_ n2_ n3_ n4_ n5_ n6_; (try clear hb); (try clear hb2); (try clear hk); (try clear hi); (try clear ho0); have hcz79_0 : w78.cell? ⟨gb224, 0, none⟩ = some (.int .i64 t211) := (blk_cell BK224.out 0).trans rfl; have hcz79_1 : w78.cell? ⟨gb224, 1, none⟩ = some (.slice Ao74 t212.length co74) := (blk_cell BK224.out 1).trans rfl; have hcz79_2 : w78.cell? ⟨gb224, 2, none⟩ = some (.slice Ao75 t215.length co75) := (blk_cell BK224.out 2).trans rfl; have hcz79_3 : w78.cell? ⟨gb224, 3, none⟩ = some (.slice Ao76 t218.length co76) := (blk_cell BK224.out 3).trans rfl; have hfz79_0 := blk_frozen BK224.out 0; have hfz79_1 := blk_frozen BK224.out 1; have hfz79_2 := blk_frozen BK224.out 2; have hfz79_3 := blk_frozen BK224.out 3) | ((with_reducible refine gate_callee (f := 8) rfl ?_); refine goesL_ (some 22) rfl rfl Try.func8 pmAx12_22_ rfl #[.agg #[.int .i64 t211, .slice Ao74 t212.length co74, .slice Ao75 t215.length co75, .slice Ao76 t218.length co76], .slice Ao77 t221.length co77, .int .i64 60, .int .i64 8] rfl pmAx12_1_ ?_; (with_reducible refine (content_Starts.calls k t211 _ _ t212 _ _ t215 _ _ t218 _ _ t221 60 8 t229 t232 _ ?side1 ?side2 ?side3 ?side4 ?side5 ?side6 ?side7 ?side8 A3.out).mono ?_); (case side1 => repeat (first | exact (Kd.R_reads' HO214.out).2.2 | (with_reducible refine Kd.C_alloc ?_ _) | (with_reducible refine Kd.C_drewN ?_ _) | (with_reducible refine Kd.C_drew ?_))); (case side2 => exact (Kd.R_reads' HO214.out).2.1); (case side3 => repeat (first | exact (Kd.R_reads' HO217.out).2.2 | (with_reducible refine Kd.C_alloc ?_ _) | (with_reducible refine Kd.C_drewN ?_ _) | (with_reducible refine Kd.C_drew ?_))); (case side4 => exact (Kd.R_reads' HO217.out).2.1); (case side5 => repeat (first | exact (Kd.R_reads' HO220.out).2.2 | (with_reducible refine Kd.C_alloc ?_ _) | (with_reducible refine Kd.C_drewN ?_ _) | (with_reducible refine Kd.C_drew ?_))); (case side6 => exact (Kd.R_reads' HO220.out).2.1); (case side7 => repeat (first | exact (Kd.R_reads' HO223.out).2.2 | (with_reducible refine Kd.C_alloc ?_ _) | (with_reducible refine Kd.C_drewN ?_ _) | (with_reducible refine Kd.C_drew ?_))); (case side8 => exact (Kd.R_reads' HO223.out).2.1); rintro e w80 ⟨v230, rfl, ho0, hb⟩; refine ⟨_, rfl, ?_⟩; have n0_ := Aside0.mk (Kd.R_below pmAx12_8_ hb); have n1_ := Aside0.mk (Kd.R_below pmAx12_9_ hb); have n2_ := Aside0.mk (Kd.R_elder' pmAx12_3_ (Kd.R_base ho0) hb); have n3_ := Aside0.mk (Kd.R_elder' pmAx12_4_ (Kd.R_base ho0) hb); have n4_ := Aside0.mk (Kd.R_elder' pmAx12_5_ (Kd.R_base ho0) hb); have n5_ := Aside0.mk (Kd.R_lower (Kd.R_new' (Kd.R_new' (Kd.R_new' ho0 (Kd.R_lt pmAx12_3_)) (Kd.R_lt pmAx12_4_)) (Kd.R_lt pmAx12_5_)) (below_size pmAx12_2_)); have n6_ := Aside0.mk (blk_below (g := gb224) (o := .cells #[.int .i64 t211, .slice Ao74 t212.length co74, .slice Ao75 t215.length co75, .slice Ao76 t218.length co76] 26 (0, 0)) pmAx12_10_ hb); have n7_ := Aside0.mk (below_step pmAx12_2_ hb); clear HO214; clear HO217; clear HO220; clear HO223; clear HO227; clear BK224; clear HB; have HO214 := n0_; have HO217 := n1_; have HO220 := n2_; have HO223 := n3_; have HO227 := n4_; have HO231 := n5_; have BK224 := n6_; have HB := n7_; clear n0_ n1_ n2_ n3_ n4_ n5_ n6_ n7_; (try clear hb); (try clear hb2); (try clear hk); (try clear hi); (try clear ho0); have hcz81_0 : w80.cell? ⟨gb224, 0, none⟩ = some (.int .i64 t211) := (blk_cell BK224.out 0).trans rfl; have hcz81_1 : w80.cell? ⟨gb224, 1, none⟩ = some (.slice Ao74 t212.length co74) := (blk_cell BK224.out 1).trans rfl; have hcz81_2 : w80.cell? ⟨gb224, 2, none⟩ = some (.slice Ao75 t215.length co75) := (blk_cell BK224.out 2).trans rfl; have hcz81_3 : w80.cell? ⟨gb224, 3, none⟩ = some (.slice Ao76 t218.length co76) := (blk_cell BK224.out 3).trans rfl; have hfz81_0 := blk_frozen BK224.out 0; have hfz81_1 := blk_frozen BK224.out 1; have hfz81_2 := blk_frozen BK224.out 2; have hfz81_3 := blk_frozen BK224.out 3) | ((with_reducible refine gate_callee (f := 8) rfl ?_); refine goesL_ (some 28) rfl rfl Try.func8 pmAx12_22_ rfl #[.agg #[.int .i64 t211, .slice Ao74 t212.length co74, .slice Ao75 t215.length co75, .slice Ao76 t218.length co76], .slice Ao77 t221.length co77, .int .i64 60, .int .i64 9] rfl pmAx12_1_ ?_; (with_reducible refine (content_Starts.calls k t211 _ _ t212 _ _ t215 _ _ t218 _ _ t221 60 9 t233 t236 _ ?side1 ?side2 ?side3 ?side4 ?side5 ?side6 ?side7 ?side8 A4.out).mono ?_); (case side1 => repeat (first | exact (Kd.R_reads' HO214.out).2.2 | (with_reducible refine Kd.C_alloc ?_ _) | (with_reducible refine Kd.C_drewN ?_ _) | (with_reducible refine Kd.C_drew ?_))); (case side2 => exact (Kd.R_reads' HO214.out).2.1); (case side3 => repeat (first | exact (Kd.R_reads' HO217.out).2.2 | (with_reducible refine Kd.C_alloc ?_ _) | (with_reducible refine Kd.C_drewN ?_ _) | (with_reducible refine Kd.C_drew ?_))); (case side4 => exact (Kd.R_reads' HO217.out).2.1); (case side5 => repeat (first | exact (Kd.R_reads' HO220.out).2.2 | (with_reducible refine Kd.C_alloc ?_ _) | (with_reducible refine Kd.C_drewN ?_ _) | (with_reducible refine Kd.C_drew ?_))); (case side6 => exact (Kd.R_reads' HO220.out).2.1); (case side7 => repeat (first | exact (Kd.R_reads' HO223.out).2.2 | (with_reducible refine Kd.C_alloc ?_ _) | (with_reducible refine Kd.C_drewN ?_ _) | (with_reducible refine Kd.C_drew ?_))); (case side8 => exact (Kd.R_reads' HO223.out).2.1); rintro e w82 ⟨v234, rfl, ho0, hb⟩; refine ⟨_, rfl, ?_⟩; have n0_ := Aside0.mk (Kd.R_below pmAx12_8_ hb); have n1_ := Aside0.mk (Kd.R_below pmAx12_9_ hb); have n2_ := Aside0.mk (Kd.R_elder' pmAx12_3_ (Kd.R_base ho0) hb); have n3_ := Aside0.mk (Kd.R_elder' pmAx12_4_ (Kd.R_base ho0) hb); have n4_ := Aside0.mk (Kd.R_elder' pmAx12_5_ (Kd.R_base ho0) hb); have n5_ := Aside0.mk (Kd.R_elder' pmAx12_6_ (Kd.R_base ho0) hb); have n6_ := Aside0.mk (Kd.R_lower (Kd.R_new' (Kd.R_new' (Kd.R_new' (Kd.R_new' ho0 (Kd.R_lt pmAx12_3_)) (Kd.R_lt pmAx12_4_)) (Kd.R_lt pmAx12_5_)) (Kd.R_lt pmAx12_6_)) (below_size pmAx12_2_)); have n7_ := Aside0.mk (blk_below (g := gb224) (o := .cells #[.int .i64 t211, .slice Ao74 t212.length co74, .slice Ao75 t215.length co75, .slice Ao76 t218.length co76] 26 (0, 0)) pmAx12_10_ hb); have n8_ := Aside0.mk (below_step pmAx12_2_ hb); clear HO214; clear HO217; clear HO220; clear HO223; clear HO227; clear HO231; clear BK224; clear HB; have HO214 := n0_; have HO217 := n1_; have HO220 := n2_; have HO223 := n3_; have HO227 := n4_; have HO231 := n5_; have HO235 := n6_; have BK224 := n7_; have HB := n8_; clear n0_ n1_ n2_ n3_ n4_ n5_ n6_ n7_ n8_; (try clear hb); (try clear hb2); (try clear hk); (try clear hi); (try clear ho0)))
    go_ret
    exact ⟨by first | rfl | (simp [errW_none, errW_some] <;> rfl) | (simp [*, errW_none, errW_some] <;> rfl), by repeat (first | (with_reducible first | exact HB.out | apply below_alloc | apply pw_below_drewN | apply below_drew1 | refine below_set ?_ GE224.out) | exact HB.out)⟩

  rw [if_pos c5] at H
  have c5b0 : (t236 == 0) = true := beq_iff_eq.mpr c5
  have c5b1 : (t236 != 0) = false := bne_eq_false_iff_eq.mpr c5
  clear c5
  obtain ⟨y237, hy237⟩ : ∃ y_ : List Int, y_ = (([0, 25, 50] : List Int)) := ⟨_, rfl⟩
  replace H : ((parterreref01_Ints.f k t225 y237).bind fun t240 => (if t240 = true then ((parterreref01_Ints.f k t229 (([5, 25, 45] : List Int))).bind fun t244 => (if t244 = true then ((parterreref01_Ints.f k t233 (([7, 25, 42] : List Int))).bind fun t248 => (some t248)) else (some false))) else (some false))) = some r := by first | (rw [hy237]; with_reducible exact H) | (have H2_ := (Option.bind_some _ _).symm.trans H; rw [hy237]; with_reducible exact H2_) | (have H2_ := (Option.bind_some _ _).symm.trans H; with_reducible exact H2_) | with_reducible exact H | (rw [hy237]; exact H) | exact H
  have Ny237 := Aside0.mk hy237
  clear hy237
  replace H := Option.bind_eq_some_iff.mp H
  obtain ⟨t240, A60, H⟩ := H
  replace H : (if t240 = true then ((parterreref01_Ints.f k t229 (([5, 25, 45] : List Int))).bind fun t244 => (if t244 = true then ((parterreref01_Ints.f k t233 (([7, 25, 42] : List Int))).bind fun t248 => (some t248)) else (some false))) else (some false)) = some r := H
  have A6 := Aside0.mk A60
  clear A60
  by_cases c7 : t240 = true
  rotate_left
  · replace c7 := Bool.eq_false_iff.mpr c7
    subst c7
    have H1 : (some false) = some r := by rw [if_neg (show ¬ (false = true) by decide)] at H; exact H
    clear H
    have H := H1
    clear H1
    obtain rfl := Option.some.inj H
    go_enter Try.func7, Try.ntmps7
    go_wp2_with (first | ((with_reducible refine gate_callee (f := 14) rfl ?_); refine goesL_ (some 10) rfl rfl Try.func14 pmAx12_22_ rfl #[] rfl pmAx12_1_ ?_; (with_reducible refine (parterrelaw28_three.calls  t211 t212 t215 t218 t221 _ A1.out).mono ?_); rintro e w55 ⟨v213, v216, v219, v222, rfl, ho0, ho1, ho2, ho3, hb⟩; refine ⟨_, rfl, ?_⟩; have n0_ := Aside0.mk (Kd.R_lower ho0 (below_size pmAx12_0_)); have n1_ := Aside0.mk (Kd.R_lower ho1 (below_size pmAx12_0_)); have n2_ := Aside0.mk (Kd.R_lower ho2 (below_size pmAx12_0_)); have n3_ := Aside0.mk (Kd.R_lower ho3 (below_size pmAx12_0_)); have n4_ := Aside0.mk (below_step pmAx12_0_ hb); clear HB; have HO214 := n0_; have HO217 := n1_; have HO220 := n2_; have HO223 := n3_; have HB := n4_; clear n0_ n1_ n2_ n3_ n4_; (try clear hb); (try clear hb2); (try clear hk); (try clear hi); (try clear ho0); (try clear ho1); (try clear ho2); (try clear ho3)) | ((with_reducible refine gate_dst (N := 1) rfl ?_); (try (refine gate_guard (by rfl) ?_; dsimp only)); refine box_event ?hg (N := 1) ?hd (cs := #[.int .i64 0, .slice none 0 0, .slice none 0 0, .slice none 0 0]) (t := 26) ?hr ?_; (case hd => rfl); (case hg => rfl); (case hr => first | (go_simp; done) | (go_simp; rfl)); intro gb224 hg w56 hbox hb; have n0_ := Aside0.mk (Kd.R_below pmAx12_8_ hb); have n1_ := Aside0.mk (Kd.R_below pmAx12_9_ hb); have n2_ := Aside0.mk (Kd.R_below pmAx12_3_ hb); have n3_ := Aside0.mk (Kd.R_below pmAx12_4_ hb); have n4_ := Aside0.mk (below_step pmAx12_0_ hb); have n5_ := Aside0.mk (hbox); have n6_ := Aside0.mk ((pmAx12_7_ : w.heap.size ≤ gb224)); have n7_ := Aside0.mk ((pmAx12_7_ : w.heap.size ≤ gb224)); clear HO214; clear HO217; clear HO220; clear HO223; clear HB; have HO214 := n0_; have HO217 := n1_; have HO220 := n2_; have HO223 := n3_; have HB := n4_; have BK224 := n5_; have GW224 := n6_; have GE224 := n7_; clear n0_ n1_ n2_ n3_ n4_ n5_ n6_ n7_; clear hb hbox hg; have hcz57_0 : w56.cell? ⟨gb224, 0, none⟩ = some (.int .i64 0) := (blk_cell BK224.out 0).trans rfl; have hcz57_1 : w56.cell? ⟨gb224, 1, none⟩ = some (.slice none 0 0) := (blk_cell BK224.out 1).trans rfl; have hcz57_2 : w56.cell? ⟨gb224, 2, none⟩ = some (.slice none 0 0) := (blk_cell BK224.out 2).trans rfl; have hcz57_3 : w56.cell? ⟨gb224, 3, none⟩ = some (.slice none 0 0) := (blk_cell BK224.out 3).trans rfl; have hfz57_0 := blk_frozen BK224.out 0; have hfz57_1 := blk_frozen BK224.out 1; have hfz57_2 := blk_frozen BK224.out 2; have hfz57_3 := blk_frozen BK224.out 3; obtain ⟨Ao58, co58, eo58⟩ := Kd.R_slice HO214.out; subst eo58; obtain ⟨Ao59, co59, eo59⟩ := Kd.R_slice HO217.out; subst eo59; obtain ⟨Ao60, co60, eo60⟩ := Kd.R_slice HO220.out; subst eo60; obtain ⟨Ao61, co61, eo61⟩ := Kd.R_slice HO223.out; subst eo61) | ((with_reducible refine gate_callee (f := 8) rfl ?_); refine goesL_ (some 16) rfl rfl Try.func8 pmAx12_22_ rfl #[.agg #[.int .i64 t211, .slice Ao58 t212.length co58, .slice Ao59 t215.length co59, .slice Ao60 t218.length co60], .slice Ao61 t221.length co61, .int .i64 60, .int .i64 7] rfl pmAx12_1_ ?_; (with_reducible refine (content_Starts.calls k t211 _ _ t212 _ _ t215 _ _ t218 _ _ t221 60 7 t225 t228 _ ?side1 ?side2 ?side3 ?side4 ?side5 ?side6 ?side7 ?side8 A2.out).mono ?_); (case side1 => refine (Kd.R_reads' (e := 57) (base := w.heap.size) (ok := fun k_ => True) (n := t212.length) (c := co58) ?_).2.2; exact pmAx12_26_); (case side2 => exact (Kd.R_reads' HO214.out).2.1); (case side3 => refine (Kd.R_reads' (e := 4) (base := w.heap.size) (ok := fun k_ => True) (n := t215.length) (c := co59) ?_).2.2; exact pmAx12_27_); (case side4 => exact (Kd.R_reads' HO217.out).2.1); (case side5 => refine (Kd.R_reads' (e := 3) (base := w.heap.size) (ok := fun k_ => some k_ ≠ (.slice Ao61 t221.length co61 : Value).ownBlock) (n := t218.length) (c := co60) ?_).2.2; exact pmAx12_14_); (case side6 => exact (Kd.R_reads' HO220.out).2.1); (case side7 => refine (Kd.R_reads' (e := 3) (base := w.heap.size) (ok := fun k_ => some k_ ≠ (.slice Ao60 t218.length co60 : Value).ownBlock) (n := t221.length) (c := co61) ?_).2.2; exact pmAx12_15_); (case side8 => exact (Kd.R_reads' HO223.out).2.1); rintro e w62 ⟨v226, rfl, ho0, hb⟩; refine ⟨_, rfl, ?_⟩; have n0_ := Aside0.mk (Kd.R_below pmAx12_26_ hb); have n1_ := Aside0.mk (Kd.R_below pmAx12_27_ hb); have n2_ := Aside0.mk (Kd.R_elder' pmAx12_14_ (Kd.R_base ho0) hb); have n3_ := Aside0.mk (Kd.R_elder' pmAx12_15_ (Kd.R_base ho0) hb); have n4_ := Aside0.mk (Kd.R_lower (Kd.R_new' (Kd.R_new' ho0 (Kd.R_lt pmAx12_14_)) (Kd.R_lt pmAx12_15_)) (below_size pmAx12_2_)); have n5_ := Aside0.mk (blk_below (g := gb224) (o := .cells #[.int .i64 t211, .slice Ao58 t212.length co58, .slice Ao59 t215.length co59, .slice Ao60 t218.length co60] 26 (0, 0)) (by (with_reducible repeat (first | refine blk_drewN ?_ _ | refine blk_drew ?_ | refine blk_alloc ?_ _)); refine blk_put (cs := #[.int .i64 t211, .slice Ao58 t212.length co58, .slice Ao59 t215.length co59, .slice none 0 0]) ?_ 3 _ rfl; (with_reducible repeat (first | refine blk_drewN ?_ _ | refine blk_drew ?_ | refine blk_alloc ?_ _)); refine blk_put (cs := #[.int .i64 t211, .slice Ao58 t212.length co58, .slice none 0 0, .slice none 0 0]) ?_ 2 _ rfl; (with_reducible repeat (first | refine blk_drewN ?_ _ | refine blk_drew ?_ | refine blk_alloc ?_ _)); refine blk_put (cs := #[.int .i64 t211, .slice none 0 0, .slice none 0 0, .slice none 0 0]) ?_ 1 _ rfl; (with_reducible repeat (first | refine blk_drewN ?_ _ | refine blk_drew ?_ | refine blk_alloc ?_ _)); refine blk_put (cs := #[.int .i64 0, .slice none 0 0, .slice none 0 0, .slice none 0 0]) ?_ 0 _ rfl; (with_reducible repeat (first | refine blk_drewN ?_ _ | refine blk_drew ?_ | refine blk_alloc ?_ _)); exact BK224.out) hb); have n6_ := Aside0.mk (below_step pmAx12_2_ hb); clear HO214; clear HO217; clear HO220; clear HO223; clear BK224; clear HB; have HO214 := n0_; have HO217 := n1_; have HO220 := n2_; have HO223 := n3_; have HO227 := n4_; have BK224 := n5_; have HB := n6_; clear n0_ n1_ n2_ n3_ n4_ n5_ n6_; (try clear hb); (try clear hb2); (try clear hk); (try clear hi); (try clear ho0); have hcz63_0 : w62.cell? ⟨gb224, 0, none⟩ = some (.int .i64 t211) := (blk_cell BK224.out 0).trans rfl; have hcz63_1 : w62.cell? ⟨gb224, 1, none⟩ = some (.slice Ao58 t212.length co58) := (blk_cell BK224.out 1).trans rfl; have hcz63_2 : w62.cell? ⟨gb224, 2, none⟩ = some (.slice Ao59 t215.length co59) := (blk_cell BK224.out 2).trans rfl; have hcz63_3 : w62.cell? ⟨gb224, 3, none⟩ = some (.slice Ao60 t218.length co60) := (blk_cell BK224.out 3).trans rfl; have hfz63_0 := blk_frozen BK224.out 0; have hfz63_1 := blk_frozen BK224.out 1; have hfz63_2 := blk_frozen BK224.out 2; have hfz63_3 := blk_frozen BK224.out 3) | ((with_reducible refine gate_callee (f := 8) rfl ?_); refine goesL_ (some 22) rfl rfl Try.func8 pmAx12_22_ rfl #[.agg #[.int .i64 t211, .slice Ao58 t212.length co58, .slice Ao59 t215.length co59, .slice Ao60 t218.length co60], .slice Ao61 t221.length co61, .int .i64 60, .int .i64 8] rfl pmAx12_1_ ?_; (with_reducible refine (content_Starts.calls k t211 _ _ t212 _ _ t215 _ _ t218 _ _ t221 60 8 t229 t232 _ ?side1 ?side2 ?side3 ?side4 ?side5 ?side6 ?side7 ?side8 A3.out).mono ?_); (case side1 => repeat (first | exact (Kd.R_reads' HO214.out).2.2 | (with_reducible refine Kd.C_alloc ?_ _) | (with_reducible refine Kd.C_drewN ?_ _) | (with_reducible refine Kd.C_drew ?_))); (case side2 => exact (Kd.R_reads' HO214.out).2.1); (case side3 => repeat (first | exact (Kd.R_reads' HO217.out).2.2 | (with_reducible refine Kd.C_alloc ?_ _) | (with_reducible refine Kd.C_drewN ?_ _) | (with_reducible refine Kd.C_drew ?_))); (case side4 => exact (Kd.R_reads' HO217.out).2.1); (case side5 => repeat (first | exact (Kd.R_reads' HO220.out).2.2 | (with_reducible refine Kd.C_alloc ?_ _) | (with_reducible refine Kd.C_drewN ?_ _) | (with_reducible refine Kd.C_drew ?_))); (case side6 => exact (Kd.R_reads' HO220.out).2.1); (case side7 => repeat (first | exact (Kd.R_reads' HO223.out).2.2 | (with_reducible refine Kd.C_alloc ?_ _) | (with_reducible refine Kd.C_drewN ?_ _) | (with_reducible refine Kd.C_drew ?_))); (case side8 => exact (Kd.R_reads' HO223.out).2.1); rintro e w64 ⟨v230, rfl, ho0, hb⟩; refine ⟨_, rfl, ?_⟩; have n0_ := Aside0.mk (Kd.R_below pmAx12_8_ hb); have n1_ := Aside0.mk (Kd.R_below pmAx12_9_ hb); have n2_ := Aside0.mk (Kd.R_elder' pmAx12_3_ (Kd.R_base ho0) hb); have n3_ := Aside0.mk (Kd.R_elder' pmAx12_4_ (Kd.R_base ho0) hb); have n4_ := Aside0.mk (Kd.R_elder' pmAx12_5_ (Kd.R_base ho0) hb); have n5_ := Aside0.mk (Kd.R_lower (Kd.R_new' (Kd.R_new' (Kd.R_new' ho0 (Kd.R_lt pmAx12_3_)) (Kd.R_lt pmAx12_4_)) (Kd.R_lt pmAx12_5_)) (below_size pmAx12_2_)); have n6_ := Aside0.mk (blk_below (g := gb224) (o := .cells #[.int .i64 t211, .slice Ao58 t212.length co58, .slice Ao59 t215.length co59, .slice Ao60 t218.length co60] 26 (0, 0)) pmAx12_10_ hb); have n7_ := Aside0.mk (below_step pmAx12_2_ hb); clear HO214; clear HO217; clear HO220; clear HO223; clear HO227; clear BK224; clear HB; have HO214 := n0_; have HO217 := n1_; have HO220 := n2_; have HO223 := n3_; have HO227 := n4_; have HO231 := n5_; have BK224 := n6_; have HB := n7_; clear n0_ n1_ n2_ n3_ n4_ n5_ n6_ n7_; (try clear hb); (try clear hb2); (try clear hk); (try clear hi); (try clear ho0); have hcz65_0 : w64.cell? ⟨gb224, 0, none⟩ = some (.int .i64 t211) := (blk_cell BK224.out 0).trans rfl; have hcz65_1 : w64.cell? ⟨gb224, 1, none⟩ = some (.slice Ao58 t212.length co58) := (blk_cell BK224.out 1).trans rfl; have hcz65_2 : w64.cell? ⟨gb224, 2, none⟩ = some (.slice Ao59 t215.length co59) := (blk_cell BK224.out 2).trans rfl; have hcz65_3 : w64.cell? ⟨gb224, 3, none⟩ = some (.slice Ao60 t218.length co60) := (blk_cell BK224.out 3).trans rfl; have hfz65_0 := blk_frozen BK224.out 0; have hfz65_1 := blk_frozen BK224.out 1; have hfz65_2 := blk_frozen BK224.out 2; have hfz65_3 := blk_frozen BK224.out 3) | ((with_reducible refine gate_callee (f := 8) rfl ?_); refine goesL_ (some 28) rfl rfl Try.func8 pmAx12_22_ rfl #[.agg #[.int .i64 t211, .slice Ao58 t212.length co58, .slice Ao59 t215.length co59, .slice Ao60 t218.length co60], .slice Ao61 t221.length co61, .int .i64 60, .int .i64 9] rfl pmAx12_1_ ?_; (with_reducible refine (content_Starts.calls k t211 _ _ t212 _ _ t215 _ _ t218 _ _ t221 60 9 t233 t236 _ ?side1 ?side2 ?side3 ?side4 ?side5 ?side6 ?side7 ?side8 A4.out).mono ?_); (case side1 => repeat (first | exact (Kd.R_reads' HO214.out).2.2 | (with_reducible refine Kd.C_alloc ?_ _) | (with_reducible refine Kd.C_drewN ?_ _) | (with_reducible refine Kd.C_drew ?_))); (case side2 => exact (Kd.R_reads' HO214.out).2.1); (case side3 => repeat (first | exact (Kd.R_reads' HO217.out).2.2 | (with_reducible refine Kd.C_alloc ?_ _) | (with_reducible refine Kd.C_drewN ?_ _) | (with_reducible refine Kd.C_drew ?_))); (case side4 => exact (Kd.R_reads' HO217.out).2.1); (case side5 => repeat (first | exact (Kd.R_reads' HO220.out).2.2 | (with_reducible refine Kd.C_alloc ?_ _) | (with_reducible refine Kd.C_drewN ?_ _) | (with_reducible refine Kd.C_drew ?_))); (case side6 => exact (Kd.R_reads' HO220.out).2.1); (case side7 => repeat (first | exact (Kd.R_reads' HO223.out).2.2 | (with_reducible refine Kd.C_alloc ?_ _) | (with_reducible refine Kd.C_drewN ?_ _) | (with_reducible refine Kd.C_drew ?_))); (case side8 => exact (Kd.R_reads' HO223.out).2.1); rintro e w66 ⟨v234, rfl, ho0, hb⟩; refine ⟨_, rfl, ?_⟩; have n0_ := Aside0.mk (Kd.R_below pmAx12_8_ hb); have n1_ := Aside0.mk (Kd.R_below pmAx12_9_ hb); have n2_ := Aside0.mk (Kd.R_elder' pmAx12_3_ (Kd.R_base ho0) hb); have n3_ := Aside0.mk (Kd.R_elder' pmAx12_4_ (Kd.R_base ho0) hb); have n4_ := Aside0.mk (Kd.R_elder' pmAx12_5_ (Kd.R_base ho0) hb); have n5_ := Aside0.mk (Kd.R_elder' pmAx12_6_ (Kd.R_base ho0) hb); have n6_ := Aside0.mk (Kd.R_lower (Kd.R_new' (Kd.R_new' (Kd.R_new' (Kd.R_new' ho0 (Kd.R_lt pmAx12_3_)) (Kd.R_lt pmAx12_4_)) (Kd.R_lt pmAx12_5_)) (Kd.R_lt pmAx12_6_)) (below_size pmAx12_2_)); have n7_ := Aside0.mk (blk_below (g := gb224) (o := .cells #[.int .i64 t211, .slice Ao58 t212.length co58, .slice Ao59 t215.length co59, .slice Ao60 t218.length co60] 26 (0, 0)) pmAx12_10_ hb); have n8_ := Aside0.mk (below_step pmAx12_2_ hb); clear HO214; clear HO217; clear HO220; clear HO223; clear HO227; clear HO231; clear BK224; clear HB; have HO214 := n0_; have HO217 := n1_; have HO220 := n2_; have HO223 := n3_; have HO227 := n4_; have HO231 := n5_; have HO235 := n6_; have BK224 := n7_; have HB := n8_; clear n0_ n1_ n2_ n3_ n4_ n5_ n6_ n7_ n8_; (try clear hb); (try clear hb2); (try clear hk); (try clear hi); (try clear ho0)) | ((with_reducible refine gate_dst (N := 35) rfl ?_); (try (refine gate_guard (by rfl) ?_; dsimp only)); refine Kd.R_lit (Kd.int .i64) _ 3 ?hg (N := 35) ?hd (xs := ([0, 25, 50] : List Int)) (inner := [.int .i64 0, .int .i64 25, .int .i64 50]) (ok := fun _ => True) (okp := fun _ => True) ?hr ?hp (fun _ hk => hk) trivial (Below.refl _ _) (Nat.le_refl _) (by simp) ?_; (case hd => rfl); (case hg => rfl); (case hr => first | (go_simp; done) | (go_simp; rfl)); (case hp => exact (Reps.one (show Kd.M (Kd.int .i64) _ _ _ 0 [.int .i64 0] from rfl) (Reps.one (show Kd.M (Kd.int .i64) _ _ _ 25 [.int .i64 25] from rfl) (Reps.one (show Kd.M (Kd.int .i64) _ _ _ 50 [.int .i64 50] from rfl) (Reps.none _ _))))); intro v238 w67 ho68 hb hg_ hnew_; clear hg_ hnew_; (first | rw [← Ny237.out] at ho68 | (simp only [Int.reduceToNat] at ho68; rw [← Ny237.out] at ho68)); have n0_ := Aside0.mk (Kd.R_below pmAx12_8_ hb); have n1_ := Aside0.mk (Kd.R_below pmAx12_9_ hb); have n2_ := Aside0.mk (Kd.R_elder' pmAx12_3_ (Kd.R_base ho68) hb); have n3_ := Aside0.mk (Kd.R_elder' pmAx12_4_ (Kd.R_base ho68) hb); have n4_ := Aside0.mk (Kd.R_elder' pmAx12_5_ (Kd.R_base ho68) hb); have n5_ := Aside0.mk (Kd.R_elder' pmAx12_6_ (Kd.R_base ho68) hb); have n6_ := Aside0.mk (Kd.R_elder' pmAx12_11_ (Kd.R_base ho68) hb); have n7_ := Aside0.mk (Kd.R_lower (Kd.R_new' (Kd.R_new' (Kd.R_new' (Kd.R_new' (Kd.R_new' ho68 (Kd.R_lt pmAx12_3_)) (Kd.R_lt pmAx12_4_)) (Kd.R_lt pmAx12_5_)) (Kd.R_lt pmAx12_6_)) (Kd.R_lt pmAx12_11_)) (below_size pmAx12_2_)); have n8_ := Aside0.mk (blk_below (g := gb224) (o := .cells #[.int .i64 t211, .slice Ao58 t212.length co58, .slice Ao59 t215.length co59, .slice Ao60 t218.length co60] 26 (0, 0)) pmAx12_10_ hb); have n9_ := Aside0.mk (below_step pmAx12_2_ hb); clear HO214; clear HO217; clear HO220; clear HO223; clear HO227; clear HO231; clear HO235; clear BK224; clear HB; have HO214 := n0_; have HO217 := n1_; have HO220 := n2_; have HO223 := n3_; have HO227 := n4_; have HO231 := n5_; have HO235 := n6_; have HO239 := n7_; have BK224 := n8_; have HB := n9_; clear n0_ n1_ n2_ n3_ n4_ n5_ n6_ n7_ n8_ n9_; clear hb ho68; obtain ⟨Ao69, co69, eo69⟩ := Kd.R_slice HO227.out; subst eo69; obtain ⟨Ao70, co70, eo70⟩ := Kd.R_slice HO239.out; subst eo70) | (go_at_call 10; (with_reducible refine (parterreref01_Ints.calls k _ _ t225 _ _ y237 false _ ?side1 ?side2 ?side3 ?side4 A6.out).mono ?_); (case side1 => repeat (first | exact (Kd.R_reads' HO227.out).2.2 | (with_reducible refine Kd.C_alloc ?_ _) | (with_reducible refine Kd.C_drewN ?_ _) | (with_reducible refine Kd.C_drew ?_))); (case side2 => exact (Kd.R_reads' HO227.out).2.1); (case side3 => repeat (first | exact (Kd.R_reads' HO239.out).2.2 | (with_reducible refine Kd.C_alloc ?_ _) | (with_reducible refine Kd.C_drewN ?_ _) | (with_reducible refine Kd.C_drew ?_))); (case side4 => exact (Kd.R_reads' HO239.out).2.1); rintro e w' ⟨rfl, ⟨nd, rfl⟩⟩))
    go_ret
    exact ⟨by first | rfl | (simp [errW_none, errW_some] <;> rfl) | (simp [*, errW_none, errW_some] <;> rfl), by repeat (first | (with_reducible first | exact HB.out | apply below_alloc | apply pw_below_drewN | apply below_drew1 | refine below_set ?_ GE224.out) | exact HB.out)⟩
  subst c7
  have H1 : ((parterreref01_Ints.f k t229 (([5, 25, 45] : List Int))).bind fun t244 => (if t244 = true then ((parterreref01_Ints.f k t233 (([7, 25, 42] : List Int))).bind fun t248 => (some t248)) else (some false))) = some r := by rw [if_pos rfl] at H; exact H
  clear H
  have H := H1
  clear H1
  obtain ⟨y241, hy241⟩ : ∃ y_ : List Int, y_ = (([5, 25, 45] : List Int)) := ⟨_, rfl⟩
  replace H : ((parterreref01_Ints.f k t229 y241).bind fun t244 => (if t244 = true then ((parterreref01_Ints.f k t233 (([7, 25, 42] : List Int))).bind fun t248 => (some t248)) else (some false))) = some r := by first | (rw [hy241]; with_reducible exact H) | (have H2_ := (Option.bind_some _ _).symm.trans H; rw [hy241]; with_reducible exact H2_) | (have H2_ := (Option.bind_some _ _).symm.trans H; with_reducible exact H2_) | with_reducible exact H | (rw [hy241]; exact H) | exact H
  have Ny241 := Aside0.mk hy241
  clear hy241
  replace H := Option.bind_eq_some_iff.mp H
  obtain ⟨t244, A80, H⟩ := H
  replace H : (if t244 = true then ((parterreref01_Ints.f k t233 (([7, 25, 42] : List Int))).bind fun t248 => (some t248)) else (some false)) = some r := H
  have A8 := Aside0.mk A80
  clear A80
  by_cases c9 : t244 = true
  rotate_left
  · replace c9 := Bool.eq_false_iff.mpr c9
    subst c9
    have H1 : (some false) = some r := by rw [if_neg (show ¬ (false = true) by decide)] at H; exact H
    clear H
    have H := H1
    clear H1
    obtain rfl := Option.some.inj H
    go_enter Try.func7, Try.ntmps7
    go_wp2_with (first | ((with_reducible refine gate_callee (f := 14) rfl ?_); refine goesL_ (some 10) rfl rfl Try.func14 pmAx12_22_ rfl #[] rfl pmAx12_1_ ?_; (with_reducible refine (parterrelaw28_three.calls  t211 t212 t215 t218 t221 _ A1.out).mono ?_); rintro e w35 ⟨v213, v216, v219, v222, rfl, ho0, ho1, ho2, ho3, hb⟩; refine ⟨_, rfl, ?_⟩; have n0_ := Aside0.mk (Kd.R_lower ho0 (below_size pmAx12_0_)); have n1_ := Aside0.mk (Kd.R_lower ho1 (below_size pmAx12_0_)); have n2_ := Aside0.mk (Kd.R_lower ho2 (below_size pmAx12_0_)); have n3_ := Aside0.mk (Kd.R_lower ho3 (below_size pmAx12_0_)); have n4_ := Aside0.mk (below_step pmAx12_0_ hb); clear HB; have HO214 := n0_; have HO217 := n1_; have HO220 := n2_; have HO223 := n3_; have HB := n4_; clear n0_ n1_ n2_ n3_ n4_; (try clear hb); (try clear hb2); (try clear hk); (try clear hi); (try clear ho0); (try clear ho1); (try clear ho2); (try clear ho3)) | ((with_reducible refine gate_dst (N := 1) rfl ?_); (try (refine gate_guard (by rfl) ?_; dsimp only)); refine box_event ?hg (N := 1) ?hd (cs := #[.int .i64 0, .slice none 0 0, .slice none 0 0, .slice none 0 0]) (t := 26) ?hr ?_; (case hd => rfl); (case hg => rfl); (case hr => first | (go_simp; done) | (go_simp; rfl)); intro gb224 hg w36 hbox hb; have n0_ := Aside0.mk (Kd.R_below pmAx12_8_ hb); have n1_ := Aside0.mk (Kd.R_below pmAx12_9_ hb); have n2_ := Aside0.mk (Kd.R_below pmAx12_3_ hb); have n3_ := Aside0.mk (Kd.R_below pmAx12_4_ hb); have n4_ := Aside0.mk (below_step pmAx12_0_ hb); have n5_ := Aside0.mk (hbox); have n6_ := Aside0.mk ((pmAx12_7_ : w.heap.size ≤ gb224)); have n7_ := Aside0.mk ((pmAx12_7_ : w.heap.size ≤ gb224)); clear HO214; clear HO217; clear HO220; clear HO223; clear HB; have HO214 := n0_; have HO217 := n1_; have HO220 := n2_; have HO223 := n3_; have HB := n4_; have BK224 := n5_; have GW224 := n6_; have GE224 := n7_; clear n0_ n1_ n2_ n3_ n4_ n5_ n6_ n7_; clear hb hbox hg; have hcz37_0 : w36.cell? ⟨gb224, 0, none⟩ = some (.int .i64 0) := (blk_cell BK224.out 0).trans rfl; have hcz37_1 : w36.cell? ⟨gb224, 1, none⟩ = some (.slice none 0 0) := (blk_cell BK224.out 1).trans rfl; have hcz37_2 : w36.cell? ⟨gb224, 2, none⟩ = some (.slice none 0 0) := (blk_cell BK224.out 2).trans rfl; have hcz37_3 : w36.cell? ⟨gb224, 3, none⟩ = some (.slice none 0 0) := (blk_cell BK224.out 3).trans rfl; have hfz37_0 := blk_frozen BK224.out 0; have hfz37_1 := blk_frozen BK224.out 1; have hfz37_2 := blk_frozen BK224.out 2; have hfz37_3 := blk_frozen BK224.out 3; obtain ⟨Ao38, co38, eo38⟩ := Kd.R_slice HO214.out; subst eo38; obtain ⟨Ao39, co39, eo39⟩ := Kd.R_slice HO217.out; subst eo39; obtain ⟨Ao40, co40, eo40⟩ := Kd.R_slice HO220.out; subst eo40; obtain ⟨Ao41, co41, eo41⟩ := Kd.R_slice HO223.out; subst eo41) | ((with_reducible refine gate_callee (f := 8) rfl ?_); refine goesL_ (some 16) rfl rfl Try.func8 pmAx12_22_ rfl #[.agg #[.int .i64 t211, .slice Ao38 t212.length co38, .slice Ao39 t215.length co39, .slice Ao40 t218.length co40], .slice Ao41 t221.length co41, .int .i64 60, .int .i64 7] rfl pmAx12_1_ ?_; (with_reducible refine (content_Starts.calls k t211 _ _ t212 _ _ t215 _ _ t218 _ _ t221 60 7 t225 t228 _ ?side1 ?side2 ?side3 ?side4 ?side5 ?side6 ?side7 ?side8 A2.out).mono ?_); (case side1 => refine (Kd.R_reads' (e := 57) (base := w.heap.size) (ok := fun k_ => True) (n := t212.length) (c := co38) ?_).2.2; exact pmAx12_28_); (case side2 => exact (Kd.R_reads' HO214.out).2.1); (case side3 => refine (Kd.R_reads' (e := 4) (base := w.heap.size) (ok := fun k_ => True) (n := t215.length) (c := co39) ?_).2.2; exact pmAx12_29_); (case side4 => exact (Kd.R_reads' HO217.out).2.1); (case side5 => refine (Kd.R_reads' (e := 3) (base := w.heap.size) (ok := fun k_ => some k_ ≠ (.slice Ao41 t221.length co41 : Value).ownBlock) (n := t218.length) (c := co40) ?_).2.2; exact pmAx12_16_); (case side6 => exact (Kd.R_reads' HO220.out).2.1); (case side7 => refine (Kd.R_reads' (e := 3) (base := w.heap.size) (ok := fun k_ => some k_ ≠ (.slice Ao40 t218.length co40 : Value).ownBlock) (n := t221.length) (c := co41) ?_).2.2; exact pmAx12_17_); (case side8 => exact (Kd.R_reads' HO223.out).2.1); rintro e w42 ⟨v226, rfl, ho0, hb⟩; refine ⟨_, rfl, ?_⟩; have n0_ := Aside0.mk (Kd.R_below pmAx12_28_ hb); have n1_ := Aside0.mk (Kd.R_below pmAx12_29_ hb); have n2_ := Aside0.mk (Kd.R_elder' pmAx12_16_ (Kd.R_base ho0) hb); have n3_ := Aside0.mk (Kd.R_elder' pmAx12_17_ (Kd.R_base ho0) hb); have n4_ := Aside0.mk (Kd.R_lower (Kd.R_new' (Kd.R_new' ho0 (Kd.R_lt pmAx12_16_)) (Kd.R_lt pmAx12_17_)) (below_size pmAx12_2_)); have n5_ := Aside0.mk (blk_below (g := gb224) (o := .cells #[.int .i64 t211, .slice Ao38 t212.length co38, .slice Ao39 t215.length co39, .slice Ao40 t218.length co40] 26 (0, 0)) (by (with_reducible repeat (first | refine blk_drewN ?_ _ | refine blk_drew ?_ | refine blk_alloc ?_ _)); refine blk_put (cs := #[.int .i64 t211, .slice Ao38 t212.length co38, .slice Ao39 t215.length co39, .slice none 0 0]) ?_ 3 _ rfl; (with_reducible repeat (first | refine blk_drewN ?_ _ | refine blk_drew ?_ | refine blk_alloc ?_ _)); refine blk_put (cs := #[.int .i64 t211, .slice Ao38 t212.length co38, .slice none 0 0, .slice none 0 0]) ?_ 2 _ rfl; (with_reducible repeat (first | refine blk_drewN ?_ _ | refine blk_drew ?_ | refine blk_alloc ?_ _)); refine blk_put (cs := #[.int .i64 t211, .slice none 0 0, .slice none 0 0, .slice none 0 0]) ?_ 1 _ rfl; (with_reducible repeat (first | refine blk_drewN ?_ _ | refine blk_drew ?_ | refine blk_alloc ?_ _)); refine blk_put (cs := #[.int .i64 0, .slice none 0 0, .slice none 0 0, .slice none 0 0]) ?_ 0 _ rfl; (with_reducible repeat (first | refine blk_drewN ?_ _ | refine blk_drew ?_ | refine blk_alloc ?_ _)); exact BK224.out) hb); have n6_ := Aside0.mk (below_step pmAx12_2_ hb); clear HO214; clear HO217; clear HO220; clear HO223; clear BK224; clear HB; have HO214 := n0_; have HO217 := n1_; have HO220 := n2_; have HO223 := n3_; have HO227 := n4_; have BK224 := n5_; have HB := n6_; clear n0_ n1_ n2_ n3_ n4_ n5_ n6_; (try clear hb); (try clear hb2); (try clear hk); (try clear hi); (try clear ho0); have hcz43_0 : w42.cell? ⟨gb224, 0, none⟩ = some (.int .i64 t211) := (blk_cell BK224.out 0).trans rfl; have hcz43_1 : w42.cell? ⟨gb224, 1, none⟩ = some (.slice Ao38 t212.length co38) := (blk_cell BK224.out 1).trans rfl; have hcz43_2 : w42.cell? ⟨gb224, 2, none⟩ = some (.slice Ao39 t215.length co39) := (blk_cell BK224.out 2).trans rfl; have hcz43_3 : w42.cell? ⟨gb224, 3, none⟩ = some (.slice Ao40 t218.length co40) := (blk_cell BK224.out 3).trans rfl; have hfz43_0 := blk_frozen BK224.out 0; have hfz43_1 := blk_frozen BK224.out 1; have hfz43_2 := blk_frozen BK224.out 2; have hfz43_3 := blk_frozen BK224.out 3) | ((with_reducible refine gate_callee (f := 8) rfl ?_); refine goesL_ (some 22) rfl rfl Try.func8 pmAx12_22_ rfl #[.agg #[.int .i64 t211, .slice Ao38 t212.length co38, .slice Ao39 t215.length co39, .slice Ao40 t218.length co40], .slice Ao41 t221.length co41, .int .i64 60, .int .i64 8] rfl pmAx12_1_ ?_; (with_reducible refine (content_Starts.calls k t211 _ _ t212 _ _ t215 _ _ t218 _ _ t221 60 8 t229 t232 _ ?side1 ?side2 ?side3 ?side4 ?side5 ?side6 ?side7 ?side8 A3.out).mono ?_); (case side1 => repeat (first | exact (Kd.R_reads' HO214.out).2.2 | (with_reducible refine Kd.C_alloc ?_ _) | (with_reducible refine Kd.C_drewN ?_ _) | (with_reducible refine Kd.C_drew ?_))); (case side2 => exact (Kd.R_reads' HO214.out).2.1); (case side3 => repeat (first | exact (Kd.R_reads' HO217.out).2.2 | (with_reducible refine Kd.C_alloc ?_ _) | (with_reducible refine Kd.C_drewN ?_ _) | (with_reducible refine Kd.C_drew ?_))); (case side4 => exact (Kd.R_reads' HO217.out).2.1); (case side5 => repeat (first | exact (Kd.R_reads' HO220.out).2.2 | (with_reducible refine Kd.C_alloc ?_ _) | (with_reducible refine Kd.C_drewN ?_ _) | (with_reducible refine Kd.C_drew ?_))); (case side6 => exact (Kd.R_reads' HO220.out).2.1); (case side7 => repeat (first | exact (Kd.R_reads' HO223.out).2.2 | (with_reducible refine Kd.C_alloc ?_ _) | (with_reducible refine Kd.C_drewN ?_ _) | (with_reducible refine Kd.C_drew ?_))); (case side8 => exact (Kd.R_reads' HO223.out).2.1); rintro e w44 ⟨v230, rfl, ho0, hb⟩; refine ⟨_, rfl, ?_⟩; have n0_ := Aside0.mk (Kd.R_below pmAx12_8_ hb); have n1_ := Aside0.mk (Kd.R_below pmAx12_9_ hb); have n2_ := Aside0.mk (Kd.R_elder' pmAx12_3_ (Kd.R_base ho0) hb); have n3_ := Aside0.mk (Kd.R_elder' pmAx12_4_ (Kd.R_base ho0) hb); have n4_ := Aside0.mk (Kd.R_elder' pmAx12_5_ (Kd.R_base ho0) hb); have n5_ := Aside0.mk (Kd.R_lower (Kd.R_new' (Kd.R_new' (Kd.R_new' ho0 (Kd.R_lt pmAx12_3_)) (Kd.R_lt pmAx12_4_)) (Kd.R_lt pmAx12_5_)) (below_size pmAx12_2_)); have n6_ := Aside0.mk (blk_below (g := gb224) (o := .cells #[.int .i64 t211, .slice Ao38 t212.length co38, .slice Ao39 t215.length co39, .slice Ao40 t218.length co40] 26 (0, 0)) pmAx12_10_ hb); have n7_ := Aside0.mk (below_step pmAx12_2_ hb); clear HO214; clear HO217; clear HO220; clear HO223; clear HO227; clear BK224; clear HB; have HO214 := n0_; have HO217 := n1_; have HO220 := n2_; have HO223 := n3_; have HO227 := n4_; have HO231 := n5_; have BK224 := n6_; have HB := n7_; clear n0_ n1_ n2_ n3_ n4_ n5_ n6_ n7_; (try clear hb); (try clear hb2); (try clear hk); (try clear hi); (try clear ho0); have hcz45_0 : w44.cell? ⟨gb224, 0, none⟩ = some (.int .i64 t211) := (blk_cell BK224.out 0).trans rfl; have hcz45_1 : w44.cell? ⟨gb224, 1, none⟩ = some (.slice Ao38 t212.length co38) := (blk_cell BK224.out 1).trans rfl; have hcz45_2 : w44.cell? ⟨gb224, 2, none⟩ = some (.slice Ao39 t215.length co39) := (blk_cell BK224.out 2).trans rfl; have hcz45_3 : w44.cell? ⟨gb224, 3, none⟩ = some (.slice Ao40 t218.length co40) := (blk_cell BK224.out 3).trans rfl; have hfz45_0 := blk_frozen BK224.out 0; have hfz45_1 := blk_frozen BK224.out 1; have hfz45_2 := blk_frozen BK224.out 2; have hfz45_3 := blk_frozen BK224.out 3) | ((with_reducible refine gate_callee (f := 8) rfl ?_); refine goesL_ (some 28) rfl rfl Try.func8 pmAx12_22_ rfl #[.agg #[.int .i64 t211, .slice Ao38 t212.length co38, .slice Ao39 t215.length co39, .slice Ao40 t218.length co40], .slice Ao41 t221.length co41, .int .i64 60, .int .i64 9] rfl pmAx12_1_ ?_; (with_reducible refine (content_Starts.calls k t211 _ _ t212 _ _ t215 _ _ t218 _ _ t221 60 9 t233 t236 _ ?side1 ?side2 ?side3 ?side4 ?side5 ?side6 ?side7 ?side8 A4.out).mono ?_); (case side1 => repeat (first | exact (Kd.R_reads' HO214.out).2.2 | (with_reducible refine Kd.C_alloc ?_ _) | (with_reducible refine Kd.C_drewN ?_ _) | (with_reducible refine Kd.C_drew ?_))); (case side2 => exact (Kd.R_reads' HO214.out).2.1); (case side3 => repeat (first | exact (Kd.R_reads' HO217.out).2.2 | (with_reducible refine Kd.C_alloc ?_ _) | (with_reducible refine Kd.C_drewN ?_ _) | (with_reducible refine Kd.C_drew ?_))); (case side4 => exact (Kd.R_reads' HO217.out).2.1); (case side5 => repeat (first | exact (Kd.R_reads' HO220.out).2.2 | (with_reducible refine Kd.C_alloc ?_ _) | (with_reducible refine Kd.C_drewN ?_ _) | (with_reducible refine Kd.C_drew ?_))); (case side6 => exact (Kd.R_reads' HO220.out).2.1); (case side7 => repeat (first | exact (Kd.R_reads' HO223.out).2.2 | (with_reducible refine Kd.C_alloc ?_ _) | (with_reducible refine Kd.C_drewN ?_ _) | (with_reducible refine Kd.C_drew ?_))); (case side8 => exact (Kd.R_reads' HO223.out).2.1); rintro e w46 ⟨v234, rfl, ho0, hb⟩; refine ⟨_, rfl, ?_⟩; have n0_ := Aside0.mk (Kd.R_below pmAx12_8_ hb); have n1_ := Aside0.mk (Kd.R_below pmAx12_9_ hb); have n2_ := Aside0.mk (Kd.R_elder' pmAx12_3_ (Kd.R_base ho0) hb); have n3_ := Aside0.mk (Kd.R_elder' pmAx12_4_ (Kd.R_base ho0) hb); have n4_ := Aside0.mk (Kd.R_elder' pmAx12_5_ (Kd.R_base ho0) hb); have n5_ := Aside0.mk (Kd.R_elder' pmAx12_6_ (Kd.R_base ho0) hb); have n6_ := Aside0.mk (Kd.R_lower (Kd.R_new' (Kd.R_new' (Kd.R_new' (Kd.R_new' ho0 (Kd.R_lt pmAx12_3_)) (Kd.R_lt pmAx12_4_)) (Kd.R_lt pmAx12_5_)) (Kd.R_lt pmAx12_6_)) (below_size pmAx12_2_)); have n7_ := Aside0.mk (blk_below (g := gb224) (o := .cells #[.int .i64 t211, .slice Ao38 t212.length co38, .slice Ao39 t215.length co39, .slice Ao40 t218.length co40] 26 (0, 0)) pmAx12_10_ hb); have n8_ := Aside0.mk (below_step pmAx12_2_ hb); clear HO214; clear HO217; clear HO220; clear HO223; clear HO227; clear HO231; clear BK224; clear HB; have HO214 := n0_; have HO217 := n1_; have HO220 := n2_; have HO223 := n3_; have HO227 := n4_; have HO231 := n5_; have HO235 := n6_; have BK224 := n7_; have HB := n8_; clear n0_ n1_ n2_ n3_ n4_ n5_ n6_ n7_ n8_; (try clear hb); (try clear hb2); (try clear hk); (try clear hi); (try clear ho0)) | ((with_reducible refine gate_dst (N := 35) rfl ?_); (try (refine gate_guard (by rfl) ?_; dsimp only)); refine Kd.R_lit (Kd.int .i64) _ 3 ?hg (N := 35) ?hd (xs := ([0, 25, 50] : List Int)) (inner := [.int .i64 0, .int .i64 25, .int .i64 50]) (ok := fun _ => True) (okp := fun _ => True) ?hr ?hp (fun _ hk => hk) trivial (Below.refl _ _) (Nat.le_refl _) (by simp) ?_; (case hd => rfl); (case hg => rfl); (case hr => first | (go_simp; done) | (go_simp; rfl)); (case hp => exact (Reps.one (show Kd.M (Kd.int .i64) _ _ _ 0 [.int .i64 0] from rfl) (Reps.one (show Kd.M (Kd.int .i64) _ _ _ 25 [.int .i64 25] from rfl) (Reps.one (show Kd.M (Kd.int .i64) _ _ _ 50 [.int .i64 50] from rfl) (Reps.none _ _))))); intro v238 w47 ho48 hb hg_ hnew_; clear hg_ hnew_; (first | rw [← Ny237.out] at ho48 | (simp only [Int.reduceToNat] at ho48; rw [← Ny237.out] at ho48)); have n0_ := Aside0.mk (Kd.R_below pmAx12_8_ hb); have n1_ := Aside0.mk (Kd.R_below pmAx12_9_ hb); have n2_ := Aside0.mk (Kd.R_elder' pmAx12_3_ (Kd.R_base ho48) hb); have n3_ := Aside0.mk (Kd.R_elder' pmAx12_4_ (Kd.R_base ho48) hb); have n4_ := Aside0.mk (Kd.R_elder' pmAx12_5_ (Kd.R_base ho48) hb); have n5_ := Aside0.mk (Kd.R_elder' pmAx12_6_ (Kd.R_base ho48) hb); have n6_ := Aside0.mk (Kd.R_elder' pmAx12_11_ (Kd.R_base ho48) hb); have n7_ := Aside0.mk (Kd.R_lower (Kd.R_new' (Kd.R_new' (Kd.R_new' (Kd.R_new' (Kd.R_new' ho48 (Kd.R_lt pmAx12_3_)) (Kd.R_lt pmAx12_4_)) (Kd.R_lt pmAx12_5_)) (Kd.R_lt pmAx12_6_)) (Kd.R_lt pmAx12_11_)) (below_size pmAx12_2_)); have n8_ := Aside0.mk (blk_below (g := gb224) (o := .cells #[.int .i64 t211, .slice Ao38 t212.length co38, .slice Ao39 t215.length co39, .slice Ao40 t218.length co40] 26 (0, 0)) pmAx12_10_ hb); have n9_ := Aside0.mk (below_step pmAx12_2_ hb); clear HO214; clear HO217; clear HO220; clear HO223; clear HO227; clear HO231; clear HO235; clear BK224; clear HB; have HO214 := n0_; have HO217 := n1_; have HO220 := n2_; have HO223 := n3_; have HO227 := n4_; have HO231 := n5_; have HO235 := n6_; have HO239 := n7_; have BK224 := n8_; have HB := n9_; clear n0_ n1_ n2_ n3_ n4_ n5_ n6_ n7_ n8_ n9_; clear hb ho48; obtain ⟨Ao49, co49, eo49⟩ := Kd.R_slice HO227.out; subst eo49; obtain ⟨Ao50, co50, eo50⟩ := Kd.R_slice HO239.out; subst eo50) | (go_at_call 10; (with_reducible refine (parterreref01_Ints.calls k _ _ t225 _ _ y237 true _ ?side1 ?side2 ?side3 ?side4 A6.out).mono ?_); (case side1 => repeat (first | exact (Kd.R_reads' HO227.out).2.2 | (with_reducible refine Kd.C_alloc ?_ _) | (with_reducible refine Kd.C_drewN ?_ _) | (with_reducible refine Kd.C_drew ?_))); (case side2 => exact (Kd.R_reads' HO227.out).2.1); (case side3 => repeat (first | exact (Kd.R_reads' HO239.out).2.2 | (with_reducible refine Kd.C_alloc ?_ _) | (with_reducible refine Kd.C_drewN ?_ _) | (with_reducible refine Kd.C_drew ?_))); (case side4 => exact (Kd.R_reads' HO239.out).2.1); rintro e w' ⟨rfl, ⟨nd, rfl⟩⟩) | ((with_reducible refine gate_dst (N := 40) rfl ?_); (try (refine gate_guard (by rfl) ?_; dsimp only)); refine Kd.R_lit (Kd.int .i64) _ 3 ?hg (N := 40) ?hd (xs := ([5, 25, 45] : List Int)) (inner := [.int .i64 5, .int .i64 25, .int .i64 45]) (ok := fun _ => True) (okp := fun _ => True) ?hr ?hp (fun _ hk => hk) trivial (Below.refl _ _) (Nat.le_refl _) (by simp) ?_; (case hd => rfl); (case hg => rfl); (case hr => first | (go_simp; done) | (go_simp; rfl)); (case hp => exact (Reps.one (show Kd.M (Kd.int .i64) _ _ _ 5 [.int .i64 5] from rfl) (Reps.one (show Kd.M (Kd.int .i64) _ _ _ 25 [.int .i64 25] from rfl) (Reps.one (show Kd.M (Kd.int .i64) _ _ _ 45 [.int .i64 45] from rfl) (Reps.none _ _))))); intro v242 w51 ho52 hb hg_ hnew_; clear hg_ hnew_; (first | rw [← Ny241.out] at ho52 | (simp only [Int.reduceToNat] at ho52; rw [← Ny241.out] at ho52)); have n0_ := Aside0.mk (Kd.R_below pmAx12_8_ hb); have n1_ := Aside0.mk (Kd.R_below pmAx12_9_ hb); have n2_ := Aside0.mk (Kd.R_elder' pmAx12_3_ (Kd.R_base ho52) hb); have n3_ := Aside0.mk (Kd.R_elder' pmAx12_4_ (Kd.R_base ho52) hb); have n4_ := Aside0.mk (Kd.R_elder' pmAx12_5_ (Kd.R_base ho52) hb); have n5_ := Aside0.mk (Kd.R_elder' pmAx12_6_ (Kd.R_base ho52) hb); have n6_ := Aside0.mk (Kd.R_elder' pmAx12_11_ (Kd.R_base ho52) hb); have n7_ := Aside0.mk (Kd.R_elder' pmAx12_23_ (Kd.R_base ho52) hb); have n8_ := Aside0.mk (Kd.R_lower (Kd.R_new' (Kd.R_new' (Kd.R_new' (Kd.R_new' (Kd.R_new' (Kd.R_new' ho52 (Kd.R_lt pmAx12_3_)) (Kd.R_lt pmAx12_4_)) (Kd.R_lt pmAx12_5_)) (Kd.R_lt pmAx12_6_)) (Kd.R_lt pmAx12_11_)) (Kd.R_lt pmAx12_23_)) (below_size pmAx12_2_)); have n9_ := Aside0.mk (blk_below (g := gb224) (o := .cells #[.int .i64 t211, .slice Ao38 t212.length co38, .slice Ao39 t215.length co39, .slice Ao40 t218.length co40] 26 (0, 0)) pmAx12_10_ hb); have n10_ := Aside0.mk (below_step pmAx12_2_ hb); clear HO214; clear HO217; clear HO220; clear HO223; clear HO227; clear HO231; clear HO235; clear HO239; clear BK224; clear HB; have HO214 := n0_; have HO217 := n1_; have HO220 := n2_; have HO223 := n3_; have HO227 := n4_; have HO231 := n5_; have HO235 := n6_; have HO239 := n7_; have HO243 := n8_; have BK224 := n9_; have HB := n10_; clear n0_ n1_ n2_ n3_ n4_ n5_ n6_ n7_ n8_ n9_ n10_; clear hb ho52; obtain ⟨Ao53, co53, eo53⟩ := Kd.R_slice HO231.out; subst eo53; obtain ⟨Ao54, co54, eo54⟩ := Kd.R_slice HO243.out; subst eo54) | (go_at_call 10; (with_reducible refine (parterreref01_Ints.calls k _ _ t229 _ _ y241 false _ ?side1 ?side2 ?side3 ?side4 A8.out).mono ?_); (case side1 => repeat (first | exact (Kd.R_reads' HO231.out).2.2 | (with_reducible refine Kd.C_alloc ?_ _) | (with_reducible refine Kd.C_drewN ?_ _) | (with_reducible refine Kd.C_drew ?_))); (case side2 => exact (Kd.R_reads' HO231.out).2.1); (case side3 => repeat (first | exact (Kd.R_reads' HO243.out).2.2 | (with_reducible refine Kd.C_alloc ?_ _) | (with_reducible refine Kd.C_drewN ?_ _) | (with_reducible refine Kd.C_drew ?_))); (case side4 => exact (Kd.R_reads' HO243.out).2.1); rintro e w' ⟨rfl, ⟨nd, rfl⟩⟩))
    go_ret
    exact ⟨by first | rfl | (simp [errW_none, errW_some] <;> rfl) | (simp [*, errW_none, errW_some] <;> rfl), by repeat (first | (with_reducible first | exact HB.out | apply below_alloc | apply pw_below_drewN | apply below_drew1 | refine below_set ?_ GE224.out) | exact HB.out)⟩
  subst c9
  have H1 : ((parterreref01_Ints.f k t233 (([7, 25, 42] : List Int))).bind fun t248 => (some t248)) = some r := by rw [if_pos rfl] at H; exact H
  clear H
  have H := H1
  clear H1
  obtain ⟨y245, hy245⟩ : ∃ y_ : List Int, y_ = (([7, 25, 42] : List Int)) := ⟨_, rfl⟩
  replace H : ((parterreref01_Ints.f k t233 y245).bind fun t248 => (some t248)) = some r := by first | (rw [hy245]; with_reducible exact H) | (have H2_ := (Option.bind_some _ _).symm.trans H; rw [hy245]; with_reducible exact H2_) | (have H2_ := (Option.bind_some _ _).symm.trans H; with_reducible exact H2_) | with_reducible exact H | (rw [hy245]; exact H) | exact H
  have Ny245 := Aside0.mk hy245
  clear hy245
  replace H := Option.bind_eq_some_iff.mp H
  obtain ⟨t248, A100, H⟩ := H
  replace H : (some t248) = some r := H
  have A10 := Aside0.mk A100
  clear A100
  obtain rfl := Option.some.inj H
  go_enter Try.func7, Try.ntmps7
  go_wp2_with (first | ((with_reducible refine gate_callee (f := 14) rfl ?_); refine goesL_ (some 10) rfl rfl Try.func14 pmAx12_22_ rfl #[] rfl pmAx12_1_ ?_; (with_reducible refine (parterrelaw28_three.calls  t211 t212 t215 t218 t221 _ A1.out).mono ?_); rintro e w11 ⟨v213, v216, v219, v222, rfl, ho0, ho1, ho2, ho3, hb⟩; refine ⟨_, rfl, ?_⟩; have n0_ := Aside0.mk (Kd.R_lower ho0 (below_size pmAx12_0_)); have n1_ := Aside0.mk (Kd.R_lower ho1 (below_size pmAx12_0_)); have n2_ := Aside0.mk (Kd.R_lower ho2 (below_size pmAx12_0_)); have n3_ := Aside0.mk (Kd.R_lower ho3 (below_size pmAx12_0_)); have n4_ := Aside0.mk (below_step pmAx12_0_ hb); clear HB; have HO214 := n0_; have HO217 := n1_; have HO220 := n2_; have HO223 := n3_; have HB := n4_; clear n0_ n1_ n2_ n3_ n4_; (try clear hb); (try clear hb2); (try clear hk); (try clear hi); (try clear ho0); (try clear ho1); (try clear ho2); (try clear ho3)) | ((with_reducible refine gate_dst (N := 1) rfl ?_); (try (refine gate_guard (by rfl) ?_; dsimp only)); refine box_event ?hg (N := 1) ?hd (cs := #[.int .i64 0, .slice none 0 0, .slice none 0 0, .slice none 0 0]) (t := 26) ?hr ?_; (case hd => rfl); (case hg => rfl); (case hr => first | (go_simp; done) | (go_simp; rfl)); intro gb224 hg w12 hbox hb; have n0_ := Aside0.mk (Kd.R_below pmAx12_8_ hb); have n1_ := Aside0.mk (Kd.R_below pmAx12_9_ hb); have n2_ := Aside0.mk (Kd.R_below pmAx12_3_ hb); have n3_ := Aside0.mk (Kd.R_below pmAx12_4_ hb); have n4_ := Aside0.mk (below_step pmAx12_0_ hb); have n5_ := Aside0.mk (hbox); have n6_ := Aside0.mk ((pmAx12_7_ : w.heap.size ≤ gb224)); have n7_ := Aside0.mk ((pmAx12_7_ : w.heap.size ≤ gb224)); clear HO214; clear HO217; clear HO220; clear HO223; clear HB; have HO214 := n0_; have HO217 := n1_; have HO220 := n2_; have HO223 := n3_; have HB := n4_; have BK224 := n5_; have GW224 := n6_; have GE224 := n7_; clear n0_ n1_ n2_ n3_ n4_ n5_ n6_ n7_; clear hb hbox hg; have hcz13_0 : w12.cell? ⟨gb224, 0, none⟩ = some (.int .i64 0) := (blk_cell BK224.out 0).trans rfl; have hcz13_1 : w12.cell? ⟨gb224, 1, none⟩ = some (.slice none 0 0) := (blk_cell BK224.out 1).trans rfl; have hcz13_2 : w12.cell? ⟨gb224, 2, none⟩ = some (.slice none 0 0) := (blk_cell BK224.out 2).trans rfl; have hcz13_3 : w12.cell? ⟨gb224, 3, none⟩ = some (.slice none 0 0) := (blk_cell BK224.out 3).trans rfl; have hfz13_0 := blk_frozen BK224.out 0; have hfz13_1 := blk_frozen BK224.out 1; have hfz13_2 := blk_frozen BK224.out 2; have hfz13_3 := blk_frozen BK224.out 3; obtain ⟨Ao14, co14, eo14⟩ := Kd.R_slice HO214.out; subst eo14; obtain ⟨Ao15, co15, eo15⟩ := Kd.R_slice HO217.out; subst eo15; obtain ⟨Ao16, co16, eo16⟩ := Kd.R_slice HO220.out; subst eo16; obtain ⟨Ao17, co17, eo17⟩ := Kd.R_slice HO223.out; subst eo17) | ((with_reducible refine gate_callee (f := 8) rfl ?_); refine goesL_ (some 16) rfl rfl Try.func8 pmAx12_22_ rfl #[.agg #[.int .i64 t211, .slice Ao14 t212.length co14, .slice Ao15 t215.length co15, .slice Ao16 t218.length co16], .slice Ao17 t221.length co17, .int .i64 60, .int .i64 7] rfl pmAx12_1_ ?_; (with_reducible refine (content_Starts.calls k t211 _ _ t212 _ _ t215 _ _ t218 _ _ t221 60 7 t225 t228 _ ?side1 ?side2 ?side3 ?side4 ?side5 ?side6 ?side7 ?side8 A2.out).mono ?_); (case side1 => refine (Kd.R_reads' (e := 57) (base := w.heap.size) (ok := fun k_ => True) (n := t212.length) (c := co14) ?_).2.2; exact pmAx12_30_); (case side2 => exact (Kd.R_reads' HO214.out).2.1); (case side3 => refine (Kd.R_reads' (e := 4) (base := w.heap.size) (ok := fun k_ => True) (n := t215.length) (c := co15) ?_).2.2; exact pmAx12_31_); (case side4 => exact (Kd.R_reads' HO217.out).2.1); (case side5 => refine (Kd.R_reads' (e := 3) (base := w.heap.size) (ok := fun k_ => some k_ ≠ (.slice Ao17 t221.length co17 : Value).ownBlock) (n := t218.length) (c := co16) ?_).2.2; exact pmAx12_18_); (case side6 => exact (Kd.R_reads' HO220.out).2.1); (case side7 => refine (Kd.R_reads' (e := 3) (base := w.heap.size) (ok := fun k_ => some k_ ≠ (.slice Ao16 t218.length co16 : Value).ownBlock) (n := t221.length) (c := co17) ?_).2.2; exact pmAx12_19_); (case side8 => exact (Kd.R_reads' HO223.out).2.1); rintro e w18 ⟨v226, rfl, ho0, hb⟩; refine ⟨_, rfl, ?_⟩; have n0_ := Aside0.mk (Kd.R_below pmAx12_30_ hb); have n1_ := Aside0.mk (Kd.R_below pmAx12_31_ hb); have n2_ := Aside0.mk (Kd.R_elder' pmAx12_18_ (Kd.R_base ho0) hb); have n3_ := Aside0.mk (Kd.R_elder' pmAx12_19_ (Kd.R_base ho0) hb); have n4_ := Aside0.mk (Kd.R_lower (Kd.R_new' (Kd.R_new' ho0 (Kd.R_lt pmAx12_18_)) (Kd.R_lt pmAx12_19_)) (below_size pmAx12_2_)); have n5_ := Aside0.mk (blk_below (g := gb224) (o := .cells #[.int .i64 t211, .slice Ao14 t212.length co14, .slice Ao15 t215.length co15, .slice Ao16 t218.length co16] 26 (0, 0)) (by (with_reducible repeat (first | refine blk_drewN ?_ _ | refine blk_drew ?_ | refine blk_alloc ?_ _)); refine blk_put (cs := #[.int .i64 t211, .slice Ao14 t212.length co14, .slice Ao15 t215.length co15, .slice none 0 0]) ?_ 3 _ rfl; (with_reducible repeat (first | refine blk_drewN ?_ _ | refine blk_drew ?_ | refine blk_alloc ?_ _)); refine blk_put (cs := #[.int .i64 t211, .slice Ao14 t212.length co14, .slice none 0 0, .slice none 0 0]) ?_ 2 _ rfl; (with_reducible repeat (first | refine blk_drewN ?_ _ | refine blk_drew ?_ | refine blk_alloc ?_ _)); refine blk_put (cs := #[.int .i64 t211, .slice none 0 0, .slice none 0 0, .slice none 0 0]) ?_ 1 _ rfl; (with_reducible repeat (first | refine blk_drewN ?_ _ | refine blk_drew ?_ | refine blk_alloc ?_ _)); refine blk_put (cs := #[.int .i64 0, .slice none 0 0, .slice none 0 0, .slice none 0 0]) ?_ 0 _ rfl; (with_reducible repeat (first | refine blk_drewN ?_ _ | refine blk_drew ?_ | refine blk_alloc ?_ _)); exact BK224.out) hb); have n6_ := Aside0.mk (below_step pmAx12_2_ hb); clear HO214; clear HO217; clear HO220; clear HO223; clear BK224; clear HB; have HO214 := n0_; have HO217 := n1_; have HO220 := n2_; have HO223 := n3_; have HO227 := n4_; have BK224 := n5_; have HB := n6_; clear n0_ n1_ n2_ n3_ n4_ n5_ n6_; (try clear hb); (try clear hb2); (try clear hk); (try clear hi); (try clear ho0); have hcz19_0 : w18.cell? ⟨gb224, 0, none⟩ = some (.int .i64 t211) := (blk_cell BK224.out 0).trans rfl; have hcz19_1 : w18.cell? ⟨gb224, 1, none⟩ = some (.slice Ao14 t212.length co14) := (blk_cell BK224.out 1).trans rfl; have hcz19_2 : w18.cell? ⟨gb224, 2, none⟩ = some (.slice Ao15 t215.length co15) := (blk_cell BK224.out 2).trans rfl; have hcz19_3 : w18.cell? ⟨gb224, 3, none⟩ = some (.slice Ao16 t218.length co16) := (blk_cell BK224.out 3).trans rfl; have hfz19_0 := blk_frozen BK224.out 0; have hfz19_1 := blk_frozen BK224.out 1; have hfz19_2 := blk_frozen BK224.out 2; have hfz19_3 := blk_frozen BK224.out 3) | ((with_reducible refine gate_callee (f := 8) rfl ?_); refine goesL_ (some 22) rfl rfl Try.func8 pmAx12_22_ rfl #[.agg #[.int .i64 t211, .slice Ao14 t212.length co14, .slice Ao15 t215.length co15, .slice Ao16 t218.length co16], .slice Ao17 t221.length co17, .int .i64 60, .int .i64 8] rfl pmAx12_1_ ?_; (with_reducible refine (content_Starts.calls k t211 _ _ t212 _ _ t215 _ _ t218 _ _ t221 60 8 t229 t232 _ ?side1 ?side2 ?side3 ?side4 ?side5 ?side6 ?side7 ?side8 A3.out).mono ?_); (case side1 => repeat (first | exact (Kd.R_reads' HO214.out).2.2 | (with_reducible refine Kd.C_alloc ?_ _) | (with_reducible refine Kd.C_drewN ?_ _) | (with_reducible refine Kd.C_drew ?_))); (case side2 => exact (Kd.R_reads' HO214.out).2.1); (case side3 => repeat (first | exact (Kd.R_reads' HO217.out).2.2 | (with_reducible refine Kd.C_alloc ?_ _) | (with_reducible refine Kd.C_drewN ?_ _) | (with_reducible refine Kd.C_drew ?_))); (case side4 => exact (Kd.R_reads' HO217.out).2.1); (case side5 => repeat (first | exact (Kd.R_reads' HO220.out).2.2 | (with_reducible refine Kd.C_alloc ?_ _) | (with_reducible refine Kd.C_drewN ?_ _) | (with_reducible refine Kd.C_drew ?_))); (case side6 => exact (Kd.R_reads' HO220.out).2.1); (case side7 => repeat (first | exact (Kd.R_reads' HO223.out).2.2 | (with_reducible refine Kd.C_alloc ?_ _) | (with_reducible refine Kd.C_drewN ?_ _) | (with_reducible refine Kd.C_drew ?_))); (case side8 => exact (Kd.R_reads' HO223.out).2.1); rintro e w20 ⟨v230, rfl, ho0, hb⟩; refine ⟨_, rfl, ?_⟩; have n0_ := Aside0.mk (Kd.R_below pmAx12_8_ hb); have n1_ := Aside0.mk (Kd.R_below pmAx12_9_ hb); have n2_ := Aside0.mk (Kd.R_elder' pmAx12_3_ (Kd.R_base ho0) hb); have n3_ := Aside0.mk (Kd.R_elder' pmAx12_4_ (Kd.R_base ho0) hb); have n4_ := Aside0.mk (Kd.R_elder' pmAx12_5_ (Kd.R_base ho0) hb); have n5_ := Aside0.mk (Kd.R_lower (Kd.R_new' (Kd.R_new' (Kd.R_new' ho0 (Kd.R_lt pmAx12_3_)) (Kd.R_lt pmAx12_4_)) (Kd.R_lt pmAx12_5_)) (below_size pmAx12_2_)); have n6_ := Aside0.mk (blk_below (g := gb224) (o := .cells #[.int .i64 t211, .slice Ao14 t212.length co14, .slice Ao15 t215.length co15, .slice Ao16 t218.length co16] 26 (0, 0)) pmAx12_10_ hb); have n7_ := Aside0.mk (below_step pmAx12_2_ hb); clear HO214; clear HO217; clear HO220; clear HO223; clear HO227; clear BK224; clear HB; have HO214 := n0_; have HO217 := n1_; have HO220 := n2_; have HO223 := n3_; have HO227 := n4_; have HO231 := n5_; have BK224 := n6_; have HB := n7_; clear n0_ n1_ n2_ n3_ n4_ n5_ n6_ n7_; (try clear hb); (try clear hb2); (try clear hk); (try clear hi); (try clear ho0); have hcz21_0 : w20.cell? ⟨gb224, 0, none⟩ = some (.int .i64 t211) := (blk_cell BK224.out 0).trans rfl; have hcz21_1 : w20.cell? ⟨gb224, 1, none⟩ = some (.slice Ao14 t212.length co14) := (blk_cell BK224.out 1).trans rfl; have hcz21_2 : w20.cell? ⟨gb224, 2, none⟩ = some (.slice Ao15 t215.length co15) := (blk_cell BK224.out 2).trans rfl; have hcz21_3 : w20.cell? ⟨gb224, 3, none⟩ = some (.slice Ao16 t218.length co16) := (blk_cell BK224.out 3).trans rfl; have hfz21_0 := blk_frozen BK224.out 0; have hfz21_1 := blk_frozen BK224.out 1; have hfz21_2 := blk_frozen BK224.out 2; have hfz21_3 := blk_frozen BK224.out 3) | ((with_reducible refine gate_callee (f := 8) rfl ?_); refine goesL_ (some 28) rfl rfl Try.func8 pmAx12_22_ rfl #[.agg #[.int .i64 t211, .slice Ao14 t212.length co14, .slice Ao15 t215.length co15, .slice Ao16 t218.length co16], .slice Ao17 t221.length co17, .int .i64 60, .int .i64 9] rfl pmAx12_1_ ?_; (with_reducible refine (content_Starts.calls k t211 _ _ t212 _ _ t215 _ _ t218 _ _ t221 60 9 t233 t236 _ ?side1 ?side2 ?side3 ?side4 ?side5 ?side6 ?side7 ?side8 A4.out).mono ?_); (case side1 => repeat (first | exact (Kd.R_reads' HO214.out).2.2 | (with_reducible refine Kd.C_alloc ?_ _) | (with_reducible refine Kd.C_drewN ?_ _) | (with_reducible refine Kd.C_drew ?_))); (case side2 => exact (Kd.R_reads' HO214.out).2.1); (case side3 => repeat (first | exact (Kd.R_reads' HO217.out).2.2 | (with_reducible refine Kd.C_alloc ?_ _) | (with_reducible refine Kd.C_drewN ?_ _) | (with_reducible refine Kd.C_drew ?_))); (case side4 => exact (Kd.R_reads' HO217.out).2.1); (case side5 => repeat (first | exact (Kd.R_reads' HO220.out).2.2 | (with_reducible refine Kd.C_alloc ?_ _) | (with_reducible refine Kd.C_drewN ?_ _) | (with_reducible refine Kd.C_drew ?_))); (case side6 => exact (Kd.R_reads' HO220.out).2.1); (case side7 => repeat (first | exact (Kd.R_reads' HO223.out).2.2 | (with_reducible refine Kd.C_alloc ?_ _) | (with_reducible refine Kd.C_drewN ?_ _) | (with_reducible refine Kd.C_drew ?_))); (case side8 => exact (Kd.R_reads' HO223.out).2.1); rintro e w22 ⟨v234, rfl, ho0, hb⟩; refine ⟨_, rfl, ?_⟩; have n0_ := Aside0.mk (Kd.R_below pmAx12_8_ hb); have n1_ := Aside0.mk (Kd.R_below pmAx12_9_ hb); have n2_ := Aside0.mk (Kd.R_elder' pmAx12_3_ (Kd.R_base ho0) hb); have n3_ := Aside0.mk (Kd.R_elder' pmAx12_4_ (Kd.R_base ho0) hb); have n4_ := Aside0.mk (Kd.R_elder' pmAx12_5_ (Kd.R_base ho0) hb); have n5_ := Aside0.mk (Kd.R_elder' pmAx12_6_ (Kd.R_base ho0) hb); have n6_ := Aside0.mk (Kd.R_lower (Kd.R_new' (Kd.R_new' (Kd.R_new' (Kd.R_new' ho0 (Kd.R_lt pmAx12_3_)) (Kd.R_lt pmAx12_4_)) (Kd.R_lt pmAx12_5_)) (Kd.R_lt pmAx12_6_)) (below_size pmAx12_2_)); have n7_ := Aside0.mk (blk_below (g := gb224) (o := .cells #[.int .i64 t211, .slice Ao14 t212.length co14, .slice Ao15 t215.length co15, .slice Ao16 t218.length co16] 26 (0, 0)) pmAx12_10_ hb); have n8_ := Aside0.mk (below_step pmAx12_2_ hb); clear HO214; clear HO217; clear HO220; clear HO223; clear HO227; clear HO231; clear BK224; clear HB; have HO214 := n0_; have HO217 := n1_; have HO220 := n2_; have HO223 := n3_; have HO227 := n4_; have HO231 := n5_; have HO235 := n6_; have BK224 := n7_; have HB := n8_; clear n0_ n1_ n2_ n3_ n4_ n5_ n6_ n7_ n8_; (try clear hb); (try clear hb2); (try clear hk); (try clear hi); (try clear ho0)) | ((with_reducible refine gate_dst (N := 35) rfl ?_); (try (refine gate_guard (by rfl) ?_; dsimp only)); refine Kd.R_lit (Kd.int .i64) _ 3 ?hg (N := 35) ?hd (xs := ([0, 25, 50] : List Int)) (inner := [.int .i64 0, .int .i64 25, .int .i64 50]) (ok := fun _ => True) (okp := fun _ => True) ?hr ?hp (fun _ hk => hk) trivial (Below.refl _ _) (Nat.le_refl _) (by simp) ?_; (case hd => rfl); (case hg => rfl); (case hr => first | (go_simp; done) | (go_simp; rfl)); (case hp => exact (Reps.one (show Kd.M (Kd.int .i64) _ _ _ 0 [.int .i64 0] from rfl) (Reps.one (show Kd.M (Kd.int .i64) _ _ _ 25 [.int .i64 25] from rfl) (Reps.one (show Kd.M (Kd.int .i64) _ _ _ 50 [.int .i64 50] from rfl) (Reps.none _ _))))); intro v238 w23 ho24 hb hg_ hnew_; clear hg_ hnew_; (first | rw [← Ny237.out] at ho24 | (simp only [Int.reduceToNat] at ho24; rw [← Ny237.out] at ho24)); have n0_ := Aside0.mk (Kd.R_below pmAx12_8_ hb); have n1_ := Aside0.mk (Kd.R_below pmAx12_9_ hb); have n2_ := Aside0.mk (Kd.R_elder' pmAx12_3_ (Kd.R_base ho24) hb); have n3_ := Aside0.mk (Kd.R_elder' pmAx12_4_ (Kd.R_base ho24) hb); have n4_ := Aside0.mk (Kd.R_elder' pmAx12_5_ (Kd.R_base ho24) hb); have n5_ := Aside0.mk (Kd.R_elder' pmAx12_6_ (Kd.R_base ho24) hb); have n6_ := Aside0.mk (Kd.R_elder' pmAx12_11_ (Kd.R_base ho24) hb); have n7_ := Aside0.mk (Kd.R_lower (Kd.R_new' (Kd.R_new' (Kd.R_new' (Kd.R_new' (Kd.R_new' ho24 (Kd.R_lt pmAx12_3_)) (Kd.R_lt pmAx12_4_)) (Kd.R_lt pmAx12_5_)) (Kd.R_lt pmAx12_6_)) (Kd.R_lt pmAx12_11_)) (below_size pmAx12_2_)); have n8_ := Aside0.mk (blk_below (g := gb224) (o := .cells #[.int .i64 t211, .slice Ao14 t212.length co14, .slice Ao15 t215.length co15, .slice Ao16 t218.length co16] 26 (0, 0)) pmAx12_10_ hb); have n9_ := Aside0.mk (below_step pmAx12_2_ hb); clear HO214; clear HO217; clear HO220; clear HO223; clear HO227; clear HO231; clear HO235; clear BK224; clear HB; have HO214 := n0_; have HO217 := n1_; have HO220 := n2_; have HO223 := n3_; have HO227 := n4_; have HO231 := n5_; have HO235 := n6_; have HO239 := n7_; have BK224 := n8_; have HB := n9_; clear n0_ n1_ n2_ n3_ n4_ n5_ n6_ n7_ n8_ n9_; clear hb ho24; obtain ⟨Ao25, co25, eo25⟩ := Kd.R_slice HO227.out; subst eo25; obtain ⟨Ao26, co26, eo26⟩ := Kd.R_slice HO239.out; subst eo26) | (go_at_call 10; (with_reducible refine (parterreref01_Ints.calls k _ _ t225 _ _ y237 true _ ?side1 ?side2 ?side3 ?side4 A6.out).mono ?_); (case side1 => repeat (first | exact (Kd.R_reads' HO227.out).2.2 | (with_reducible refine Kd.C_alloc ?_ _) | (with_reducible refine Kd.C_drewN ?_ _) | (with_reducible refine Kd.C_drew ?_))); (case side2 => exact (Kd.R_reads' HO227.out).2.1); (case side3 => repeat (first | exact (Kd.R_reads' HO239.out).2.2 | (with_reducible refine Kd.C_alloc ?_ _) | (with_reducible refine Kd.C_drewN ?_ _) | (with_reducible refine Kd.C_drew ?_))); (case side4 => exact (Kd.R_reads' HO239.out).2.1); rintro e w' ⟨rfl, ⟨nd, rfl⟩⟩) | ((with_reducible refine gate_dst (N := 40) rfl ?_); (try (refine gate_guard (by rfl) ?_; dsimp only)); refine Kd.R_lit (Kd.int .i64) _ 3 ?hg (N := 40) ?hd (xs := ([5, 25, 45] : List Int)) (inner := [.int .i64 5, .int .i64 25, .int .i64 45]) (ok := fun _ => True) (okp := fun _ => True) ?hr ?hp (fun _ hk => hk) trivial (Below.refl _ _) (Nat.le_refl _) (by simp) ?_; (case hd => rfl); (case hg => rfl); (case hr => first | (go_simp; done) | (go_simp; rfl)); (case hp => exact (Reps.one (show Kd.M (Kd.int .i64) _ _ _ 5 [.int .i64 5] from rfl) (Reps.one (show Kd.M (Kd.int .i64) _ _ _ 25 [.int .i64 25] from rfl) (Reps.one (show Kd.M (Kd.int .i64) _ _ _ 45 [.int .i64 45] from rfl) (Reps.none _ _))))); intro v242 w27 ho28 hb hg_ hnew_; clear hg_ hnew_; (first | rw [← Ny241.out] at ho28 | (simp only [Int.reduceToNat] at ho28; rw [← Ny241.out] at ho28)); have n0_ := Aside0.mk (Kd.R_below pmAx12_8_ hb); have n1_ := Aside0.mk (Kd.R_below pmAx12_9_ hb); have n2_ := Aside0.mk (Kd.R_elder' pmAx12_3_ (Kd.R_base ho28) hb); have n3_ := Aside0.mk (Kd.R_elder' pmAx12_4_ (Kd.R_base ho28) hb); have n4_ := Aside0.mk (Kd.R_elder' pmAx12_5_ (Kd.R_base ho28) hb); have n5_ := Aside0.mk (Kd.R_elder' pmAx12_6_ (Kd.R_base ho28) hb); have n6_ := Aside0.mk (Kd.R_elder' pmAx12_11_ (Kd.R_base ho28) hb); have n7_ := Aside0.mk (Kd.R_elder' pmAx12_23_ (Kd.R_base ho28) hb); have n8_ := Aside0.mk (Kd.R_lower (Kd.R_new' (Kd.R_new' (Kd.R_new' (Kd.R_new' (Kd.R_new' (Kd.R_new' ho28 (Kd.R_lt pmAx12_3_)) (Kd.R_lt pmAx12_4_)) (Kd.R_lt pmAx12_5_)) (Kd.R_lt pmAx12_6_)) (Kd.R_lt pmAx12_11_)) (Kd.R_lt pmAx12_23_)) (below_size pmAx12_2_)); have n9_ := Aside0.mk (blk_below (g := gb224) (o := .cells #[.int .i64 t211, .slice Ao14 t212.length co14, .slice Ao15 t215.length co15, .slice Ao16 t218.length co16] 26 (0, 0)) pmAx12_10_ hb); have n10_ := Aside0.mk (below_step pmAx12_2_ hb); clear HO214; clear HO217; clear HO220; clear HO223; clear HO227; clear HO231; clear HO235; clear HO239; clear BK224; clear HB; have HO214 := n0_; have HO217 := n1_; have HO220 := n2_; have HO223 := n3_; have HO227 := n4_; have HO231 := n5_; have HO235 := n6_; have HO239 := n7_; have HO243 := n8_; have BK224 := n9_; have HB := n10_; clear n0_ n1_ n2_ n3_ n4_ n5_ n6_ n7_ n8_ n9_ n10_; clear hb ho28; obtain ⟨Ao29, co29, eo29⟩ := Kd.R_slice HO231.out; subst eo29; obtain ⟨Ao30, co30, eo30⟩ := Kd.R_slice HO243.out; subst eo30) | (go_at_call 10; (with_reducible refine (parterreref01_Ints.calls k _ _ t229 _ _ y241 true _ ?side1 ?side2 ?side3 ?side4 A8.out).mono ?_); (case side1 => repeat (first | exact (Kd.R_reads' HO231.out).2.2 | (with_reducible refine Kd.C_alloc ?_ _) | (with_reducible refine Kd.C_drewN ?_ _) | (with_reducible refine Kd.C_drew ?_))); (case side2 => exact (Kd.R_reads' HO231.out).2.1); (case side3 => repeat (first | exact (Kd.R_reads' HO243.out).2.2 | (with_reducible refine Kd.C_alloc ?_ _) | (with_reducible refine Kd.C_drewN ?_ _) | (with_reducible refine Kd.C_drew ?_))); (case side4 => exact (Kd.R_reads' HO243.out).2.1); rintro e w' ⟨rfl, ⟨nd, rfl⟩⟩) | ((with_reducible refine gate_dst (N := 45) rfl ?_); (try (refine gate_guard (by rfl) ?_; dsimp only)); refine Kd.R_lit (Kd.int .i64) _ 3 ?hg (N := 45) ?hd (xs := ([7, 25, 42] : List Int)) (inner := [.int .i64 7, .int .i64 25, .int .i64 42]) (ok := fun _ => True) (okp := fun _ => True) ?hr ?hp (fun _ hk => hk) trivial (Below.refl _ _) (Nat.le_refl _) (by simp) ?_; (case hd => rfl); (case hg => rfl); (case hr => first | (go_simp; done) | (go_simp; rfl)); (case hp => exact (Reps.one (show Kd.M (Kd.int .i64) _ _ _ 7 [.int .i64 7] from rfl) (Reps.one (show Kd.M (Kd.int .i64) _ _ _ 25 [.int .i64 25] from rfl) (Reps.one (show Kd.M (Kd.int .i64) _ _ _ 42 [.int .i64 42] from rfl) (Reps.none _ _))))); intro v246 w31 ho32 hb hg_ hnew_; clear hg_ hnew_; (first | rw [← Ny245.out] at ho32 | (simp only [Int.reduceToNat] at ho32; rw [← Ny245.out] at ho32)); have n0_ := Aside0.mk (Kd.R_below pmAx12_8_ hb); have n1_ := Aside0.mk (Kd.R_below pmAx12_9_ hb); have n2_ := Aside0.mk (Kd.R_elder' pmAx12_3_ (Kd.R_base ho32) hb); have n3_ := Aside0.mk (Kd.R_elder' pmAx12_4_ (Kd.R_base ho32) hb); have n4_ := Aside0.mk (Kd.R_elder' pmAx12_5_ (Kd.R_base ho32) hb); have n5_ := Aside0.mk (Kd.R_elder' pmAx12_6_ (Kd.R_base ho32) hb); have n6_ := Aside0.mk (Kd.R_elder' pmAx12_11_ (Kd.R_base ho32) hb); have n7_ := Aside0.mk (Kd.R_elder' pmAx12_23_ (Kd.R_base ho32) hb); have n8_ := Aside0.mk (Kd.R_elder' (by (with_reducible repeat (first | apply Kd.R_alloc | apply Kd.R_drewN | apply Kd.R_drew)); exact HO243.out) (Kd.R_base ho32) hb); have n9_ := Aside0.mk (Kd.R_lower (Kd.R_new' (Kd.R_new' (Kd.R_new' (Kd.R_new' (Kd.R_new' (Kd.R_new' (Kd.R_new' ho32 (Kd.R_lt pmAx12_3_)) (Kd.R_lt pmAx12_4_)) (Kd.R_lt pmAx12_5_)) (Kd.R_lt pmAx12_6_)) (Kd.R_lt pmAx12_11_)) (Kd.R_lt pmAx12_23_)) (Kd.R_lt (by (with_reducible repeat (first | apply Kd.R_alloc | apply Kd.R_drewN | apply Kd.R_drew)); exact HO243.out))) (below_size pmAx12_2_)); have n10_ := Aside0.mk (blk_below (g := gb224) (o := .cells #[.int .i64 t211, .slice Ao14 t212.length co14, .slice Ao15 t215.length co15, .slice Ao16 t218.length co16] 26 (0, 0)) pmAx12_10_ hb); have n11_ := Aside0.mk (below_step pmAx12_2_ hb); clear HO214; clear HO217; clear HO220; clear HO223; clear HO227; clear HO231; clear HO235; clear HO239; clear HO243; clear BK224; clear HB; have HO214 := n0_; have HO217 := n1_; have HO220 := n2_; have HO223 := n3_; have HO227 := n4_; have HO231 := n5_; have HO235 := n6_; have HO239 := n7_; have HO243 := n8_; have HO247 := n9_; have BK224 := n10_; have HB := n11_; clear n0_ n1_ n2_ n3_ n4_ n5_ n6_ n7_ n8_ n9_ n10_ n11_; clear hb ho32; obtain ⟨Ao33, co33, eo33⟩ := Kd.R_slice HO235.out; subst eo33; obtain ⟨Ao34, co34, eo34⟩ := Kd.R_slice HO247.out; subst eo34) | (go_at_call 10; (with_reducible refine (parterreref01_Ints.calls k _ _ t233 _ _ y245 t248 _ ?side1 ?side2 ?side3 ?side4 A10.out).mono ?_); (case side1 => repeat (first | exact (Kd.R_reads' HO235.out).2.2 | (with_reducible refine Kd.C_alloc ?_ _) | (with_reducible refine Kd.C_drewN ?_ _) | (with_reducible refine Kd.C_drew ?_))); (case side2 => exact (Kd.R_reads' HO235.out).2.1); (case side3 => repeat (first | exact (Kd.R_reads' HO247.out).2.2 | (with_reducible refine Kd.C_alloc ?_ _) | (with_reducible refine Kd.C_drewN ?_ _) | (with_reducible refine Kd.C_drew ?_))); (case side4 => exact (Kd.R_reads' HO247.out).2.1); rintro e w' ⟨rfl, ⟨nd, rfl⟩⟩))
  go_ret
  exact ⟨by first | rfl | (simp [errW_none, errW_some] <;> rfl) | (simp [*, errW_none, errW_some] <;> rfl), by repeat (first | (with_reducible first | exact HB.out | apply below_alloc | apply pw_below_drewN | apply below_drew1 | refine below_set ?_ GE224.out) | exact HB.out)⟩
/-! ### parterreref06_isLen: function 44 -/
def parterreref06_isLen.f (a0_0 : Int) (a0_1 : Int) : Option (Bool) := if a0_0 = 2 then (some true) else (some (a0_0 == 3))
set_option maxHeartbeats 8000000 in
set_option maxRecDepth 100000 in
theorem parterreref06_isLen.calls (a0_0 : Int) (a0_1 : Int) (r : Bool) (w : World) (h : parterreref06_isLen.f a0_0 a0_1 = some r) :
    Calls Try.prog 44 #[.agg #[.int .i64 a0_0, .int .i64 a0_1]] w fun e w' => e = .returned (.bool r) ∧ Below w.heap.size w w' := by
  have hu55 := Try.underlying55
  have HB := Aside0.mk (Below.refl w.heap.size w)
  have H : (if a0_0 = 2 then (some true) else (some (a0_0 == 3))) = some r := h
  clear h
  by_cases c2 : a0_0 = 2
  rotate_left
  · rw [if_neg c2] at H
    have c2b0 : (a0_0 == 2) = false := beq_eq_false_iff_ne.mpr c2
    have c2b1 : (a0_0 != 2) = true := bne_iff_ne.mpr c2
    obtain rfl := Option.some.inj H
    go_enter Try.func44, Try.ntmps44
    go_wp2_with (first | ((with_reducible refine gate_dst (N := 1) rfl ?_); refine box_event ?hg (N := 1) ?hd (cs := #[.int .i64 a0_0, .int .i64 a0_1]) (t := 55) ?hr ?_; (case hd => rfl); (case hg => rfl); (case hr => first | (go_simp; done) | (go_simp; rfl)); intro gb249 hg w5 hbox hb; have n0_ := Aside0.mk (below_step pmAx12_0_ hb); have n1_ := Aside0.mk (hbox); have n2_ := Aside0.mk ((pmAx12_7_ : w.heap.size ≤ gb249)); have n3_ := Aside0.mk ((pmAx12_7_ : w.heap.size ≤ gb249)); clear HB; have HB := n0_; have BK249 := n1_; have GW249 := n2_; have GE249 := n3_; clear n0_ n1_ n2_ n3_; clear hb hbox hg; have hcz6_0 : w5.cell? ⟨gb249, 0, none⟩ = some (.int .i64 a0_0) := (blk_cell BK249.out 0).trans rfl; have hcz6_1 : w5.cell? ⟨gb249, 1, none⟩ = some (.int .i64 a0_1) := (blk_cell BK249.out 1).trans rfl; have hfz6_0 := blk_frozen BK249.out 0; have hfz6_1 := blk_frozen BK249.out 1))
    go_ret
    exact ⟨by first | rfl | (simp [errW_none, errW_some] <;> rfl) | (simp [*, errW_none, errW_some] <;> rfl), by repeat (first | (with_reducible first | exact HB.out | apply below_alloc | apply pw_below_drewN | apply below_drew1 | refine below_set ?_ GE249.out) | exact HB.out)⟩

  rw [if_pos c2] at H
  have c2b0 : (a0_0 == 2) = true := beq_iff_eq.mpr c2
  have c2b1 : (a0_0 != 2) = false := bne_eq_false_iff_eq.mpr c2
  clear c2
  obtain rfl := Option.some.inj H
  go_enter Try.func44, Try.ntmps44
  go_wp2_with (first | ((with_reducible refine gate_dst (N := 1) rfl ?_); refine box_event ?hg (N := 1) ?hd (cs := #[.int .i64 a0_0, .int .i64 a0_1]) (t := 55) ?hr ?_; (case hd => rfl); (case hg => rfl); (case hr => first | (go_simp; done) | (go_simp; rfl)); intro gb249 hg w3 hbox hb; have n0_ := Aside0.mk (below_step pmAx12_0_ hb); have n1_ := Aside0.mk (hbox); have n2_ := Aside0.mk ((pmAx12_7_ : w.heap.size ≤ gb249)); have n3_ := Aside0.mk ((pmAx12_7_ : w.heap.size ≤ gb249)); clear HB; have HB := n0_; have BK249 := n1_; have GW249 := n2_; have GE249 := n3_; clear n0_ n1_ n2_ n3_; clear hb hbox hg; have hcz4_0 : w3.cell? ⟨gb249, 0, none⟩ = some (.int .i64 a0_0) := (blk_cell BK249.out 0).trans rfl; have hcz4_1 : w3.cell? ⟨gb249, 1, none⟩ = some (.int .i64 a0_1) := (blk_cell BK249.out 1).trans rfl; have hfz4_0 := blk_frozen BK249.out 0; have hfz4_1 := blk_frozen BK249.out 1))
  go_ret
  exact ⟨by first | rfl | (simp [errW_none, errW_some] <;> rfl) | (simp [*, errW_none, errW_some] <;> rfl), by repeat (first | (with_reducible first | exact HB.out | apply below_alloc | apply pw_below_drewN | apply below_drew1 | refine below_set ?_ GE249.out) | exact HB.out)⟩
/-! ### parterreref05_bits: function 50 -/
def parterreref05_bits.f (a0 : Int) : Option (Int) := some (wrap64 (Int.tmod (IntKind.u64.wrap (a0)) 64))
set_option maxHeartbeats 8000000 in
set_option maxRecDepth 100000 in
theorem parterreref05_bits.calls (a0 : Int) (r : Int) (w : World) (h : parterreref05_bits.f a0 = some r) :
    Calls Try.prog 50 #[.int .i64 a0] w fun e w' => e = .returned (.int .i64 r) ∧ Drawn0 w w' := by
  have H : (some (wrap64 (Int.tmod (IntKind.u64.wrap (a0)) 64))) = some r := h
  clear h
  obtain rfl := Option.some.inj H
  go_enter Try.func50, Try.ntmps50
  go_wp2
  go_ret
  exact ⟨by first | rfl | (simp; done) | (simp [*]; done), by repeat (first | exact Drawn0.refl _ | apply Drawn0.step)⟩

/-! ### parterreref05_Has: function 51 -/
def parterreref05_Has.f (a0 : Int) (a1 : Int) : Option (Bool) := if a1 = 0 then (none) else (some ((Int.tmod (wrap64 (Int.tdiv a0 a1)) 2) == 1))
set_option maxHeartbeats 8000000 in
set_option maxRecDepth 100000 in
theorem parterreref05_Has.calls (a0 : Int) (a1 : Int) (r : Bool) (w : World) (h : parterreref05_Has.f a0 a1 = some r) :
    Calls Try.prog 51 #[.int .i64 a0, .int .i64 a1] w fun e w' => e = .returned (.bool r) ∧ Drawn0 w w' := by
  have H : (if a1 = 0 then (none) else (some ((Int.tmod (wrap64 (Int.tdiv a0 a1)) 2) == 1))) = some r := h
  clear h
  by_cases c3 : a1 = 0
  · rw [if_pos c3] at H
    exact absurd H (by simp)
  rw [if_neg c3] at H
  have c3b0 : (a1 == 0) = false := beq_eq_false_iff_ne.mpr c3
  have c3b1 : (a1 != 0) = true := bne_iff_ne.mpr c3
  obtain rfl := Option.some.inj H
  go_enter Try.func51, Try.ntmps51
  go_wp2
  go_ret
  exact ⟨by first | rfl | (simp; done) | (simp [*]; done), by repeat (first | exact Drawn0.refl _ | apply Drawn0.step)⟩

/-! ### parterreref05_Good: function 45 -/
def parterreref05_Good.j0 : Nat → Int → Int → Bool → Int → Int → Option (Bool)
  | 0, _, _, _, _, _ => none
  | k + 1, x5, x10, x50, x251000, x251001 => if x50 = true then ((parterreref05_Has.f x5 8).bind fun t257 => (if t257 = true then (some (x251001 == 0)) else (some false))) else (if x10 = 6 then ((parterreref05_Has.f x5 16).bind fun t258 => (if t258 = true then (if x251001 ≥ 0 then (some (decide (x251001 ≤ 1073741824))) else (some false)) else (some false))) else (if x10 = 7 then ((parterreref05_Has.f x5 32).bind fun t259 => (if t259 = true then (some (x251001 == 0)) else (some false))) else (some false)))
def parterreref05_Good.f (k : Nat) (a0_0 : Int) (a0_1 : Int) (a1 : Int) : Option (Bool) := (parterreref05_bits.f a1).bind fun t251 => (if a0_0 = 2 then ((parterreref05_Has.f t251 2).bind fun t252 => (if t252 = true then (if a0_1 ≥ (-68719476736) then (some (decide (a0_1 ≤ 68719476736))) else (some false)) else (if a0_1 ≥ 0 then (some (decide (a0_1 ≤ 68719476736))) else (some false)))) else (if a0_0 = 3 then ((parterreref05_Has.f t251 2).bind fun t253 => (if t253 = true then ((parterreref05_Has.f t251 1).bind fun t254 => (if t254 = true then (if a0_1 ≥ (-1073741824) then (some (decide (a0_1 ≤ 1073741824))) else (some false)) else (some false))) else ((parterreref05_Has.f t251 1).bind fun t255 => (if t255 = true then (if a0_1 ≥ 0 then (some (decide (a0_1 ≤ 1073741824))) else (some false)) else (some false))))) else (if a0_0 = 1 then ((parterreref05_Has.f t251 4).bind fun t256 => (if t256 = true then (some (a0_1 == 0)) else (some false))) else (if a0_0 = 4 then (parterreref05_Good.j0 k t251 a0_0 (a0_0 == 4) a0_0 a0_1) else (parterreref05_Good.j0 k t251 a0_0 (a0_0 == 5) a0_0 a0_1)))))
theorem parterreref05_Good.mono_l : ∀ k, (∀ y0 y1 y2 y3 y4, LeO (parterreref05_Good.j0 k y0 y1 y2 y3 y4) (parterreref05_Good.j0 (k + 1) y0 y1 y2 y3 y4))
  | 0 => fun _ _ _ _ _ r h => by simp [parterreref05_Good.j0] at h
  | k + 1 => by
    have ih0 := parterreref05_Good.mono_l k
    · intro y0 y1 y2 y3 y4
      unfold parterreref05_Good.j0
      repeat' first
      | (with_reducible exact ih0 _ _ _ _ _)
      | (with_reducible exact LeO.refl _)
      | (with_reducible exact LeO.none _)
      | (with_reducible refine LeO.ite ?_ ?_)
      | (with_reducible refine LeO.bind ?_ (fun _ => ?_))
      | exact ih0 _ _ _ _ _
      | exact LeO.none _
      | refine LeO.ite ?_ ?_
      | refine LeO.bind ?_ (fun _ => ?_)
theorem parterreref05_Good.mono : ∀ a0 a1 a2 k, LeO (parterreref05_Good.f k a0 a1 a2) (parterreref05_Good.f (k + 1) a0 a1 a2) := by
  intro a0 a1 a2 k
  have ih0 := parterreref05_Good.mono_l k
  unfold parterreref05_Good.f
  repeat' first
      | (with_reducible exact ih0 _ _ _ _ _)
      | (with_reducible exact LeO.refl _)
      | (with_reducible exact LeO.none _)
      | (with_reducible refine LeO.ite ?_ ?_)
      | (with_reducible refine LeO.bind ?_ (fun _ => ?_))
      | exact ih0 _ _ _ _ _
      | exact LeO.none _
      | refine LeO.ite ?_ ?_
      | refine LeO.bind ?_ (fun _ => ?_)
set_option maxHeartbeats 8000000 in
set_option maxRecDepth 100000 in
theorem parterreref05_Good.calls (k : Nat) (a0_0 : Int) (a0_1 : Int) (a1 : Int) (r : Bool) (w : World) (h : parterreref05_Good.f k a0_0 a0_1 a1 = some r) :
    Calls Try.prog 45 #[.agg #[.int .i64 a0_0, .int .i64 a0_1], .int .i64 a1] w fun e w' => e = .returned (.bool r) ∧ Below w.heap.size w w' := by
  have hu55 := Try.underlying55
  have HB := Aside0.mk (Below.refl w.heap.size w)
  have H : ((parterreref05_bits.f a1).bind fun t251 => (if a0_0 = 2 then ((parterreref05_Has.f t251 2).bind fun t252 => (if t252 = true then (if a0_1 ≥ (-68719476736) then (some (decide (a0_1 ≤ 68719476736))) else (some false)) else (if a0_1 ≥ 0 then (some (decide (a0_1 ≤ 68719476736))) else (some false)))) else (if a0_0 = 3 then ((parterreref05_Has.f t251 2).bind fun t253 => (if t253 = true then ((parterreref05_Has.f t251 1).bind fun t254 => (if t254 = true then (if a0_1 ≥ (-1073741824) then (some (decide (a0_1 ≤ 1073741824))) else (some false)) else (some false))) else ((parterreref05_Has.f t251 1).bind fun t255 => (if t255 = true then (if a0_1 ≥ 0 then (some (decide (a0_1 ≤ 1073741824))) else (some false)) else (some false))))) else (if a0_0 = 1 then ((parterreref05_Has.f t251 4).bind fun t256 => (if t256 = true then (some (a0_1 == 0)) else (some false))) else (if a0_0 = 4 then (parterreref05_Good.j0 k t251 a0_0 (a0_0 == 4) a0_0 a0_1) else (parterreref05_Good.j0 k t251 a0_0 (a0_0 == 5) a0_0 a0_1)))))) = some r := h
  clear h
  replace H := Option.bind_eq_some_iff.mp H
  obtain ⟨t251, A30, H⟩ := H
  replace H : (if a0_0 = 2 then ((parterreref05_Has.f t251 2).bind fun t252 => (if t252 = true then (if a0_1 ≥ (-68719476736) then (some (decide (a0_1 ≤ 68719476736))) else (some false)) else (if a0_1 ≥ 0 then (some (decide (a0_1 ≤ 68719476736))) else (some false)))) else (if a0_0 = 3 then ((parterreref05_Has.f t251 2).bind fun t253 => (if t253 = true then ((parterreref05_Has.f t251 1).bind fun t254 => (if t254 = true then (if a0_1 ≥ (-1073741824) then (some (decide (a0_1 ≤ 1073741824))) else (some false)) else (some false))) else ((parterreref05_Has.f t251 1).bind fun t255 => (if t255 = true then (if a0_1 ≥ 0 then (some (decide (a0_1 ≤ 1073741824))) else (some false)) else (some false))))) else (if a0_0 = 1 then ((parterreref05_Has.f t251 4).bind fun t256 => (if t256 = true then (some (a0_1 == 0)) else (some false))) else (if a0_0 = 4 then (parterreref05_Good.j0 k t251 a0_0 (a0_0 == 4) a0_0 a0_1) else (parterreref05_Good.j0 k t251 a0_0 (a0_0 == 5) a0_0 a0_1))))) = some r := H
  have A3 := Aside0.mk A30
  clear A30
  by_cases c4 : a0_0 = 2
  · rw [if_pos c4] at H
    have c4b0 : (a0_0 == 2) = true := beq_iff_eq.mpr c4
    have c4b1 : (a0_0 != 2) = false := bne_eq_false_iff_eq.mpr c4
    clear c4
    replace H := Option.bind_eq_some_iff.mp H
    obtain ⟨t252, A50, H⟩ := H
    replace H : (if t252 = true then (if a0_1 ≥ (-68719476736) then (some (decide (a0_1 ≤ 68719476736))) else (some false)) else (if a0_1 ≥ 0 then (some (decide (a0_1 ≤ 68719476736))) else (some false))) = some r := H
    have A5 := Aside0.mk A50
    clear A50
    by_cases c6 : t252 = true
    · subst c6
      have H1 : (if a0_1 ≥ (-68719476736) then (some (decide (a0_1 ≤ 68719476736))) else (some false)) = some r := by rw [if_pos rfl] at H; exact H
      clear H
      have H := H1
      clear H1
      by_cases c7 : a0_1 ≥ (-68719476736)
      rotate_left
      · rw [if_neg c7] at H
        have c7b0 : decide ((-68719476736) ≤ a0_1) = false := decide_eq_false c7
        clear c7
        obtain rfl := Option.some.inj H
        go_enter Try.func45, Try.ntmps45
        go_wp2_with (first | ((with_reducible refine gate_dst (N := 2) rfl ?_); refine box_event ?hg (N := 2) ?hd (cs := #[.int .i64 a0_0, .int .i64 a0_1]) (t := 55) ?hr ?_; (case hd => rfl); (case hg => rfl); (case hr => first | (go_simp; done) | (go_simp; rfl)); intro gb250 hg w10 hbox hb; have n0_ := Aside0.mk (below_step pmAx12_0_ hb); have n1_ := Aside0.mk (hbox); have n2_ := Aside0.mk ((pmAx12_7_ : w.heap.size ≤ gb250)); have n3_ := Aside0.mk ((pmAx12_7_ : w.heap.size ≤ gb250)); clear HB; have HB := n0_; have BK250 := n1_; have GW250 := n2_; have GE250 := n3_; clear n0_ n1_ n2_ n3_; clear hb hbox hg) | ((with_reducible refine gate_callee (f := 50) rfl ?_); refine goesL_ (some 8) rfl rfl Try.func50 pmAx12_22_ rfl #[.int .i64 a1] rfl pmAx12_1_ ?_; (with_reducible refine (parterreref05_bits.calls a1 t251 _ A3.out).mono ?_); rintro e w' ⟨rfl, ⟨nd, rfl⟩⟩; refine ⟨_, rfl, ?_⟩; have hcz11_0 : w10.cell? ⟨gb250, 0, none⟩ = some (.int .i64 a0_0) := (blk_cell BK250.out 0).trans rfl; have hcz11_1 : w10.cell? ⟨gb250, 1, none⟩ = some (.int .i64 a0_1) := (blk_cell BK250.out 1).trans rfl; have hfz11_0 := blk_frozen BK250.out 0; have hfz11_1 := blk_frozen BK250.out 1) | ((with_reducible refine gate_callee (f := 51) rfl ?_); refine goesL_ (some 14) rfl rfl Try.func51 pmAx12_22_ rfl #[.int .i64 t251, .int .i64 2] rfl pmAx12_1_ ?_; (with_reducible refine (parterreref05_Has.calls t251 2 true _ A5.out).mono ?_); rintro e w' ⟨rfl, ⟨nd, rfl⟩⟩; refine ⟨_, rfl, ?_⟩))
        go_ret
        exact ⟨by first | rfl | (simp [errW_none, errW_some] <;> rfl) | (simp [*, errW_none, errW_some] <;> rfl), by repeat (first | (with_reducible first | exact HB.out | apply below_alloc | apply pw_below_drewN | apply below_drew1 | refine below_set ?_ GE250.out) | exact HB.out)⟩
      rw [if_pos c7] at H
      have c7b0 : decide ((-68719476736) ≤ a0_1) = true := decide_eq_true c7
      clear c7
      obtain rfl := Option.some.inj H
      go_enter Try.func45, Try.ntmps45
      go_wp2_with (first | ((with_reducible refine gate_dst (N := 2) rfl ?_); refine box_event ?hg (N := 2) ?hd (cs := #[.int .i64 a0_0, .int .i64 a0_1]) (t := 55) ?hr ?_; (case hd => rfl); (case hg => rfl); (case hr => first | (go_simp; done) | (go_simp; rfl)); intro gb250 hg w8 hbox hb; have n0_ := Aside0.mk (below_step pmAx12_0_ hb); have n1_ := Aside0.mk (hbox); have n2_ := Aside0.mk ((pmAx12_7_ : w.heap.size ≤ gb250)); have n3_ := Aside0.mk ((pmAx12_7_ : w.heap.size ≤ gb250)); clear HB; have HB := n0_; have BK250 := n1_; have GW250 := n2_; have GE250 := n3_; clear n0_ n1_ n2_ n3_; clear hb hbox hg) | ((with_reducible refine gate_callee (f := 50) rfl ?_); refine goesL_ (some 8) rfl rfl Try.func50 pmAx12_22_ rfl #[.int .i64 a1] rfl pmAx12_1_ ?_; (with_reducible refine (parterreref05_bits.calls a1 t251 _ A3.out).mono ?_); rintro e w' ⟨rfl, ⟨nd, rfl⟩⟩; refine ⟨_, rfl, ?_⟩; have hcz9_0 : w8.cell? ⟨gb250, 0, none⟩ = some (.int .i64 a0_0) := (blk_cell BK250.out 0).trans rfl; have hcz9_1 : w8.cell? ⟨gb250, 1, none⟩ = some (.int .i64 a0_1) := (blk_cell BK250.out 1).trans rfl; have hfz9_0 := blk_frozen BK250.out 0; have hfz9_1 := blk_frozen BK250.out 1) | ((with_reducible refine gate_callee (f := 51) rfl ?_); refine goesL_ (some 14) rfl rfl Try.func51 pmAx12_22_ rfl #[.int .i64 t251, .int .i64 2] rfl pmAx12_1_ ?_; (with_reducible refine (parterreref05_Has.calls t251 2 true _ A5.out).mono ?_); rintro e w' ⟨rfl, ⟨nd, rfl⟩⟩; refine ⟨_, rfl, ?_⟩))
      go_ret
      exact ⟨by first | rfl | (simp [errW_none, errW_some] <;> rfl) | (simp [*, errW_none, errW_some] <;> rfl), by repeat (first | (with_reducible first | exact HB.out | apply below_alloc | apply pw_below_drewN | apply below_drew1 | refine below_set ?_ GE250.out) | exact HB.out)⟩
    replace c6 := Bool.eq_false_iff.mpr c6
    subst c6
    have H1 : (if a0_1 ≥ 0 then (some (decide (a0_1 ≤ 68719476736))) else (some false)) = some r := by rw [if_neg (show ¬ (false = true) by decide)] at H; exact H
    clear H
    have H := H1
    clear H1
    by_cases c12 : a0_1 ≥ 0
    rotate_left
    · rw [if_neg c12] at H
      have c12b0 : decide (0 ≤ a0_1) = false := decide_eq_false c12
      clear c12
      obtain rfl := Option.some.inj H
      go_enter Try.func45, Try.ntmps45
      go_wp2_with (first | ((with_reducible refine gate_dst (N := 2) rfl ?_); refine box_event ?hg (N := 2) ?hd (cs := #[.int .i64 a0_0, .int .i64 a0_1]) (t := 55) ?hr ?_; (case hd => rfl); (case hg => rfl); (case hr => first | (go_simp; done) | (go_simp; rfl)); intro gb250 hg w15 hbox hb; have n0_ := Aside0.mk (below_step pmAx12_0_ hb); have n1_ := Aside0.mk (hbox); have n2_ := Aside0.mk ((pmAx12_7_ : w.heap.size ≤ gb250)); have n3_ := Aside0.mk ((pmAx12_7_ : w.heap.size ≤ gb250)); clear HB; have HB := n0_; have BK250 := n1_; have GW250 := n2_; have GE250 := n3_; clear n0_ n1_ n2_ n3_; clear hb hbox hg) | ((with_reducible refine gate_callee (f := 50) rfl ?_); refine goesL_ (some 8) rfl rfl Try.func50 pmAx12_22_ rfl #[.int .i64 a1] rfl pmAx12_1_ ?_; (with_reducible refine (parterreref05_bits.calls a1 t251 _ A3.out).mono ?_); rintro e w' ⟨rfl, ⟨nd, rfl⟩⟩; refine ⟨_, rfl, ?_⟩; have hcz16_0 : w15.cell? ⟨gb250, 0, none⟩ = some (.int .i64 a0_0) := (blk_cell BK250.out 0).trans rfl; have hcz16_1 : w15.cell? ⟨gb250, 1, none⟩ = some (.int .i64 a0_1) := (blk_cell BK250.out 1).trans rfl; have hfz16_0 := blk_frozen BK250.out 0; have hfz16_1 := blk_frozen BK250.out 1) | ((with_reducible refine gate_callee (f := 51) rfl ?_); refine goesL_ (some 14) rfl rfl Try.func51 pmAx12_22_ rfl #[.int .i64 t251, .int .i64 2] rfl pmAx12_1_ ?_; (with_reducible refine (parterreref05_Has.calls t251 2 false _ A5.out).mono ?_); rintro e w' ⟨rfl, ⟨nd, rfl⟩⟩; refine ⟨_, rfl, ?_⟩))
      go_ret
      exact ⟨by first | rfl | (simp [errW_none, errW_some] <;> rfl) | (simp [*, errW_none, errW_some] <;> rfl), by repeat (first | (with_reducible first | exact HB.out | apply below_alloc | apply pw_below_drewN | apply below_drew1 | refine below_set ?_ GE250.out) | exact HB.out)⟩
    rw [if_pos c12] at H
    have c12b0 : decide (0 ≤ a0_1) = true := decide_eq_true c12
    clear c12
    obtain rfl := Option.some.inj H
    go_enter Try.func45, Try.ntmps45
    go_wp2_with (first | ((with_reducible refine gate_dst (N := 2) rfl ?_); refine box_event ?hg (N := 2) ?hd (cs := #[.int .i64 a0_0, .int .i64 a0_1]) (t := 55) ?hr ?_; (case hd => rfl); (case hg => rfl); (case hr => first | (go_simp; done) | (go_simp; rfl)); intro gb250 hg w13 hbox hb; have n0_ := Aside0.mk (below_step pmAx12_0_ hb); have n1_ := Aside0.mk (hbox); have n2_ := Aside0.mk ((pmAx12_7_ : w.heap.size ≤ gb250)); have n3_ := Aside0.mk ((pmAx12_7_ : w.heap.size ≤ gb250)); clear HB; have HB := n0_; have BK250 := n1_; have GW250 := n2_; have GE250 := n3_; clear n0_ n1_ n2_ n3_; clear hb hbox hg) | ((with_reducible refine gate_callee (f := 50) rfl ?_); refine goesL_ (some 8) rfl rfl Try.func50 pmAx12_22_ rfl #[.int .i64 a1] rfl pmAx12_1_ ?_; (with_reducible refine (parterreref05_bits.calls a1 t251 _ A3.out).mono ?_); rintro e w' ⟨rfl, ⟨nd, rfl⟩⟩; refine ⟨_, rfl, ?_⟩; have hcz14_0 : w13.cell? ⟨gb250, 0, none⟩ = some (.int .i64 a0_0) := (blk_cell BK250.out 0).trans rfl; have hcz14_1 : w13.cell? ⟨gb250, 1, none⟩ = some (.int .i64 a0_1) := (blk_cell BK250.out 1).trans rfl; have hfz14_0 := blk_frozen BK250.out 0; have hfz14_1 := blk_frozen BK250.out 1) | ((with_reducible refine gate_callee (f := 51) rfl ?_); refine goesL_ (some 14) rfl rfl Try.func51 pmAx12_22_ rfl #[.int .i64 t251, .int .i64 2] rfl pmAx12_1_ ?_; (with_reducible refine (parterreref05_Has.calls t251 2 false _ A5.out).mono ?_); rintro e w' ⟨rfl, ⟨nd, rfl⟩⟩; refine ⟨_, rfl, ?_⟩))
    go_ret
    exact ⟨by first | rfl | (simp [errW_none, errW_some] <;> rfl) | (simp [*, errW_none, errW_some] <;> rfl), by repeat (first | (with_reducible first | exact HB.out | apply below_alloc | apply pw_below_drewN | apply below_drew1 | refine below_set ?_ GE250.out) | exact HB.out)⟩
  rw [if_neg c4] at H
  have c4b0 : (a0_0 == 2) = false := beq_eq_false_iff_ne.mpr c4
  have c4b1 : (a0_0 != 2) = true := bne_iff_ne.mpr c4
  by_cases c17 : a0_0 = 3
  · rw [if_pos c17] at H
    have c17b0 : (a0_0 == 3) = true := beq_iff_eq.mpr c17
    have c17b1 : (a0_0 != 3) = false := bne_eq_false_iff_eq.mpr c17
    clear c17
    replace H := Option.bind_eq_some_iff.mp H
    obtain ⟨t253, A180, H⟩ := H
    replace H : (if t253 = true then ((parterreref05_Has.f t251 1).bind fun t254 => (if t254 = true then (if a0_1 ≥ (-1073741824) then (some (decide (a0_1 ≤ 1073741824))) else (some false)) else (some false))) else ((parterreref05_Has.f t251 1).bind fun t255 => (if t255 = true then (if a0_1 ≥ 0 then (some (decide (a0_1 ≤ 1073741824))) else (some false)) else (some false)))) = some r := H
    have A18 := Aside0.mk A180
    clear A180
    by_cases c19 : t253 = true
    · subst c19
      have H1 : ((parterreref05_Has.f t251 1).bind fun t254 => (if t254 = true then (if a0_1 ≥ (-1073741824) then (some (decide (a0_1 ≤ 1073741824))) else (some false)) else (some false))) = some r := by rw [if_pos rfl] at H; exact H
      clear H
      have H := H1
      clear H1
      replace H := Option.bind_eq_some_iff.mp H
      obtain ⟨t254, A200, H⟩ := H
      replace H : (if t254 = true then (if a0_1 ≥ (-1073741824) then (some (decide (a0_1 ≤ 1073741824))) else (some false)) else (some false)) = some r := H
      have A20 := Aside0.mk A200
      clear A200
      by_cases c21 : t254 = true
      rotate_left
      · replace c21 := Bool.eq_false_iff.mpr c21
        subst c21
        have H1 : (some false) = some r := by rw [if_neg (show ¬ (false = true) by decide)] at H; exact H
        clear H
        have H := H1
        clear H1
        obtain rfl := Option.some.inj H
        go_enter Try.func45, Try.ntmps45
        go_wp2_with (first | ((with_reducible refine gate_dst (N := 2) rfl ?_); refine box_event ?hg (N := 2) ?hd (cs := #[.int .i64 a0_0, .int .i64 a0_1]) (t := 55) ?hr ?_; (case hd => rfl); (case hg => rfl); (case hr => first | (go_simp; done) | (go_simp; rfl)); intro gb250 hg w27 hbox hb; have n0_ := Aside0.mk (below_step pmAx12_0_ hb); have n1_ := Aside0.mk (hbox); have n2_ := Aside0.mk ((pmAx12_7_ : w.heap.size ≤ gb250)); have n3_ := Aside0.mk ((pmAx12_7_ : w.heap.size ≤ gb250)); clear HB; have HB := n0_; have BK250 := n1_; have GW250 := n2_; have GE250 := n3_; clear n0_ n1_ n2_ n3_; clear hb hbox hg) | ((with_reducible refine gate_callee (f := 50) rfl ?_); refine goesL_ (some 8) rfl rfl Try.func50 pmAx12_22_ rfl #[.int .i64 a1] rfl pmAx12_1_ ?_; (with_reducible refine (parterreref05_bits.calls a1 t251 _ A3.out).mono ?_); rintro e w' ⟨rfl, ⟨nd, rfl⟩⟩; refine ⟨_, rfl, ?_⟩; have hcz28_0 : w27.cell? ⟨gb250, 0, none⟩ = some (.int .i64 a0_0) := (blk_cell BK250.out 0).trans rfl; have hcz28_1 : w27.cell? ⟨gb250, 1, none⟩ = some (.int .i64 a0_1) := (blk_cell BK250.out 1).trans rfl; have hfz28_0 := blk_frozen BK250.out 0; have hfz28_1 := blk_frozen BK250.out 1) | ((with_reducible refine gate_callee (f := 51) rfl ?_); refine goesL_ (some 27) rfl rfl Try.func51 pmAx12_22_ rfl #[.int .i64 t251, .int .i64 2] rfl pmAx12_1_ ?_; (with_reducible refine (parterreref05_Has.calls t251 2 true _ A18.out).mono ?_); rintro e w' ⟨rfl, ⟨nd, rfl⟩⟩; refine ⟨_, rfl, ?_⟩) | ((with_reducible refine gate_callee (f := 51) rfl ?_); refine goesL_ (some 29) rfl rfl Try.func51 pmAx12_22_ rfl #[.int .i64 t251, .int .i64 1] rfl pmAx12_1_ ?_; (with_reducible refine (parterreref05_Has.calls t251 1 false _ A20.out).mono ?_); rintro e w' ⟨rfl, ⟨nd, rfl⟩⟩; refine ⟨_, rfl, ?_⟩))
        go_ret
        exact ⟨by first | rfl | (simp [errW_none, errW_some] <;> rfl) | (simp [*, errW_none, errW_some] <;> rfl), by repeat (first | (with_reducible first | exact HB.out | apply below_alloc | apply pw_below_drewN | apply below_drew1 | refine below_set ?_ GE250.out) | exact HB.out)⟩
      subst c21
      have H1 : (if a0_1 ≥ (-1073741824) then (some (decide (a0_1 ≤ 1073741824))) else (some false)) = some r := by rw [if_pos rfl] at H; exact H
      clear H
      have H := H1
      clear H1
      by_cases c22 : a0_1 ≥ (-1073741824)
      rotate_left
      · rw [if_neg c22] at H
        have c22b0 : decide ((-1073741824) ≤ a0_1) = false := decide_eq_false c22
        clear c22
        obtain rfl := Option.some.inj H
        go_enter Try.func45, Try.ntmps45
        go_wp2_with (first | ((with_reducible refine gate_dst (N := 2) rfl ?_); refine box_event ?hg (N := 2) ?hd (cs := #[.int .i64 a0_0, .int .i64 a0_1]) (t := 55) ?hr ?_; (case hd => rfl); (case hg => rfl); (case hr => first | (go_simp; done) | (go_simp; rfl)); intro gb250 hg w25 hbox hb; have n0_ := Aside0.mk (below_step pmAx12_0_ hb); have n1_ := Aside0.mk (hbox); have n2_ := Aside0.mk ((pmAx12_7_ : w.heap.size ≤ gb250)); have n3_ := Aside0.mk ((pmAx12_7_ : w.heap.size ≤ gb250)); clear HB; have HB := n0_; have BK250 := n1_; have GW250 := n2_; have GE250 := n3_; clear n0_ n1_ n2_ n3_; clear hb hbox hg) | ((with_reducible refine gate_callee (f := 50) rfl ?_); refine goesL_ (some 8) rfl rfl Try.func50 pmAx12_22_ rfl #[.int .i64 a1] rfl pmAx12_1_ ?_; (with_reducible refine (parterreref05_bits.calls a1 t251 _ A3.out).mono ?_); rintro e w' ⟨rfl, ⟨nd, rfl⟩⟩; refine ⟨_, rfl, ?_⟩; have hcz26_0 : w25.cell? ⟨gb250, 0, none⟩ = some (.int .i64 a0_0) := (blk_cell BK250.out 0).trans rfl; have hcz26_1 : w25.cell? ⟨gb250, 1, none⟩ = some (.int .i64 a0_1) := (blk_cell BK250.out 1).trans rfl; have hfz26_0 := blk_frozen BK250.out 0; have hfz26_1 := blk_frozen BK250.out 1) | ((with_reducible refine gate_callee (f := 51) rfl ?_); refine goesL_ (some 27) rfl rfl Try.func51 pmAx12_22_ rfl #[.int .i64 t251, .int .i64 2] rfl pmAx12_1_ ?_; (with_reducible refine (parterreref05_Has.calls t251 2 true _ A18.out).mono ?_); rintro e w' ⟨rfl, ⟨nd, rfl⟩⟩; refine ⟨_, rfl, ?_⟩) | ((with_reducible refine gate_callee (f := 51) rfl ?_); refine goesL_ (some 29) rfl rfl Try.func51 pmAx12_22_ rfl #[.int .i64 t251, .int .i64 1] rfl pmAx12_1_ ?_; (with_reducible refine (parterreref05_Has.calls t251 1 true _ A20.out).mono ?_); rintro e w' ⟨rfl, ⟨nd, rfl⟩⟩; refine ⟨_, rfl, ?_⟩))
        go_ret
        exact ⟨by first | rfl | (simp [errW_none, errW_some] <;> rfl) | (simp [*, errW_none, errW_some] <;> rfl), by repeat (first | (with_reducible first | exact HB.out | apply below_alloc | apply pw_below_drewN | apply below_drew1 | refine below_set ?_ GE250.out) | exact HB.out)⟩
      rw [if_pos c22] at H
      have c22b0 : decide ((-1073741824) ≤ a0_1) = true := decide_eq_true c22
      clear c22
      obtain rfl := Option.some.inj H
      go_enter Try.func45, Try.ntmps45
      go_wp2_with (first | ((with_reducible refine gate_dst (N := 2) rfl ?_); refine box_event ?hg (N := 2) ?hd (cs := #[.int .i64 a0_0, .int .i64 a0_1]) (t := 55) ?hr ?_; (case hd => rfl); (case hg => rfl); (case hr => first | (go_simp; done) | (go_simp; rfl)); intro gb250 hg w23 hbox hb; have n0_ := Aside0.mk (below_step pmAx12_0_ hb); have n1_ := Aside0.mk (hbox); have n2_ := Aside0.mk ((pmAx12_7_ : w.heap.size ≤ gb250)); have n3_ := Aside0.mk ((pmAx12_7_ : w.heap.size ≤ gb250)); clear HB; have HB := n0_; have BK250 := n1_; have GW250 := n2_; have GE250 := n3_; clear n0_ n1_ n2_ n3_; clear hb hbox hg) | ((with_reducible refine gate_callee (f := 50) rfl ?_); refine goesL_ (some 8) rfl rfl Try.func50 pmAx12_22_ rfl #[.int .i64 a1] rfl pmAx12_1_ ?_; (with_reducible refine (parterreref05_bits.calls a1 t251 _ A3.out).mono ?_); rintro e w' ⟨rfl, ⟨nd, rfl⟩⟩; refine ⟨_, rfl, ?_⟩; have hcz24_0 : w23.cell? ⟨gb250, 0, none⟩ = some (.int .i64 a0_0) := (blk_cell BK250.out 0).trans rfl; have hcz24_1 : w23.cell? ⟨gb250, 1, none⟩ = some (.int .i64 a0_1) := (blk_cell BK250.out 1).trans rfl; have hfz24_0 := blk_frozen BK250.out 0; have hfz24_1 := blk_frozen BK250.out 1) | ((with_reducible refine gate_callee (f := 51) rfl ?_); refine goesL_ (some 27) rfl rfl Try.func51 pmAx12_22_ rfl #[.int .i64 t251, .int .i64 2] rfl pmAx12_1_ ?_; (with_reducible refine (parterreref05_Has.calls t251 2 true _ A18.out).mono ?_); rintro e w' ⟨rfl, ⟨nd, rfl⟩⟩; refine ⟨_, rfl, ?_⟩) | ((with_reducible refine gate_callee (f := 51) rfl ?_); refine goesL_ (some 29) rfl rfl Try.func51 pmAx12_22_ rfl #[.int .i64 t251, .int .i64 1] rfl pmAx12_1_ ?_; (with_reducible refine (parterreref05_Has.calls t251 1 true _ A20.out).mono ?_); rintro e w' ⟨rfl, ⟨nd, rfl⟩⟩; refine ⟨_, rfl, ?_⟩))
      go_ret
      exact ⟨by first | rfl | (simp [errW_none, errW_some] <;> rfl) | (simp [*, errW_none, errW_some] <;> rfl), by repeat (first | (with_reducible first | exact HB.out | apply below_alloc | apply pw_below_drewN | apply below_drew1 | refine below_set ?_ GE250.out) | exact HB.out)⟩
    replace c19 := Bool.eq_false_iff.mpr c19
    subst c19
    have H1 : ((parterreref05_Has.f t251 1).bind fun t255 => (if t255 = true then (if a0_1 ≥ 0 then (some (decide (a0_1 ≤ 1073741824))) else (some false)) else (some false))) = some r := by rw [if_neg (show ¬ (false = true) by decide)] at H; exact H
    clear H
    have H := H1
    clear H1
    replace H := Option.bind_eq_some_iff.mp H
    obtain ⟨t255, A290, H⟩ := H
    replace H : (if t255 = true then (if a0_1 ≥ 0 then (some (decide (a0_1 ≤ 1073741824))) else (some false)) else (some false)) = some r := H
    have A29 := Aside0.mk A290
    clear A290
    by_cases c30 : t255 = true
    rotate_left
    · replace c30 := Bool.eq_false_iff.mpr c30
      subst c30
      have H1 : (some false) = some r := by rw [if_neg (show ¬ (false = true) by decide)] at H; exact H
      clear H
      have H := H1
      clear H1
      obtain rfl := Option.some.inj H
      go_enter Try.func45, Try.ntmps45
      go_wp2_with (first | ((with_reducible refine gate_dst (N := 2) rfl ?_); refine box_event ?hg (N := 2) ?hd (cs := #[.int .i64 a0_0, .int .i64 a0_1]) (t := 55) ?hr ?_; (case hd => rfl); (case hg => rfl); (case hr => first | (go_simp; done) | (go_simp; rfl)); intro gb250 hg w36 hbox hb; have n0_ := Aside0.mk (below_step pmAx12_0_ hb); have n1_ := Aside0.mk (hbox); have n2_ := Aside0.mk ((pmAx12_7_ : w.heap.size ≤ gb250)); have n3_ := Aside0.mk ((pmAx12_7_ : w.heap.size ≤ gb250)); clear HB; have HB := n0_; have BK250 := n1_; have GW250 := n2_; have GE250 := n3_; clear n0_ n1_ n2_ n3_; clear hb hbox hg) | ((with_reducible refine gate_callee (f := 50) rfl ?_); refine goesL_ (some 8) rfl rfl Try.func50 pmAx12_22_ rfl #[.int .i64 a1] rfl pmAx12_1_ ?_; (with_reducible refine (parterreref05_bits.calls a1 t251 _ A3.out).mono ?_); rintro e w' ⟨rfl, ⟨nd, rfl⟩⟩; refine ⟨_, rfl, ?_⟩; have hcz37_0 : w36.cell? ⟨gb250, 0, none⟩ = some (.int .i64 a0_0) := (blk_cell BK250.out 0).trans rfl; have hcz37_1 : w36.cell? ⟨gb250, 1, none⟩ = some (.int .i64 a0_1) := (blk_cell BK250.out 1).trans rfl; have hfz37_0 := blk_frozen BK250.out 0; have hfz37_1 := blk_frozen BK250.out 1) | ((with_reducible refine gate_callee (f := 51) rfl ?_); refine goesL_ (some 27) rfl rfl Try.func51 pmAx12_22_ rfl #[.int .i64 t251, .int .i64 2] rfl pmAx12_1_ ?_; (with_reducible refine (parterreref05_Has.calls t251 2 false _ A18.out).mono ?_); rintro e w' ⟨rfl, ⟨nd, rfl⟩⟩; refine ⟨_, rfl, ?_⟩) | ((with_reducible refine gate_callee (f := 51) rfl ?_); refine goesL_ (some 29) rfl rfl Try.func51 pmAx12_22_ rfl #[.int .i64 t251, .int .i64 1] rfl pmAx12_1_ ?_; (with_reducible refine (parterreref05_Has.calls t251 1 false _ A29.out).mono ?_); rintro e w' ⟨rfl, ⟨nd, rfl⟩⟩; refine ⟨_, rfl, ?_⟩))
      go_ret
      exact ⟨by first | rfl | (simp [errW_none, errW_some] <;> rfl) | (simp [*, errW_none, errW_some] <;> rfl), by repeat (first | (with_reducible first | exact HB.out | apply below_alloc | apply pw_below_drewN | apply below_drew1 | refine below_set ?_ GE250.out) | exact HB.out)⟩
    subst c30
    have H1 : (if a0_1 ≥ 0 then (some (decide (a0_1 ≤ 1073741824))) else (some false)) = some r := by rw [if_pos rfl] at H; exact H
    clear H
    have H := H1
    clear H1
    by_cases c31 : a0_1 ≥ 0
    rotate_left
    · rw [if_neg c31] at H
      have c31b0 : decide (0 ≤ a0_1) = false := decide_eq_false c31
      clear c31
      obtain rfl := Option.some.inj H
      go_enter Try.func45, Try.ntmps45
      go_wp2_with (first | ((with_reducible refine gate_dst (N := 2) rfl ?_); refine box_event ?hg (N := 2) ?hd (cs := #[.int .i64 a0_0, .int .i64 a0_1]) (t := 55) ?hr ?_; (case hd => rfl); (case hg => rfl); (case hr => first | (go_simp; done) | (go_simp; rfl)); intro gb250 hg w34 hbox hb; have n0_ := Aside0.mk (below_step pmAx12_0_ hb); have n1_ := Aside0.mk (hbox); have n2_ := Aside0.mk ((pmAx12_7_ : w.heap.size ≤ gb250)); have n3_ := Aside0.mk ((pmAx12_7_ : w.heap.size ≤ gb250)); clear HB; have HB := n0_; have BK250 := n1_; have GW250 := n2_; have GE250 := n3_; clear n0_ n1_ n2_ n3_; clear hb hbox hg) | ((with_reducible refine gate_callee (f := 50) rfl ?_); refine goesL_ (some 8) rfl rfl Try.func50 pmAx12_22_ rfl #[.int .i64 a1] rfl pmAx12_1_ ?_; (with_reducible refine (parterreref05_bits.calls a1 t251 _ A3.out).mono ?_); rintro e w' ⟨rfl, ⟨nd, rfl⟩⟩; refine ⟨_, rfl, ?_⟩; have hcz35_0 : w34.cell? ⟨gb250, 0, none⟩ = some (.int .i64 a0_0) := (blk_cell BK250.out 0).trans rfl; have hcz35_1 : w34.cell? ⟨gb250, 1, none⟩ = some (.int .i64 a0_1) := (blk_cell BK250.out 1).trans rfl; have hfz35_0 := blk_frozen BK250.out 0; have hfz35_1 := blk_frozen BK250.out 1) | ((with_reducible refine gate_callee (f := 51) rfl ?_); refine goesL_ (some 27) rfl rfl Try.func51 pmAx12_22_ rfl #[.int .i64 t251, .int .i64 2] rfl pmAx12_1_ ?_; (with_reducible refine (parterreref05_Has.calls t251 2 false _ A18.out).mono ?_); rintro e w' ⟨rfl, ⟨nd, rfl⟩⟩; refine ⟨_, rfl, ?_⟩) | ((with_reducible refine gate_callee (f := 51) rfl ?_); refine goesL_ (some 29) rfl rfl Try.func51 pmAx12_22_ rfl #[.int .i64 t251, .int .i64 1] rfl pmAx12_1_ ?_; (with_reducible refine (parterreref05_Has.calls t251 1 true _ A29.out).mono ?_); rintro e w' ⟨rfl, ⟨nd, rfl⟩⟩; refine ⟨_, rfl, ?_⟩))
      go_ret
      exact ⟨by first | rfl | (simp [errW_none, errW_some] <;> rfl) | (simp [*, errW_none, errW_some] <;> rfl), by repeat (first | (with_reducible first | exact HB.out | apply below_alloc | apply pw_below_drewN | apply below_drew1 | refine below_set ?_ GE250.out) | exact HB.out)⟩
    rw [if_pos c31] at H
    have c31b0 : decide (0 ≤ a0_1) = true := decide_eq_true c31
    clear c31
    obtain rfl := Option.some.inj H
    go_enter Try.func45, Try.ntmps45
    go_wp2_with (first | ((with_reducible refine gate_dst (N := 2) rfl ?_); refine box_event ?hg (N := 2) ?hd (cs := #[.int .i64 a0_0, .int .i64 a0_1]) (t := 55) ?hr ?_; (case hd => rfl); (case hg => rfl); (case hr => first | (go_simp; done) | (go_simp; rfl)); intro gb250 hg w32 hbox hb; have n0_ := Aside0.mk (below_step pmAx12_0_ hb); have n1_ := Aside0.mk (hbox); have n2_ := Aside0.mk ((pmAx12_7_ : w.heap.size ≤ gb250)); have n3_ := Aside0.mk ((pmAx12_7_ : w.heap.size ≤ gb250)); clear HB; have HB := n0_; have BK250 := n1_; have GW250 := n2_; have GE250 := n3_; clear n0_ n1_ n2_ n3_; clear hb hbox hg) | ((with_reducible refine gate_callee (f := 50) rfl ?_); refine goesL_ (some 8) rfl rfl Try.func50 pmAx12_22_ rfl #[.int .i64 a1] rfl pmAx12_1_ ?_; (with_reducible refine (parterreref05_bits.calls a1 t251 _ A3.out).mono ?_); rintro e w' ⟨rfl, ⟨nd, rfl⟩⟩; refine ⟨_, rfl, ?_⟩; have hcz33_0 : w32.cell? ⟨gb250, 0, none⟩ = some (.int .i64 a0_0) := (blk_cell BK250.out 0).trans rfl; have hcz33_1 : w32.cell? ⟨gb250, 1, none⟩ = some (.int .i64 a0_1) := (blk_cell BK250.out 1).trans rfl; have hfz33_0 := blk_frozen BK250.out 0; have hfz33_1 := blk_frozen BK250.out 1) | ((with_reducible refine gate_callee (f := 51) rfl ?_); refine goesL_ (some 27) rfl rfl Try.func51 pmAx12_22_ rfl #[.int .i64 t251, .int .i64 2] rfl pmAx12_1_ ?_; (with_reducible refine (parterreref05_Has.calls t251 2 false _ A18.out).mono ?_); rintro e w' ⟨rfl, ⟨nd, rfl⟩⟩; refine ⟨_, rfl, ?_⟩) | ((with_reducible refine gate_callee (f := 51) rfl ?_); refine goesL_ (some 29) rfl rfl Try.func51 pmAx12_22_ rfl #[.int .i64 t251, .int .i64 1] rfl pmAx12_1_ ?_; (with_reducible refine (parterreref05_Has.calls t251 1 true _ A29.out).mono ?_); rintro e w' ⟨rfl, ⟨nd, rfl⟩⟩; refine ⟨_, rfl, ?_⟩))
    go_ret
    exact ⟨by first | rfl | (simp [errW_none, errW_some] <;> rfl) | (simp [*, errW_none, errW_some] <;> rfl), by repeat (first | (with_reducible first | exact HB.out | apply below_alloc | apply pw_below_drewN | apply below_drew1 | refine below_set ?_ GE250.out) | exact HB.out)⟩
  rw [if_neg c17] at H
  have c17b0 : (a0_0 == 3) = false := beq_eq_false_iff_ne.mpr c17
  have c17b1 : (a0_0 != 3) = true := bne_iff_ne.mpr c17
  by_cases c38 : a0_0 = 1
  · rw [if_pos c38] at H
    have c38b0 : (a0_0 == 1) = true := beq_iff_eq.mpr c38
    have c38b1 : (a0_0 != 1) = false := bne_eq_false_iff_eq.mpr c38
    clear c38
    replace H := Option.bind_eq_some_iff.mp H
    obtain ⟨t256, A390, H⟩ := H
    replace H : (if t256 = true then (some (a0_1 == 0)) else (some false)) = some r := H
    have A39 := Aside0.mk A390
    clear A390
    by_cases c40 : t256 = true
    · subst c40
      have H1 : (some (a0_1 == 0)) = some r := by rw [if_pos rfl] at H; exact H
      clear H
      have H := H1
      clear H1
      obtain rfl := Option.some.inj H
      go_enter Try.func45, Try.ntmps45
      go_wp2_with (first | ((with_reducible refine gate_dst (N := 2) rfl ?_); refine box_event ?hg (N := 2) ?hd (cs := #[.int .i64 a0_0, .int .i64 a0_1]) (t := 55) ?hr ?_; (case hd => rfl); (case hg => rfl); (case hr => first | (go_simp; done) | (go_simp; rfl)); intro gb250 hg w41 hbox hb; have n0_ := Aside0.mk (below_step pmAx12_0_ hb); have n1_ := Aside0.mk (hbox); have n2_ := Aside0.mk ((pmAx12_7_ : w.heap.size ≤ gb250)); have n3_ := Aside0.mk ((pmAx12_7_ : w.heap.size ≤ gb250)); clear HB; have HB := n0_; have BK250 := n1_; have GW250 := n2_; have GE250 := n3_; clear n0_ n1_ n2_ n3_; clear hb hbox hg) | ((with_reducible refine gate_callee (f := 50) rfl ?_); refine goesL_ (some 8) rfl rfl Try.func50 pmAx12_22_ rfl #[.int .i64 a1] rfl pmAx12_1_ ?_; (with_reducible refine (parterreref05_bits.calls a1 t251 _ A3.out).mono ?_); rintro e w' ⟨rfl, ⟨nd, rfl⟩⟩; refine ⟨_, rfl, ?_⟩; have hcz42_0 : w41.cell? ⟨gb250, 0, none⟩ = some (.int .i64 a0_0) := (blk_cell BK250.out 0).trans rfl; have hcz42_1 : w41.cell? ⟨gb250, 1, none⟩ = some (.int .i64 a0_1) := (blk_cell BK250.out 1).trans rfl; have hfz42_0 := blk_frozen BK250.out 0; have hfz42_1 := blk_frozen BK250.out 1) | ((with_reducible refine gate_callee (f := 51) rfl ?_); refine goesL_ (some 44) rfl rfl Try.func51 pmAx12_22_ rfl #[.int .i64 t251, .int .i64 4] rfl pmAx12_1_ ?_; (with_reducible refine (parterreref05_Has.calls t251 4 true _ A39.out).mono ?_); rintro e w' ⟨rfl, ⟨nd, rfl⟩⟩; refine ⟨_, rfl, ?_⟩))
      go_ret
      exact ⟨by first | rfl | (simp [errW_none, errW_some] <;> rfl) | (simp [*, errW_none, errW_some] <;> rfl), by repeat (first | (with_reducible first | exact HB.out | apply below_alloc | apply pw_below_drewN | apply below_drew1 | refine below_set ?_ GE250.out) | exact HB.out)⟩
    replace c40 := Bool.eq_false_iff.mpr c40
    subst c40
    have H1 : (some false) = some r := by rw [if_neg (show ¬ (false = true) by decide)] at H; exact H
    clear H
    have H := H1
    clear H1
    obtain rfl := Option.some.inj H
    go_enter Try.func45, Try.ntmps45
    go_wp2_with (first | ((with_reducible refine gate_dst (N := 2) rfl ?_); refine box_event ?hg (N := 2) ?hd (cs := #[.int .i64 a0_0, .int .i64 a0_1]) (t := 55) ?hr ?_; (case hd => rfl); (case hg => rfl); (case hr => first | (go_simp; done) | (go_simp; rfl)); intro gb250 hg w43 hbox hb; have n0_ := Aside0.mk (below_step pmAx12_0_ hb); have n1_ := Aside0.mk (hbox); have n2_ := Aside0.mk ((pmAx12_7_ : w.heap.size ≤ gb250)); have n3_ := Aside0.mk ((pmAx12_7_ : w.heap.size ≤ gb250)); clear HB; have HB := n0_; have BK250 := n1_; have GW250 := n2_; have GE250 := n3_; clear n0_ n1_ n2_ n3_; clear hb hbox hg) | ((with_reducible refine gate_callee (f := 50) rfl ?_); refine goesL_ (some 8) rfl rfl Try.func50 pmAx12_22_ rfl #[.int .i64 a1] rfl pmAx12_1_ ?_; (with_reducible refine (parterreref05_bits.calls a1 t251 _ A3.out).mono ?_); rintro e w' ⟨rfl, ⟨nd, rfl⟩⟩; refine ⟨_, rfl, ?_⟩; have hcz44_0 : w43.cell? ⟨gb250, 0, none⟩ = some (.int .i64 a0_0) := (blk_cell BK250.out 0).trans rfl; have hcz44_1 : w43.cell? ⟨gb250, 1, none⟩ = some (.int .i64 a0_1) := (blk_cell BK250.out 1).trans rfl; have hfz44_0 := blk_frozen BK250.out 0; have hfz44_1 := blk_frozen BK250.out 1) | ((with_reducible refine gate_callee (f := 51) rfl ?_); refine goesL_ (some 44) rfl rfl Try.func51 pmAx12_22_ rfl #[.int .i64 t251, .int .i64 4] rfl pmAx12_1_ ?_; (with_reducible refine (parterreref05_Has.calls t251 4 false _ A39.out).mono ?_); rintro e w' ⟨rfl, ⟨nd, rfl⟩⟩; refine ⟨_, rfl, ?_⟩))
    go_ret
    exact ⟨by first | rfl | (simp [errW_none, errW_some] <;> rfl) | (simp [*, errW_none, errW_some] <;> rfl), by repeat (first | (with_reducible first | exact HB.out | apply below_alloc | apply pw_below_drewN | apply below_drew1 | refine below_set ?_ GE250.out) | exact HB.out)⟩
  rw [if_neg c38] at H
  have c38b0 : (a0_0 == 1) = false := beq_eq_false_iff_ne.mpr c38
  have c38b1 : (a0_0 != 1) = true := bne_iff_ne.mpr c38
  have HC45 := Aside0.mk H
  clear H
  go_enter Try.func45, Try.ntmps45
  go_upto_if 50 with (first | ((with_reducible refine gate_dst (N := 2) rfl ?_); refine box_event ?hg (N := 2) ?hd (cs := #[.int .i64 a0_0, .int .i64 a0_1]) (t := 55) ?hr ?_; (case hd => rfl); (case hg => rfl); (case hr => first | (go_simp; done) | (go_simp; rfl)); intro gb250 hg w46 hbox hb; have n0_ := Aside0.mk (below_step pmAx12_0_ hb); have n1_ := Aside0.mk (hbox); have n2_ := Aside0.mk ((pmAx12_7_ : w.heap.size ≤ gb250)); have n3_ := Aside0.mk ((pmAx12_7_ : w.heap.size ≤ gb250)); clear HB; have HB := n0_; have BK250 := n1_; have GW250 := n2_; have GE250 := n3_; clear n0_ n1_ n2_ n3_; clear hb hbox hg) | ((with_reducible refine gate_callee (f := 50) rfl ?_); refine goesL_ (some 8) rfl rfl Try.func50 pmAx12_22_ rfl #[.int .i64 a1] rfl pmAx12_1_ ?_; (with_reducible refine (parterreref05_bits.calls a1 t251 _ A3.out).mono ?_); rintro e w' ⟨rfl, ⟨nd, rfl⟩⟩; refine ⟨_, rfl, ?_⟩; have hcz47_0 : w46.cell? ⟨gb250, 0, none⟩ = some (.int .i64 a0_0) := (blk_cell BK250.out 0).trans rfl; have hcz47_1 : w46.cell? ⟨gb250, 1, none⟩ = some (.int .i64 a0_1) := (blk_cell BK250.out 1).trans rfl; have hfz47_0 := blk_frozen BK250.out 0; have hfz47_1 := blk_frozen BK250.out 1))
  (try simp only [Act.put, List.setIfInBounds_toArray, List.set_cons_zero, List.set_cons_succ])
  go_cut [50] (fun v50 wc => ∃ (kq : Nat) (x50_44 : Bool), v50 = .bool x50_44 ∧ Aside0 (parterreref05_Good.j0 kq t251 a0_0 x50_44 a0_0 a0_1 = some r) ∧ Aside0 (kq ≤ k) ∧ Aside0 (wc.heap[gb250]? = some (.cells #[.int .i64 a0_0, .int .i64 a0_1] 55 (0, 0))) ∧ Aside0 (Below w.heap.size w wc))
  case first =>
    have H := HC45.out
    clear HC45
    by_cases c48 : a0_0 = 4
    rotate_left
    · rw [if_neg c48] at H
      have c48b0 : (a0_0 == 4) = false := beq_eq_false_iff_ne.mpr c48
      have c48b1 : (a0_0 != 4) = true := bne_iff_ne.mpr c48
      (first | rw [c48b0] | (simp only [i64_w, i32_w]; rw [c48b0]) | skip)
      have H' := Aside0.mk H
      clear H
      go_wp2
      go_meet
      case rel => exact ⟨_, ((a0_0 == 5)), (by first | rfl | (simp; done) | (simp [*]; done)), H', ⟨by first | omega | exact Nat.le_refl _⟩, ⟨by (with_reducible repeat (first | refine blk_drewN ?_ _ | refine blk_drew ?_ | refine blk_alloc ?_ _)); exact BK250.out⟩, ⟨by repeat (first | (with_reducible first | exact HB.out | apply below_alloc | apply pw_below_drewN | apply below_drew1 | refine below_set ?_ GE250.out) | exact HB.out)⟩⟩
    rw [if_pos c48] at H
    have c48b0 : (a0_0 == 4) = true := beq_iff_eq.mpr c48
    have c48b1 : (a0_0 != 4) = false := bne_eq_false_iff_eq.mpr c48
    clear c48
    (first | rw [c48b0] | (simp only [i64_w, i32_w]; rw [c48b0]) | skip)
    have H' := Aside0.mk H
    clear H
    go_wp2
    go_meet
    case rel => exact ⟨_, ((a0_0 == 4)), (by first | rfl | (simp; done) | (simp [*]; done)), H', ⟨by first | omega | exact Nat.le_refl _⟩, ⟨by (with_reducible repeat (first | refine blk_drewN ?_ _ | refine blk_drew ?_ | refine blk_alloc ?_ _)); exact BK250.out⟩, ⟨by repeat (first | (with_reducible first | exact HB.out | apply below_alloc | apply pw_below_drewN | apply below_drew1 | refine below_set ?_ GE250.out) | exact HB.out)⟩⟩
  case rest =>
    clear HC45
    try clear c1
    try clear c2
    try clear p2
    try clear c3
    try clear c4
    try clear c4b0
    try clear c4b1
    try clear c5
    try clear c6
    try clear c7
    try clear c7b0
    try clear c12
    try clear c12b0
    try clear c17
    try clear c17b0
    try clear c17b1
    try clear c19
    try clear c21
    try clear c22
    try clear c22b0
    try clear c30
    try clear c31
    try clear c31b0
    try clear c38
    try clear c38b0
    try clear c38b1
    try clear c40
    try clear c45
    try clear c48
    try clear c48b0
    try clear c48b1
    try clear hcz11_0
    try clear hcz11_1
    try clear hcz14_0
    try clear hcz14_1
    try clear hcz16_0
    try clear hcz16_1
    try clear hcz24_0
    try clear hcz24_1
    try clear hcz26_0
    try clear hcz26_1
    try clear hcz28_0
    try clear hcz28_1
    try clear hcz33_0
    try clear hcz33_1
    try clear hcz35_0
    try clear hcz35_1
    try clear hcz37_0
    try clear hcz37_1
    try clear hcz42_0
    try clear hcz42_1
    try clear hcz44_0
    try clear hcz44_1
    try clear hcz47_0
    try clear hcz47_1
    try clear hcz9_0
    try clear hcz9_1
    try clear hfz11_0
    try clear hfz11_1
    try clear hfz14_0
    try clear hfz14_1
    try clear hfz16_0
    try clear hfz16_1
    try clear hfz24_0
    try clear hfz24_1
    try clear hfz26_0
    try clear hfz26_1
    try clear hfz28_0
    try clear hfz28_1
    try clear hfz33_0
    try clear hfz33_1
    try clear hfz35_0
    try clear hfz35_1
    try clear hfz37_0
    try clear hfz37_1
    try clear hfz42_0
    try clear hfz42_1
    try clear hfz44_0
    try clear hfz44_1
    try clear hfz47_0
    try clear hfz47_1
    try clear hfz9_0
    try clear hfz9_1
    obtain ⟨kq, x50_44, rfl, HA, HJ44, BK250, HB⟩ := hcut
    cases kq with
    | zero => exact absurd HA.out (by simp [parterreref05_Good.j0])
    | succ kj44 =>
      have H := HA.out
      clear HA
      simp only [parterreref05_Good.j0] at H
      by_cases c49 : x50_44 = true
      · subst c49
        have H1 : ((parterreref05_Has.f t251 8).bind fun t257 => (if t257 = true then (some (a0_1 == 0)) else (some false))) = some r := by rw [if_pos rfl] at H; exact H
        clear H
        have H := H1
        clear H1
        replace H := Option.bind_eq_some_iff.mp H
        obtain ⟨t257, A500, H⟩ := H
        replace H : (if t257 = true then (some (a0_1 == 0)) else (some false)) = some r := H
        have A50 := Aside0.mk A500
        clear A500
        by_cases c51 : t257 = true
        · subst c51
          have H1 : (some (a0_1 == 0)) = some r := by rw [if_pos rfl] at H; exact H
          clear H
          have H := H1
          clear H1
          obtain rfl := Option.some.inj H
          go_wp2_with (first | ((with_reducible refine gate_callee (f := 51) rfl ?_); refine goesL_ (some 54) rfl rfl Try.func51 pmAx12_22_ rfl #[.int .i64 t251, .int .i64 8] rfl pmAx12_1_ ?_; (with_reducible refine (parterreref05_Has.calls t251 8 true _ A50.out).mono ?_); rintro e w' ⟨rfl, ⟨nd, rfl⟩⟩; refine ⟨_, rfl, ?_⟩; have hcz52_0 : wc.cell? ⟨gb250, 0, none⟩ = some (.int .i64 a0_0) := (blk_cell BK250.out 0).trans rfl; have hcz52_1 : wc.cell? ⟨gb250, 1, none⟩ = some (.int .i64 a0_1) := (blk_cell BK250.out 1).trans rfl; have hfz52_0 := blk_frozen BK250.out 0; have hfz52_1 := blk_frozen BK250.out 1))
          go_ret
          exact ⟨by first | rfl | (simp [errW_none, errW_some] <;> rfl) | (simp [*, errW_none, errW_some] <;> rfl), by repeat (first | (with_reducible first | exact HB.out | apply below_alloc | apply pw_below_drewN | apply below_drew1 | refine below_set ?_ GE250.out) | exact HB.out)⟩
        replace c51 := Bool.eq_false_iff.mpr c51
        subst c51
        have H1 : (some false) = some r := by rw [if_neg (show ¬ (false = true) by decide)] at H; exact H
        clear H
        have H := H1
        clear H1
        obtain rfl := Option.some.inj H
        go_wp2_with (first | ((with_reducible refine gate_callee (f := 51) rfl ?_); refine goesL_ (some 54) rfl rfl Try.func51 pmAx12_22_ rfl #[.int .i64 t251, .int .i64 8] rfl pmAx12_1_ ?_; (with_reducible refine (parterreref05_Has.calls t251 8 false _ A50.out).mono ?_); rintro e w' ⟨rfl, ⟨nd, rfl⟩⟩; refine ⟨_, rfl, ?_⟩))
        go_ret
        exact ⟨by first | rfl | (simp [errW_none, errW_some] <;> rfl) | (simp [*, errW_none, errW_some] <;> rfl), by repeat (first | (with_reducible first | exact HB.out | apply below_alloc | apply pw_below_drewN | apply below_drew1 | refine below_set ?_ GE250.out) | exact HB.out)⟩
      replace c49 := Bool.eq_false_iff.mpr c49
      subst c49
      have H1 : (if a0_0 = 6 then ((parterreref05_Has.f t251 16).bind fun t258 => (if t258 = true then (if a0_1 ≥ 0 then (some (decide (a0_1 ≤ 1073741824))) else (some false)) else (some false))) else (if a0_0 = 7 then ((parterreref05_Has.f t251 32).bind fun t259 => (if t259 = true then (some (a0_1 == 0)) else (some false))) else (some false))) = some r := by rw [if_neg (show ¬ (false = true) by decide)] at H; exact H
      clear H
      have H := H1
      clear H1
      by_cases c53 : a0_0 = 6
      · rw [if_pos c53] at H
        have c53b0 : (a0_0 == 6) = true := beq_iff_eq.mpr c53
        have c53b1 : (a0_0 != 6) = false := bne_eq_false_iff_eq.mpr c53
        clear c53
        replace H := Option.bind_eq_some_iff.mp H
        obtain ⟨t258, A540, H⟩ := H
        replace H : (if t258 = true then (if a0_1 ≥ 0 then (some (decide (a0_1 ≤ 1073741824))) else (some false)) else (some false)) = some r := H
        have A54 := Aside0.mk A540
        clear A540
        by_cases c55 : t258 = true
        rotate_left
        · replace c55 := Bool.eq_false_iff.mpr c55
          subst c55
          have H1 : (some false) = some r := by rw [if_neg (show ¬ (false = true) by decide)] at H; exact H
          clear H
          have H := H1
          clear H1
          obtain rfl := Option.some.inj H
          go_wp2_with (first | ((with_reducible refine gate_callee (f := 51) rfl ?_); refine goesL_ (some 63) rfl rfl Try.func51 pmAx12_22_ rfl #[.int .i64 t251, .int .i64 16] rfl pmAx12_1_ ?_; (with_reducible refine (parterreref05_Has.calls t251 16 false _ A54.out).mono ?_); rintro e w' ⟨rfl, ⟨nd, rfl⟩⟩; refine ⟨_, rfl, ?_⟩))
          go_ret
          exact ⟨by first | rfl | (simp [errW_none, errW_some] <;> rfl) | (simp [*, errW_none, errW_some] <;> rfl), by repeat (first | (with_reducible first | exact HB.out | apply below_alloc | apply pw_below_drewN | apply below_drew1 | refine below_set ?_ GE250.out) | exact HB.out)⟩
        subst c55
        have H1 : (if a0_1 ≥ 0 then (some (decide (a0_1 ≤ 1073741824))) else (some false)) = some r := by rw [if_pos rfl] at H; exact H
        clear H
        have H := H1
        clear H1
        by_cases c56 : a0_1 ≥ 0
        rotate_left
        · rw [if_neg c56] at H
          have c56b0 : decide (0 ≤ a0_1) = false := decide_eq_false c56
          clear c56
          obtain rfl := Option.some.inj H
          go_wp2_with (first | ((with_reducible refine gate_callee (f := 51) rfl ?_); refine goesL_ (some 63) rfl rfl Try.func51 pmAx12_22_ rfl #[.int .i64 t251, .int .i64 16] rfl pmAx12_1_ ?_; (with_reducible refine (parterreref05_Has.calls t251 16 true _ A54.out).mono ?_); rintro e w' ⟨rfl, ⟨nd, rfl⟩⟩; refine ⟨_, rfl, ?_⟩; have hcz58_0 : wc.cell? ⟨gb250, 0, none⟩ = some (.int .i64 a0_0) := (blk_cell BK250.out 0).trans rfl; have hcz58_1 : wc.cell? ⟨gb250, 1, none⟩ = some (.int .i64 a0_1) := (blk_cell BK250.out 1).trans rfl; have hfz58_0 := blk_frozen BK250.out 0; have hfz58_1 := blk_frozen BK250.out 1))
          go_ret
          exact ⟨by first | rfl | (simp [errW_none, errW_some] <;> rfl) | (simp [*, errW_none, errW_some] <;> rfl), by repeat (first | (with_reducible first | exact HB.out | apply below_alloc | apply pw_below_drewN | apply below_drew1 | refine below_set ?_ GE250.out) | exact HB.out)⟩
        rw [if_pos c56] at H
        have c56b0 : decide (0 ≤ a0_1) = true := decide_eq_true c56
        clear c56
        obtain rfl := Option.some.inj H
        go_wp2_with (first | ((with_reducible refine gate_callee (f := 51) rfl ?_); refine goesL_ (some 63) rfl rfl Try.func51 pmAx12_22_ rfl #[.int .i64 t251, .int .i64 16] rfl pmAx12_1_ ?_; (with_reducible refine (parterreref05_Has.calls t251 16 true _ A54.out).mono ?_); rintro e w' ⟨rfl, ⟨nd, rfl⟩⟩; refine ⟨_, rfl, ?_⟩; have hcz57_0 : wc.cell? ⟨gb250, 0, none⟩ = some (.int .i64 a0_0) := (blk_cell BK250.out 0).trans rfl; have hcz57_1 : wc.cell? ⟨gb250, 1, none⟩ = some (.int .i64 a0_1) := (blk_cell BK250.out 1).trans rfl; have hfz57_0 := blk_frozen BK250.out 0; have hfz57_1 := blk_frozen BK250.out 1))
        go_ret
        exact ⟨by first | rfl | (simp [errW_none, errW_some] <;> rfl) | (simp [*, errW_none, errW_some] <;> rfl), by repeat (first | (with_reducible first | exact HB.out | apply below_alloc | apply pw_below_drewN | apply below_drew1 | refine below_set ?_ GE250.out) | exact HB.out)⟩
      rw [if_neg c53] at H
      have c53b0 : (a0_0 == 6) = false := beq_eq_false_iff_ne.mpr c53
      have c53b1 : (a0_0 != 6) = true := bne_iff_ne.mpr c53
      by_cases c59 : a0_0 = 7
      rotate_left
      · rw [if_neg c59] at H
        have c59b0 : (a0_0 == 7) = false := beq_eq_false_iff_ne.mpr c59
        have c59b1 : (a0_0 != 7) = true := bne_iff_ne.mpr c59
        obtain rfl := Option.some.inj H
        go_wp2
        go_ret
        exact ⟨by first | rfl | (simp [errW_none, errW_some] <;> rfl) | (simp [*, errW_none, errW_some] <;> rfl), by repeat (first | (with_reducible first | exact HB.out | apply below_alloc | apply pw_below_drewN | apply below_drew1 | refine below_set ?_ GE250.out) | exact HB.out)⟩

      rw [if_pos c59] at H
      have c59b0 : (a0_0 == 7) = true := beq_iff_eq.mpr c59
      have c59b1 : (a0_0 != 7) = false := bne_eq_false_iff_eq.mpr c59
      clear c59
      replace H := Option.bind_eq_some_iff.mp H
      obtain ⟨t259, A600, H⟩ := H
      replace H : (if t259 = true then (some (a0_1 == 0)) else (some false)) = some r := H
      have A60 := Aside0.mk A600
      clear A600
      by_cases c61 : t259 = true
      · subst c61
        have H1 : (some (a0_1 == 0)) = some r := by rw [if_pos rfl] at H; exact H
        clear H
        have H := H1
        clear H1
        obtain rfl := Option.some.inj H
        go_wp2_with (first | ((with_reducible refine gate_callee (f := 51) rfl ?_); refine goesL_ (some 77) rfl rfl Try.func51 pmAx12_22_ rfl #[.int .i64 t251, .int .i64 32] rfl pmAx12_1_ ?_; (with_reducible refine (parterreref05_Has.calls t251 32 true _ A60.out).mono ?_); rintro e w' ⟨rfl, ⟨nd, rfl⟩⟩; refine ⟨_, rfl, ?_⟩; have hcz62_0 : wc.cell? ⟨gb250, 0, none⟩ = some (.int .i64 a0_0) := (blk_cell BK250.out 0).trans rfl; have hcz62_1 : wc.cell? ⟨gb250, 1, none⟩ = some (.int .i64 a0_1) := (blk_cell BK250.out 1).trans rfl; have hfz62_0 := blk_frozen BK250.out 0; have hfz62_1 := blk_frozen BK250.out 1))
        go_ret
        exact ⟨by first | rfl | (simp [errW_none, errW_some] <;> rfl) | (simp [*, errW_none, errW_some] <;> rfl), by repeat (first | (with_reducible first | exact HB.out | apply below_alloc | apply pw_below_drewN | apply below_drew1 | refine below_set ?_ GE250.out) | exact HB.out)⟩
      replace c61 := Bool.eq_false_iff.mpr c61
      subst c61
      have H1 : (some false) = some r := by rw [if_neg (show ¬ (false = true) by decide)] at H; exact H
      clear H
      have H := H1
      clear H1
      obtain rfl := Option.some.inj H
      go_wp2_with (first | ((with_reducible refine gate_callee (f := 51) rfl ?_); refine goesL_ (some 77) rfl rfl Try.func51 pmAx12_22_ rfl #[.int .i64 t251, .int .i64 32] rfl pmAx12_1_ ?_; (with_reducible refine (parterreref05_Has.calls t251 32 false _ A60.out).mono ?_); rintro e w' ⟨rfl, ⟨nd, rfl⟩⟩; refine ⟨_, rfl, ?_⟩))
      go_ret
      exact ⟨by first | rfl | (simp [errW_none, errW_some] <;> rfl) | (simp [*, errW_none, errW_some] <;> rfl), by repeat (first | (with_reducible first | exact HB.out | apply below_alloc | apply pw_below_drewN | apply below_drew1 | refine below_set ?_ GE250.out) | exact HB.out)⟩
/-! ### parterreref06_Right: function 34 -/
def parterreref06_Right.f (k : Nat) (a0_0 : Int) (a0_1 : Int) (a0_2 : Int) (a0_3 : Int) (a0_4 : Bool) (a0_5 : Int) (a0_6 : Int) : Option (Bool) := if a0_4 = true then (if (a0_0 == 1 && (a0_1 == 0)) = true then (if (a0_2 == 5 && (a0_3 == 0)) = true then ((parterreref06_isLen.f a0_5 a0_6).bind fun t261 => (if t261 = true then ((parterreref05_Good.f k a0_5 a0_6 1).bind fun t262 => (some t262)) else (some false))) else (some false)) else (some false)) else (if (a0_5 == 0 && (a0_6 == 0)) = true then ((parterreref05_Good.f k a0_0 a0_1 13).bind fun t263 => (if t263 = true then ((parterreref05_Good.f k a0_2 a0_3 29).bind fun t264 => (some t264)) else (some false))) else (some false))
theorem parterreref06_Right.mono : ∀ a0 a1 a2 a3 a4 a5 a6 k, LeO (parterreref06_Right.f k a0 a1 a2 a3 a4 a5 a6) (parterreref06_Right.f (k + 1) a0 a1 a2 a3 a4 a5 a6) := by
  intro a0 a1 a2 a3 a4 a5 a6 k
  unfold parterreref06_Right.f
  repeat' first
      | (with_reducible exact parterreref05_Good.mono _ _ _ _)
      | (with_reducible exact LeO.refl _)
      | (with_reducible exact LeO.none _)
      | (with_reducible refine LeO.ite ?_ ?_)
      | (with_reducible refine LeO.bind ?_ (fun _ => ?_))
      | exact parterreref05_Good.mono _ _ _ _
      | exact LeO.none _
      | refine LeO.ite ?_ ?_
      | refine LeO.bind ?_ (fun _ => ?_)
set_option maxHeartbeats 8000000 in
set_option maxRecDepth 100000 in
theorem parterreref06_Right.calls (k : Nat) (a0_0 : Int) (a0_1 : Int) (a0_2 : Int) (a0_3 : Int) (a0_4 : Bool) (a0_5 : Int) (a0_6 : Int) (r : Bool) (w : World) (h : parterreref06_Right.f k a0_0 a0_1 a0_2 a0_3 a0_4 a0_5 a0_6 = some r) :
    Calls Try.prog 34 #[.agg #[.int .i64 a0_0, .int .i64 a0_1, .int .i64 a0_2, .int .i64 a0_3, .bool a0_4, .int .i64 a0_5, .int .i64 a0_6]] w fun e w' => e = .returned (.bool r) ∧ Below w.heap.size w w' := by
  have hu57 := Try.underlying57
  have hu55 := Try.underlying55
  have HB := Aside0.mk (Below.refl w.heap.size w)
  have H : (if a0_4 = true then (if (a0_0 == 1 && (a0_1 == 0)) = true then (if (a0_2 == 5 && (a0_3 == 0)) = true then ((parterreref06_isLen.f a0_5 a0_6).bind fun t261 => (if t261 = true then ((parterreref05_Good.f k a0_5 a0_6 1).bind fun t262 => (some t262)) else (some false))) else (some false)) else (some false)) else (if (a0_5 == 0 && (a0_6 == 0)) = true then ((parterreref05_Good.f k a0_0 a0_1 13).bind fun t263 => (if t263 = true then ((parterreref05_Good.f k a0_2 a0_3 29).bind fun t264 => (some t264)) else (some false))) else (some false))) = some r := h
  clear h
  by_cases c2 : a0_4 = true
  rotate_left
  · replace c2 := Bool.eq_false_iff.mpr c2
    subst c2
    have H1 : (if (a0_5 == 0 && (a0_6 == 0)) = true then ((parterreref05_Good.f k a0_0 a0_1 13).bind fun t263 => (if t263 = true then ((parterreref05_Good.f k a0_2 a0_3 29).bind fun t264 => (some t264)) else (some false))) else (some false)) = some r := by rw [if_neg (show ¬ (false = true) by decide)] at H; exact H
    clear H
    have H := H1
    clear H1
    by_cases c20 : (a0_5 == 0 && (a0_6 == 0)) = true
    rotate_left
    · rw [if_neg c20] at H
      have c20b0 : (a0_5 == 0 && (a0_6 == 0)) = false := by simpa using c20
      (try (have c20b1 : decide (a0_5 = 0 && (a0_6 == 0)) = false := by simpa using c20))
      (try (have c20b2 : (a0_5 == 0 && (a0_6 == 0)) = false := by simpa using c20))
      (try (have c20b3 : ¬ (a0_5 = 0 && (a0_6 == 0)) := by simpa using c20))
      clear c20
      obtain rfl := Option.some.inj H
      go_enter Try.func34, Try.ntmps34
      go_wp2_with (first | ((with_reducible refine gate_dst (N := 1) rfl ?_); refine box_event ?hg (N := 1) ?hd (cs := #[.int .i64 a0_0, .int .i64 a0_1, .int .i64 a0_2, .int .i64 a0_3, .bool false, .int .i64 a0_5, .int .i64 a0_6]) (t := 57) ?hr ?_; (case hd => rfl); (case hg => rfl); (case hr => first | (go_simp; done) | (go_simp; rfl)); intro gb260 hg w32 hbox hb; have n0_ := Aside0.mk (below_step pmAx12_0_ hb); have n1_ := Aside0.mk (hbox); have n2_ := Aside0.mk ((pmAx12_7_ : w.heap.size ≤ gb260)); have n3_ := Aside0.mk ((pmAx12_7_ : w.heap.size ≤ gb260)); clear HB; have HB := n0_; have BK260 := n1_; have GW260 := n2_; have GE260 := n3_; clear n0_ n1_ n2_ n3_; clear hb hbox hg; have hcz33_0 : w32.cell? ⟨gb260, 0, none⟩ = some (.int .i64 a0_0) := (blk_cell BK260.out 0).trans rfl; have hcz33_1 : w32.cell? ⟨gb260, 1, none⟩ = some (.int .i64 a0_1) := (blk_cell BK260.out 1).trans rfl; have hcz33_2 : w32.cell? ⟨gb260, 2, none⟩ = some (.int .i64 a0_2) := (blk_cell BK260.out 2).trans rfl; have hcz33_3 : w32.cell? ⟨gb260, 3, none⟩ = some (.int .i64 a0_3) := (blk_cell BK260.out 3).trans rfl; have hcz33_4 : w32.cell? ⟨gb260, 4, none⟩ = some (.bool false) := (blk_cell BK260.out 4).trans rfl; have hcz33_5 : w32.cell? ⟨gb260, 5, none⟩ = some (.int .i64 a0_5) := (blk_cell BK260.out 5).trans rfl; have hcz33_6 : w32.cell? ⟨gb260, 6, none⟩ = some (.int .i64 a0_6) := (blk_cell BK260.out 6).trans rfl; have hfz33_0 := blk_frozen BK260.out 0; have hfz33_1 := blk_frozen BK260.out 1; have hfz33_2 := blk_frozen BK260.out 2; have hfz33_3 := blk_frozen BK260.out 3; have hfz33_4 := blk_frozen BK260.out 4; have hfz33_5 := blk_frozen BK260.out 5; have hfz33_6 := blk_frozen BK260.out 6))
      go_ret
      exact ⟨by first | rfl | (simp [errW_none, errW_some] <;> rfl) | (simp [*, errW_none, errW_some] <;> rfl), by repeat (first | (with_reducible first | exact HB.out | apply below_alloc | apply pw_below_drewN | apply below_drew1 | refine below_set ?_ GE260.out) | exact HB.out)⟩

    rw [if_pos c20] at H
    have c20b0 : (a0_5 == 0 && (a0_6 == 0)) = true := c20
    (try (have c20b1 : decide (a0_5 = 0 && (a0_6 == 0)) = true := by simpa using c20))
    (try (have c20b2 : (a0_5 == 0 && (a0_6 == 0)) = true := by simpa using c20))
    clear c20
    replace H := Option.bind_eq_some_iff.mp H
    obtain ⟨t263, A210, H⟩ := H
    replace H : (if t263 = true then ((parterreref05_Good.f k a0_2 a0_3 29).bind fun t264 => (some t264)) else (some false)) = some r := H
    have A21 := Aside0.mk A210
    clear A210
    by_cases c22 : t263 = true
    rotate_left
    · replace c22 := Bool.eq_false_iff.mpr c22
      subst c22
      have H1 : (some false) = some r := by rw [if_neg (show ¬ (false = true) by decide)] at H; exact H
      clear H
      have H := H1
      clear H1
      obtain rfl := Option.some.inj H
      go_enter Try.func34, Try.ntmps34
      go_wp2_with (first | ((with_reducible refine gate_dst (N := 1) rfl ?_); refine box_event ?hg (N := 1) ?hd (cs := #[.int .i64 a0_0, .int .i64 a0_1, .int .i64 a0_2, .int .i64 a0_3, .bool false, .int .i64 a0_5, .int .i64 a0_6]) (t := 57) ?hr ?_; (case hd => rfl); (case hg => rfl); (case hr => first | (go_simp; done) | (go_simp; rfl)); intro gb260 hg w29 hbox hb; have n0_ := Aside0.mk (below_step pmAx12_0_ hb); have n1_ := Aside0.mk (hbox); have n2_ := Aside0.mk ((pmAx12_7_ : w.heap.size ≤ gb260)); have n3_ := Aside0.mk ((pmAx12_7_ : w.heap.size ≤ gb260)); clear HB; have HB := n0_; have BK260 := n1_; have GW260 := n2_; have GE260 := n3_; clear n0_ n1_ n2_ n3_; clear hb hbox hg; have hcz30_0 : w29.cell? ⟨gb260, 0, none⟩ = some (.int .i64 a0_0) := (blk_cell BK260.out 0).trans rfl; have hcz30_1 : w29.cell? ⟨gb260, 1, none⟩ = some (.int .i64 a0_1) := (blk_cell BK260.out 1).trans rfl; have hcz30_2 : w29.cell? ⟨gb260, 2, none⟩ = some (.int .i64 a0_2) := (blk_cell BK260.out 2).trans rfl; have hcz30_3 : w29.cell? ⟨gb260, 3, none⟩ = some (.int .i64 a0_3) := (blk_cell BK260.out 3).trans rfl; have hcz30_4 : w29.cell? ⟨gb260, 4, none⟩ = some (.bool false) := (blk_cell BK260.out 4).trans rfl; have hcz30_5 : w29.cell? ⟨gb260, 5, none⟩ = some (.int .i64 a0_5) := (blk_cell BK260.out 5).trans rfl; have hcz30_6 : w29.cell? ⟨gb260, 6, none⟩ = some (.int .i64 a0_6) := (blk_cell BK260.out 6).trans rfl; have hfz30_0 := blk_frozen BK260.out 0; have hfz30_1 := blk_frozen BK260.out 1; have hfz30_2 := blk_frozen BK260.out 2; have hfz30_3 := blk_frozen BK260.out 3; have hfz30_4 := blk_frozen BK260.out 4; have hfz30_5 := blk_frozen BK260.out 5; have hfz30_6 := blk_frozen BK260.out 6) | (go_at_call 45; (with_reducible refine (parterreref05_Good.calls k a0_0 a0_1 13 false _ A21.out).mono ?_); rintro e w31 ⟨rfl, hb⟩; have n0_ := Aside0.mk (blk_below (g := gb260) (o := poAx12_0 a0_0 a0_1 a0_2 a0_3 false a0_5 a0_6) pmAx12_21_ hb); have n1_ := Aside0.mk (below_step pmAx12_20_ hb); clear BK260; clear HB; have BK260 := n0_; have HB := n1_; clear n0_ n1_; (try clear hb); (try clear hb2); (try clear hk); (try clear hi)))
      go_ret
      exact ⟨by first | rfl | (simp [errW_none, errW_some] <;> rfl) | (simp [*, errW_none, errW_some] <;> rfl), by repeat (first | (with_reducible first | exact HB.out | apply below_alloc | apply pw_below_drewN | apply below_drew1 | refine below_set ?_ GE260.out) | exact HB.out)⟩
    subst c22
    have H1 : ((parterreref05_Good.f k a0_2 a0_3 29).bind fun t264 => (some t264)) = some r := by rw [if_pos rfl] at H; exact H
    clear H
    have H := H1
    clear H1
    replace H := Option.bind_eq_some_iff.mp H
    obtain ⟨t264, A230, H⟩ := H
    replace H : (some t264) = some r := H
    have A23 := Aside0.mk A230
    clear A230
    obtain rfl := Option.some.inj H
    go_enter Try.func34, Try.ntmps34
    go_wp2_with (first | ((with_reducible refine gate_dst (N := 1) rfl ?_); refine box_event ?hg (N := 1) ?hd (cs := #[.int .i64 a0_0, .int .i64 a0_1, .int .i64 a0_2, .int .i64 a0_3, .bool false, .int .i64 a0_5, .int .i64 a0_6]) (t := 57) ?hr ?_; (case hd => rfl); (case hg => rfl); (case hr => first | (go_simp; done) | (go_simp; rfl)); intro gb260 hg w24 hbox hb; have n0_ := Aside0.mk (below_step pmAx12_0_ hb); have n1_ := Aside0.mk (hbox); have n2_ := Aside0.mk ((pmAx12_7_ : w.heap.size ≤ gb260)); have n3_ := Aside0.mk ((pmAx12_7_ : w.heap.size ≤ gb260)); clear HB; have HB := n0_; have BK260 := n1_; have GW260 := n2_; have GE260 := n3_; clear n0_ n1_ n2_ n3_; clear hb hbox hg; have hcz25_0 : w24.cell? ⟨gb260, 0, none⟩ = some (.int .i64 a0_0) := (blk_cell BK260.out 0).trans rfl; have hcz25_1 : w24.cell? ⟨gb260, 1, none⟩ = some (.int .i64 a0_1) := (blk_cell BK260.out 1).trans rfl; have hcz25_2 : w24.cell? ⟨gb260, 2, none⟩ = some (.int .i64 a0_2) := (blk_cell BK260.out 2).trans rfl; have hcz25_3 : w24.cell? ⟨gb260, 3, none⟩ = some (.int .i64 a0_3) := (blk_cell BK260.out 3).trans rfl; have hcz25_4 : w24.cell? ⟨gb260, 4, none⟩ = some (.bool false) := (blk_cell BK260.out 4).trans rfl; have hcz25_5 : w24.cell? ⟨gb260, 5, none⟩ = some (.int .i64 a0_5) := (blk_cell BK260.out 5).trans rfl; have hcz25_6 : w24.cell? ⟨gb260, 6, none⟩ = some (.int .i64 a0_6) := (blk_cell BK260.out 6).trans rfl; have hfz25_0 := blk_frozen BK260.out 0; have hfz25_1 := blk_frozen BK260.out 1; have hfz25_2 := blk_frozen BK260.out 2; have hfz25_3 := blk_frozen BK260.out 3; have hfz25_4 := blk_frozen BK260.out 4; have hfz25_5 := blk_frozen BK260.out 5; have hfz25_6 := blk_frozen BK260.out 6) | (go_at_call 45; (with_reducible refine (parterreref05_Good.calls k a0_0 a0_1 13 true _ A21.out).mono ?_); rintro e w26 ⟨rfl, hb⟩; have n0_ := Aside0.mk (blk_below (g := gb260) (o := poAx12_0 a0_0 a0_1 a0_2 a0_3 false a0_5 a0_6) pmAx12_21_ hb); have n1_ := Aside0.mk (below_step pmAx12_20_ hb); clear BK260; clear HB; have BK260 := n0_; have HB := n1_; clear n0_ n1_; (try clear hb); (try clear hb2); (try clear hk); (try clear hi); have hcz27_0 : w26.cell? ⟨gb260, 0, none⟩ = some (.int .i64 a0_0) := (blk_cell BK260.out 0).trans rfl; have hcz27_1 : w26.cell? ⟨gb260, 1, none⟩ = some (.int .i64 a0_1) := (blk_cell BK260.out 1).trans rfl; have hcz27_2 : w26.cell? ⟨gb260, 2, none⟩ = some (.int .i64 a0_2) := (blk_cell BK260.out 2).trans rfl; have hcz27_3 : w26.cell? ⟨gb260, 3, none⟩ = some (.int .i64 a0_3) := (blk_cell BK260.out 3).trans rfl; have hcz27_4 : w26.cell? ⟨gb260, 4, none⟩ = some (.bool false) := (blk_cell BK260.out 4).trans rfl; have hcz27_5 : w26.cell? ⟨gb260, 5, none⟩ = some (.int .i64 a0_5) := (blk_cell BK260.out 5).trans rfl; have hcz27_6 : w26.cell? ⟨gb260, 6, none⟩ = some (.int .i64 a0_6) := (blk_cell BK260.out 6).trans rfl; have hfz27_0 := blk_frozen BK260.out 0; have hfz27_1 := blk_frozen BK260.out 1; have hfz27_2 := blk_frozen BK260.out 2; have hfz27_3 := blk_frozen BK260.out 3; have hfz27_4 := blk_frozen BK260.out 4; have hfz27_5 := blk_frozen BK260.out 5; have hfz27_6 := blk_frozen BK260.out 6) | (go_at_call 45; (with_reducible refine (parterreref05_Good.calls k a0_2 a0_3 29 t264 _ A23.out).mono ?_); rintro e w28 ⟨rfl, hb⟩; have n0_ := Aside0.mk (blk_below (g := gb260) (o := poAx12_0 a0_0 a0_1 a0_2 a0_3 false a0_5 a0_6) pmAx12_21_ hb); have n1_ := Aside0.mk (below_step pmAx12_20_ hb); clear BK260; clear HB; have BK260 := n0_; have HB := n1_; clear n0_ n1_; (try clear hb); (try clear hb2); (try clear hk); (try clear hi)))
    go_ret
    exact ⟨by first | rfl | (simp [errW_none, errW_some] <;> rfl) | (simp [*, errW_none, errW_some] <;> rfl), by repeat (first | (with_reducible first | exact HB.out | apply below_alloc | apply pw_below_drewN | apply below_drew1 | refine below_set ?_ GE260.out) | exact HB.out)⟩
  subst c2
  have H1 : (if (a0_0 == 1 && (a0_1 == 0)) = true then (if (a0_2 == 5 && (a0_3 == 0)) = true then ((parterreref06_isLen.f a0_5 a0_6).bind fun t261 => (if t261 = true then ((parterreref05_Good.f k a0_5 a0_6 1).bind fun t262 => (some t262)) else (some false))) else (some false)) else (some false)) = some r := by rw [if_pos rfl] at H; exact H
  clear H
  have H := H1
  clear H1
  by_cases c3 : (a0_0 == 1 && (a0_1 == 0)) = true
  rotate_left
  · rw [if_neg c3] at H
    have c3b0 : (a0_0 == 1 && (a0_1 == 0)) = false := by simpa using c3
    (try (have c3b1 : decide (a0_0 = 1 && (a0_1 == 0)) = false := by simpa using c3))
    (try (have c3b2 : (a0_0 == 1 && (a0_1 == 0)) = false := by simpa using c3))
    (try (have c3b3 : ¬ (a0_0 = 1 && (a0_1 == 0)) := by simpa using c3))
    clear c3
    obtain rfl := Option.some.inj H
    go_enter Try.func34, Try.ntmps34
    go_wp2_with (first | ((with_reducible refine gate_dst (N := 1) rfl ?_); refine box_event ?hg (N := 1) ?hd (cs := #[.int .i64 a0_0, .int .i64 a0_1, .int .i64 a0_2, .int .i64 a0_3, .bool true, .int .i64 a0_5, .int .i64 a0_6]) (t := 57) ?hr ?_; (case hd => rfl); (case hg => rfl); (case hr => first | (go_simp; done) | (go_simp; rfl)); intro gb260 hg w18 hbox hb; have n0_ := Aside0.mk (below_step pmAx12_0_ hb); have n1_ := Aside0.mk (hbox); have n2_ := Aside0.mk ((pmAx12_7_ : w.heap.size ≤ gb260)); have n3_ := Aside0.mk ((pmAx12_7_ : w.heap.size ≤ gb260)); clear HB; have HB := n0_; have BK260 := n1_; have GW260 := n2_; have GE260 := n3_; clear n0_ n1_ n2_ n3_; clear hb hbox hg; have hcz19_0 : w18.cell? ⟨gb260, 0, none⟩ = some (.int .i64 a0_0) := (blk_cell BK260.out 0).trans rfl; have hcz19_1 : w18.cell? ⟨gb260, 1, none⟩ = some (.int .i64 a0_1) := (blk_cell BK260.out 1).trans rfl; have hcz19_2 : w18.cell? ⟨gb260, 2, none⟩ = some (.int .i64 a0_2) := (blk_cell BK260.out 2).trans rfl; have hcz19_3 : w18.cell? ⟨gb260, 3, none⟩ = some (.int .i64 a0_3) := (blk_cell BK260.out 3).trans rfl; have hcz19_4 : w18.cell? ⟨gb260, 4, none⟩ = some (.bool true) := (blk_cell BK260.out 4).trans rfl; have hcz19_5 : w18.cell? ⟨gb260, 5, none⟩ = some (.int .i64 a0_5) := (blk_cell BK260.out 5).trans rfl; have hcz19_6 : w18.cell? ⟨gb260, 6, none⟩ = some (.int .i64 a0_6) := (blk_cell BK260.out 6).trans rfl; have hfz19_0 := blk_frozen BK260.out 0; have hfz19_1 := blk_frozen BK260.out 1; have hfz19_2 := blk_frozen BK260.out 2; have hfz19_3 := blk_frozen BK260.out 3; have hfz19_4 := blk_frozen BK260.out 4; have hfz19_5 := blk_frozen BK260.out 5; have hfz19_6 := blk_frozen BK260.out 6))
    go_ret
    exact ⟨by first | rfl | (simp [errW_none, errW_some] <;> rfl) | (simp [*, errW_none, errW_some] <;> rfl), by repeat (first | (with_reducible first | exact HB.out | apply below_alloc | apply pw_below_drewN | apply below_drew1 | refine below_set ?_ GE260.out) | exact HB.out)⟩
  rw [if_pos c3] at H
  have c3b0 : (a0_0 == 1 && (a0_1 == 0)) = true := c3
  (try (have c3b1 : decide (a0_0 = 1 && (a0_1 == 0)) = true := by simpa using c3))
  (try (have c3b2 : (a0_0 == 1 && (a0_1 == 0)) = true := by simpa using c3))
  clear c3
  by_cases c4 : (a0_2 == 5 && (a0_3 == 0)) = true
  rotate_left
  · rw [if_neg c4] at H
    have c4b0 : (a0_2 == 5 && (a0_3 == 0)) = false := by simpa using c4
    (try (have c4b1 : decide (a0_2 = 5 && (a0_3 == 0)) = false := by simpa using c4))
    (try (have c4b2 : (a0_2 == 5 && (a0_3 == 0)) = false := by simpa using c4))
    (try (have c4b3 : ¬ (a0_2 = 5 && (a0_3 == 0)) := by simpa using c4))
    clear c4
    obtain rfl := Option.some.inj H
    go_enter Try.func34, Try.ntmps34
    go_wp2_with (first | ((with_reducible refine gate_dst (N := 1) rfl ?_); refine box_event ?hg (N := 1) ?hd (cs := #[.int .i64 a0_0, .int .i64 a0_1, .int .i64 a0_2, .int .i64 a0_3, .bool true, .int .i64 a0_5, .int .i64 a0_6]) (t := 57) ?hr ?_; (case hd => rfl); (case hg => rfl); (case hr => first | (go_simp; done) | (go_simp; rfl)); intro gb260 hg w16 hbox hb; have n0_ := Aside0.mk (below_step pmAx12_0_ hb); have n1_ := Aside0.mk (hbox); have n2_ := Aside0.mk ((pmAx12_7_ : w.heap.size ≤ gb260)); have n3_ := Aside0.mk ((pmAx12_7_ : w.heap.size ≤ gb260)); clear HB; have HB := n0_; have BK260 := n1_; have GW260 := n2_; have GE260 := n3_; clear n0_ n1_ n2_ n3_; clear hb hbox hg; have hcz17_0 : w16.cell? ⟨gb260, 0, none⟩ = some (.int .i64 a0_0) := (blk_cell BK260.out 0).trans rfl; have hcz17_1 : w16.cell? ⟨gb260, 1, none⟩ = some (.int .i64 a0_1) := (blk_cell BK260.out 1).trans rfl; have hcz17_2 : w16.cell? ⟨gb260, 2, none⟩ = some (.int .i64 a0_2) := (blk_cell BK260.out 2).trans rfl; have hcz17_3 : w16.cell? ⟨gb260, 3, none⟩ = some (.int .i64 a0_3) := (blk_cell BK260.out 3).trans rfl; have hcz17_4 : w16.cell? ⟨gb260, 4, none⟩ = some (.bool true) := (blk_cell BK260.out 4).trans rfl; have hcz17_5 : w16.cell? ⟨gb260, 5, none⟩ = some (.int .i64 a0_5) := (blk_cell BK260.out 5).trans rfl; have hcz17_6 : w16.cell? ⟨gb260, 6, none⟩ = some (.int .i64 a0_6) := (blk_cell BK260.out 6).trans rfl; have hfz17_0 := blk_frozen BK260.out 0; have hfz17_1 := blk_frozen BK260.out 1; have hfz17_2 := blk_frozen BK260.out 2; have hfz17_3 := blk_frozen BK260.out 3; have hfz17_4 := blk_frozen BK260.out 4; have hfz17_5 := blk_frozen BK260.out 5; have hfz17_6 := blk_frozen BK260.out 6))
    go_ret
    exact ⟨by first | rfl | (simp [errW_none, errW_some] <;> rfl) | (simp [*, errW_none, errW_some] <;> rfl), by repeat (first | (with_reducible first | exact HB.out | apply below_alloc | apply pw_below_drewN | apply below_drew1 | refine below_set ?_ GE260.out) | exact HB.out)⟩
  rw [if_pos c4] at H
  have c4b0 : (a0_2 == 5 && (a0_3 == 0)) = true := c4
  (try (have c4b1 : decide (a0_2 = 5 && (a0_3 == 0)) = true := by simpa using c4))
  (try (have c4b2 : (a0_2 == 5 && (a0_3 == 0)) = true := by simpa using c4))
  clear c4
  replace H := Option.bind_eq_some_iff.mp H
  obtain ⟨t261, A50, H⟩ := H
  replace H : (if t261 = true then ((parterreref05_Good.f k a0_5 a0_6 1).bind fun t262 => (some t262)) else (some false)) = some r := H
  have A5 := Aside0.mk A50
  clear A50
  by_cases c6 : t261 = true
  rotate_left
  · replace c6 := Bool.eq_false_iff.mpr c6
    subst c6
    have H1 : (some false) = some r := by rw [if_neg (show ¬ (false = true) by decide)] at H; exact H
    clear H
    have H := H1
    clear H1
    obtain rfl := Option.some.inj H
    go_enter Try.func34, Try.ntmps34
    go_wp2_with (first | ((with_reducible refine gate_dst (N := 1) rfl ?_); refine box_event ?hg (N := 1) ?hd (cs := #[.int .i64 a0_0, .int .i64 a0_1, .int .i64 a0_2, .int .i64 a0_3, .bool true, .int .i64 a0_5, .int .i64 a0_6]) (t := 57) ?hr ?_; (case hd => rfl); (case hg => rfl); (case hr => first | (go_simp; done) | (go_simp; rfl)); intro gb260 hg w13 hbox hb; have n0_ := Aside0.mk (below_step pmAx12_0_ hb); have n1_ := Aside0.mk (hbox); have n2_ := Aside0.mk ((pmAx12_7_ : w.heap.size ≤ gb260)); have n3_ := Aside0.mk ((pmAx12_7_ : w.heap.size ≤ gb260)); clear HB; have HB := n0_; have BK260 := n1_; have GW260 := n2_; have GE260 := n3_; clear n0_ n1_ n2_ n3_; clear hb hbox hg; have hcz14_0 : w13.cell? ⟨gb260, 0, none⟩ = some (.int .i64 a0_0) := (blk_cell BK260.out 0).trans rfl; have hcz14_1 : w13.cell? ⟨gb260, 1, none⟩ = some (.int .i64 a0_1) := (blk_cell BK260.out 1).trans rfl; have hcz14_2 : w13.cell? ⟨gb260, 2, none⟩ = some (.int .i64 a0_2) := (blk_cell BK260.out 2).trans rfl; have hcz14_3 : w13.cell? ⟨gb260, 3, none⟩ = some (.int .i64 a0_3) := (blk_cell BK260.out 3).trans rfl; have hcz14_4 : w13.cell? ⟨gb260, 4, none⟩ = some (.bool true) := (blk_cell BK260.out 4).trans rfl; have hcz14_5 : w13.cell? ⟨gb260, 5, none⟩ = some (.int .i64 a0_5) := (blk_cell BK260.out 5).trans rfl; have hcz14_6 : w13.cell? ⟨gb260, 6, none⟩ = some (.int .i64 a0_6) := (blk_cell BK260.out 6).trans rfl; have hfz14_0 := blk_frozen BK260.out 0; have hfz14_1 := blk_frozen BK260.out 1; have hfz14_2 := blk_frozen BK260.out 2; have hfz14_3 := blk_frozen BK260.out 3; have hfz14_4 := blk_frozen BK260.out 4; have hfz14_5 := blk_frozen BK260.out 5; have hfz14_6 := blk_frozen BK260.out 6) | (go_at_call 44; (with_reducible refine (parterreref06_isLen.calls a0_5 a0_6 false _ A5.out).mono ?_); rintro e w15 ⟨rfl, hb⟩; have n0_ := Aside0.mk (blk_below (g := gb260) (o := poAx12_0 a0_0 a0_1 a0_2 a0_3 true a0_5 a0_6) pmAx12_21_ hb); have n1_ := Aside0.mk (below_step pmAx12_20_ hb); clear BK260; clear HB; have BK260 := n0_; have HB := n1_; clear n0_ n1_; (try clear hb); (try clear hb2); (try clear hk); (try clear hi)))
    go_ret
    exact ⟨by first | rfl | (simp [errW_none, errW_some] <;> rfl) | (simp [*, errW_none, errW_some] <;> rfl), by repeat (first | (with_reducible first | exact HB.out | apply below_alloc | apply pw_below_drewN | apply below_drew1 | refine below_set ?_ GE260.out) | exact HB.out)⟩
  subst c6
  have H1 : ((parterreref05_Good.f k a0_5 a0_6 1).bind fun t262 => (some t262)) = some r := by rw [if_pos rfl] at H; exact H
  clear H
  have H := H1
  clear H1
  replace H := Option.bind_eq_some_iff.mp H
  obtain ⟨t262, A70, H⟩ := H
  replace H : (some t262) = some r := H
  have A7 := Aside0.mk A70
  clear A70
  obtain rfl := Option.some.inj H
  go_enter Try.func34, Try.ntmps34
  go_wp2_with (first | ((with_reducible refine gate_dst (N := 1) rfl ?_); refine box_event ?hg (N := 1) ?hd (cs := #[.int .i64 a0_0, .int .i64 a0_1, .int .i64 a0_2, .int .i64 a0_3, .bool true, .int .i64 a0_5, .int .i64 a0_6]) (t := 57) ?hr ?_; (case hd => rfl); (case hg => rfl); (case hr => first | (go_simp; done) | (go_simp; rfl)); intro gb260 hg w8 hbox hb; have n0_ := Aside0.mk (below_step pmAx12_0_ hb); have n1_ := Aside0.mk (hbox); have n2_ := Aside0.mk ((pmAx12_7_ : w.heap.size ≤ gb260)); have n3_ := Aside0.mk ((pmAx12_7_ : w.heap.size ≤ gb260)); clear HB; have HB := n0_; have BK260 := n1_; have GW260 := n2_; have GE260 := n3_; clear n0_ n1_ n2_ n3_; clear hb hbox hg; have hcz9_0 : w8.cell? ⟨gb260, 0, none⟩ = some (.int .i64 a0_0) := (blk_cell BK260.out 0).trans rfl; have hcz9_1 : w8.cell? ⟨gb260, 1, none⟩ = some (.int .i64 a0_1) := (blk_cell BK260.out 1).trans rfl; have hcz9_2 : w8.cell? ⟨gb260, 2, none⟩ = some (.int .i64 a0_2) := (blk_cell BK260.out 2).trans rfl; have hcz9_3 : w8.cell? ⟨gb260, 3, none⟩ = some (.int .i64 a0_3) := (blk_cell BK260.out 3).trans rfl; have hcz9_4 : w8.cell? ⟨gb260, 4, none⟩ = some (.bool true) := (blk_cell BK260.out 4).trans rfl; have hcz9_5 : w8.cell? ⟨gb260, 5, none⟩ = some (.int .i64 a0_5) := (blk_cell BK260.out 5).trans rfl; have hcz9_6 : w8.cell? ⟨gb260, 6, none⟩ = some (.int .i64 a0_6) := (blk_cell BK260.out 6).trans rfl; have hfz9_0 := blk_frozen BK260.out 0; have hfz9_1 := blk_frozen BK260.out 1; have hfz9_2 := blk_frozen BK260.out 2; have hfz9_3 := blk_frozen BK260.out 3; have hfz9_4 := blk_frozen BK260.out 4; have hfz9_5 := blk_frozen BK260.out 5; have hfz9_6 := blk_frozen BK260.out 6) | (go_at_call 44; (with_reducible refine (parterreref06_isLen.calls a0_5 a0_6 true _ A5.out).mono ?_); rintro e w10 ⟨rfl, hb⟩; have n0_ := Aside0.mk (blk_below (g := gb260) (o := poAx12_0 a0_0 a0_1 a0_2 a0_3 true a0_5 a0_6) pmAx12_21_ hb); have n1_ := Aside0.mk (below_step pmAx12_20_ hb); clear BK260; clear HB; have BK260 := n0_; have HB := n1_; clear n0_ n1_; (try clear hb); (try clear hb2); (try clear hk); (try clear hi); have hcz11_0 : w10.cell? ⟨gb260, 0, none⟩ = some (.int .i64 a0_0) := (blk_cell BK260.out 0).trans rfl; have hcz11_1 : w10.cell? ⟨gb260, 1, none⟩ = some (.int .i64 a0_1) := (blk_cell BK260.out 1).trans rfl; have hcz11_2 : w10.cell? ⟨gb260, 2, none⟩ = some (.int .i64 a0_2) := (blk_cell BK260.out 2).trans rfl; have hcz11_3 : w10.cell? ⟨gb260, 3, none⟩ = some (.int .i64 a0_3) := (blk_cell BK260.out 3).trans rfl; have hcz11_4 : w10.cell? ⟨gb260, 4, none⟩ = some (.bool true) := (blk_cell BK260.out 4).trans rfl; have hcz11_5 : w10.cell? ⟨gb260, 5, none⟩ = some (.int .i64 a0_5) := (blk_cell BK260.out 5).trans rfl; have hcz11_6 : w10.cell? ⟨gb260, 6, none⟩ = some (.int .i64 a0_6) := (blk_cell BK260.out 6).trans rfl; have hfz11_0 := blk_frozen BK260.out 0; have hfz11_1 := blk_frozen BK260.out 1; have hfz11_2 := blk_frozen BK260.out 2; have hfz11_3 := blk_frozen BK260.out 3; have hfz11_4 := blk_frozen BK260.out 4; have hfz11_5 := blk_frozen BK260.out 5; have hfz11_6 := blk_frozen BK260.out 6) | (go_at_call 45; (with_reducible refine (parterreref05_Good.calls k a0_5 a0_6 1 t262 _ A7.out).mono ?_); rintro e w12 ⟨rfl, hb⟩; have n0_ := Aside0.mk (blk_below (g := gb260) (o := poAx12_0 a0_0 a0_1 a0_2 a0_3 true a0_5 a0_6) pmAx12_21_ hb); have n1_ := Aside0.mk (below_step pmAx12_20_ hb); clear BK260; clear HB; have BK260 := n0_; have HB := n1_; clear n0_ n1_; (try clear hb); (try clear hb2); (try clear hk); (try clear hi)))
  go_ret
  exact ⟨by first | rfl | (simp [errW_none, errW_some] <;> rfl) | (simp [*, errW_none, errW_some] <;> rfl), by repeat (first | (with_reducible first | exact HB.out | apply below_alloc | apply pw_below_drewN | apply below_drew1 | refine below_set ?_ GE260.out) | exact HB.out)⟩
/-! ### parterreref21_within: function 35 -/
def parterreref21_within.f (a0 : Int) : Option (Bool) := if a0 ≥ 0 then (some (decide (a0 ≤ 68719476736))) else (some false)
set_option maxHeartbeats 8000000 in
set_option maxRecDepth 100000 in
theorem parterreref21_within.calls (a0 : Int) (r : Bool) (w : World) (h : parterreref21_within.f a0 = some r) :
    Calls Try.prog 35 #[.int .i64 a0] w fun e w' => e = .returned (.bool r) ∧ Drawn0 w w' := by
  have H : (if a0 ≥ 0 then (some (decide (a0 ≤ 68719476736))) else (some false)) = some r := h
  clear h
  by_cases c2 : a0 ≥ 0
  · rw [if_pos c2] at H
    have c2b0 : decide (0 ≤ a0) = true := decide_eq_true c2
    clear c2
    obtain rfl := Option.some.inj H
    go_enter Try.func35, Try.ntmps35
    go_wp2
    go_ret
    exact ⟨by first | rfl | (simp; done) | (simp [*]; done), by repeat (first | exact Drawn0.refl _ | apply Drawn0.step)⟩
  rw [if_neg c2] at H
  have c2b0 : decide (0 ≤ a0) = false := decide_eq_false c2
  clear c2
  obtain rfl := Option.some.inj H
  go_enter Try.func35, Try.ntmps35
  go_wp2
  go_ret
  exact ⟨by first | rfl | (simp; done) | (simp [*]; done), by repeat (first | exact Drawn0.refl _ | apply Drawn0.step)⟩

end Go.Proofs.Ytbkohlhonhmhmaa.PA
