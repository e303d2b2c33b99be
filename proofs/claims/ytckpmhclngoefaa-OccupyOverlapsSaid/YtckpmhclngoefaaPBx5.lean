-- written by a program of this session (a print of the translation with changes of its own)
import Derived.Test.YtckpmhclngoefaaPBx0
import Derived.Test.YtckpmhclngoefaaPBx1
import Derived.Test.YtckpmhclngoefaaPBx2
import Derived.Test.YtckpmhclngoefaaPBx3
import Derived.Test.YtckpmhclngoefaaPBx4
namespace Go.Proofs.Ytckpmhclngoefaa.PB
open Go.RowKit Go.Proofs.YtckpmhclngoefaaW.PrintWords Go.Proofs.YtckpmhclngoefaaW.PrintLast Go.Proofs.YtckpmhclngoefaaW.PrintMore
set_option hygiene false in
local macro "pm0_" : tactic => `(tactic| ((with_reducible repeat (first | refine blk_drewN ?_ _ | refine blk_drew ?_ | refine blk_alloc ?_ _)); exact BK153.out))
set_option hygiene false in
local macro "pm1_" : tactic => `(tactic| ((with_reducible repeat (first | refine blk_drewN ?_ _ | refine blk_drew ?_ | refine blk_alloc ?_ _)); exact BK154.out))
set_option hygiene false in
local macro "pm2_" : tactic => `(tactic| (repeat (first | (with_reducible first | exact HB.out | apply below_alloc | apply pw_below_drewN | apply below_drew1 | refine below_set ?_ GE153.out | refine below_set ?_ GE154.out | refine below_set ?_ GE164.out | refine below_set ?_ GE165.out | refine below_set ?_ GE174.out | refine below_set ?_ GE175.out) | exact HB.out)))
set_option hygiene false in
local macro "pm3_" : tactic => `(tactic| ((with_reducible repeat (first | refine blk_drewN ?_ _ | refine blk_drew ?_ | refine blk_alloc ?_ _)); exact BK164.out))
set_option hygiene false in
local macro "pm4_" : tactic => `(tactic| ((with_reducible repeat (first | refine blk_drewN ?_ _ | refine blk_drew ?_ | refine blk_alloc ?_ _)); exact BK165.out))
set_option hygiene false in
local macro "pm5_" : tactic => `(tactic| (repeat (first | (with_reducible first | exact HB.out | apply below_alloc | apply pw_below_drewN | apply below_drew1 | refine below_set ?_ GE153.out | refine below_set ?_ GE154.out | refine below_set ?_ GE164.out | refine below_set ?_ GE165.out) | exact HB.out)))
set_option hygiene false in
local macro "pm6_" : tactic => `(tactic| ((with_reducible repeat (first | refine blk_drewN ?_ _ | refine blk_drew ?_ | refine blk_alloc ?_ _)); refine blk_far ?_ NB164_165.out _; (with_reducible repeat (first | refine blk_drewN ?_ _ | refine blk_drew ?_ | refine blk_alloc ?_ _)); refine blk_far ?_ NB164_165.out _; (with_reducible repeat (first | refine blk_drewN ?_ _ | refine blk_drew ?_ | refine blk_alloc ?_ _)); refine blk_far ?_ NB164_165.out _; (with_reducible repeat (first | refine blk_drewN ?_ _ | refine blk_drew ?_ | refine blk_alloc ?_ _)); refine blk_far ?_ NB164_165.out _; (with_reducible repeat (first | refine blk_drewN ?_ _ | refine blk_drew ?_ | refine blk_alloc ?_ _)); refine blk_put (cs := #[.int .i64 t156, .int .i64 t157, .int .i64 t158, .int .i64 0]) ?_ 3 _ rfl; (with_reducible repeat (first | refine blk_drewN ?_ _ | refine blk_drew ?_ | refine blk_alloc ?_ _)); refine blk_put (cs := #[.int .i64 t156, .int .i64 t157, .int .i64 0, .int .i64 0]) ?_ 2 _ rfl; (with_reducible repeat (first | refine blk_drewN ?_ _ | refine blk_drew ?_ | refine blk_alloc ?_ _)); refine blk_put (cs := #[.int .i64 t156, .int .i64 0, .int .i64 0, .int .i64 0]) ?_ 1 _ rfl; (with_reducible repeat (first | refine blk_drewN ?_ _ | refine blk_drew ?_ | refine blk_alloc ?_ _)); refine blk_put (cs := #[.int .i64 0, .int .i64 0, .int .i64 0, .int .i64 0]) ?_ 0 _ rfl; (with_reducible repeat (first | refine blk_drewN ?_ _ | refine blk_drew ?_ | refine blk_alloc ?_ _)); exact BK164.out))
set_option hygiene false in
local macro "pm7_" : tactic => `(tactic| ((with_reducible repeat (first | refine blk_drewN ?_ _ | refine blk_drew ?_ | refine blk_alloc ?_ _)); refine blk_put (cs := #[.int .i64 t160, .int .i64 t161, .int .i64 t162, .int .i64 0]) ?_ 3 _ rfl; (with_reducible repeat (first | refine blk_drewN ?_ _ | refine blk_drew ?_ | refine blk_alloc ?_ _)); refine blk_put (cs := #[.int .i64 t160, .int .i64 t161, .int .i64 0, .int .i64 0]) ?_ 2 _ rfl; (with_reducible repeat (first | refine blk_drewN ?_ _ | refine blk_drew ?_ | refine blk_alloc ?_ _)); refine blk_put (cs := #[.int .i64 t160, .int .i64 0, .int .i64 0, .int .i64 0]) ?_ 1 _ rfl; (with_reducible repeat (first | refine blk_drewN ?_ _ | refine blk_drew ?_ | refine blk_alloc ?_ _)); refine blk_put (cs := #[.int .i64 0, .int .i64 0, .int .i64 0, .int .i64 0]) ?_ 0 _ rfl; (with_reducible repeat (first | refine blk_drewN ?_ _ | refine blk_drew ?_ | refine blk_alloc ?_ _)); refine blk_far ?_ NB165_164.out _; (with_reducible repeat (first | refine blk_drewN ?_ _ | refine blk_drew ?_ | refine blk_alloc ?_ _)); refine blk_far ?_ NB165_164.out _; (with_reducible repeat (first | refine blk_drewN ?_ _ | refine blk_drew ?_ | refine blk_alloc ?_ _)); refine blk_far ?_ NB165_164.out _; (with_reducible repeat (first | refine blk_drewN ?_ _ | refine blk_drew ?_ | refine blk_alloc ?_ _)); refine blk_far ?_ NB165_164.out _; (with_reducible repeat (first | refine blk_drewN ?_ _ | refine blk_drew ?_ | refine blk_alloc ?_ _)); exact BK165.out))
set_option hygiene false in
local macro "pm8_" : tactic => `(tactic| ((try simp only [List.map_toArray, List.map_cons, List.map_nil]); first | done | rfl | (simp only [List.length_drop, List.length_take]; rfl)))
set_option hygiene false in
local macro "pm9_" : tactic => `(tactic| ((with_reducible repeat (first | refine blk_drewN ?_ _ | refine blk_drew ?_ | refine blk_alloc ?_ _)); exact BK174.out))
set_option hygiene false in
local macro "pm10_" : tactic => `(tactic| ((with_reducible repeat (first | refine blk_drewN ?_ _ | refine blk_drew ?_ | refine blk_alloc ?_ _)); refine blk_far ?_ NB153_165.out _; (with_reducible repeat (first | refine blk_drewN ?_ _ | refine blk_drew ?_ | refine blk_alloc ?_ _)); refine blk_far ?_ NB153_165.out _; (with_reducible repeat (first | refine blk_drewN ?_ _ | refine blk_drew ?_ | refine blk_alloc ?_ _)); refine blk_far ?_ NB153_165.out _; (with_reducible repeat (first | refine blk_drewN ?_ _ | refine blk_drew ?_ | refine blk_alloc ?_ _)); refine blk_far ?_ NB153_165.out _; (with_reducible repeat (first | refine blk_drewN ?_ _ | refine blk_drew ?_ | refine blk_alloc ?_ _)); refine blk_far ?_ NB153_164.out _; (with_reducible repeat (first | refine blk_drewN ?_ _ | refine blk_drew ?_ | refine blk_alloc ?_ _)); refine blk_far ?_ NB153_164.out _; (with_reducible repeat (first | refine blk_drewN ?_ _ | refine blk_drew ?_ | refine blk_alloc ?_ _)); refine blk_far ?_ NB153_164.out _; (with_reducible repeat (first | refine blk_drewN ?_ _ | refine blk_drew ?_ | refine blk_alloc ?_ _)); refine blk_far ?_ NB153_164.out _; (with_reducible repeat (first | refine blk_drewN ?_ _ | refine blk_drew ?_ | refine blk_alloc ?_ _)); exact BK153.out))
set_option hygiene false in
local macro "pm11_" : tactic => `(tactic| ((with_reducible repeat (first | refine blk_drewN ?_ _ | refine blk_drew ?_ | refine blk_alloc ?_ _)); refine blk_far ?_ NB154_165.out _; (with_reducible repeat (first | refine blk_drewN ?_ _ | refine blk_drew ?_ | refine blk_alloc ?_ _)); refine blk_far ?_ NB154_165.out _; (with_reducible repeat (first | refine blk_drewN ?_ _ | refine blk_drew ?_ | refine blk_alloc ?_ _)); refine blk_far ?_ NB154_165.out _; (with_reducible repeat (first | refine blk_drewN ?_ _ | refine blk_drew ?_ | refine blk_alloc ?_ _)); refine blk_far ?_ NB154_165.out _; (with_reducible repeat (first | refine blk_drewN ?_ _ | refine blk_drew ?_ | refine blk_alloc ?_ _)); refine blk_far ?_ NB154_164.out _; (with_reducible repeat (first | refine blk_drewN ?_ _ | refine blk_drew ?_ | refine blk_alloc ?_ _)); refine blk_far ?_ NB154_164.out _; (with_reducible repeat (first | refine blk_drewN ?_ _ | refine blk_drew ?_ | refine blk_alloc ?_ _)); refine blk_far ?_ NB154_164.out _; (with_reducible repeat (first | refine blk_drewN ?_ _ | refine blk_drew ?_ | refine blk_alloc ?_ _)); refine blk_far ?_ NB154_164.out _; (with_reducible repeat (first | refine blk_drewN ?_ _ | refine blk_drew ?_ | refine blk_alloc ?_ _)); exact BK154.out))
set_option hygiene false in
local macro "pm12_" : tactic => `(tactic| (repeat (first | (with_reducible first | exact HB.out | apply below_alloc | apply pw_below_drewN | apply below_drew1 | refine below_set ?_ GE153.out | refine below_set ?_ GE154.out | refine below_set ?_ GE164.out | refine below_set ?_ GE165.out | refine below_set ?_ GE174.out) | exact HB.out)))
set_option hygiene false in
local macro "pm13_" : tactic => `(tactic| (repeat (first | (with_reducible first | exact HB.out | apply below_alloc | apply pw_below_drewN | apply below_drew1 | refine below_set ?_ GE153.out | refine below_set ?_ GE154.out) | exact HB.out)))
set_option hygiene false in
local macro "pm14_" : tactic => `(tactic| ((with_reducible repeat (first | refine blk_drewN ?_ _ | refine blk_drew ?_ | refine blk_alloc ?_ _)); exact BK175.out))
set_option hygiene false in
local macro "pm15_" : tactic => `(tactic| (repeat (first | (with_reducible first | exact HB.out | apply below_alloc | apply pw_below_drewN | apply below_drew1 | refine below_set ?_ GE153.out | refine below_set ?_ GE154.out | refine below_set ?_ GE164.out) | exact HB.out)))
set_option hygiene false in
local macro "pm16_" : tactic => `(tactic| (repeat (first | (with_reducible first | exact HB.out | apply below_alloc | apply pw_below_drewN | apply below_drew1 | refine below_set ?_ GE153.out) | exact HB.out)))
set_option hygiene false in
local macro "pm17_" : tactic => `(tactic| (repeat (first | (with_reducible first | exact HB.out | apply below_alloc | apply pw_below_drewN | apply below_drew1) | exact HB.out)))
set_option hygiene false in
local macro "pm18_" : tactic => `(tactic| (kernel_rfl))
set_option hygiene false in
local macro "pm19_" : tactic => `(tactic| (have BK153 := n0_))
set_option hygiene false in
local macro "pm20_" : tactic => `(tactic| (have BK154 := n1_))
set_option hygiene false in
local macro "pm21_" : tactic => `(tactic| (have BK164 := n2_))
set_option hygiene false in
local macro "pm22_" : tactic => `(tactic| (have BK165 := n3_))
set_option hygiene false in
local macro "pm23_" : tactic => `(tactic| (have BK174 := n4_))
set_option hygiene false in
local macro "pm24_" : tactic => `(tactic| (have BK175 := n5_))
set_option hygiene false in
local macro "pm25_" : tactic => `(tactic| (have HB := n6_))
set_option hygiene false in
local macro "pm26_" : tactic => `(tactic| (clear n0_ n1_ n2_ n3_ n4_ n5_ n6_))
set_option hygiene false in
local macro "pm27_" : tactic => `(tactic| (refine start_ (n := 46) (S := fun w' => w'.cell? ⟨gb153, 0, none⟩ = some (.int .i64 a1_0) ∧ w'.cell? ⟨gb153, 1, none⟩ = some (.int .i64 a1_1) ∧ w'.cell? ⟨gb153, 2, none⟩ = some (.int .i64 a1_2) ∧ w'.cell? ⟨gb153, 3, none⟩ = some (.int .i64 a1_3) ∧ w'.cell? ⟨gb154, 0, none⟩ = some (.int .i64 a2_0) ∧ w'.cell? ⟨gb154, 1, none⟩ = some (.int .i64 a2_1) ∧ w'.cell? ⟨gb154, 2, none⟩ = some (.int .i64 a2_2) ∧ w'.cell? ⟨gb154, 3, none⟩ = some (.int .i64 a2_3) ∧ w'.cell? ⟨gb164, 0, none⟩ = some (.int .i64 t156) ∧ w'.cell? ⟨gb164, 1, none⟩ = some (.int .i64 t157) ∧ w'.cell? ⟨gb164, 2, none⟩ = some (.int .i64 t158) ∧ w'.cell? ⟨gb164, 3, none⟩ = some (.int .i64 t159) ∧ w'.cell? ⟨gb174, 0, none⟩ = some (.int .i64 t166) ∧ w'.cell? ⟨gb174, 1, none⟩ = some (.int .i64 t167) ∧ w'.cell? ⟨gb174, 2, none⟩ = some (.int .i64 t168) ∧ w'.cell? ⟨gb174, 3, none⟩ = some (.int .i64 t169) ∧ w'.cell? ⟨gb165, 0, none⟩ = some (.int .i64 t160) ∧ w'.cell? ⟨gb165, 1, none⟩ = some (.int .i64 t161) ∧ w'.cell? ⟨gb165, 2, none⟩ = some (.int .i64 t162) ∧ w'.cell? ⟨gb165, 3, none⟩ = some (.int .i64 t163) ∧ w'.cell? ⟨gb175, 0, none⟩ = some (.int .i64 t170) ∧ w'.cell? ⟨gb175, 1, none⟩ = some (.int .i64 t171) ∧ w'.cell? ⟨gb175, 2, none⟩ = some (.int .i64 t172) ∧ w'.cell? ⟨gb175, 3, none⟩ = some (.int .i64 t173)) (ds := []) #[false, false, false, false, false, false, false, false, false, false, false, false, false, false, false, false, false, false, false, false, false, false, false, false, false, false, false, false, false, false, false, false, false, false, false, false, false, false, false, false, false, false, false, false, false, false] (by pm18_) rfl rfl ⟨(blk_cell BK153.out 0).trans rfl, (blk_cell BK153.out 1).trans rfl, (blk_cell BK153.out 2).trans rfl, (blk_cell BK153.out 3).trans rfl, (blk_cell BK154.out 0).trans rfl, (blk_cell BK154.out 1).trans rfl, (blk_cell BK154.out 2).trans rfl, (blk_cell BK154.out 3).trans rfl, (blk_cell BK164.out 0).trans rfl, (blk_cell BK164.out 1).trans rfl, (blk_cell BK164.out 2).trans rfl, (blk_cell BK164.out 3).trans rfl, (blk_cell BK174.out 0).trans rfl, (blk_cell BK174.out 1).trans rfl, (blk_cell BK174.out 2).trans rfl, (blk_cell BK174.out 3).trans rfl, (blk_cell BK165.out 0).trans rfl, (blk_cell BK165.out 1).trans rfl, (blk_cell BK165.out 2).trans rfl, (blk_cell BK165.out 3).trans rfl, (blk_cell BK175.out 0).trans rfl, (blk_cell BK175.out 1).trans rfl, (blk_cell BK175.out 2).trans rfl, (blk_cell BK175.out 3).trans rfl⟩ (fun hHeld => ?_); refine with_tabW parterrelaw19_OccupyOverlaps.tab5 parterrelaw19_OccupyOverlaps.bits5 (fun HT_ HW_ => ?_)))
set_option hygiene false in
local macro "pm28_" : tactic => `(tactic| (refine take_ (i := 0) (N := some 25) (v := ?_) (a' := ?_) #[true, false, false, false, false, false, false, false, false, false, false, false, false, false, false, false, false, false, false, false, false, false, false, false, false, false, false, false, false, false, false, false, false, false, false, false, false, false, false, false, false, false, false, false, false, false] rfl rfl (take_ofW HT_.out HW_.out (by pm18_)) (fun _ _ _ h => h) (Or.inl ⟨by rfl, ?_⟩) hHeld ?_ ?_))
set_option hygiene false in
local macro "pm29_" : tactic => `(tactic| (rintro w' ⟨s0, s1, s2, s3, s4, s5, s6, s7, s8, s9, s10, s11, s12, s13, s14, s15, s16, s17, s18, s19, s20, s21, s22, s23⟩))
set_option hygiene false in
local macro "pm30_" : tactic => `(tactic| (simp only [Act.put, List.setIfInBounds_toArray, List.set_cons_zero, List.set_cons_succ, i64_w, i32_w]))
set_option hygiene false in
local macro "pm31_" : tactic => `(tactic| (refine take_ (i := 1) (N := some 26) (v := ?_) (a' := ?_) #[true, true, false, false, false, false, false, false, false, false, false, false, false, false, false, false, false, false, false, false, false, false, false, false, false, false, false, false, false, false, false, false, false, false, false, false, false, false, false, false, false, false, false, false, false, false] rfl rfl (take_ofW HT_.out HW_.out (by pm18_)) (fun _ _ _ h => h) (Or.inl ⟨by rfl, ?_⟩) hHeld ?_ ?_))
set_option hygiene false in
local macro "pm32_" : tactic => `(tactic| (refine take_ (i := 3) (N := some 28) (v := ?_) (a' := ?_) #[true, true, false, true, false, false, false, false, false, false, false, false, false, false, false, false, false, false, false, false, false, false, false, false, false, false, false, false, false, false, false, false, false, false, false, false, false, false, false, false, false, false, false, false, false, false] rfl rfl (take_ofW HT_.out HW_.out (by pm18_)) (fun _ _ _ h => h) (Or.inl ⟨by rfl, ?_⟩) hHeld ?_ ?_))
set_option hygiene false in
local macro "pm33_" : tactic => `(tactic| (refine take_ (i := 4) (N := some 29) (v := ?_) (a' := ?_) #[true, true, false, true, true, false, false, false, false, false, false, false, false, false, false, false, false, false, false, false, false, false, false, false, false, false, false, false, false, false, false, false, false, false, false, false, false, false, false, false, false, false, false, false, false, false] rfl rfl (take_ofW HT_.out HW_.out (by pm18_)) (fun _ _ _ h => h) (Or.inl ⟨by rfl, ?_⟩) hHeld ?_ ?_))
set_option hygiene false in
local macro "pm34_" : tactic => `(tactic| (refine one_ (i := 2) (N := some 27) #[true, true, true, true, true, false, false, false, false, false, false, false, false, false, false, false, false, false, false, false, false, false, false, false, false, false, false, false, false, false, false, false, false, false, false, false, false, false, false, false, false, false, false, false, false, false] rfl rfl (one_of HT_.out (by pm18_)) (by decide) (fun K hK => ?_)))
set_option hygiene false in
local macro "pm35_" : tactic => `(tactic| (refine goes_ Try.func17 (by pm18_) rfl #[.agg #[.int .i64 a1_0, .int .i64 a1_1, .int .i64 a1_2, .int .i64 a1_3], .agg #[.int .i64 a2_0, .int .i64 a2_1, .int .i64 a2_2, .int .i64 a2_3]] (by rfl) rfl rfl (by pm8_) ?_))
set_option hygiene false in
local macro "pm36_" : tactic => `(tactic| (refine ⟨_, rfl, ?_⟩))
set_option hygiene false in
local macro "pm37_" : tactic => `(tactic| (have n0_ := Aside0.mk (blk_below (g := gb153) (o := .cells #[.int .i64 a1_0, .int .i64 a1_1, .int .i64 a1_2, .int .i64 a1_3] 24 (0, 0)) (by pm0_) hb)))
set_option hygiene false in
local macro "pm38_" : tactic => `(tactic| (have n1_ := Aside0.mk (blk_below (g := gb154) (o := .cells #[.int .i64 a2_0, .int .i64 a2_1, .int .i64 a2_2, .int .i64 a2_3] 24 (0, 0)) (by pm1_) hb)))
set_option hygiene false in
local macro "pm39_" : tactic => `(tactic| (have n2_ := Aside0.mk (blk_below (g := gb164) (o := .cells #[.int .i64 t156, .int .i64 t157, .int .i64 t158, .int .i64 t159] 24 (0, 0)) (by pm3_) hb)))
set_option hygiene false in
local macro "pm40_" : tactic => `(tactic| (have n3_ := Aside0.mk (blk_below (g := gb165) (o := .cells #[.int .i64 t160, .int .i64 t161, .int .i64 t162, .int .i64 t163] 24 (0, 0)) (by pm4_) hb)))
set_option hygiene false in
local macro "pm41_" : tactic => `(tactic| (have n4_ := Aside0.mk (blk_below (g := gb174) (o := .cells #[.int .i64 t166, .int .i64 t167, .int .i64 t168, .int .i64 t169] 24 (0, 0)) (by pm9_) hb)))
set_option hygiene false in
local macro "pm42_" : tactic => `(tactic| (have n5_ := Aside0.mk (blk_below (g := gb175) (o := .cells #[.int .i64 t170, .int .i64 t171, .int .i64 t172, .int .i64 t173] 24 (0, 0)) (by pm14_) hb)))
set_option hygiene false in
local macro "pm43_" : tactic => `(tactic| (have n6_ := Aside0.mk (below_step (by pm2_) hb)))
set_option hygiene false in
local macro "pm44_" : tactic => `(tactic| (refine hK.out _ _ ⟨(blk_cell BK153.out 0).trans rfl, (blk_cell BK153.out 1).trans rfl, (blk_cell BK153.out 2).trans rfl, (blk_cell BK153.out 3).trans rfl, (blk_cell BK154.out 0).trans rfl, (blk_cell BK154.out 1).trans rfl, (blk_cell BK154.out 2).trans rfl, (blk_cell BK154.out 3).trans rfl, (blk_cell BK164.out 0).trans rfl, (blk_cell BK164.out 1).trans rfl, (blk_cell BK164.out 2).trans rfl, (blk_cell BK164.out 3).trans rfl, (blk_cell BK174.out 0).trans rfl, (blk_cell BK174.out 1).trans rfl, (blk_cell BK174.out 2).trans rfl, (blk_cell BK174.out 3).trans rfl, (blk_cell BK165.out 0).trans rfl, (blk_cell BK165.out 1).trans rfl, (blk_cell BK165.out 2).trans rfl, (blk_cell BK165.out 3).trans rfl, (blk_cell BK175.out 0).trans rfl, (blk_cell BK175.out 1).trans rfl, (blk_cell BK175.out 2).trans rfl, (blk_cell BK175.out 3).trans rfl⟩ (fun hHeld => ?_)))
set_option hygiene false in
local macro "pm45_" : tactic => `(tactic| (refine norm_ (a' := ?_) ?_ ?_))
set_option hygiene false in
local macro "pm46_" : tactic => `(tactic| (refine one_ (i := 5) (N := some 30) #[true, true, true, true, true, true, false, false, false, false, false, false, false, false, false, false, false, false, false, false, false, false, false, false, false, false, false, false, false, false, false, false, false, false, false, false, false, false, false, false, false, false, false, false, false, false] rfl rfl (one_of HT_.out (by pm18_)) (by decide) (fun K hK => ?_)))
set_option hygiene false in
local macro "pm47_" : tactic => `(tactic| (refine goes_ Try.func18 (by pm18_) rfl #[.agg #[.int .i64 a1_0, .int .i64 a1_1, .int .i64 a1_2, .int .i64 a1_3], .agg #[.int .i64 a2_0, .int .i64 a2_1, .int .i64 a2_2, .int .i64 a2_3]] (by rfl) rfl rfl (by pm8_) ?_))
set_option hygiene false in
local macro "pm48_" : tactic => `(tactic| (refine pure_ (i := 6) (N := some 31) (v := ?_) (a' := ?_) #[true, true, true, true, true, true, true, false, false, false, false, false, false, false, false, false, false, false, false, false, false, false, false, false, false, false, false, false, false, false, false, false, false, false, false, false, false, false, false, false, false, false, false, false, false, false] rfl rfl (any_of HT_.out (by pm18_)) (fun _ _ _ h => h) (Or.inl ⟨by rfl, ?_⟩) ?_ ?_))
set_option hygiene false in
local macro "pm49_" : tactic => `(tactic| (refine pure_ (i := 7) (N := some 32) (v := ?_) (a' := ?_) #[true, true, true, true, true, true, true, true, false, false, false, false, false, false, false, false, false, false, false, false, false, false, false, false, false, false, false, false, false, false, false, false, false, false, false, false, false, false, false, false, false, false, false, false, false, false] rfl rfl (any_of HT_.out (by pm18_)) (fun _ _ _ h => h) (Or.inl ⟨by rfl, ?_⟩) ?_ ?_))
set_option hygiene false in
local macro "pm50_" : tactic => `(tactic| (refine take_ (i := 8) (N := some 33) (v := ?_) (a' := ?_) #[true, true, true, true, true, true, true, true, true, false, false, false, false, false, false, false, false, false, false, false, false, false, false, false, false, false, false, false, false, false, false, false, false, false, false, false, false, false, false, false, false, false, false, false, false, false] rfl rfl (take_ofW HT_.out HW_.out (by pm18_)) (fun _ _ _ h => h) (Or.inl ⟨by rfl, ?_⟩) hHeld ?_ ?_))
set_option hygiene false in
local macro "pm51_" : tactic => `(tactic| (refine take_ (i := 9) (N := some 34) (v := ?_) (a' := ?_) #[true, true, true, true, true, true, true, true, true, true, false, false, false, false, false, false, false, false, false, false, false, false, false, false, false, false, false, false, false, false, false, false, false, false, false, false, false, false, false, false, false, false, false, false, false, false] rfl rfl (take_ofW HT_.out HW_.out (by pm18_)) (fun _ _ _ h => h) (Or.inl ⟨by rfl, ?_⟩) hHeld ?_ ?_))
set_option hygiene false in
local macro "pm52_" : tactic => `(tactic| (refine take_ (i := 11) (N := some 36) (v := ?_) (a' := ?_) #[true, true, true, true, true, true, true, true, true, true, false, true, false, false, false, false, false, false, false, false, false, false, false, false, false, false, false, false, false, false, false, false, false, false, false, false, false, false, false, false, false, false, false, false, false, false] rfl rfl (take_ofW HT_.out HW_.out (by pm18_)) (fun _ _ _ h => h) (Or.inl ⟨by rfl, ?_⟩) hHeld ?_ ?_))
set_option hygiene false in
local macro "pm53_" : tactic => `(tactic| (refine take_ (i := 12) (N := some 37) (v := ?_) (a' := ?_) #[true, true, true, true, true, true, true, true, true, true, false, true, true, false, false, false, false, false, false, false, false, false, false, false, false, false, false, false, false, false, false, false, false, false, false, false, false, false, false, false, false, false, false, false, false, false] rfl rfl (take_ofW HT_.out HW_.out (by pm18_)) (fun _ _ _ h => h) (Or.inl ⟨by rfl, ?_⟩) hHeld ?_ ?_))
set_option hygiene false in
local macro "pm54_" : tactic => `(tactic| (refine one_ (i := 10) (N := some 35) #[true, true, true, true, true, true, true, true, true, true, true, true, true, false, false, false, false, false, false, false, false, false, false, false, false, false, false, false, false, false, false, false, false, false, false, false, false, false, false, false, false, false, false, false, false, false] rfl rfl (one_of HT_.out (by pm18_)) (by decide) (fun K hK => ?_)))
set_option hygiene false in
local macro "pm55_" : tactic => `(tactic| (refine goes_ Try.func17 (by pm18_) rfl #[.agg #[.int .i64 a2_0, .int .i64 a2_1, .int .i64 a2_2, .int .i64 a2_3], .agg #[.int .i64 a1_0, .int .i64 a1_1, .int .i64 a1_2, .int .i64 a1_3]] (by rfl) rfl rfl (by pm8_) ?_))
set_option hygiene false in
local macro "pm56_" : tactic => `(tactic| (refine one_ (i := 13) (N := some 38) #[true, true, true, true, true, true, true, true, true, true, true, true, true, true, false, false, false, false, false, false, false, false, false, false, false, false, false, false, false, false, false, false, false, false, false, false, false, false, false, false, false, false, false, false, false, false] rfl rfl (one_of HT_.out (by pm18_)) (by decide) (fun K hK => ?_)))
set_option hygiene false in
local macro "pm57_" : tactic => `(tactic| (refine pure_ (i := 14) (N := some 39) (v := ?_) (a' := ?_) #[true, true, true, true, true, true, true, true, true, true, true, true, true, true, true, false, false, false, false, false, false, false, false, false, false, false, false, false, false, false, false, false, false, false, false, false, false, false, false, false, false, false, false, false, false, false] rfl rfl (any_of HT_.out (by pm18_)) (fun _ _ _ h => h) (Or.inl ⟨by rfl, ?_⟩) ?_ ?_))
set_option hygiene false in
local macro "pm58_" : tactic => `(tactic| (refine pure_ (i := 15) (N := some 40) (v := ?_) (a' := ?_) #[true, true, true, true, true, true, true, true, true, true, true, true, true, true, true, true, false, false, false, false, false, false, false, false, false, false, false, false, false, false, false, false, false, false, false, false, false, false, false, false, false, false, false, false, false, false] rfl rfl (any_of HT_.out (by pm18_)) (fun _ _ _ h => h) (Or.inl ⟨by rfl, ?_⟩) ?_ ?_))
set_option hygiene false in
local macro "pm59_" : tactic => `(tactic| (refine pure_ (i := 16) (N := some 41) (v := ?_) (a' := ?_) #[true, true, true, true, true, true, true, true, true, true, true, true, true, true, true, true, true, false, false, false, false, false, false, false, false, false, false, false, false, false, false, false, false, false, false, false, false, false, false, false, false, false, false, false, false, false] rfl rfl (any_of HT_.out (by pm18_)) (fun _ _ _ h => h) (Or.inl ⟨by rfl, ?_⟩) ?_ ?_))
set_option hygiene false in
local macro "pm60_" : tactic => `(tactic| (refine pure_ (i := 17) (N := some 42) (v := ?_) (a' := ?_) #[true, true, true, true, true, true, true, true, true, true, true, true, true, true, true, true, true, true, false, false, false, false, false, false, false, false, false, false, false, false, false, false, false, false, false, false, false, false, false, false, false, false, false, false, false, false] rfl rfl (any_of HT_.out (by pm18_)) (fun _ _ _ h => h) (Or.inl ⟨by rfl, ?_⟩) ?_ ?_))
set_option hygiene false in
local macro "pm61_" : tactic => `(tactic| (refine pure_ (i := 20) (N := some 45) (v := ?_) (a' := ?_) #[true, true, true, true, true, true, true, true, true, true, true, true, true, true, true, true, true, true, false, false, true, false, false, false, false, false, false, false, false, false, false, false, false, false, false, false, false, false, false, false, false, false, false, false, false, false] rfl rfl (any_of HT_.out (by pm18_)) (fun _ _ _ h => h) (Or.inl ⟨by rfl, ?_⟩) ?_ ?_))
set_option hygiene false in
local macro "pm62_" : tactic => `(tactic| (refine take_ (i := 18) (N := some 43) (v := ?_) (a' := ?_) #[true, true, true, true, true, true, true, true, true, true, true, true, true, true, true, true, true, true, true, false, true, false, false, false, false, false, false, false, false, false, false, false, false, false, false, false, false, false, false, false, false, false, false, false, false, false] rfl rfl (take_ofW HT_.out HW_.out (by pm18_)) (fun _ _ _ h => h) (Or.inl ⟨by rfl, ?_⟩) hHeld ?_ ?_))
set_option hygiene false in
local macro "pm63_" : tactic => `(tactic| (refine take_ (i := 21) (N := some 46) (v := ?_) (a' := ?_) #[true, true, true, true, true, true, true, true, true, true, true, true, true, true, true, true, true, true, true, false, true, true, false, false, false, false, false, false, false, false, false, false, false, false, false, false, false, false, false, false, false, false, false, false, false, false] rfl rfl (take_ofW HT_.out HW_.out (by pm18_)) (fun _ _ _ h => h) (Or.inl ⟨by rfl, ?_⟩) hHeld ?_ ?_))
set_option hygiene false in
local macro "pm64_" : tactic => `(tactic| (refine one_ (i := 19) (N := some 44) #[true, true, true, true, true, true, true, true, true, true, true, true, true, true, true, true, true, true, true, true, true, true, false, false, false, false, false, false, false, false, false, false, false, false, false, false, false, false, false, false, false, false, false, false, false, false] rfl rfl (one_of HT_.out (by pm18_)) (by decide) (fun K hK => ?_)))
set_option hygiene false in
local macro "pm65_" : tactic => `(tactic| (refine goes_ Try.func10 (by pm18_) rfl #[.slice A0 l0.length c0, .agg #[.int .i64 a1_0, .int .i64 a1_1, .int .i64 a1_2, .int .i64 a1_3]] (by rfl) rfl rfl (by pm8_) ?_))
set_option hygiene false in
local macro "pm66_" : tactic => `(tactic| (refine one_ (i := 22) (N := some 47) #[true, true, true, true, true, true, true, true, true, true, true, true, true, true, true, true, true, true, true, true, true, true, true, false, false, false, false, false, false, false, false, false, false, false, false, false, false, false, false, false, false, false, false, false, false, false] rfl rfl (one_of HT_.out (by pm18_)) (by decide) (fun K hK => ?_)))
set_option hygiene false in
local macro "pm67_" : tactic => `(tactic| (refine goes_ Try.func19 (by pm18_) rfl #[.slice A0 l0.length c0, .agg #[.int .i64 a1_0, .int .i64 a1_1, .int .i64 a1_2, .int .i64 a1_3]] (by rfl) rfl rfl (by pm8_) ?_))
set_option hygiene false in
local macro "pm68_" : tactic => `(tactic| (refine pure_ (i := 23) (N := some 48) (v := ?_) (a' := ?_) #[true, true, true, true, true, true, true, true, true, true, true, true, true, true, true, true, true, true, true, true, true, true, true, true, false, false, false, false, false, false, false, false, false, false, false, false, false, false, false, false, false, false, false, false, false, false] rfl rfl (any_of HT_.out (by pm18_)) (fun _ _ _ h => h) (Or.inl ⟨by rfl, ?_⟩) ?_ ?_))
set_option hygiene false in
local macro "pm69_" : tactic => `(tactic| (refine pure_ (i := 24) (N := some 49) (v := ?_) (a' := ?_) #[true, true, true, true, true, true, true, true, true, true, true, true, true, true, true, true, true, true, true, true, true, true, true, true, true, false, false, false, false, false, false, false, false, false, false, false, false, false, false, false, false, false, false, false, false, false] rfl rfl (any_of HT_.out (by pm18_)) (fun _ _ _ h => h) (Or.inl ⟨by rfl, ?_⟩) ?_ ?_))
set_option hygiene false in
local macro "pm70_" : tactic => `(tactic| (refine pure_ (i := 25) (N := some 50) (v := ?_) (a' := ?_) #[true, true, true, true, true, true, true, true, true, true, true, true, true, true, true, true, true, true, true, true, true, true, true, true, true, true, false, false, false, false, false, false, false, false, false, false, false, false, false, false, false, false, false, false, false, false] rfl rfl (any_of HT_.out (by pm18_)) (fun _ _ _ h => h) (Or.inl ⟨by rfl, ?_⟩) ?_ ?_))
set_option hygiene false in
local macro "pm71_" : tactic => `(tactic| (refine take_ (i := 26) (N := some 51) (v := ?_) (a' := ?_) #[true, true, true, true, true, true, true, true, true, true, true, true, true, true, true, true, true, true, true, true, true, true, true, true, true, true, true, false, false, false, false, false, false, false, false, false, false, false, false, false, false, false, false, false, false, false] rfl rfl (take_ofW HT_.out HW_.out (by pm18_)) (fun _ _ _ h => h) (Or.inl ⟨by rfl, ?_⟩) hHeld ?_ ?_))
set_option hygiene false in
local macro "pm72_" : tactic => `(tactic| (refine take_ (i := 28) (N := some 53) (v := ?_) (a' := ?_) #[true, true, true, true, true, true, true, true, true, true, true, true, true, true, true, true, true, true, true, true, true, true, true, true, true, true, true, false, true, false, false, false, false, false, false, false, false, false, false, false, false, false, false, false, false, false] rfl rfl (take_ofW HT_.out HW_.out (by pm18_)) (fun _ _ _ h => h) (Or.inl ⟨by rfl, ?_⟩) hHeld ?_ ?_))
set_option hygiene false in
local macro "pm73_" : tactic => `(tactic| (refine one_ (i := 27) (N := some 52) #[true, true, true, true, true, true, true, true, true, true, true, true, true, true, true, true, true, true, true, true, true, true, true, true, true, true, true, true, true, false, false, false, false, false, false, false, false, false, false, false, false, false, false, false, false, false] rfl rfl (one_of HT_.out (by pm18_)) (by decide) (fun K hK => ?_)))
set_option hygiene false in
local macro "pm74_" : tactic => `(tactic| (refine goes_ Try.func14 (by pm18_) rfl #[.agg #[.int .i64 a1_0, .int .i64 a1_1, .int .i64 a1_2, .int .i64 a1_3]] (by rfl) rfl rfl (by pm8_) ?_))
set_option hygiene false in
local macro "pm75_" : tactic => `(tactic| (refine one_ (i := 29) (N := some 54) #[true, true, true, true, true, true, true, true, true, true, true, true, true, true, true, true, true, true, true, true, true, true, true, true, true, true, true, true, true, true, false, false, false, false, false, false, false, false, false, false, false, false, false, false, false, false] rfl rfl (one_of HT_.out (by pm18_)) (by decide) (fun K hK => ?_)))
set_option hygiene false in
local macro "pm76_" : tactic => `(tactic| (refine goes_ Try.func20 (by pm18_) rfl #[.agg #[.int .i64 a1_0, .int .i64 a1_1, .int .i64 a1_2, .int .i64 a1_3]] (by rfl) rfl rfl (by pm8_) ?_))
set_option hygiene false in
local macro "pm77_" : tactic => `(tactic| (refine pure_ (i := 30) (N := some 55) (v := ?_) (a' := ?_) #[true, true, true, true, true, true, true, true, true, true, true, true, true, true, true, true, true, true, true, true, true, true, true, true, true, true, true, true, true, true, true, false, false, false, false, false, false, false, false, false, false, false, false, false, false, false] rfl rfl (any_of HT_.out (by pm18_)) (fun _ _ _ h => h) (Or.inl ⟨by rfl, ?_⟩) ?_ ?_))
set_option hygiene false in
local macro "pm78_" : tactic => `(tactic| (refine pure_ (i := 31) (N := some 56) (v := ?_) (a' := ?_) #[true, true, true, true, true, true, true, true, true, true, true, true, true, true, true, true, true, true, true, true, true, true, true, true, true, true, true, true, true, true, true, true, false, false, false, false, false, false, false, false, false, false, false, false, false, false] rfl rfl (any_of HT_.out (by pm18_)) (fun _ _ _ h => h) (Or.inl ⟨by rfl, ?_⟩) ?_ ?_))
set_option hygiene false in
local macro "pm79_" : tactic => `(tactic| (refine pure_ (i := 32) (N := some 57) (v := ?_) (a' := ?_) #[true, true, true, true, true, true, true, true, true, true, true, true, true, true, true, true, true, true, true, true, true, true, true, true, true, true, true, true, true, true, true, true, true, false, false, false, false, false, false, false, false, false, false, false, false, false] rfl rfl (any_of HT_.out (by pm18_)) (fun _ _ _ h => h) (Or.inl ⟨by rfl, ?_⟩) ?_ ?_))
set_option hygiene false in
local macro "pm80_" : tactic => `(tactic| (refine take_ (i := 33) (N := some 58) (v := ?_) (a' := ?_) #[true, true, true, true, true, true, true, true, true, true, true, true, true, true, true, true, true, true, true, true, true, true, true, true, true, true, true, true, true, true, true, true, true, true, false, false, false, false, false, false, false, false, false, false, false, false] rfl rfl (take_ofW HT_.out HW_.out (by pm18_)) (fun _ _ _ h => h) (Or.inl ⟨by rfl, ?_⟩) hHeld ?_ ?_))
set_option hygiene false in
local macro "pm81_" : tactic => `(tactic| (refine take_ (i := 34) (N := some 59) (v := ?_) (a' := ?_) #[true, true, true, true, true, true, true, true, true, true, true, true, true, true, true, true, true, true, true, true, true, true, true, true, true, true, true, true, true, true, true, true, true, true, true, false, false, false, false, false, false, false, false, false, false, false] rfl rfl (take_ofW HT_.out HW_.out (by pm18_)) (fun _ _ _ h => h) (Or.inl ⟨by rfl, ?_⟩) hHeld ?_ ?_))
set_option hygiene false in
local macro "pm82_" : tactic => `(tactic| (refine pure_ (i := 35) (N := some 60) (v := ?_) (a' := ?_) #[true, true, true, true, true, true, true, true, true, true, true, true, true, true, true, true, true, true, true, true, true, true, true, true, true, true, true, true, true, true, true, true, true, true, true, true, false, false, false, false, false, false, false, false, false, false] rfl rfl (any_of HT_.out (by pm18_)) (fun _ _ _ h => h) (Or.inl ⟨by rfl, ?_⟩) ?_ ?_))
set_option hygiene false in
local macro "pm83_" : tactic => `(tactic| (refine pure_ (i := 36) (N := some 61) (v := ?_) (a' := ?_) #[true, true, true, true, true, true, true, true, true, true, true, true, true, true, true, true, true, true, true, true, true, true, true, true, true, true, true, true, true, true, true, true, true, true, true, true, true, false, false, false, false, false, false, false, false, false] rfl rfl (any_of HT_.out (by pm18_)) (fun _ _ _ h => h) (Or.inl ⟨by rfl, ?_⟩) ?_ ?_))
set_option hygiene false in
local macro "pm84_" : tactic => `(tactic| (refine pure_ (i := 37) (N := some 62) (v := ?_) (a' := ?_) #[true, true, true, true, true, true, true, true, true, true, true, true, true, true, true, true, true, true, true, true, true, true, true, true, true, true, true, true, true, true, true, true, true, true, true, true, true, true, false, false, false, false, false, false, false, false] rfl rfl (any_of HT_.out (by pm18_)) (fun _ _ _ h => h) (Or.inl ⟨by rfl, ?_⟩) ?_ ?_))
set_option hygiene false in
local macro "pm85_" : tactic => `(tactic| (refine take_ (i := 38) (N := some 63) (v := ?_) (a' := ?_) #[true, true, true, true, true, true, true, true, true, true, true, true, true, true, true, true, true, true, true, true, true, true, true, true, true, true, true, true, true, true, true, true, true, true, true, true, true, true, true, false, false, false, false, false, false, false] rfl rfl (take_ofW HT_.out HW_.out (by pm18_)) (fun _ _ _ h => h) (Or.inl ⟨by rfl, ?_⟩) hHeld ?_ ?_))
set_option hygiene false in
local macro "pm86_" : tactic => `(tactic| (refine take_ (i := 39) (N := some 64) (v := ?_) (a' := ?_) #[true, true, true, true, true, true, true, true, true, true, true, true, true, true, true, true, true, true, true, true, true, true, true, true, true, true, true, true, true, true, true, true, true, true, true, true, true, true, true, true, false, false, false, false, false, false] rfl rfl (take_ofW HT_.out HW_.out (by pm18_)) (fun _ _ _ h => h) (Or.inl ⟨by rfl, ?_⟩) hHeld ?_ ?_))
set_option hygiene false in
local macro "pm87_" : tactic => `(tactic| (refine pure_ (i := 40) (N := some 65) (v := ?_) (a' := ?_) #[true, true, true, true, true, true, true, true, true, true, true, true, true, true, true, true, true, true, true, true, true, true, true, true, true, true, true, true, true, true, true, true, true, true, true, true, true, true, true, true, true, false, false, false, false, false] rfl rfl (any_of HT_.out (by pm18_)) (fun _ _ _ h => h) (Or.inl ⟨by rfl, ?_⟩) ?_ ?_))
set_option hygiene false in
local macro "pm88_" : tactic => `(tactic| (refine pure_ (i := 41) (N := some 66) (v := ?_) (a' := ?_) #[true, true, true, true, true, true, true, true, true, true, true, true, true, true, true, true, true, true, true, true, true, true, true, true, true, true, true, true, true, true, true, true, true, true, true, true, true, true, true, true, true, true, false, false, false, false] rfl rfl (any_of HT_.out (by pm18_)) (fun _ _ _ h => h) (Or.inl ⟨by rfl, ?_⟩) ?_ ?_))
set_option hygiene false in
local macro "pm89_" : tactic => `(tactic| (refine pure_ (i := 42) (N := some 67) (v := ?_) (a' := ?_) #[true, true, true, true, true, true, true, true, true, true, true, true, true, true, true, true, true, true, true, true, true, true, true, true, true, true, true, true, true, true, true, true, true, true, true, true, true, true, true, true, true, true, true, false, false, false] rfl rfl (any_of HT_.out (by pm18_)) (fun _ _ _ h => h) (Or.inl ⟨by rfl, ?_⟩) ?_ ?_))
set_option hygiene false in
local macro "pm90_" : tactic => `(tactic| (refine pure_ (i := 44) (N := some 69) (v := ?_) (a' := ?_) #[true, true, true, true, true, true, true, true, true, true, true, true, true, true, true, true, true, true, true, true, true, true, true, true, true, true, true, true, true, true, true, true, true, true, true, true, true, true, true, true, true, true, true, true, true, false] rfl rfl (any_of HT_.out (by pm18_)) (fun _ _ _ h => h) (Or.inl ⟨by rfl, ?_⟩) ?_ ?_))
set_option hygiene false in
local macro "pm91_" : tactic => `(tactic| (refine pure_ (i := 45) (N := some 6) (v := ?_) (a' := ?_) #[true, true, true, true, true, true, true, true, true, true, true, true, true, true, true, true, true, true, true, true, true, true, true, true, true, true, true, true, true, true, true, true, true, true, true, true, true, true, true, true, true, true, true, true, true, true] rfl rfl (any_of HT_.out (by pm18_)) (fun _ _ _ h => h) (Or.inl ⟨by rfl, ?_⟩) ?_ ?_))
set_option hygiene false in
local macro "pm92_" : tactic => `(tactic| (exact ⟨by first | rfl | (simp [errW_none, errW_some] <;> rfl) | (simp [*, errW_none, errW_some] <;> rfl), by repeat (first | (with_reducible first | exact HB.out | apply below_alloc | apply pw_below_drewN | apply below_drew1 | refine below_set ?_ GE153.out | refine below_set ?_ GE154.out | refine below_set ?_ GE164.out | refine below_set ?_ GE165.out | refine below_set ?_ GE174.out | refine below_set ?_ GE175.out) | exact HB.out)⟩))
set_option hygiene false in
local macro "pm93_" : tactic => `(tactic| (refine pure_ (i := 43) (N := some 68) (v := undef) (a' := ?_) #[true, true, true, true, true, true, true, true, true, true, true, true, true, true, true, true, true, true, true, true, true, true, true, true, true, true, true, true, true, true, true, true, true, true, true, true, true, true, true, true, true, true, true, true, false, false] rfl rfl (any_of HT_.out (by pm18_)) (fun _ _ _ h => h) (Or.inr ⟨by rfl, rfl⟩) ?_ ?_))
set_option hygiene false in
local macro "pm94_" : tactic => `(tactic| (rintro w' ⟨s0, s1, s2, s3, s4, s5, s6, s7, s8, s9, s10, s11, s12, s13, s14, s15⟩))
set_option hygiene false in
local macro "pm95_" : tactic => `(tactic| (refine hK.out _ _ ⟨(blk_cell BK153.out 0).trans rfl, (blk_cell BK153.out 1).trans rfl, (blk_cell BK153.out 2).trans rfl, (blk_cell BK153.out 3).trans rfl, (blk_cell BK154.out 0).trans rfl, (blk_cell BK154.out 1).trans rfl, (blk_cell BK154.out 2).trans rfl, (blk_cell BK154.out 3).trans rfl, (blk_cell BK164.out 0).trans rfl, (blk_cell BK164.out 1).trans rfl, (blk_cell BK164.out 2).trans rfl, (blk_cell BK164.out 3).trans rfl, (blk_cell BK174.out 0).trans rfl, (blk_cell BK174.out 1).trans rfl, (blk_cell BK174.out 2).trans rfl, (blk_cell BK174.out 3).trans rfl⟩ (fun hHeld => ?_)))
set_option hygiene false in
local macro "pm96_" : tactic => `(tactic| (refine pure_ (i := 38) (N := some 63) (v := undef) (a' := ?_) #[true, true, true, true, true, true, true, true, true, true, true, true, true, true, true, true, true, true, true, true, true, true, true, true, true, true, true, true, true, true, true, true, true, true, true, true, true, true, true, false, false, false, false, false, false, false] rfl rfl (any_of HT_.out (by pm18_)) (fun _ _ _ h => h) (Or.inr ⟨by rfl, rfl⟩) ?_ ?_))
set_option hygiene false in
local macro "pm97_" : tactic => `(tactic| (refine pure_ (i := 39) (N := some 64) (v := undef) (a' := ?_) #[true, true, true, true, true, true, true, true, true, true, true, true, true, true, true, true, true, true, true, true, true, true, true, true, true, true, true, true, true, true, true, true, true, true, true, true, true, true, true, true, false, false, false, false, false, false] rfl rfl (any_of HT_.out (by pm18_)) (fun _ _ _ h => h) (Or.inr ⟨by rfl, rfl⟩) ?_ ?_))
set_option hygiene false in
local macro "pm98_" : tactic => `(tactic| (refine pure_ (i := 40) (N := some 65) (v := undef) (a' := ?_) #[true, true, true, true, true, true, true, true, true, true, true, true, true, true, true, true, true, true, true, true, true, true, true, true, true, true, true, true, true, true, true, true, true, true, true, true, true, true, true, true, true, false, false, false, false, false] rfl rfl (any_of HT_.out (by pm18_)) (fun _ _ _ h => h) (Or.inr ⟨by rfl, rfl⟩) ?_ ?_))
set_option hygiene false in
local macro "pm99_" : tactic => `(tactic| (refine start_ (n := 46) (S := fun w' => w'.cell? ⟨gb153, 0, none⟩ = some (.int .i64 a1_0) ∧ w'.cell? ⟨gb153, 1, none⟩ = some (.int .i64 a1_1) ∧ w'.cell? ⟨gb153, 2, none⟩ = some (.int .i64 a1_2) ∧ w'.cell? ⟨gb153, 3, none⟩ = some (.int .i64 a1_3) ∧ w'.cell? ⟨gb154, 0, none⟩ = some (.int .i64 a2_0) ∧ w'.cell? ⟨gb154, 1, none⟩ = some (.int .i64 a2_1) ∧ w'.cell? ⟨gb154, 2, none⟩ = some (.int .i64 a2_2) ∧ w'.cell? ⟨gb154, 3, none⟩ = some (.int .i64 a2_3)) (ds := []) #[false, false, false, false, false, false, false, false, false, false, false, false, false, false, false, false, false, false, false, false, false, false, false, false, false, false, false, false, false, false, false, false, false, false, false, false, false, false, false, false, false, false, false, false, false, false] (by pm18_) rfl rfl ⟨(blk_cell BK153.out 0).trans rfl, (blk_cell BK153.out 1).trans rfl, (blk_cell BK153.out 2).trans rfl, (blk_cell BK153.out 3).trans rfl, (blk_cell BK154.out 0).trans rfl, (blk_cell BK154.out 1).trans rfl, (blk_cell BK154.out 2).trans rfl, (blk_cell BK154.out 3).trans rfl⟩ (fun hHeld => ?_); refine with_tabW parterrelaw19_OccupyOverlaps.tab5 parterrelaw19_OccupyOverlaps.bits5 (fun HT_ HW_ => ?_)))
set_option hygiene false in
local macro "pm100_" : tactic => `(tactic| (rintro w' ⟨s0, s1, s2, s3, s4, s5, s6, s7⟩))
set_option hygiene false in
local macro "pm101_" : tactic => `(tactic| (refine hK.out _ _ ⟨(blk_cell BK153.out 0).trans rfl, (blk_cell BK153.out 1).trans rfl, (blk_cell BK153.out 2).trans rfl, (blk_cell BK153.out 3).trans rfl, (blk_cell BK154.out 0).trans rfl, (blk_cell BK154.out 1).trans rfl, (blk_cell BK154.out 2).trans rfl, (blk_cell BK154.out 3).trans rfl⟩ (fun hHeld => ?_)))
set_option hygiene false in
local macro "pm102_" : tactic => `(tactic| (refine pure_ (i := 33) (N := some 58) (v := undef) (a' := ?_) #[true, true, true, true, true, true, true, true, true, true, true, true, true, true, true, true, true, true, true, true, true, true, true, true, true, true, true, true, true, true, true, true, true, true, false, false, false, false, false, false, false, false, false, false, false, false] rfl rfl (any_of HT_.out (by pm18_)) (fun _ _ _ h => h) (Or.inr ⟨by rfl, rfl⟩) ?_ ?_))
set_option hygiene false in
local macro "pm103_" : tactic => `(tactic| (refine pure_ (i := 34) (N := some 59) (v := undef) (a' := ?_) #[true, true, true, true, true, true, true, true, true, true, true, true, true, true, true, true, true, true, true, true, true, true, true, true, true, true, true, true, true, true, true, true, true, true, true, false, false, false, false, false, false, false, false, false, false, false] rfl rfl (any_of HT_.out (by pm18_)) (fun _ _ _ h => h) (Or.inr ⟨by rfl, rfl⟩) ?_ ?_))
set_option hygiene false in
local macro "pm104_" : tactic => `(tactic| (refine pure_ (i := 35) (N := some 60) (v := undef) (a' := ?_) #[true, true, true, true, true, true, true, true, true, true, true, true, true, true, true, true, true, true, true, true, true, true, true, true, true, true, true, true, true, true, true, true, true, true, true, true, false, false, false, false, false, false, false, false, false, false] rfl rfl (any_of HT_.out (by pm18_)) (fun _ _ _ h => h) (Or.inr ⟨by rfl, rfl⟩) ?_ ?_))
set_option hygiene false in
local macro "pm105_" : tactic => `(tactic| (refine pure_ (i := 26) (N := some 51) (v := undef) (a' := ?_) #[true, true, true, true, true, true, true, true, true, true, true, true, true, true, true, true, true, true, true, true, true, true, true, true, true, true, true, false, false, false, false, false, false, false, false, false, false, false, false, false, false, false, false, false, false, false] rfl rfl (any_of HT_.out (by pm18_)) (fun _ _ _ h => h) (Or.inr ⟨by rfl, rfl⟩) ?_ ?_))
set_option hygiene false in
local macro "pm106_" : tactic => `(tactic| (refine pure_ (i := 27) (N := some 52) (v := undef) (a' := ?_) #[true, true, true, true, true, true, true, true, true, true, true, true, true, true, true, true, true, true, true, true, true, true, true, true, true, true, true, true, false, false, false, false, false, false, false, false, false, false, false, false, false, false, false, false, false, false] rfl rfl (any_of HT_.out (by pm18_)) (fun _ _ _ h => h) (Or.inr ⟨by rfl, rfl⟩) ?_ ?_))
set_option hygiene false in
local macro "pm107_" : tactic => `(tactic| (refine pure_ (i := 28) (N := some 53) (v := undef) (a' := ?_) #[true, true, true, true, true, true, true, true, true, true, true, true, true, true, true, true, true, true, true, true, true, true, true, true, true, true, true, true, true, false, false, false, false, false, false, false, false, false, false, false, false, false, false, false, false, false] rfl rfl (any_of HT_.out (by pm18_)) (fun _ _ _ h => h) (Or.inr ⟨by rfl, rfl⟩) ?_ ?_))
set_option hygiene false in
local macro "pm108_" : tactic => `(tactic| (refine pure_ (i := 29) (N := some 54) (v := undef) (a' := ?_) #[true, true, true, true, true, true, true, true, true, true, true, true, true, true, true, true, true, true, true, true, true, true, true, true, true, true, true, true, true, true, false, false, false, false, false, false, false, false, false, false, false, false, false, false, false, false] rfl rfl (any_of HT_.out (by pm18_)) (fun _ _ _ h => h) (Or.inr ⟨by rfl, rfl⟩) ?_ ?_))
set_option hygiene false in
local macro "pm109_" : tactic => `(tactic| (refine pure_ (i := 30) (N := some 55) (v := undef) (a' := ?_) #[true, true, true, true, true, true, true, true, true, true, true, true, true, true, true, true, true, true, true, true, true, true, true, true, true, true, true, true, true, true, true, false, false, false, false, false, false, false, false, false, false, false, false, false, false, false] rfl rfl (any_of HT_.out (by pm18_)) (fun _ _ _ h => h) (Or.inr ⟨by rfl, rfl⟩) ?_ ?_))
set_option hygiene false in
local macro "pm110_" : tactic => `(tactic| (refine pure_ (i := 17) (N := some 42) (v := undef) (a' := ?_) #[true, true, true, true, true, true, true, true, true, true, true, true, true, true, true, true, true, true, false, false, false, false, false, false, false, false, false, false, false, false, false, false, false, false, false, false, false, false, false, false, false, false, false, false, false, false] rfl rfl (any_of HT_.out (by pm18_)) (fun _ _ _ h => h) (Or.inr ⟨by rfl, rfl⟩) ?_ ?_))
set_option hygiene false in
local macro "pm111_" : tactic => `(tactic| (refine pure_ (i := 18) (N := some 43) (v := undef) (a' := ?_) #[true, true, true, true, true, true, true, true, true, true, true, true, true, true, true, true, true, true, true, false, false, false, false, false, false, false, false, false, false, false, false, false, false, false, false, false, false, false, false, false, false, false, false, false, false, false] rfl rfl (any_of HT_.out (by pm18_)) (fun _ _ _ h => h) (Or.inr ⟨by rfl, rfl⟩) ?_ ?_))
set_option hygiene false in
local macro "pm112_" : tactic => `(tactic| (refine pure_ (i := 19) (N := some 44) (v := undef) (a' := ?_) #[true, true, true, true, true, true, true, true, true, true, true, true, true, true, true, true, true, true, true, true, false, false, false, false, false, false, false, false, false, false, false, false, false, false, false, false, false, false, false, false, false, false, false, false, false, false] rfl rfl (any_of HT_.out (by pm18_)) (fun _ _ _ h => h) (Or.inr ⟨by rfl, rfl⟩) ?_ ?_))
set_option hygiene false in
local macro "pm113_" : tactic => `(tactic| (refine pure_ (i := 20) (N := some 45) (v := undef) (a' := ?_) #[true, true, true, true, true, true, true, true, true, true, true, true, true, true, true, true, true, true, true, true, true, false, false, false, false, false, false, false, false, false, false, false, false, false, false, false, false, false, false, false, false, false, false, false, false, false] rfl rfl (any_of HT_.out (by pm18_)) (fun _ _ _ h => h) (Or.inr ⟨by rfl, rfl⟩) ?_ ?_))
set_option hygiene false in
local macro "pm114_" : tactic => `(tactic| (refine pure_ (i := 21) (N := some 46) (v := undef) (a' := ?_) #[true, true, true, true, true, true, true, true, true, true, true, true, true, true, true, true, true, true, true, true, true, true, false, false, false, false, false, false, false, false, false, false, false, false, false, false, false, false, false, false, false, false, false, false, false, false] rfl rfl (any_of HT_.out (by pm18_)) (fun _ _ _ h => h) (Or.inr ⟨by rfl, rfl⟩) ?_ ?_))
set_option hygiene false in
local macro "pm115_" : tactic => `(tactic| (refine pure_ (i := 22) (N := some 47) (v := undef) (a' := ?_) #[true, true, true, true, true, true, true, true, true, true, true, true, true, true, true, true, true, true, true, true, true, true, true, false, false, false, false, false, false, false, false, false, false, false, false, false, false, false, false, false, false, false, false, false, false, false] rfl rfl (any_of HT_.out (by pm18_)) (fun _ _ _ h => h) (Or.inr ⟨by rfl, rfl⟩) ?_ ?_))
set_option hygiene false in
local macro "pm116_" : tactic => `(tactic| (refine pure_ (i := 23) (N := some 48) (v := undef) (a' := ?_) #[true, true, true, true, true, true, true, true, true, true, true, true, true, true, true, true, true, true, true, true, true, true, true, true, false, false, false, false, false, false, false, false, false, false, false, false, false, false, false, false, false, false, false, false, false, false] rfl rfl (any_of HT_.out (by pm18_)) (fun _ _ _ h => h) (Or.inr ⟨by rfl, rfl⟩) ?_ ?_))
set_option hygiene false in
local macro "pm117_" : tactic => `(tactic| ((with_reducible repeat (first | refine blk_drewN ?_ _ | refine blk_drew ?_ | refine blk_alloc ?_ _))))
set_option hygiene false in
local macro "pm118_" : tactic => `(tactic| (have n0_ := Aside0.mk (blk_below (g := gb153) (o := .cells #[.int .i64 a1_0, .int .i64 a1_1, .int .i64 a1_2, .int .i64 a1_3] 24 (0, 0)) (by pm0_) hb); have n1_ := Aside0.mk (blk_below (g := gb154) (o := .cells #[.int .i64 a2_0, .int .i64 a2_1, .int .i64 a2_2, .int .i64 a2_3] 24 (0, 0)) (by pm1_) hb); have n2_ := Aside0.mk (blk_below (g := gb164) (o := .cells #[.int .i64 t156, .int .i64 t157, .int .i64 t158, .int .i64 t159] 24 (0, 0)) (by pm3_) hb); have n3_ := Aside0.mk (blk_below (g := gb165) (o := .cells #[.int .i64 t160, .int .i64 t161, .int .i64 t162, .int .i64 t163] 24 (0, 0)) (by pm4_) hb); have n4_ := Aside0.mk (blk_below (g := gb174) (o := .cells #[.int .i64 0, .int .i64 0, .int .i64 0, .int .i64 0] 24 (0, 0)) (by pm9_) hb); have n5_ := Aside0.mk (below_step (by pm12_) hb); have n6_ := Aside0.mk (hbox); have n7_ := Aside0.mk ((by rw [hg]; exact (below_size (by pm12_)) : w.heap.size ≤ gb175)); have n8_ := Aside0.mk ((by rw [hg]; exact (below_size (by pm12_)) : w.heap.size ≤ gb175)); have n9_ := Aside0.mk ((by rw [hg]; exact Nat.ne_of_lt (blk_lt (g := gb153) (o := .cells #[.int .i64 a1_0, .int .i64 a1_1, .int .i64 a1_2, .int .i64 a1_3] 24 (0, 0)) (by pm0_)) : gb153 ≠ gb175)); have n10_ := Aside0.mk ((by rw [hg]; exact Nat.ne_of_gt (blk_lt (g := gb153) (o := .cells #[.int .i64 a1_0, .int .i64 a1_1, .int .i64 a1_2, .int .i64 a1_3] 24 (0, 0)) (by pm0_)) : gb175 ≠ gb153)); have n11_ := Aside0.mk ((by rw [hg]; exact Nat.ne_of_lt (blk_lt (g := gb154) (o := .cells #[.int .i64 a2_0, .int .i64 a2_1, .int .i64 a2_2, .int .i64 a2_3] 24 (0, 0)) (by pm1_)) : gb154 ≠ gb175)); have n12_ := Aside0.mk ((by rw [hg]; exact Nat.ne_of_gt (blk_lt (g := gb154) (o := .cells #[.int .i64 a2_0, .int .i64 a2_1, .int .i64 a2_2, .int .i64 a2_3] 24 (0, 0)) (by pm1_)) : gb175 ≠ gb154)); have n13_ := Aside0.mk ((by rw [hg]; exact Nat.ne_of_lt (blk_lt (g := gb164) (o := .cells #[.int .i64 t156, .int .i64 t157, .int .i64 t158, .int .i64 t159] 24 (0, 0)) (by pm3_)) : gb164 ≠ gb175)); have n14_ := Aside0.mk ((by rw [hg]; exact Nat.ne_of_gt (blk_lt (g := gb164) (o := .cells #[.int .i64 t156, .int .i64 t157, .int .i64 t158, .int .i64 t159] 24 (0, 0)) (by pm3_)) : gb175 ≠ gb164)); have n15_ := Aside0.mk ((by rw [hg]; exact Nat.ne_of_lt (blk_lt (g := gb165) (o := .cells #[.int .i64 t160, .int .i64 t161, .int .i64 t162, .int .i64 t163] 24 (0, 0)) (by pm4_)) : gb165 ≠ gb175)); have n16_ := Aside0.mk ((by rw [hg]; exact Nat.ne_of_gt (blk_lt (g := gb165) (o := .cells #[.int .i64 t160, .int .i64 t161, .int .i64 t162, .int .i64 t163] 24 (0, 0)) (by pm4_)) : gb175 ≠ gb165)); have n17_ := Aside0.mk ((by rw [hg]; exact Nat.ne_of_lt (blk_lt (g := gb174) (o := .cells #[.int .i64 0, .int .i64 0, .int .i64 0, .int .i64 0] 24 (0, 0)) (by pm9_)) : gb174 ≠ gb175)); have n18_ := Aside0.mk ((by rw [hg]; exact Nat.ne_of_gt (blk_lt (g := gb174) (o := .cells #[.int .i64 0, .int .i64 0, .int .i64 0, .int .i64 0] 24 (0, 0)) (by pm9_)) : gb175 ≠ gb174)); clear BK153; clear BK154; clear BK164; clear BK165; clear BK174))
set_option hygiene false in
local macro "pm119_" : tactic => `(tactic| (have n0_ := Aside0.mk (blk_below (g := gb153) (o := .cells #[.int .i64 a1_0, .int .i64 a1_1, .int .i64 a1_2, .int .i64 a1_3] 24 (0, 0)) (by pm0_) hb); have n1_ := Aside0.mk (blk_below (g := gb154) (o := .cells #[.int .i64 a2_0, .int .i64 a2_1, .int .i64 a2_2, .int .i64 a2_3] 24 (0, 0)) (by pm1_) hb); have n2_ := Aside0.mk (blk_below (g := gb164) (o := .cells #[.int .i64 t156, .int .i64 t157, .int .i64 t158, .int .i64 t159] 24 (0, 0)) (by pm3_) hb); have n3_ := Aside0.mk (blk_below (g := gb165) (o := .cells #[.int .i64 t160, .int .i64 t161, .int .i64 t162, .int .i64 t163] 24 (0, 0)) (by pm4_) hb); have n4_ := Aside0.mk (below_step (by pm5_) hb); have n5_ := Aside0.mk (hbox); have n6_ := Aside0.mk ((by rw [hg]; exact (below_size (by pm5_)) : w.heap.size ≤ gb174)); have n7_ := Aside0.mk ((by rw [hg]; exact (below_size (by pm5_)) : w.heap.size ≤ gb174)); have n8_ := Aside0.mk ((by rw [hg]; exact Nat.ne_of_lt (blk_lt (g := gb153) (o := .cells #[.int .i64 a1_0, .int .i64 a1_1, .int .i64 a1_2, .int .i64 a1_3] 24 (0, 0)) (by pm0_)) : gb153 ≠ gb174)); have n9_ := Aside0.mk ((by rw [hg]; exact Nat.ne_of_gt (blk_lt (g := gb153) (o := .cells #[.int .i64 a1_0, .int .i64 a1_1, .int .i64 a1_2, .int .i64 a1_3] 24 (0, 0)) (by pm0_)) : gb174 ≠ gb153)); have n10_ := Aside0.mk ((by rw [hg]; exact Nat.ne_of_lt (blk_lt (g := gb154) (o := .cells #[.int .i64 a2_0, .int .i64 a2_1, .int .i64 a2_2, .int .i64 a2_3] 24 (0, 0)) (by pm1_)) : gb154 ≠ gb174)); have n11_ := Aside0.mk ((by rw [hg]; exact Nat.ne_of_gt (blk_lt (g := gb154) (o := .cells #[.int .i64 a2_0, .int .i64 a2_1, .int .i64 a2_2, .int .i64 a2_3] 24 (0, 0)) (by pm1_)) : gb174 ≠ gb154)); have n12_ := Aside0.mk ((by rw [hg]; exact Nat.ne_of_lt (blk_lt (g := gb164) (o := .cells #[.int .i64 t156, .int .i64 t157, .int .i64 t158, .int .i64 t159] 24 (0, 0)) (by pm3_)) : gb164 ≠ gb174)); have n13_ := Aside0.mk ((by rw [hg]; exact Nat.ne_of_gt (blk_lt (g := gb164) (o := .cells #[.int .i64 t156, .int .i64 t157, .int .i64 t158, .int .i64 t159] 24 (0, 0)) (by pm3_)) : gb174 ≠ gb164)); have n14_ := Aside0.mk ((by rw [hg]; exact Nat.ne_of_lt (blk_lt (g := gb165) (o := .cells #[.int .i64 t160, .int .i64 t161, .int .i64 t162, .int .i64 t163] 24 (0, 0)) (by pm4_)) : gb165 ≠ gb174)); have n15_ := Aside0.mk ((by rw [hg]; exact Nat.ne_of_gt (blk_lt (g := gb165) (o := .cells #[.int .i64 t160, .int .i64 t161, .int .i64 t162, .int .i64 t163] 24 (0, 0)) (by pm4_)) : gb174 ≠ gb165)); clear BK153; clear BK154; clear BK164; clear BK165; clear HB; have BK153 := n0_; have BK154 := n1_; have BK164 := n2_))
set_option hygiene false in
local macro "pm120_" : tactic => `(tactic| (have n0_ := Aside0.mk (blk_below (g := gb153) (o := .cells #[.int .i64 a1_0, .int .i64 a1_1, .int .i64 a1_2, .int .i64 a1_3] 24 (0, 0)) (by pm0_) hb); have n1_ := Aside0.mk (blk_below (g := gb154) (o := .cells #[.int .i64 a2_0, .int .i64 a2_1, .int .i64 a2_2, .int .i64 a2_3] 24 (0, 0)) (by pm1_) hb); have n2_ := Aside0.mk (blk_below (g := gb164) (o := .cells #[.int .i64 0, .int .i64 0, .int .i64 0, .int .i64 0] 24 (0, 0)) (by pm3_) hb); have n3_ := Aside0.mk (below_step (by pm15_) hb); have n4_ := Aside0.mk (hbox); have n5_ := Aside0.mk ((by rw [hg]; exact (below_size (by pm15_)) : w.heap.size ≤ gb165)); have n6_ := Aside0.mk ((by rw [hg]; exact (below_size (by pm15_)) : w.heap.size ≤ gb165)); have n7_ := Aside0.mk ((by rw [hg]; exact Nat.ne_of_lt (blk_lt (g := gb153) (o := .cells #[.int .i64 a1_0, .int .i64 a1_1, .int .i64 a1_2, .int .i64 a1_3] 24 (0, 0)) (by pm0_)) : gb153 ≠ gb165)); have n8_ := Aside0.mk ((by rw [hg]; exact Nat.ne_of_gt (blk_lt (g := gb153) (o := .cells #[.int .i64 a1_0, .int .i64 a1_1, .int .i64 a1_2, .int .i64 a1_3] 24 (0, 0)) (by pm0_)) : gb165 ≠ gb153)); have n9_ := Aside0.mk ((by rw [hg]; exact Nat.ne_of_lt (blk_lt (g := gb154) (o := .cells #[.int .i64 a2_0, .int .i64 a2_1, .int .i64 a2_2, .int .i64 a2_3] 24 (0, 0)) (by pm1_)) : gb154 ≠ gb165)); have n10_ := Aside0.mk ((by rw [hg]; exact Nat.ne_of_gt (blk_lt (g := gb154) (o := .cells #[.int .i64 a2_0, .int .i64 a2_1, .int .i64 a2_2, .int .i64 a2_3] 24 (0, 0)) (by pm1_)) : gb165 ≠ gb154)); have n11_ := Aside0.mk ((by rw [hg]; exact Nat.ne_of_lt (blk_lt (g := gb164) (o := .cells #[.int .i64 0, .int .i64 0, .int .i64 0, .int .i64 0] 24 (0, 0)) (by pm3_)) : gb164 ≠ gb165)); have n12_ := Aside0.mk ((by rw [hg]; exact Nat.ne_of_gt (blk_lt (g := gb164) (o := .cells #[.int .i64 0, .int .i64 0, .int .i64 0, .int .i64 0] 24 (0, 0)) (by pm3_)) : gb165 ≠ gb164)); clear BK153; clear BK154; clear BK164; clear HB; have BK153 := n0_; have BK154 := n1_; have BK164 := n2_; have HB := n3_; have BK165 := n4_; have GW165 := n5_; have GE165 := n6_))
set_option hygiene false in
local macro "pm121_" : tactic => `(tactic| (have n0_ := Aside0.mk (blk_below (g := gb153) (o := .cells #[.int .i64 a1_0, .int .i64 a1_1, .int .i64 a1_2, .int .i64 a1_3] 24 (0, 0)) (by pm0_) hb); have n1_ := Aside0.mk (blk_below (g := gb154) (o := .cells #[.int .i64 a2_0, .int .i64 a2_1, .int .i64 a2_2, .int .i64 a2_3] 24 (0, 0)) (by pm1_) hb); have n2_ := Aside0.mk (below_step (by pm13_) hb); have n3_ := Aside0.mk (hbox); have n4_ := Aside0.mk ((by rw [hg]; exact (below_size (by pm13_)) : w.heap.size ≤ gb164)); have n5_ := Aside0.mk ((by rw [hg]; exact (below_size (by pm13_)) : w.heap.size ≤ gb164)); have n6_ := Aside0.mk ((by rw [hg]; exact Nat.ne_of_lt (blk_lt (g := gb153) (o := .cells #[.int .i64 a1_0, .int .i64 a1_1, .int .i64 a1_2, .int .i64 a1_3] 24 (0, 0)) (by pm0_)) : gb153 ≠ gb164)); have n7_ := Aside0.mk ((by rw [hg]; exact Nat.ne_of_gt (blk_lt (g := gb153) (o := .cells #[.int .i64 a1_0, .int .i64 a1_1, .int .i64 a1_2, .int .i64 a1_3] 24 (0, 0)) (by pm0_)) : gb164 ≠ gb153)); have n8_ := Aside0.mk ((by rw [hg]; exact Nat.ne_of_lt (blk_lt (g := gb154) (o := .cells #[.int .i64 a2_0, .int .i64 a2_1, .int .i64 a2_2, .int .i64 a2_3] 24 (0, 0)) (by pm1_)) : gb154 ≠ gb164)); have n9_ := Aside0.mk ((by rw [hg]; exact Nat.ne_of_gt (blk_lt (g := gb154) (o := .cells #[.int .i64 a2_0, .int .i64 a2_1, .int .i64 a2_2, .int .i64 a2_3] 24 (0, 0)) (by pm1_)) : gb164 ≠ gb154)); clear BK153; clear BK154; clear HB; have BK153 := n0_; have BK154 := n1_; have HB := n2_; have BK164 := n3_; have GW164 := n4_; have GE164 := n5_; have NB153_164 := n6_; have NB164_153 := n7_; have NB154_164 := n8_; have NB164_154 := n9_; clear n0_ n1_ n2_ n3_ n4_ n5_ n6_ n7_ n8_ n9_))
set_option hygiene false in
local macro "pm122_" : tactic => `(tactic| (have n0_ := Aside0.mk (blk_below (g := gb153) (o := .cells #[.int .i64 a1_0, .int .i64 a1_1, .int .i64 a1_2, .int .i64 a1_3] 24 (0, 0)) (by pm0_) hb); have n1_ := Aside0.mk (below_step (by pm16_) hb); have n2_ := Aside0.mk (hbox); have n3_ := Aside0.mk ((by rw [hg]; exact (below_size (by pm16_)) : w.heap.size ≤ gb154)); have n4_ := Aside0.mk ((by rw [hg]; exact (below_size (by pm16_)) : w.heap.size ≤ gb154)); have n5_ := Aside0.mk ((by rw [hg]; exact Nat.ne_of_lt (blk_lt (g := gb153) (o := .cells #[.int .i64 a1_0, .int .i64 a1_1, .int .i64 a1_2, .int .i64 a1_3] 24 (0, 0)) (by pm0_)) : gb153 ≠ gb154)); have n6_ := Aside0.mk ((by rw [hg]; exact Nat.ne_of_gt (blk_lt (g := gb153) (o := .cells #[.int .i64 a1_0, .int .i64 a1_1, .int .i64 a1_2, .int .i64 a1_3] 24 (0, 0)) (by pm0_)) : gb154 ≠ gb153)); clear BK153; clear HB; have BK153 := n0_; have HB := n1_; have BK154 := n2_; have GW154 := n3_; have GE154 := n4_; have NB153_154 := n5_; have NB154_153 := n6_; clear n0_ n1_ n2_ n3_ n4_ n5_ n6_))
set_option hygiene false in
local macro "pm123_" : tactic => `(tactic| (refine ⟨_, rfl, ?_⟩; have n0_ := Aside0.mk (blk_below (g := gb153) (o := .cells #[.int .i64 a1_0, .int .i64 a1_1, .int .i64 a1_2, .int .i64 a1_3] 24 (0, 0)) (by pm10_) hb); have n1_ := Aside0.mk (blk_below (g := gb154) (o := .cells #[.int .i64 a2_0, .int .i64 a2_1, .int .i64 a2_2, .int .i64 a2_3] 24 (0, 0)) (by pm11_) hb); have n2_ := Aside0.mk (blk_below (g := gb164) (o := .cells #[.int .i64 t156, .int .i64 t157, .int .i64 t158, .int .i64 t159] 24 (0, 0)) (by pm6_) hb); have n3_ := Aside0.mk (blk_below (g := gb165) (o := .cells #[.int .i64 t160, .int .i64 t161, .int .i64 t162, .int .i64 t163] 24 (0, 0)) (by pm7_) hb); have n4_ := Aside0.mk (below_step (by pm5_) hb); clear BK153; clear BK154; clear BK164; clear BK165; clear HB; have BK153 := n0_; have BK154 := n1_; have BK164 := n2_; have BK165 := n3_; have HB := n4_; clear n0_ n1_ n2_ n3_ n4_; (try clear hb); (try clear hb2); (try clear hk)))
set_option hygiene false in
local macro "pm124_" : tactic => `(tactic| (refine ⟨_, rfl, ?_⟩; have n0_ := Aside0.mk (blk_below (g := gb153) (o := .cells #[.int .i64 a1_0, .int .i64 a1_1, .int .i64 a1_2, .int .i64 a1_3] 24 (0, 0)) (by pm0_) hb); have n1_ := Aside0.mk (blk_below (g := gb154) (o := .cells #[.int .i64 a2_0, .int .i64 a2_1, .int .i64 a2_2, .int .i64 a2_3] 24 (0, 0)) (by pm1_) hb); have n2_ := Aside0.mk (below_step (by pm13_) hb); clear BK153; clear BK154; clear HB; have BK153 := n0_; have BK154 := n1_; have HB := n2_; clear n0_ n1_ n2_; (try clear hb); (try clear hb2); (try clear hk)))
set_option hygiene false in
local macro "pm125_" : tactic => `(tactic| (clear HB; have BK153 := n0_; have BK154 := n1_; have BK164 := n2_; have BK165 := n3_; have BK174 := n4_; have HB := n5_; have BK175 := n6_; have GW175 := n7_; have GE175 := n8_; have NB153_175 := n9_; have NB175_153 := n10_; have NB154_175 := n11_; have NB175_154 := n12_; have NB164_175 := n13_; have NB175_164 := n14_; have NB165_175 := n15_; have NB175_165 := n16_; have NB174_175 := n17_; have NB175_174 := n18_; clear n0_ n1_ n2_ n3_ n4_ n5_ n6_ n7_ n8_ n9_ n10_ n11_ n12_ n13_ n14_ n15_ n16_ n17_ n18_; clear hb hbox hg))
set_option hygiene false in
local macro "pm126_" : tactic => `(tactic| (refine goesL_ (some 17) rfl rfl Try.func15 (by pm18_) rfl #[.slice A0 l0.length c0] rfl (by pm8_) ?_; (with_reducible refine (occupy_Bounds.calls k _ _ l0 t156 t157 t158 t159 t160 t161 t162 t163 _ ?side1 ?side2 A9.out).mono ?_); (case side1 => repeat (first | exact (Kd.C_below HR0.out HB.out) | (with_reducible refine Kd.C_alloc ?_ _) | (with_reducible refine Kd.C_drewN ?_ _) | (with_reducible refine Kd.C_drew ?_))); (case side2 => exact HC0.out)))
set_option hygiene false in
local macro "pm127_" : tactic => `(tactic| (have n0_ := Aside0.mk (below_step (by pm17_) hb); have n1_ := Aside0.mk (hbox); have n2_ := Aside0.mk ((by rw [hg]; exact (below_size (by pm17_)) : w.heap.size ≤ gb153)); have n3_ := Aside0.mk ((by rw [hg]; exact (below_size (by pm17_)) : w.heap.size ≤ gb153)); clear HB; have HB := n0_; have BK153 := n1_; have GW153 := n2_; have GE153 := n3_; clear n0_ n1_ n2_ n3_))
set_option hygiene false in
local macro "pm128_" : tactic => `(tactic| (have BK165 := n3_; have HB := n4_; have BK174 := n5_; have GW174 := n6_; have GE174 := n7_; have NB153_174 := n8_; have NB174_153 := n9_; have NB154_174 := n10_; have NB174_154 := n11_; have NB164_174 := n12_; have NB174_164 := n13_; have NB165_174 := n14_; have NB174_165 := n15_; clear n0_ n1_ n2_ n3_ n4_ n5_ n6_ n7_ n8_ n9_ n10_ n11_ n12_ n13_ n14_ n15_))
set_option hygiene false in
local macro "pm129_" : tactic => `(tactic| (refine goesL_ (some 22) rfl rfl Try.func16 (by pm18_) rfl #[.slice A0 l0.length c0] rfl (by pm8_) ?_; (with_reducible refine (parterreref19_Bounds.calls k _ _ l0 t166 t167 t168 t169 t170 t171 t172 t173 _ ?side1 ?side2 A10.out).mono ?_); (case side1 => exact Kd.C_below HR0.out (by pm5_)); (case side2 => exact HC0.out)))
set_option hygiene false in
local macro "pm130_" : tactic => `(tactic| (have NB153_165 := n7_; have NB165_153 := n8_; have NB154_165 := n9_; have NB165_154 := n10_; have NB164_165 := n11_; have NB165_164 := n12_; clear n0_ n1_ n2_ n3_ n4_ n5_ n6_ n7_ n8_ n9_ n10_ n11_ n12_; clear hb hbox hg))
set_option hygiene false in
local macro "pm131_" : tactic => `(tactic| (refine box_event ?hg (N := 5) ?hd (cs := #[.int .i64 a2_0, .int .i64 a2_1, .int .i64 a2_2, .int .i64 a2_3]) (t := 24) ?hr ?_; (case hd => rfl); (case hg => rfl); (case hr => first | (go_simp; done) | (go_simp; rfl))))
set_option hygiene false in
local macro "pm132_" : tactic => `(tactic| (refine box_event ?hg (N := 4) ?hd (cs := #[.int .i64 a1_0, .int .i64 a1_1, .int .i64 a1_2, .int .i64 a1_3]) (t := 24) ?hr ?_; (case hd => rfl); (case hg => rfl); (case hr => first | (go_simp; done) | (go_simp; rfl))))
set_option hygiene false in
local macro "pm133_" : tactic => `(tactic| (refine box_event ?hg (N := 10) ?hd (cs := #[.int .i64 0, .int .i64 0, .int .i64 0, .int .i64 0]) (t := 24) ?hr ?_; (case hd => rfl); (case hg => rfl); (case hr => first | (go_simp; done) | (go_simp; rfl))))
set_option hygiene false in
local macro "pm134_" : tactic => `(tactic| (refine box_event ?hg (N := 7) ?hd (cs := #[.int .i64 0, .int .i64 0, .int .i64 0, .int .i64 0]) (t := 24) ?hr ?_; (case hd => rfl); (case hg => rfl); (case hr => first | (go_simp; done) | (go_simp; rfl))))
set_option hygiene false in
local macro "pm135_" : tactic => `(tactic| (refine box_event ?hg (N := 9) ?hd (cs := #[.int .i64 0, .int .i64 0, .int .i64 0, .int .i64 0]) (t := 24) ?hr ?_; (case hd => rfl); (case hg => rfl); (case hr => first | (go_simp; done) | (go_simp; rfl))))
set_option hygiene false in
local macro "pm136_" : tactic => `(tactic| (refine box_event ?hg (N := 8) ?hd (cs := #[.int .i64 0, .int .i64 0, .int .i64 0, .int .i64 0]) (t := 24) ?hr ?_; (case hd => rfl); (case hg => rfl); (case hr => first | (go_simp; done) | (go_simp; rfl))))
set_option hygiene false in
local macro "pm137_" : tactic => `(tactic| (
    rotate_left
    · intro w'
      go_simp
      with_reducible rfl
    rotate_left
    · pm30_
      rfl))
set_option hygiene false in
local macro "pm138_" : tactic => `(tactic| (
    clear BK153
    clear BK154
    clear BK164
    clear BK165
    clear BK174
    clear BK175
    clear HB
    pm19_
    pm20_
    pm21_
    pm22_
    pm23_
    pm24_))
set_option hygiene false in
local macro "pm139_" : tactic => `(tactic| (
    pm38_
    pm39_
    pm40_
    pm41_
    pm42_
    pm43_
    pm138_
    pm25_
    pm26_
    (try clear hb)
    (try clear hb2)
    (try clear hk)
    (try clear hi)))
set_option hygiene false in
local macro "pm140_" : tactic => `(tactic| (
    rotate_left
    · pm30_
      rfl))
set_option hygiene false in
local macro "pm141_" : tactic => `(tactic| (
    rotate_left
    · pm100_
      go_simp
      with_reducible rfl
    pm140_))
set_option hygiene false in
local macro "pm142_" : tactic => `(tactic| (
    rotate_left
    · pm29_
      go_simp
      with_reducible rfl
    pm140_))
set_option hygiene false in
local macro "pm143_" : tactic => `(tactic| (
    pm22_
    pm23_
    pm24_
    pm25_
    pm26_
    have n0_ := Aside0.mk (blk_drew BK153.out)
    have n1_ := Aside0.mk (blk_drew BK154.out)
    have n2_ := Aside0.mk (blk_drew BK164.out)
    have n3_ := Aside0.mk (blk_drew BK165.out)
    have n4_ := Aside0.mk (blk_drew BK174.out)
    have n5_ := Aside0.mk (blk_drew BK175.out)
    have n6_ := Aside0.mk (below_drew1 HB.out)
    pm138_))
set_option hygiene false in
local macro "pm144_" : tactic => `(tactic| (
    (case side1 => repeat (first | exact (Kd.C_below HR0.out HB.out) | (with_reducible refine Kd.C_alloc ?_ _) | (with_reducible refine Kd.C_drewN ?_ _) | (with_reducible refine Kd.C_drew ?_)))
    (case side2 => exact HC0.out)))
set_option hygiene false in
local macro "pm145_" : tactic => `(tactic| (
    pm36_
    pm37_
    pm139_
    pm101_
    clear hK K
    pm45_
    rotate_left))
set_option hygiene false in
local macro "pm146_" : tactic => `(tactic| (
    pm36_
    pm37_
    pm139_
    pm44_
    clear hK K
    pm45_
    rotate_left))
set_option hygiene false in
local macro "pm147_" : tactic => `(tactic| (
    · show Act.put _ (some 27) _ = _
      pm30_
      rfl
    pm46_
    pm47_
    with_reducible refine (parterreref19_Overlap.calls a1_0 a1_1 a1_2 a1_3 a2_0 a2_1 a2_2 a2_3 t177 _ A12.out).mono ?_))
set_option hygiene false in
local macro "pm148_" : tactic => `(tactic| (
    pm88_
    pm137_
    pm89_
    pm137_
    pm93_
    pm140_
    pm90_
    pm137_
    pm91_
    pm137_
    refine done_ (done_of HT_.out (by pm18_)) ?_
    try go_wp2
    go_ret))
set_option hygiene false in
local macro "pm149_" : tactic => `(tactic| (
    rotate_left
    · pm94_
      go_simp
      with_reducible rfl
    pm140_))
set_option hygiene false in
local macro "pm150_" : tactic => `(tactic| (
    · show Act.put _ (some 35) _ = _
      pm30_
      rfl
    pm56_
    pm47_
    with_reducible refine (parterreref19_Overlap.calls a1_0 a1_1 a1_2 a1_3 a2_0 a2_1 a2_2 a2_3 t179 _ A15.out).mono ?_))
set_option hygiene false in
local macro "pm151_" : tactic => `(tactic| (
    (try clear BK153)
    (try clear BK154)
    (try clear BK164)
    (try clear BK165)
    (try clear BK174)
    (try clear BK175)
    (try clear HB)))
set_option hygiene false in
local macro "pm152_" : tactic => `(tactic| (
    · show Act.put _ (some 44) _ = _
      pm30_
      rfl
    pm66_
    pm67_
    with_reducible refine (parterreref19_Free.calls k _ _ l0 a1_0 a1_1 a1_2 a1_3 t181 _ ?side1 ?side2 A18.out).mono ?_
    pm144_))
set_option hygiene false in
local macro "pm153_" : tactic => `(tactic| (
    · show Act.put _ (some 38) _ = _
      pm30_
      rfl
    pm57_
    pm137_
    pm58_
    pm137_
    pm59_
    pm137_
    pm60_
    pm137_
    pm61_
    pm137_))
set_option hygiene false in
local macro "pm154_" : tactic => `(tactic| (
    pm34_
    pm35_
    with_reducible refine (occupy_Overlap.calls k a1_0 a1_1 a1_2 a1_3 a2_0 a2_1 a2_2 a2_3 t176 _ A11.out).mono ?_))
set_option hygiene false in
local macro "pm155_" : tactic => `(tactic| (
    · show Act.put _ (some 30) _ = _
      pm30_
      rfl
    pm48_
    pm137_
    pm49_
    pm137_))
set_option hygiene false in
local macro "pm156_" : tactic => `(tactic| (
    pm36_
    pm37_
    pm139_
    pm95_
    clear hK K
    pm45_
    rotate_left))
set_option hygiene false in
local macro "pm157_" : tactic => `(tactic| (
    pm54_
    pm55_
    with_reducible refine (occupy_Overlap.calls k a2_0 a2_1 a2_2 a2_3 a1_0 a1_1 a1_2 a1_3 t178 _ A14.out).mono ?_))
set_option hygiene false in
local macro "pm158_" : tactic => `(tactic| (
    pm83_
    pm137_
    pm84_
    pm137_
    pm96_
    pm140_
    pm97_
    pm140_
    pm98_
    pm140_
    pm148_
    pm92_))
set_option hygiene false in
local macro "pm159_" : tactic => `(tactic| (
    · show Act.put _ (some 52) _ = _
      pm30_
      rfl
    pm75_
    pm76_
    with_reducible refine (parterreref19_Turn.calls a1_0 a1_1 a1_2 a1_3 t186 t187 t188 t189 _ A21.out).mono ?_))
set_option hygiene false in
local macro "pm160_" : tactic => `(tactic| (
    pm64_
    pm65_
    with_reducible refine (occupy_Free.calls k _ _ l0 a1_0 a1_1 a1_2 a1_3 t180 _ ?side1 ?side2 A17.out).mono ?_
    pm144_))
set_option hygiene false in
local macro "pm161_" : tactic => `(tactic| (
    · show Act.put _ (some 47) _ = _
      pm30_
      rfl
    pm68_
    pm137_
    pm69_
    pm137_
    pm70_
    pm137_))
attribute [local go_sem] max2_int min2_int max_two min_two max_three min_three max_four min_four   -- for this text's walks alone
set_option linter.unusedVariables false
set_option linter.unusedSimpArgs false

attribute [local go_sem high] eqA24
/-! ### parterrelaw19_OccupyOverlaps: function 6 -/
def parterrelaw19_OccupyOverlaps.f (k : Nat) (l0 : List (S24)) (a1_0 : Int) (a1_1 : Int) (a1_2 : Int) (a1_3 : Int) (a2_0 : Int) (a2_1 : Int) (a2_2 : Int) (a2_3 : Int) : Option (Bool) := if (l0.length : Int) > 300 then ((parterrelaw19_lives.f k).bind fun t155 => (some t155)) else ((occupy_Bounds.f k l0).bind fun bt156 => ((parterreref19_Bounds.f k l0).bind fun bt166 => ((occupy_Overlap.f k a1_0 a1_1 a1_2 a1_3 a2_0 a2_1 a2_2 a2_3).bind fun t176 => ((parterreref19_Overlap.f a1_0 a1_1 a1_2 a1_3 a2_0 a2_1 a2_2 a2_3).bind fun t177 => (if (t176 == t177) = true then ((occupy_Overlap.f k a2_0 a2_1 a2_2 a2_3 a1_0 a1_1 a1_2 a1_3).bind fun t178 => ((parterreref19_Overlap.f a1_0 a1_1 a1_2 a1_3 a2_0 a2_1 a2_2 a2_3).bind fun t179 => (if (t178 == t179) = true then ((occupy_Free.f k l0 a1_0 a1_1 a1_2 a1_3).bind fun t180 => ((parterreref19_Free.f k l0 a1_0 a1_1 a1_2 a1_3).bind fun t181 => (if (t180 == t181) = true then ((occupy_Turn.f a1_0 a1_1 a1_2 a1_3).bind fun bt182 => ((parterreref19_Turn.f a1_0 a1_1 a1_2 a1_3).bind fun bt186 => (if (bt182.1 == bt186.1 && (bt182.2.1 == bt186.2.1 && (bt182.2.2.1 == bt186.2.2.1 && (bt182.2.2.2 == bt186.2.2.2)))) = true then (if (bt156.1 == bt166.1 && (bt156.2.1 == bt166.2.1 && (bt156.2.2.1 == bt166.2.2.1 && (bt156.2.2.2.1 == bt166.2.2.2.1)))) = true then (if (bt156.2.2.2.2.1 == bt166.2.2.2.2.1 && (bt156.2.2.2.2.2.1 == bt166.2.2.2.2.2.1 && (bt156.2.2.2.2.2.2.1 == bt166.2.2.2.2.2.2.1 && (bt156.2.2.2.2.2.2.2 == bt166.2.2.2.2.2.2.2)))) = true then ((parterrelaw19_lives.f k).bind fun t190 => (some t190)) else (some false)) else (some false)) else (some false)))) else (some false)))) else (some false)))) else (some false))))))
theorem parterrelaw19_OccupyOverlaps.mono : ∀ a0 a1 a2 a3 a4 a5 a6 a7 a8 k, LeO (parterrelaw19_OccupyOverlaps.f k a0 a1 a2 a3 a4 a5 a6 a7 a8) (parterrelaw19_OccupyOverlaps.f (k + 1) a0 a1 a2 a3 a4 a5 a6 a7 a8) := by
  intro a0 a1 a2 a3 a4 a5 a6 a7 a8 k
  unfold parterrelaw19_OccupyOverlaps.f
  repeat' first
      | (with_reducible exact occupy_Bounds.mono _ _)
      | (with_reducible exact occupy_Free.mono _ _ _ _ _ _)
      | (with_reducible exact occupy_Overlap.mono _ _ _ _ _ _ _ _ _)
      | (with_reducible exact parterrelaw19_lives.mono _)
      | (with_reducible exact parterreref19_Bounds.mono _ _)
      | (with_reducible exact parterreref19_Free.mono _ _ _ _ _ _)
      | (with_reducible exact LeO.refl _)
      | (with_reducible exact LeO.none _)
      | (with_reducible refine LeO.ite ?_ ?_)
      | (with_reducible refine LeO.bind ?_ (fun _ => ?_))
      | exact occupy_Bounds.mono _ _
      | exact occupy_Free.mono _ _ _ _ _ _
      | exact occupy_Overlap.mono _ _ _ _ _ _ _ _ _
      | exact parterrelaw19_lives.mono _
      | exact parterreref19_Bounds.mono _ _
      | exact parterreref19_Free.mono _ _ _ _ _ _
      | exact LeO.none _
      | refine LeO.ite ?_ ?_
      | refine LeO.bind ?_ (fun _ => ?_)
def parterrelaw19_OccupyOverlaps.T5 : Bool × List (List Nat × List Nat) := (true, [([], []), ([], []), ([0, 1], [0, 1]), ([], []), ([], []), ([3, 4, 2], [3, 4]), ([2, 5], [2, 5]), ([6, 5], [6]), ([7], [7]), ([7], [7]), ([8, 9, 7, 7], [7, 8, 9]), ([7], [7]), ([7], [7]), ([11, 12, 10, 7], [7, 11, 12]), ([10, 13, 7], [7, 10, 13]), ([7, 14], [7, 14]), ([15, 13], [15]), ([16], [16]), ([16], [16]), ([17, 18, 16, 16], [16, 17, 18]), ([16], [16]), ([16], [16]), ([20, 21, 19, 16], [16, 20, 21]), ([19, 22, 16], [16, 19, 22]), ([16, 23], [16, 23]), ([24, 22], [24]), ([25], [25]), ([26, 25, 25], [25, 26]), ([25], [25]), ([28, 27, 25], [25, 28]), ([27, 29, 25], [25, 27, 29]), ([25, 30], [25, 30]), ([31, 29], [31]), ([32], [32]), ([32], [32]), ([33, 34, 32], [32, 33, 34]), ([32, 35], [32, 35]), ([36, 32], [36]), ([37], [37]), ([37], [37]), ([38, 39, 37], [37, 38, 39]), ([37, 40], [37, 40]), ([41, 37], [41]), ([42, 42], [42]), ([42, 43], [42, 43]), ([44, 43, 0, 1, 2, 3, 4, 5, 6, 7, 8, 9, 10, 11, 12, 13, 14, 15, 16, 17, 18, 19, 20, 21, 22, 23, 24, 25, 26, 27, 28, 29, 30, 31, 32, 33, 34, 35, 36, 37, 38, 39, 40, 41, 42, 43, 44], [44])])
def parterrelaw19_OccupyOverlaps.B5 : List Nat := [0, 0, 3, 0, 0, 31, 63, 127, 255, 255, 1023, 255, 255, 8191, 16383, 32767, 65535, 131071, 131071, 524287, 131071, 131071, 4194303, 8388607, 16777215, 33554431, 67108863, 134217727, 67108863, 536870911, 1073741823, 2147483647, 4294967295, 8589934591, 8589934591, 34359738367, 68719476735, 137438953471, 274877906943, 274877906943, 1099511627775, 2199023255551, 4398046511103, 8796093022207, 17592186044415, 35184372088831]
theorem parterrelaw19_OccupyOverlaps.tab5 : rtab .any (opsOf Try.f6 5) = parterrelaw19_OccupyOverlaps.T5 := by kernel_rfl
theorem parterrelaw19_OccupyOverlaps.bits5 : waitsOk parterrelaw19_OccupyOverlaps.T5.2 parterrelaw19_OccupyOverlaps.B5 = true := by kernel_rfl
set_option maxHeartbeats 8000000 in
set_option maxRecDepth 100000 in
theorem parterrelaw19_OccupyOverlaps.calls (k : Nat) (A0 : Option Addr) (c0 : Nat) (l0 : List (S24)) (a1_0 : Int) (a1_1 : Int) (a1_2 : Int) (a1_3 : Int) (a2_0 : Int) (a2_1 : Int) (a2_2 : Int) (a2_3 : Int) (r : Bool) (w : World) (hr0 : Kd.C k24 w A0 l0.length l0) (hc0 : l0.length ≤ c0) (h : parterrelaw19_OccupyOverlaps.f k l0 a1_0 a1_1 a1_2 a1_3 a2_0 a2_1 a2_2 a2_3 = some r) :
    Calls Try.prog 6 #[.slice A0 l0.length c0, .agg #[.int .i64 a1_0, .int .i64 a1_1, .int .i64 a1_2, .int .i64 a1_3], .agg #[.int .i64 a2_0, .int .i64 a2_1, .int .i64 a2_2, .int .i64 a2_3]] w fun e w' => e = .returned (.bool r) ∧ Below w.heap.size w w' := by
  have hu24 := Try.underlying24
  have HR0 := Aside0.mk hr0
  have HC0 := Aside0.mk hc0
  clear hr0 hc0
  have HB := Aside0.mk (Below.refl w.heap.size w)
  have H : (if (l0.length : Int) > 300 then ((parterrelaw19_lives.f k).bind fun t155 => (some t155)) else ((occupy_Bounds.f k l0).bind fun bt156 => ((parterreref19_Bounds.f k l0).bind fun bt166 => ((occupy_Overlap.f k a1_0 a1_1 a1_2 a1_3 a2_0 a2_1 a2_2 a2_3).bind fun t176 => ((parterreref19_Overlap.f a1_0 a1_1 a1_2 a1_3 a2_0 a2_1 a2_2 a2_3).bind fun t177 => (if (t176 == t177) = true then ((occupy_Overlap.f k a2_0 a2_1 a2_2 a2_3 a1_0 a1_1 a1_2 a1_3).bind fun t178 => ((parterreref19_Overlap.f a1_0 a1_1 a1_2 a1_3 a2_0 a2_1 a2_2 a2_3).bind fun t179 => (if (t178 == t179) = true then ((occupy_Free.f k l0 a1_0 a1_1 a1_2 a1_3).bind fun t180 => ((parterreref19_Free.f k l0 a1_0 a1_1 a1_2 a1_3).bind fun t181 => (if (t180 == t181) = true then ((occupy_Turn.f a1_0 a1_1 a1_2 a1_3).bind fun bt182 => ((parterreref19_Turn.f a1_0 a1_1 a1_2 a1_3).bind fun bt186 => (if (bt182.1 == bt186.1 && (bt182.2.1 == bt186.2.1 && (bt182.2.2.1 == bt186.2.2.1 && (bt182.2.2.2 == bt186.2.2.2)))) = true then (if (bt156.1 == bt166.1 && (bt156.2.1 == bt166.2.1 && (bt156.2.2.1 == bt166.2.2.1 && (bt156.2.2.2.1 == bt166.2.2.2.1)))) = true then (if (bt156.2.2.2.2.1 == bt166.2.2.2.2.1 && (bt156.2.2.2.2.2.1 == bt166.2.2.2.2.2.1 && (bt156.2.2.2.2.2.2.1 == bt166.2.2.2.2.2.2.1 && (bt156.2.2.2.2.2.2.2 == bt166.2.2.2.2.2.2.2)))) = true then ((parterrelaw19_lives.f k).bind fun t190 => (some t190)) else (some false)) else (some false)) else (some false)))) else (some false)))) else (some false)))) else (some false))))))) = some r := h
  clear h
  by_cases c4 : (l0.length : Int) > 300
  · rw [if_pos c4] at H
    have c4b0 : decide (300 < (l0.length : Int)) = true := decide_eq_true c4
    have c4b1 : decide (300 < l0.length) = true := decide_eq_true (by omega)
    clear c4
    replace H := Option.bind_eq_some_iff.mp H
    obtain ⟨t155, A50, H⟩ := H
    replace H : (some t155) = some r := H
    have A5 := Aside0.mk A50
    clear A50
    obtain rfl := Option.some.inj H
    go_enter Try.func6, Try.ntmps6
    go_wp2_with (first | ((with_reducible refine gate_dst (N := 4) rfl ?_); refine box_event ?hg (N := 4) ?hd (cs := #[.int .i64 a1_0, .int .i64 a1_1, .int .i64 a1_2, .int .i64 a1_3]) (t := 24) ?hr ?_; (case hd => rfl); (case hg => rfl); (case hr => first | (go_simp; done) | (go_simp; rfl)); intro gb153 hg w6 hbox hb; have n0_ := Aside0.mk (below_step (by pm17_) hb); have n1_ := Aside0.mk (hbox); have n2_ := Aside0.mk ((by rw [hg]; exact (below_size (by pm17_)) : w.heap.size ≤ gb153)); have n3_ := Aside0.mk ((by rw [hg]; exact (below_size (by pm17_)) : w.heap.size ≤ gb153)); clear HB; have HB := n0_; have BK153 := n1_; have GW153 := n2_; have GE153 := n3_; clear n0_ n1_ n2_ n3_; clear hb hbox hg) | ((with_reducible refine gate_dst (N := 5) rfl ?_); refine box_event ?hg (N := 5) ?hd (cs := #[.int .i64 a2_0, .int .i64 a2_1, .int .i64 a2_2, .int .i64 a2_3]) (t := 24) ?hr ?_; (case hd => rfl); (case hg => rfl); (case hr => first | (go_simp; done) | (go_simp; rfl)); intro gb154 hg w7 hbox hb; pm122_; clear hb hbox hg) | ((with_reducible refine gate_callee (f := 8) rfl ?_); refine goesL_ (some 14) rfl rfl Try.func8 (by pm18_) rfl #[] rfl (by pm8_) ?_; (with_reducible refine (parterrelaw19_lives.calls k  t155 _ A5.out).mono ?_); rintro e w8 ⟨rfl, hb⟩; pm124_; (try clear hi)))
    go_ret
    exact ⟨by first | rfl | (simp [errW_none, errW_some] <;> rfl) | (simp [*, errW_none, errW_some] <;> rfl), by repeat (first | (with_reducible first | exact HB.out | apply below_alloc | apply pw_below_drewN | apply below_drew1 | refine below_set ?_ GE153.out | refine below_set ?_ GE154.out) | exact HB.out)⟩
  · rw [if_neg c4] at H
    have c4b0 : decide (300 < (l0.length : Int)) = false := decide_eq_false c4
    have c4b1 : decide (300 < l0.length) = false := decide_eq_false (by omega)
    clear c4
    replace H := Option.bind_eq_some_iff.mp H
    obtain ⟨⟨t156, t157, t158, t159, t160, t161, t162, t163⟩, A90, H⟩ := H
    replace H : ((parterreref19_Bounds.f k l0).bind fun bt166 => ((occupy_Overlap.f k a1_0 a1_1 a1_2 a1_3 a2_0 a2_1 a2_2 a2_3).bind fun t176 => ((parterreref19_Overlap.f a1_0 a1_1 a1_2 a1_3 a2_0 a2_1 a2_2 a2_3).bind fun t177 => (if (t176 == t177) = true then ((occupy_Overlap.f k a2_0 a2_1 a2_2 a2_3 a1_0 a1_1 a1_2 a1_3).bind fun t178 => ((parterreref19_Overlap.f a1_0 a1_1 a1_2 a1_3 a2_0 a2_1 a2_2 a2_3).bind fun t179 => (if (t178 == t179) = true then ((occupy_Free.f k l0 a1_0 a1_1 a1_2 a1_3).bind fun t180 => ((parterreref19_Free.f k l0 a1_0 a1_1 a1_2 a1_3).bind fun t181 => (if (t180 == t181) = true then ((occupy_Turn.f a1_0 a1_1 a1_2 a1_3).bind fun bt182 => ((parterreref19_Turn.f a1_0 a1_1 a1_2 a1_3).bind fun bt186 => (if (bt182.1 == bt186.1 && (bt182.2.1 == bt186.2.1 && (bt182.2.2.1 == bt186.2.2.1 && (bt182.2.2.2 == bt186.2.2.2)))) = true then (if (t156 == bt166.1 && (t157 == bt166.2.1 && (t158 == bt166.2.2.1 && (t159 == bt166.2.2.2.1)))) = true then (if (t160 == bt166.2.2.2.2.1 && (t161 == bt166.2.2.2.2.2.1 && (t162 == bt166.2.2.2.2.2.2.1 && (t163 == bt166.2.2.2.2.2.2.2)))) = true then ((parterrelaw19_lives.f k).bind fun t190 => (some t190)) else (some false)) else (some false)) else (some false)))) else (some false)))) else (some false)))) else (some false))))) = some r := H
    have A9 := Aside0.mk A90
    clear A90
    replace H := Option.bind_eq_some_iff.mp H
    obtain ⟨⟨t166, t167, t168, t169, t170, t171, t172, t173⟩, A100, H⟩ := H
    replace H : ((occupy_Overlap.f k a1_0 a1_1 a1_2 a1_3 a2_0 a2_1 a2_2 a2_3).bind fun t176 => ((parterreref19_Overlap.f a1_0 a1_1 a1_2 a1_3 a2_0 a2_1 a2_2 a2_3).bind fun t177 => (if (t176 == t177) = true then ((occupy_Overlap.f k a2_0 a2_1 a2_2 a2_3 a1_0 a1_1 a1_2 a1_3).bind fun t178 => ((parterreref19_Overlap.f a1_0 a1_1 a1_2 a1_3 a2_0 a2_1 a2_2 a2_3).bind fun t179 => (if (t178 == t179) = true then ((occupy_Free.f k l0 a1_0 a1_1 a1_2 a1_3).bind fun t180 => ((parterreref19_Free.f k l0 a1_0 a1_1 a1_2 a1_3).bind fun t181 => (if (t180 == t181) = true then ((occupy_Turn.f a1_0 a1_1 a1_2 a1_3).bind fun bt182 => ((parterreref19_Turn.f a1_0 a1_1 a1_2 a1_3).bind fun bt186 => (if (bt182.1 == bt186.1 && (bt182.2.1 == bt186.2.1 && (bt182.2.2.1 == bt186.2.2.1 && (bt182.2.2.2 == bt186.2.2.2)))) = true then (if (t156 == t166 && (t157 == t167 && (t158 == t168 && (t159 == t169)))) = true then (if (t160 == t170 && (t161 == t171 && (t162 == t172 && (t163 == t173)))) = true then ((parterrelaw19_lives.f k).bind fun t190 => (some t190)) else (some false)) else (some false)) else (some false)))) else (some false)))) else (some false)))) else (some false)))) = some r := H
    have A10 := Aside0.mk A100
    clear A100
    replace H := Option.bind_eq_some_iff.mp H
    obtain ⟨t176, A110, H⟩ := H
    replace H : ((parterreref19_Overlap.f a1_0 a1_1 a1_2 a1_3 a2_0 a2_1 a2_2 a2_3).bind fun t177 => (if (t176 == t177) = true then ((occupy_Overlap.f k a2_0 a2_1 a2_2 a2_3 a1_0 a1_1 a1_2 a1_3).bind fun t178 => ((parterreref19_Overlap.f a1_0 a1_1 a1_2 a1_3 a2_0 a2_1 a2_2 a2_3).bind fun t179 => (if (t178 == t179) = true then ((occupy_Free.f k l0 a1_0 a1_1 a1_2 a1_3).bind fun t180 => ((parterreref19_Free.f k l0 a1_0 a1_1 a1_2 a1_3).bind fun t181 => (if (t180 == t181) = true then ((occupy_Turn.f a1_0 a1_1 a1_2 a1_3).bind fun bt182 => ((parterreref19_Turn.f a1_0 a1_1 a1_2 a1_3).bind fun bt186 => (if (bt182.1 == bt186.1 && (bt182.2.1 == bt186.2.1 && (bt182.2.2.1 == bt186.2.2.1 && (bt182.2.2.2 == bt186.2.2.2)))) = true then (if (t156 == t166 && (t157 == t167 && (t158 == t168 && (t159 == t169)))) = true then (if (t160 == t170 && (t161 == t171 && (t162 == t172 && (t163 == t173)))) = true then ((parterrelaw19_lives.f k).bind fun t190 => (some t190)) else (some false)) else (some false)) else (some false)))) else (some false)))) else (some false)))) else (some false))) = some r := H
    have A11 := Aside0.mk A110
    clear A110
    replace H := Option.bind_eq_some_iff.mp H
    obtain ⟨t177, A120, H⟩ := H
    replace H : (if (t176 == t177) = true then ((occupy_Overlap.f k a2_0 a2_1 a2_2 a2_3 a1_0 a1_1 a1_2 a1_3).bind fun t178 => ((parterreref19_Overlap.f a1_0 a1_1 a1_2 a1_3 a2_0 a2_1 a2_2 a2_3).bind fun t179 => (if (t178 == t179) = true then ((occupy_Free.f k l0 a1_0 a1_1 a1_2 a1_3).bind fun t180 => ((parterreref19_Free.f k l0 a1_0 a1_1 a1_2 a1_3).bind fun t181 => (if (t180 == t181) = true then ((occupy_Turn.f a1_0 a1_1 a1_2 a1_3).bind fun bt182 => ((parterreref19_Turn.f a1_0 a1_1 a1_2 a1_3).bind fun bt186 => (if (bt182.1 == bt186.1 && (bt182.2.1 == bt186.2.1 && (bt182.2.2.1 == bt186.2.2.1 && (bt182.2.2.2 == bt186.2.2.2)))) = true then (if (t156 == t166 && (t157 == t167 && (t158 == t168 && (t159 == t169)))) = true then (if (t160 == t170 && (t161 == t171 && (t162 == t172 && (t163 == t173)))) = true then ((parterrelaw19_lives.f k).bind fun t190 => (some t190)) else (some false)) else (some false)) else (some false)))) else (some false)))) else (some false)))) else (some false)) = some r := H
    have A12 := Aside0.mk A120
    clear A120
    by_cases c13 : (t176 == t177) = true
    · rw [if_pos c13] at H
      have c13b0 : (t176 == t177) = true := c13
      (try (have c13b1 : decide (t176 = t177) = true := by simpa using c13))
      (try (have c13b2 : (t176 == t177) = true := by simpa using c13))
      clear c13
      replace H := Option.bind_eq_some_iff.mp H
      obtain ⟨t178, A140, H⟩ := H
      replace H : ((parterreref19_Overlap.f a1_0 a1_1 a1_2 a1_3 a2_0 a2_1 a2_2 a2_3).bind fun t179 => (if (t178 == t179) = true then ((occupy_Free.f k l0 a1_0 a1_1 a1_2 a1_3).bind fun t180 => ((parterreref19_Free.f k l0 a1_0 a1_1 a1_2 a1_3).bind fun t181 => (if (t180 == t181) = true then ((occupy_Turn.f a1_0 a1_1 a1_2 a1_3).bind fun bt182 => ((parterreref19_Turn.f a1_0 a1_1 a1_2 a1_3).bind fun bt186 => (if (bt182.1 == bt186.1 && (bt182.2.1 == bt186.2.1 && (bt182.2.2.1 == bt186.2.2.1 && (bt182.2.2.2 == bt186.2.2.2)))) = true then (if (t156 == t166 && (t157 == t167 && (t158 == t168 && (t159 == t169)))) = true then (if (t160 == t170 && (t161 == t171 && (t162 == t172 && (t163 == t173)))) = true then ((parterrelaw19_lives.f k).bind fun t190 => (some t190)) else (some false)) else (some false)) else (some false)))) else (some false)))) else (some false))) = some r := H
      have A14 := Aside0.mk A140
      clear A140
      replace H := Option.bind_eq_some_iff.mp H
      obtain ⟨t179, A150, H⟩ := H
      replace H : (if (t178 == t179) = true then ((occupy_Free.f k l0 a1_0 a1_1 a1_2 a1_3).bind fun t180 => ((parterreref19_Free.f k l0 a1_0 a1_1 a1_2 a1_3).bind fun t181 => (if (t180 == t181) = true then ((occupy_Turn.f a1_0 a1_1 a1_2 a1_3).bind fun bt182 => ((parterreref19_Turn.f a1_0 a1_1 a1_2 a1_3).bind fun bt186 => (if (bt182.1 == bt186.1 && (bt182.2.1 == bt186.2.1 && (bt182.2.2.1 == bt186.2.2.1 && (bt182.2.2.2 == bt186.2.2.2)))) = true then (if (t156 == t166 && (t157 == t167 && (t158 == t168 && (t159 == t169)))) = true then (if (t160 == t170 && (t161 == t171 && (t162 == t172 && (t163 == t173)))) = true then ((parterrelaw19_lives.f k).bind fun t190 => (some t190)) else (some false)) else (some false)) else (some false)))) else (some false)))) else (some false)) = some r := H
      have A15 := Aside0.mk A150
      clear A150
      by_cases c16 : (t178 == t179) = true
      · rw [if_pos c16] at H
        have c16b0 : (t178 == t179) = true := c16
        (try (have c16b1 : decide (t178 = t179) = true := by simpa using c16))
        (try (have c16b2 : (t178 == t179) = true := by simpa using c16))
        clear c16
        replace H := Option.bind_eq_some_iff.mp H
        obtain ⟨t180, A170, H⟩ := H
        replace H : ((parterreref19_Free.f k l0 a1_0 a1_1 a1_2 a1_3).bind fun t181 => (if (t180 == t181) = true then ((occupy_Turn.f a1_0 a1_1 a1_2 a1_3).bind fun bt182 => ((parterreref19_Turn.f a1_0 a1_1 a1_2 a1_3).bind fun bt186 => (if (bt182.1 == bt186.1 && (bt182.2.1 == bt186.2.1 && (bt182.2.2.1 == bt186.2.2.1 && (bt182.2.2.2 == bt186.2.2.2)))) = true then (if (t156 == t166 && (t157 == t167 && (t158 == t168 && (t159 == t169)))) = true then (if (t160 == t170 && (t161 == t171 && (t162 == t172 && (t163 == t173)))) = true then ((parterrelaw19_lives.f k).bind fun t190 => (some t190)) else (some false)) else (some false)) else (some false)))) else (some false))) = some r := H
        have A17 := Aside0.mk A170
        clear A170
        replace H := Option.bind_eq_some_iff.mp H
        obtain ⟨t181, A180, H⟩ := H
        replace H : (if (t180 == t181) = true then ((occupy_Turn.f a1_0 a1_1 a1_2 a1_3).bind fun bt182 => ((parterreref19_Turn.f a1_0 a1_1 a1_2 a1_3).bind fun bt186 => (if (bt182.1 == bt186.1 && (bt182.2.1 == bt186.2.1 && (bt182.2.2.1 == bt186.2.2.1 && (bt182.2.2.2 == bt186.2.2.2)))) = true then (if (t156 == t166 && (t157 == t167 && (t158 == t168 && (t159 == t169)))) = true then (if (t160 == t170 && (t161 == t171 && (t162 == t172 && (t163 == t173)))) = true then ((parterrelaw19_lives.f k).bind fun t190 => (some t190)) else (some false)) else (some false)) else (some false)))) else (some false)) = some r := H
        have A18 := Aside0.mk A180
        clear A180
        by_cases c19 : (t180 == t181) = true
        · rw [if_pos c19] at H
          have c19b0 : (t180 == t181) = true := c19
          (try (have c19b1 : decide (t180 = t181) = true := by simpa using c19))
          (try (have c19b2 : (t180 == t181) = true := by simpa using c19))
          clear c19
          replace H := Option.bind_eq_some_iff.mp H
          obtain ⟨⟨t182, t183, t184, t185⟩, A200, H⟩ := H
          replace H : ((parterreref19_Turn.f a1_0 a1_1 a1_2 a1_3).bind fun bt186 => (if (t182 == bt186.1 && (t183 == bt186.2.1 && (t184 == bt186.2.2.1 && (t185 == bt186.2.2.2)))) = true then (if (t156 == t166 && (t157 == t167 && (t158 == t168 && (t159 == t169)))) = true then (if (t160 == t170 && (t161 == t171 && (t162 == t172 && (t163 == t173)))) = true then ((parterrelaw19_lives.f k).bind fun t190 => (some t190)) else (some false)) else (some false)) else (some false))) = some r := H
          have A20 := Aside0.mk A200
          clear A200
          replace H := Option.bind_eq_some_iff.mp H
          obtain ⟨⟨t186, t187, t188, t189⟩, A210, H⟩ := H
          replace H : (if (t182 == t186 && (t183 == t187 && (t184 == t188 && (t185 == t189)))) = true then (if (t156 == t166 && (t157 == t167 && (t158 == t168 && (t159 == t169)))) = true then (if (t160 == t170 && (t161 == t171 && (t162 == t172 && (t163 == t173)))) = true then ((parterrelaw19_lives.f k).bind fun t190 => (some t190)) else (some false)) else (some false)) else (some false)) = some r := H
          have A21 := Aside0.mk A210
          clear A210
          by_cases c22 : (t182 == t186 && (t183 == t187 && (t184 == t188 && (t185 == t189)))) = true
          · rw [if_pos c22] at H
            have c22b0 : (t182 == t186 && (t183 == t187 && (t184 == t188 && (t185 == t189)))) = true := c22
            (try (have c22b1 : decide (t182 = t186 && (t183 == t187 && (t184 == t188 && (t185 == t189)))) = true := by simpa using c22))
            (try (have c22b2 : (t182 == t186 && (t183 == t187 && (t184 == t188 && (t185 == t189)))) = true := by simpa using c22))
            clear c22
            by_cases c23 : (t156 == t166 && (t157 == t167 && (t158 == t168 && (t159 == t169)))) = true
            · rw [if_pos c23] at H
              have c23b0 : (t156 == t166 && (t157 == t167 && (t158 == t168 && (t159 == t169)))) = true := c23
              (try (have c23b1 : decide (t156 = t166 && (t157 == t167 && (t158 == t168 && (t159 == t169)))) = true := by simpa using c23))
              (try (have c23b2 : (t156 == t166 && (t157 == t167 && (t158 == t168 && (t159 == t169)))) = true := by simpa using c23))
              clear c23
              by_cases c24 : (t160 == t170 && (t161 == t171 && (t162 == t172 && (t163 == t173)))) = true
              · rw [if_pos c24] at H
                have c24b0 : (t160 == t170 && (t161 == t171 && (t162 == t172 && (t163 == t173)))) = true := c24
                (try (have c24b1 : decide (t160 = t170 && (t161 == t171 && (t162 == t172 && (t163 == t173)))) = true := by simpa using c24))
                (try (have c24b2 : (t160 == t170 && (t161 == t171 && (t162 == t172 && (t163 == t173)))) = true := by simpa using c24))
                clear c24
                replace H := Option.bind_eq_some_iff.mp H
                obtain ⟨t190, A250, H⟩ := H
                replace H : (some t190) = some r := H
                have A25 := Aside0.mk A250
                clear A250
                obtain rfl := Option.some.inj H
                go_enter Try.func6, Try.ntmps6
                try go_wp2_with (first | ((with_reducible refine gate_dst (N := 4) rfl ?_); pm132_; intro gb153 hg w26 hbox hb; pm127_; clear hb hbox hg) | ((with_reducible refine gate_dst (N := 5) rfl ?_); pm131_; intro gb154 hg w27 hbox hb; pm122_; clear hb hbox hg) | ((with_reducible refine gate_callee (f := 15) rfl ?_); pm126_; rintro e w28 ⟨rfl, hb⟩; pm124_; (try clear hi)) | ((with_reducible refine gate_dst (N := 7) rfl ?_); pm134_; intro gb164 hg w29 hbox hb; pm121_; clear hb hbox hg) | ((with_reducible refine gate_dst (N := 8) rfl ?_); pm136_; intro gb165 hg w30 hbox hb; pm120_; pm130_; have hnb31 := NB164_153.out; have hnc31 := NB153_164.out; have hnb32 := NB164_154.out; have hnc32 := NB154_164.out; have hnb33 := NB164_165.out; have hnc33 := NB165_164.out; have hcz34_0 : w30.cell? ⟨gb164, 0, none⟩ = some (.int .i64 0) := (blk_cell BK164.out 0).trans rfl; have hcz34_1 : w30.cell? ⟨gb164, 1, none⟩ = some (.int .i64 0) := (blk_cell BK164.out 1).trans rfl; have hcz34_2 : w30.cell? ⟨gb164, 2, none⟩ = some (.int .i64 0) := (blk_cell BK164.out 2).trans rfl; have hcz34_3 : w30.cell? ⟨gb164, 3, none⟩ = some (.int .i64 0) := (blk_cell BK164.out 3).trans rfl; have hfz34_0 := blk_frozen BK164.out 0; have hfz34_1 := blk_frozen BK164.out 1; have hfz34_2 := blk_frozen BK164.out 2; have hfz34_3 := blk_frozen BK164.out 3; have hnb35 := NB165_153.out; have hnc35 := NB153_165.out; have hnb36 := NB165_154.out; have hnc36 := NB154_165.out; have hcz37_0 : w30.cell? ⟨gb165, 0, none⟩ = some (.int .i64 0) := (blk_cell BK165.out 0).trans rfl; have hcz37_1 : w30.cell? ⟨gb165, 1, none⟩ = some (.int .i64 0) := (blk_cell BK165.out 1).trans rfl; have hcz37_2 : w30.cell? ⟨gb165, 2, none⟩ = some (.int .i64 0) := (blk_cell BK165.out 2).trans rfl; have hcz37_3 : w30.cell? ⟨gb165, 3, none⟩ = some (.int .i64 0) := (blk_cell BK165.out 3).trans rfl; have hfz37_0 := blk_frozen BK165.out 0; have hfz37_1 := blk_frozen BK165.out 1; have hfz37_2 := blk_frozen BK165.out 2; have hfz37_3 := blk_frozen BK165.out 3) | ((with_reducible refine gate_callee (f := 16) rfl ?_); pm129_; rintro e w38 ⟨rfl, hb⟩; pm123_; (try clear hi)) | ((with_reducible refine gate_dst (N := 9) rfl ?_); pm135_; intro gb174 hg w39 hbox hb; pm119_; pm128_; clear hb hbox hg) | ((with_reducible refine gate_dst (N := 10) rfl ?_); pm133_; intro gb175 hg w40 hbox hb; pm118_; pm125_; have hnb41 := NB174_153.out; have hnc41 := NB153_174.out; have hnb42 := NB174_154.out; have hnc42 := NB154_174.out; have hnb43 := NB174_164.out; have hnc43 := NB164_174.out; have hnb44 := NB174_165.out; have hnc44 := NB165_174.out; have hnb45 := NB174_175.out; have hnc45 := NB175_174.out; have hcz46_0 : w40.cell? ⟨gb174, 0, none⟩ = some (.int .i64 0) := (blk_cell BK174.out 0).trans rfl; have hcz46_1 : w40.cell? ⟨gb174, 1, none⟩ = some (.int .i64 0) := (blk_cell BK174.out 1).trans rfl; have hcz46_2 : w40.cell? ⟨gb174, 2, none⟩ = some (.int .i64 0) := (blk_cell BK174.out 2).trans rfl; have hcz46_3 : w40.cell? ⟨gb174, 3, none⟩ = some (.int .i64 0) := (blk_cell BK174.out 3).trans rfl; have hfz46_0 := blk_frozen BK174.out 0; have hfz46_1 := blk_frozen BK174.out 1; have hfz46_2 := blk_frozen BK174.out 2; have hfz46_3 := blk_frozen BK174.out 3; have hnb47 := NB175_153.out; have hnc47 := NB153_175.out; have hnb48 := NB175_154.out; have hnc48 := NB154_175.out; have hnb49 := NB175_164.out; have hnc49 := NB164_175.out; have hnb50 := NB175_165.out; have hnc50 := NB165_175.out; have hcz51_0 : w40.cell? ⟨gb175, 0, none⟩ = some (.int .i64 0) := (blk_cell BK175.out 0).trans rfl; have hcz51_1 : w40.cell? ⟨gb175, 1, none⟩ = some (.int .i64 0) := (blk_cell BK175.out 1).trans rfl; have hcz51_2 : w40.cell? ⟨gb175, 2, none⟩ = some (.int .i64 0) := (blk_cell BK175.out 2).trans rfl; have hcz51_3 : w40.cell? ⟨gb175, 3, none⟩ = some (.int .i64 0) := (blk_cell BK175.out 3).trans rfl; have hfz51_0 := blk_frozen BK175.out 0; have hfz51_1 := blk_frozen BK175.out 1; have hfz51_2 := blk_frozen BK175.out 2; have hfz51_3 := blk_frozen BK175.out 3))
                have n0_ : Aside0 (((((((((w40.setCell ⟨gb174, 0, none⟩ (.int .i64 t166)).setCell ⟨gb174, 1, none⟩ (.int .i64 t167)).setCell ⟨gb174, 2, none⟩ (.int .i64 t168)).setCell ⟨gb174, 3, none⟩ (.int .i64 t169)).setCell ⟨gb175, 0, none⟩ (.int .i64 t170)).setCell ⟨gb175, 1, none⟩ (.int .i64 t171)).setCell ⟨gb175, 2, none⟩ (.int .i64 t172)).setCell ⟨gb175, 3, none⟩ (.int .i64 t173)).heap[gb153]? = some (.cells #[.int .i64 a1_0, .int .i64 a1_1, .int .i64 a1_2, .int .i64 a1_3] 24 (0, 0))) := ⟨by (with_reducible repeat (first | refine blk_drewN ?_ _ | refine blk_drew ?_ | refine blk_alloc ?_ _)); refine blk_far ?_ NB153_175.out _; pm117_; refine blk_far ?_ NB153_175.out _; pm117_; refine blk_far ?_ NB153_175.out _; pm117_; refine blk_far ?_ NB153_175.out _; pm117_; refine blk_far ?_ NB153_174.out _; pm117_; refine blk_far ?_ NB153_174.out _; pm117_; refine blk_far ?_ NB153_174.out _; pm117_; refine blk_far ?_ NB153_174.out _; pm117_; exact BK153.out⟩
                have n1_ : Aside0 (((((((((w40.setCell ⟨gb174, 0, none⟩ (.int .i64 t166)).setCell ⟨gb174, 1, none⟩ (.int .i64 t167)).setCell ⟨gb174, 2, none⟩ (.int .i64 t168)).setCell ⟨gb174, 3, none⟩ (.int .i64 t169)).setCell ⟨gb175, 0, none⟩ (.int .i64 t170)).setCell ⟨gb175, 1, none⟩ (.int .i64 t171)).setCell ⟨gb175, 2, none⟩ (.int .i64 t172)).setCell ⟨gb175, 3, none⟩ (.int .i64 t173)).heap[gb154]? = some (.cells #[.int .i64 a2_0, .int .i64 a2_1, .int .i64 a2_2, .int .i64 a2_3] 24 (0, 0))) := ⟨by (with_reducible repeat (first | refine blk_drewN ?_ _ | refine blk_drew ?_ | refine blk_alloc ?_ _)); refine blk_far ?_ NB154_175.out _; pm117_; refine blk_far ?_ NB154_175.out _; pm117_; refine blk_far ?_ NB154_175.out _; pm117_; refine blk_far ?_ NB154_175.out _; pm117_; refine blk_far ?_ NB154_174.out _; pm117_; refine blk_far ?_ NB154_174.out _; pm117_; refine blk_far ?_ NB154_174.out _; pm117_; refine blk_far ?_ NB154_174.out _; pm117_; exact BK154.out⟩
                have n2_ : Aside0 (((((((((w40.setCell ⟨gb174, 0, none⟩ (.int .i64 t166)).setCell ⟨gb174, 1, none⟩ (.int .i64 t167)).setCell ⟨gb174, 2, none⟩ (.int .i64 t168)).setCell ⟨gb174, 3, none⟩ (.int .i64 t169)).setCell ⟨gb175, 0, none⟩ (.int .i64 t170)).setCell ⟨gb175, 1, none⟩ (.int .i64 t171)).setCell ⟨gb175, 2, none⟩ (.int .i64 t172)).setCell ⟨gb175, 3, none⟩ (.int .i64 t173)).heap[gb164]? = some (.cells #[.int .i64 t156, .int .i64 t157, .int .i64 t158, .int .i64 t159] 24 (0, 0))) := ⟨by (with_reducible repeat (first | refine blk_drewN ?_ _ | refine blk_drew ?_ | refine blk_alloc ?_ _)); refine blk_far ?_ NB164_175.out _; pm117_; refine blk_far ?_ NB164_175.out _; pm117_; refine blk_far ?_ NB164_175.out _; pm117_; refine blk_far ?_ NB164_175.out _; pm117_; refine blk_far ?_ NB164_174.out _; pm117_; refine blk_far ?_ NB164_174.out _; pm117_; refine blk_far ?_ NB164_174.out _; pm117_; refine blk_far ?_ NB164_174.out _; pm117_; exact BK164.out⟩
                have n3_ : Aside0 (((((((((w40.setCell ⟨gb174, 0, none⟩ (.int .i64 t166)).setCell ⟨gb174, 1, none⟩ (.int .i64 t167)).setCell ⟨gb174, 2, none⟩ (.int .i64 t168)).setCell ⟨gb174, 3, none⟩ (.int .i64 t169)).setCell ⟨gb175, 0, none⟩ (.int .i64 t170)).setCell ⟨gb175, 1, none⟩ (.int .i64 t171)).setCell ⟨gb175, 2, none⟩ (.int .i64 t172)).setCell ⟨gb175, 3, none⟩ (.int .i64 t173)).heap[gb165]? = some (.cells #[.int .i64 t160, .int .i64 t161, .int .i64 t162, .int .i64 t163] 24 (0, 0))) := ⟨by (with_reducible repeat (first | refine blk_drewN ?_ _ | refine blk_drew ?_ | refine blk_alloc ?_ _)); refine blk_far ?_ NB165_175.out _; pm117_; refine blk_far ?_ NB165_175.out _; pm117_; refine blk_far ?_ NB165_175.out _; pm117_; refine blk_far ?_ NB165_175.out _; pm117_; refine blk_far ?_ NB165_174.out _; pm117_; refine blk_far ?_ NB165_174.out _; pm117_; refine blk_far ?_ NB165_174.out _; pm117_; refine blk_far ?_ NB165_174.out _; pm117_; exact BK165.out⟩
                have n4_ : Aside0 (((((((((w40.setCell ⟨gb174, 0, none⟩ (.int .i64 t166)).setCell ⟨gb174, 1, none⟩ (.int .i64 t167)).setCell ⟨gb174, 2, none⟩ (.int .i64 t168)).setCell ⟨gb174, 3, none⟩ (.int .i64 t169)).setCell ⟨gb175, 0, none⟩ (.int .i64 t170)).setCell ⟨gb175, 1, none⟩ (.int .i64 t171)).setCell ⟨gb175, 2, none⟩ (.int .i64 t172)).setCell ⟨gb175, 3, none⟩ (.int .i64 t173)).heap[gb174]? = some (.cells #[.int .i64 t166, .int .i64 t167, .int .i64 t168, .int .i64 t169] 24 (0, 0))) := ⟨by (with_reducible repeat (first | refine blk_drewN ?_ _ | refine blk_drew ?_ | refine blk_alloc ?_ _)); refine blk_far ?_ NB174_175.out _; pm117_; refine blk_far ?_ NB174_175.out _; pm117_; refine blk_far ?_ NB174_175.out _; pm117_; refine blk_far ?_ NB174_175.out _; pm117_; refine blk_put (cs := #[.int .i64 t166, .int .i64 t167, .int .i64 t168, .int .i64 0]) ?_ 3 _ rfl; pm117_; refine blk_put (cs := #[.int .i64 t166, .int .i64 t167, .int .i64 0, .int .i64 0]) ?_ 2 _ rfl; pm117_; refine blk_put (cs := #[.int .i64 t166, .int .i64 0, .int .i64 0, .int .i64 0]) ?_ 1 _ rfl; pm117_; refine blk_put (cs := #[.int .i64 0, .int .i64 0, .int .i64 0, .int .i64 0]) ?_ 0 _ rfl; pm117_; exact BK174.out⟩
                have n5_ : Aside0 (((((((((w40.setCell ⟨gb174, 0, none⟩ (.int .i64 t166)).setCell ⟨gb174, 1, none⟩ (.int .i64 t167)).setCell ⟨gb174, 2, none⟩ (.int .i64 t168)).setCell ⟨gb174, 3, none⟩ (.int .i64 t169)).setCell ⟨gb175, 0, none⟩ (.int .i64 t170)).setCell ⟨gb175, 1, none⟩ (.int .i64 t171)).setCell ⟨gb175, 2, none⟩ (.int .i64 t172)).setCell ⟨gb175, 3, none⟩ (.int .i64 t173)).heap[gb175]? = some (.cells #[.int .i64 t170, .int .i64 t171, .int .i64 t172, .int .i64 t173] 24 (0, 0))) := ⟨by (with_reducible repeat (first | refine blk_drewN ?_ _ | refine blk_drew ?_ | refine blk_alloc ?_ _)); refine blk_put (cs := #[.int .i64 t170, .int .i64 t171, .int .i64 t172, .int .i64 0]) ?_ 3 _ rfl; pm117_; refine blk_put (cs := #[.int .i64 t170, .int .i64 t171, .int .i64 0, .int .i64 0]) ?_ 2 _ rfl; pm117_; refine blk_put (cs := #[.int .i64 t170, .int .i64 0, .int .i64 0, .int .i64 0]) ?_ 1 _ rfl; pm117_; refine blk_put (cs := #[.int .i64 0, .int .i64 0, .int .i64 0, .int .i64 0]) ?_ 0 _ rfl; pm117_; refine blk_far ?_ NB175_174.out _; pm117_; refine blk_far ?_ NB175_174.out _; pm117_; refine blk_far ?_ NB175_174.out _; pm117_; refine blk_far ?_ NB175_174.out _; pm117_; exact BK175.out⟩
                have n6_ : Aside0 (Below w.heap.size w ((((((((w40.setCell ⟨gb174, 0, none⟩ (.int .i64 t166)).setCell ⟨gb174, 1, none⟩ (.int .i64 t167)).setCell ⟨gb174, 2, none⟩ (.int .i64 t168)).setCell ⟨gb174, 3, none⟩ (.int .i64 t169)).setCell ⟨gb175, 0, none⟩ (.int .i64 t170)).setCell ⟨gb175, 1, none⟩ (.int .i64 t171)).setCell ⟨gb175, 2, none⟩ (.int .i64 t172)).setCell ⟨gb175, 3, none⟩ (.int .i64 t173))) := ⟨by repeat (first | (with_reducible first | exact HB.out | apply below_alloc | apply pw_below_drewN | apply below_drew1 | refine below_set ?_ GE153.out | refine below_set ?_ GE154.out | refine below_set ?_ GE164.out | refine below_set ?_ GE165.out | refine below_set ?_ GE174.out | refine below_set ?_ GE175.out) | exact HB.out)⟩
                pm151_
                generalize ((((((((w40.setCell ⟨gb174, 0, none⟩ (.int .i64 t166)).setCell ⟨gb174, 1, none⟩ (.int .i64 t167)).setCell ⟨gb174, 2, none⟩ (.int .i64 t168)).setCell ⟨gb174, 3, none⟩ (.int .i64 t169)).setCell ⟨gb175, 0, none⟩ (.int .i64 t170)).setCell ⟨gb175, 1, none⟩ (.int .i64 t171)).setCell ⟨gb175, 2, none⟩ (.int .i64 t172)).setCell ⟨gb175, 3, none⟩ (.int .i64 t173)) = w52 at n0_ n1_ n2_ n3_ n4_ n5_ n6_ ⊢
                pm19_
                pm20_
                pm21_
                pm143_
                pm25_
                pm26_
                pm27_
                generalize w52.drew = w53 at BK153 BK154 BK164 BK165 BK174 BK175 HB hHeld ⊢
                pm28_
                pm142_
                pm31_
                pm142_
                pm32_
                pm142_
                pm33_
                pm142_
                pm154_
                rintro e w54 ⟨rfl, hb⟩
                pm146_
                pm147_
                rintro e w55 ⟨rfl, hb⟩
                pm146_
                pm155_
                pm50_
                pm142_
                pm51_
                pm142_
                pm52_
                pm142_
                pm53_
                pm142_
                pm157_
                rintro e w56 ⟨rfl, hb⟩
                pm146_
                pm150_
                rintro e w57 ⟨rfl, hb⟩
                pm146_
                pm153_
                pm62_
                pm142_
                pm63_
                pm142_
                pm160_
                rintro e w58 ⟨rfl, hb⟩
                pm146_
                pm152_
                rintro e w59 ⟨rfl, hb⟩
                pm146_
                pm161_
                pm71_
                pm142_
                pm72_
                pm142_
                pm73_
                pm74_
                with_reducible refine (occupy_Turn.calls a1_0 a1_1 a1_2 a1_3 t182 t183 t184 t185 _ A20.out).mono ?_
                rintro e w60 ⟨rfl, hb⟩
                pm146_
                pm159_
                rintro e w61 ⟨rfl, hb⟩
                pm146_
                · show Act.put _ (some 54) _ = _
                  pm30_
                  rfl
                pm77_
                pm137_
                pm78_
                pm137_
                pm79_
                pm137_
                pm80_
                pm142_
                pm81_
                pm142_
                pm82_
                pm137_
                pm83_
                pm137_
                pm84_
                pm137_
                pm85_
                pm142_
                pm86_
                pm142_
                pm87_
                pm137_
                pm88_
                pm137_
                pm89_
                pm137_
                refine one_ (i := 43) (N := some 68) #[true, true, true, true, true, true, true, true, true, true, true, true, true, true, true, true, true, true, true, true, true, true, true, true, true, true, true, true, true, true, true, true, true, true, true, true, true, true, true, true, true, true, true, true, false, false] rfl rfl (one_of HT_.out (by pm18_)) (by decide) (fun K hK => ?_)
                refine goes_ Try.func8 (by pm18_) rfl #[] (by rfl) rfl rfl (by pm8_) ?_
                with_reducible refine (parterrelaw19_lives.calls k  t190 _ A25.out).mono ?_
                rintro e w62 ⟨rfl, hb⟩
                pm146_
                · show Act.put _ (some 68) _ = _
                  pm30_
                  rfl
                pm90_
                pm137_
                pm91_
                pm137_
                refine done_ (done_of HT_.out (by pm18_)) ?_
                try go_wp2
                go_ret
                pm92_
              · rw [if_neg c24] at H
                have c24b0 : (t160 == t170 && (t161 == t171 && (t162 == t172 && (t163 == t173)))) = false := by simpa using c24
                (try (have c24b1 : decide (t160 = t170 && (t161 == t171 && (t162 == t172 && (t163 == t173)))) = false := by simpa using c24))
                (try (have c24b2 : (t160 == t170 && (t161 == t171 && (t162 == t172 && (t163 == t173)))) = false := by simpa using c24))
                (try (have c24b3 : ¬ (t160 = t170 && (t161 == t171 && (t162 == t172 && (t163 == t173)))) := by simpa using c24))
                clear c24
                obtain rfl := Option.some.inj H
                go_enter Try.func6, Try.ntmps6
                try go_wp2_with (first | ((with_reducible refine gate_dst (N := 4) rfl ?_); pm132_; intro gb153 hg w63 hbox hb; pm127_; clear hb hbox hg) | ((with_reducible refine gate_dst (N := 5) rfl ?_); pm131_; intro gb154 hg w64 hbox hb; pm122_; clear hb hbox hg) | ((with_reducible refine gate_callee (f := 15) rfl ?_); pm126_; rintro e w65 ⟨rfl, hb⟩; pm124_; (try clear hi)) | ((with_reducible refine gate_dst (N := 7) rfl ?_); pm134_; intro gb164 hg w66 hbox hb; pm121_; clear hb hbox hg) | ((with_reducible refine gate_dst (N := 8) rfl ?_); pm136_; intro gb165 hg w67 hbox hb; pm120_; pm130_; have hnb68 := NB164_153.out; have hnc68 := NB153_164.out; have hnb69 := NB164_154.out; have hnc69 := NB154_164.out; have hnb70 := NB164_165.out; have hnc70 := NB165_164.out; have hcz71_0 : w67.cell? ⟨gb164, 0, none⟩ = some (.int .i64 0) := (blk_cell BK164.out 0).trans rfl; have hcz71_1 : w67.cell? ⟨gb164, 1, none⟩ = some (.int .i64 0) := (blk_cell BK164.out 1).trans rfl; have hcz71_2 : w67.cell? ⟨gb164, 2, none⟩ = some (.int .i64 0) := (blk_cell BK164.out 2).trans rfl; have hcz71_3 : w67.cell? ⟨gb164, 3, none⟩ = some (.int .i64 0) := (blk_cell BK164.out 3).trans rfl; have hfz71_0 := blk_frozen BK164.out 0; have hfz71_1 := blk_frozen BK164.out 1; have hfz71_2 := blk_frozen BK164.out 2; have hfz71_3 := blk_frozen BK164.out 3; have hnb72 := NB165_153.out; have hnc72 := NB153_165.out; have hnb73 := NB165_154.out; have hnc73 := NB154_165.out; have hcz74_0 : w67.cell? ⟨gb165, 0, none⟩ = some (.int .i64 0) := (blk_cell BK165.out 0).trans rfl; have hcz74_1 : w67.cell? ⟨gb165, 1, none⟩ = some (.int .i64 0) := (blk_cell BK165.out 1).trans rfl; have hcz74_2 : w67.cell? ⟨gb165, 2, none⟩ = some (.int .i64 0) := (blk_cell BK165.out 2).trans rfl; have hcz74_3 : w67.cell? ⟨gb165, 3, none⟩ = some (.int .i64 0) := (blk_cell BK165.out 3).trans rfl; have hfz74_0 := blk_frozen BK165.out 0; have hfz74_1 := blk_frozen BK165.out 1; have hfz74_2 := blk_frozen BK165.out 2; have hfz74_3 := blk_frozen BK165.out 3) | ((with_reducible refine gate_callee (f := 16) rfl ?_); pm129_; rintro e w75 ⟨rfl, hb⟩; pm123_; (try clear hi)) | ((with_reducible refine gate_dst (N := 9) rfl ?_); pm135_; intro gb174 hg w76 hbox hb; pm119_; pm128_; clear hb hbox hg) | ((with_reducible refine gate_dst (N := 10) rfl ?_); pm133_; intro gb175 hg w77 hbox hb; pm118_; pm125_; have hnb78 := NB174_153.out; have hnc78 := NB153_174.out; have hnb79 := NB174_154.out; have hnc79 := NB154_174.out; have hnb80 := NB174_164.out; have hnc80 := NB164_174.out; have hnb81 := NB174_165.out; have hnc81 := NB165_174.out; have hnb82 := NB174_175.out; have hnc82 := NB175_174.out; have hcz83_0 : w77.cell? ⟨gb174, 0, none⟩ = some (.int .i64 0) := (blk_cell BK174.out 0).trans rfl; have hcz83_1 : w77.cell? ⟨gb174, 1, none⟩ = some (.int .i64 0) := (blk_cell BK174.out 1).trans rfl; have hcz83_2 : w77.cell? ⟨gb174, 2, none⟩ = some (.int .i64 0) := (blk_cell BK174.out 2).trans rfl; have hcz83_3 : w77.cell? ⟨gb174, 3, none⟩ = some (.int .i64 0) := (blk_cell BK174.out 3).trans rfl; have hfz83_0 := blk_frozen BK174.out 0; have hfz83_1 := blk_frozen BK174.out 1; have hfz83_2 := blk_frozen BK174.out 2; have hfz83_3 := blk_frozen BK174.out 3; have hnb84 := NB175_153.out; have hnc84 := NB153_175.out; have hnb85 := NB175_154.out; have hnc85 := NB154_175.out; have hnb86 := NB175_164.out; have hnc86 := NB164_175.out; have hnb87 := NB175_165.out; have hnc87 := NB165_175.out; have hcz88_0 : w77.cell? ⟨gb175, 0, none⟩ = some (.int .i64 0) := (blk_cell BK175.out 0).trans rfl; have hcz88_1 : w77.cell? ⟨gb175, 1, none⟩ = some (.int .i64 0) := (blk_cell BK175.out 1).trans rfl; have hcz88_2 : w77.cell? ⟨gb175, 2, none⟩ = some (.int .i64 0) := (blk_cell BK175.out 2).trans rfl; have hcz88_3 : w77.cell? ⟨gb175, 3, none⟩ = some (.int .i64 0) := (blk_cell BK175.out 3).trans rfl; have hfz88_0 := blk_frozen BK175.out 0; have hfz88_1 := blk_frozen BK175.out 1; have hfz88_2 := blk_frozen BK175.out 2; have hfz88_3 := blk_frozen BK175.out 3))
                have n0_ : Aside0 (((((((((w77.setCell ⟨gb174, 0, none⟩ (.int .i64 t166)).setCell ⟨gb174, 1, none⟩ (.int .i64 t167)).setCell ⟨gb174, 2, none⟩ (.int .i64 t168)).setCell ⟨gb174, 3, none⟩ (.int .i64 t169)).setCell ⟨gb175, 0, none⟩ (.int .i64 t170)).setCell ⟨gb175, 1, none⟩ (.int .i64 t171)).setCell ⟨gb175, 2, none⟩ (.int .i64 t172)).setCell ⟨gb175, 3, none⟩ (.int .i64 t173)).heap[gb153]? = some (.cells #[.int .i64 a1_0, .int .i64 a1_1, .int .i64 a1_2, .int .i64 a1_3] 24 (0, 0))) := ⟨by (with_reducible repeat (first | refine blk_drewN ?_ _ | refine blk_drew ?_ | refine blk_alloc ?_ _)); refine blk_far ?_ NB153_175.out _; pm117_; refine blk_far ?_ NB153_175.out _; pm117_; refine blk_far ?_ NB153_175.out _; pm117_; refine blk_far ?_ NB153_175.out _; pm117_; refine blk_far ?_ NB153_174.out _; pm117_; refine blk_far ?_ NB153_174.out _; pm117_; refine blk_far ?_ NB153_174.out _; pm117_; refine blk_far ?_ NB153_174.out _; pm117_; exact BK153.out⟩
                have n1_ : Aside0 (((((((((w77.setCell ⟨gb174, 0, none⟩ (.int .i64 t166)).setCell ⟨gb174, 1, none⟩ (.int .i64 t167)).setCell ⟨gb174, 2, none⟩ (.int .i64 t168)).setCell ⟨gb174, 3, none⟩ (.int .i64 t169)).setCell ⟨gb175, 0, none⟩ (.int .i64 t170)).setCell ⟨gb175, 1, none⟩ (.int .i64 t171)).setCell ⟨gb175, 2, none⟩ (.int .i64 t172)).setCell ⟨gb175, 3, none⟩ (.int .i64 t173)).heap[gb154]? = some (.cells #[.int .i64 a2_0, .int .i64 a2_1, .int .i64 a2_2, .int .i64 a2_3] 24 (0, 0))) := ⟨by (with_reducible repeat (first | refine blk_drewN ?_ _ | refine blk_drew ?_ | refine blk_alloc ?_ _)); refine blk_far ?_ NB154_175.out _; pm117_; refine blk_far ?_ NB154_175.out _; pm117_; refine blk_far ?_ NB154_175.out _; pm117_; refine blk_far ?_ NB154_175.out _; pm117_; refine blk_far ?_ NB154_174.out _; pm117_; refine blk_far ?_ NB154_174.out _; pm117_; refine blk_far ?_ NB154_174.out _; pm117_; refine blk_far ?_ NB154_174.out _; pm117_; exact BK154.out⟩
                have n2_ : Aside0 (((((((((w77.setCell ⟨gb174, 0, none⟩ (.int .i64 t166)).setCell ⟨gb174, 1, none⟩ (.int .i64 t167)).setCell ⟨gb174, 2, none⟩ (.int .i64 t168)).setCell ⟨gb174, 3, none⟩ (.int .i64 t169)).setCell ⟨gb175, 0, none⟩ (.int .i64 t170)).setCell ⟨gb175, 1, none⟩ (.int .i64 t171)).setCell ⟨gb175, 2, none⟩ (.int .i64 t172)).setCell ⟨gb175, 3, none⟩ (.int .i64 t173)).heap[gb164]? = some (.cells #[.int .i64 t156, .int .i64 t157, .int .i64 t158, .int .i64 t159] 24 (0, 0))) := ⟨by (with_reducible repeat (first | refine blk_drewN ?_ _ | refine blk_drew ?_ | refine blk_alloc ?_ _)); refine blk_far ?_ NB164_175.out _; pm117_; refine blk_far ?_ NB164_175.out _; pm117_; refine blk_far ?_ NB164_175.out _; pm117_; refine blk_far ?_ NB164_175.out _; pm117_; refine blk_far ?_ NB164_174.out _; pm117_; refine blk_far ?_ NB164_174.out _; pm117_; refine blk_far ?_ NB164_174.out _; pm117_; refine blk_far ?_ NB164_174.out _; pm117_; exact BK164.out⟩
                have n3_ : Aside0 (((((((((w77.setCell ⟨gb174, 0, none⟩ (.int .i64 t166)).setCell ⟨gb174, 1, none⟩ (.int .i64 t167)).setCell ⟨gb174, 2, none⟩ (.int .i64 t168)).setCell ⟨gb174, 3, none⟩ (.int .i64 t169)).setCell ⟨gb175, 0, none⟩ (.int .i64 t170)).setCell ⟨gb175, 1, none⟩ (.int .i64 t171)).setCell ⟨gb175, 2, none⟩ (.int .i64 t172)).setCell ⟨gb175, 3, none⟩ (.int .i64 t173)).heap[gb165]? = some (.cells #[.int .i64 t160, .int .i64 t161, .int .i64 t162, .int .i64 t163] 24 (0, 0))) := ⟨by (with_reducible repeat (first | refine blk_drewN ?_ _ | refine blk_drew ?_ | refine blk_alloc ?_ _)); refine blk_far ?_ NB165_175.out _; pm117_; refine blk_far ?_ NB165_175.out _; pm117_; refine blk_far ?_ NB165_175.out _; pm117_; refine blk_far ?_ NB165_175.out _; pm117_; refine blk_far ?_ NB165_174.out _; pm117_; refine blk_far ?_ NB165_174.out _; pm117_; refine blk_far ?_ NB165_174.out _; pm117_; refine blk_far ?_ NB165_174.out _; pm117_; exact BK165.out⟩
                have n4_ : Aside0 (((((((((w77.setCell ⟨gb174, 0, none⟩ (.int .i64 t166)).setCell ⟨gb174, 1, none⟩ (.int .i64 t167)).setCell ⟨gb174, 2, none⟩ (.int .i64 t168)).setCell ⟨gb174, 3, none⟩ (.int .i64 t169)).setCell ⟨gb175, 0, none⟩ (.int .i64 t170)).setCell ⟨gb175, 1, none⟩ (.int .i64 t171)).setCell ⟨gb175, 2, none⟩ (.int .i64 t172)).setCell ⟨gb175, 3, none⟩ (.int .i64 t173)).heap[gb174]? = some (.cells #[.int .i64 t166, .int .i64 t167, .int .i64 t168, .int .i64 t169] 24 (0, 0))) := ⟨by (with_reducible repeat (first | refine blk_drewN ?_ _ | refine blk_drew ?_ | refine blk_alloc ?_ _)); refine blk_far ?_ NB174_175.out _; pm117_; refine blk_far ?_ NB174_175.out _; pm117_; refine blk_far ?_ NB174_175.out _; pm117_; refine blk_far ?_ NB174_175.out _; pm117_; refine blk_put (cs := #[.int .i64 t166, .int .i64 t167, .int .i64 t168, .int .i64 0]) ?_ 3 _ rfl; pm117_; refine blk_put (cs := #[.int .i64 t166, .int .i64 t167, .int .i64 0, .int .i64 0]) ?_ 2 _ rfl; pm117_; refine blk_put (cs := #[.int .i64 t166, .int .i64 0, .int .i64 0, .int .i64 0]) ?_ 1 _ rfl; pm117_; refine blk_put (cs := #[.int .i64 0, .int .i64 0, .int .i64 0, .int .i64 0]) ?_ 0 _ rfl; pm117_; exact BK174.out⟩
                have n5_ : Aside0 (((((((((w77.setCell ⟨gb174, 0, none⟩ (.int .i64 t166)).setCell ⟨gb174, 1, none⟩ (.int .i64 t167)).setCell ⟨gb174, 2, none⟩ (.int .i64 t168)).setCell ⟨gb174, 3, none⟩ (.int .i64 t169)).setCell ⟨gb175, 0, none⟩ (.int .i64 t170)).setCell ⟨gb175, 1, none⟩ (.int .i64 t171)).setCell ⟨gb175, 2, none⟩ (.int .i64 t172)).setCell ⟨gb175, 3, none⟩ (.int .i64 t173)).heap[gb175]? = some (.cells #[.int .i64 t170, .int .i64 t171, .int .i64 t172, .int .i64 t173] 24 (0, 0))) := ⟨by (with_reducible repeat (first | refine blk_drewN ?_ _ | refine blk_drew ?_ | refine blk_alloc ?_ _)); refine blk_put (cs := #[.int .i64 t170, .int .i64 t171, .int .i64 t172, .int .i64 0]) ?_ 3 _ rfl; pm117_; refine blk_put (cs := #[.int .i64 t170, .int .i64 t171, .int .i64 0, .int .i64 0]) ?_ 2 _ rfl; pm117_; refine blk_put (cs := #[.int .i64 t170, .int .i64 0, .int .i64 0, .int .i64 0]) ?_ 1 _ rfl; pm117_; refine blk_put (cs := #[.int .i64 0, .int .i64 0, .int .i64 0, .int .i64 0]) ?_ 0 _ rfl; pm117_; refine blk_far ?_ NB175_174.out _; pm117_; refine blk_far ?_ NB175_174.out _; pm117_; refine blk_far ?_ NB175_174.out _; pm117_; refine blk_far ?_ NB175_174.out _; pm117_; exact BK175.out⟩
                have n6_ : Aside0 (Below w.heap.size w ((((((((w77.setCell ⟨gb174, 0, none⟩ (.int .i64 t166)).setCell ⟨gb174, 1, none⟩ (.int .i64 t167)).setCell ⟨gb174, 2, none⟩ (.int .i64 t168)).setCell ⟨gb174, 3, none⟩ (.int .i64 t169)).setCell ⟨gb175, 0, none⟩ (.int .i64 t170)).setCell ⟨gb175, 1, none⟩ (.int .i64 t171)).setCell ⟨gb175, 2, none⟩ (.int .i64 t172)).setCell ⟨gb175, 3, none⟩ (.int .i64 t173))) := ⟨by repeat (first | (with_reducible first | exact HB.out | apply below_alloc | apply pw_below_drewN | apply below_drew1 | refine below_set ?_ GE153.out | refine below_set ?_ GE154.out | refine below_set ?_ GE164.out | refine below_set ?_ GE165.out | refine below_set ?_ GE174.out | refine below_set ?_ GE175.out) | exact HB.out)⟩
                pm151_
                generalize ((((((((w77.setCell ⟨gb174, 0, none⟩ (.int .i64 t166)).setCell ⟨gb174, 1, none⟩ (.int .i64 t167)).setCell ⟨gb174, 2, none⟩ (.int .i64 t168)).setCell ⟨gb174, 3, none⟩ (.int .i64 t169)).setCell ⟨gb175, 0, none⟩ (.int .i64 t170)).setCell ⟨gb175, 1, none⟩ (.int .i64 t171)).setCell ⟨gb175, 2, none⟩ (.int .i64 t172)).setCell ⟨gb175, 3, none⟩ (.int .i64 t173)) = w89 at n0_ n1_ n2_ n3_ n4_ n5_ n6_ ⊢
                pm19_
                pm20_
                pm21_
                pm143_
                pm25_
                pm26_
                pm27_
                generalize w89.drew = w90 at BK153 BK154 BK164 BK165 BK174 BK175 HB hHeld ⊢
                pm28_
                pm142_
                pm31_
                pm142_
                pm32_
                pm142_
                pm33_
                pm142_
                pm154_
                rintro e w91 ⟨rfl, hb⟩
                pm146_
                pm147_
                rintro e w92 ⟨rfl, hb⟩
                pm146_
                pm155_
                pm50_
                pm142_
                pm51_
                pm142_
                pm52_
                pm142_
                pm53_
                pm142_
                pm157_
                rintro e w93 ⟨rfl, hb⟩
                pm146_
                pm150_
                rintro e w94 ⟨rfl, hb⟩
                pm146_
                pm153_
                pm62_
                pm142_
                pm63_
                pm142_
                pm160_
                rintro e w95 ⟨rfl, hb⟩
                pm146_
                pm152_
                rintro e w96 ⟨rfl, hb⟩
                pm146_
                pm161_
                pm71_
                pm142_
                pm72_
                pm142_
                pm73_
                pm74_
                with_reducible refine (occupy_Turn.calls a1_0 a1_1 a1_2 a1_3 t182 t183 t184 t185 _ A20.out).mono ?_
                rintro e w97 ⟨rfl, hb⟩
                pm146_
                pm159_
                rintro e w98 ⟨rfl, hb⟩
                pm146_
                · show Act.put _ (some 54) _ = _
                  pm30_
                  rfl
                pm77_
                pm137_
                pm78_
                pm137_
                pm79_
                pm137_
                pm80_
                pm142_
                pm81_
                pm142_
                pm82_
                pm137_
                pm83_
                pm137_
                pm84_
                pm137_
                pm85_
                pm142_
                pm86_
                pm142_
                pm87_
                pm137_
                pm148_
                pm92_
            · rw [if_neg c23] at H
              have c23b0 : (t156 == t166 && (t157 == t167 && (t158 == t168 && (t159 == t169)))) = false := by simpa using c23
              (try (have c23b1 : decide (t156 = t166 && (t157 == t167 && (t158 == t168 && (t159 == t169)))) = false := by simpa using c23))
              (try (have c23b2 : (t156 == t166 && (t157 == t167 && (t158 == t168 && (t159 == t169)))) = false := by simpa using c23))
              (try (have c23b3 : ¬ (t156 = t166 && (t157 == t167 && (t158 == t168 && (t159 == t169)))) := by simpa using c23))
              clear c23
              obtain rfl := Option.some.inj H
              go_enter Try.func6, Try.ntmps6
              try go_wp2_with (first | ((with_reducible refine gate_dst (N := 4) rfl ?_); pm132_; intro gb153 hg w99 hbox hb; pm127_; clear hb hbox hg) | ((with_reducible refine gate_dst (N := 5) rfl ?_); pm131_; intro gb154 hg w100 hbox hb; pm122_; clear hb hbox hg) | ((with_reducible refine gate_callee (f := 15) rfl ?_); pm126_; rintro e w101 ⟨rfl, hb⟩; pm124_; (try clear hi)) | ((with_reducible refine gate_dst (N := 7) rfl ?_); pm134_; intro gb164 hg w102 hbox hb; pm121_; clear hb hbox hg) | ((with_reducible refine gate_dst (N := 8) rfl ?_); pm136_; intro gb165 hg w103 hbox hb; pm120_; pm130_; have hnb104 := NB164_153.out; have hnc104 := NB153_164.out; have hnb105 := NB164_154.out; have hnc105 := NB154_164.out; have hnb106 := NB164_165.out; have hnc106 := NB165_164.out; have hcz107_0 : w103.cell? ⟨gb164, 0, none⟩ = some (.int .i64 0) := (blk_cell BK164.out 0).trans rfl; have hcz107_1 : w103.cell? ⟨gb164, 1, none⟩ = some (.int .i64 0) := (blk_cell BK164.out 1).trans rfl; have hcz107_2 : w103.cell? ⟨gb164, 2, none⟩ = some (.int .i64 0) := (blk_cell BK164.out 2).trans rfl; have hcz107_3 : w103.cell? ⟨gb164, 3, none⟩ = some (.int .i64 0) := (blk_cell BK164.out 3).trans rfl; have hfz107_0 := blk_frozen BK164.out 0; have hfz107_1 := blk_frozen BK164.out 1; have hfz107_2 := blk_frozen BK164.out 2; have hfz107_3 := blk_frozen BK164.out 3; have hnb108 := NB165_153.out; have hnc108 := NB153_165.out; have hnb109 := NB165_154.out; have hnc109 := NB154_165.out; have hcz110_0 : w103.cell? ⟨gb165, 0, none⟩ = some (.int .i64 0) := (blk_cell BK165.out 0).trans rfl; have hcz110_1 : w103.cell? ⟨gb165, 1, none⟩ = some (.int .i64 0) := (blk_cell BK165.out 1).trans rfl; have hcz110_2 : w103.cell? ⟨gb165, 2, none⟩ = some (.int .i64 0) := (blk_cell BK165.out 2).trans rfl; have hcz110_3 : w103.cell? ⟨gb165, 3, none⟩ = some (.int .i64 0) := (blk_cell BK165.out 3).trans rfl; have hfz110_0 := blk_frozen BK165.out 0; have hfz110_1 := blk_frozen BK165.out 1; have hfz110_2 := blk_frozen BK165.out 2; have hfz110_3 := blk_frozen BK165.out 3) | ((with_reducible refine gate_callee (f := 16) rfl ?_); pm129_; rintro e w111 ⟨rfl, hb⟩; pm123_; (try clear hi)) | ((with_reducible refine gate_dst (N := 9) rfl ?_); pm135_; intro gb174 hg w112 hbox hb; pm119_; pm128_; clear hb hbox hg) | ((with_reducible refine gate_dst (N := 10) rfl ?_); pm133_; intro gb175 hg w113 hbox hb; pm118_; pm125_; have hnb114 := NB174_153.out; have hnc114 := NB153_174.out; have hnb115 := NB174_154.out; have hnc115 := NB154_174.out; have hnb116 := NB174_164.out; have hnc116 := NB164_174.out; have hnb117 := NB174_165.out; have hnc117 := NB165_174.out; have hnb118 := NB174_175.out; have hnc118 := NB175_174.out; have hcz119_0 : w113.cell? ⟨gb174, 0, none⟩ = some (.int .i64 0) := (blk_cell BK174.out 0).trans rfl; have hcz119_1 : w113.cell? ⟨gb174, 1, none⟩ = some (.int .i64 0) := (blk_cell BK174.out 1).trans rfl; have hcz119_2 : w113.cell? ⟨gb174, 2, none⟩ = some (.int .i64 0) := (blk_cell BK174.out 2).trans rfl; have hcz119_3 : w113.cell? ⟨gb174, 3, none⟩ = some (.int .i64 0) := (blk_cell BK174.out 3).trans rfl; have hfz119_0 := blk_frozen BK174.out 0; have hfz119_1 := blk_frozen BK174.out 1; have hfz119_2 := blk_frozen BK174.out 2; have hfz119_3 := blk_frozen BK174.out 3; have hnb120 := NB175_153.out; have hnc120 := NB153_175.out; have hnb121 := NB175_154.out; have hnc121 := NB154_175.out; have hnb122 := NB175_164.out; have hnc122 := NB164_175.out; have hnb123 := NB175_165.out; have hnc123 := NB165_175.out; have hcz124_0 : w113.cell? ⟨gb175, 0, none⟩ = some (.int .i64 0) := (blk_cell BK175.out 0).trans rfl; have hcz124_1 : w113.cell? ⟨gb175, 1, none⟩ = some (.int .i64 0) := (blk_cell BK175.out 1).trans rfl; have hcz124_2 : w113.cell? ⟨gb175, 2, none⟩ = some (.int .i64 0) := (blk_cell BK175.out 2).trans rfl; have hcz124_3 : w113.cell? ⟨gb175, 3, none⟩ = some (.int .i64 0) := (blk_cell BK175.out 3).trans rfl; have hfz124_0 := blk_frozen BK175.out 0; have hfz124_1 := blk_frozen BK175.out 1; have hfz124_2 := blk_frozen BK175.out 2; have hfz124_3 := blk_frozen BK175.out 3))
              have n0_ : Aside0 (((((((((w113.setCell ⟨gb174, 0, none⟩ (.int .i64 t166)).setCell ⟨gb174, 1, none⟩ (.int .i64 t167)).setCell ⟨gb174, 2, none⟩ (.int .i64 t168)).setCell ⟨gb174, 3, none⟩ (.int .i64 t169)).setCell ⟨gb175, 0, none⟩ (.int .i64 t170)).setCell ⟨gb175, 1, none⟩ (.int .i64 t171)).setCell ⟨gb175, 2, none⟩ (.int .i64 t172)).setCell ⟨gb175, 3, none⟩ (.int .i64 t173)).heap[gb153]? = some (.cells #[.int .i64 a1_0, .int .i64 a1_1, .int .i64 a1_2, .int .i64 a1_3] 24 (0, 0))) := ⟨by (with_reducible repeat (first | refine blk_drewN ?_ _ | refine blk_drew ?_ | refine blk_alloc ?_ _)); refine blk_far ?_ NB153_175.out _; pm117_; refine blk_far ?_ NB153_175.out _; pm117_; refine blk_far ?_ NB153_175.out _; pm117_; refine blk_far ?_ NB153_175.out _; pm117_; refine blk_far ?_ NB153_174.out _; pm117_; refine blk_far ?_ NB153_174.out _; pm117_; refine blk_far ?_ NB153_174.out _; pm117_; refine blk_far ?_ NB153_174.out _; pm117_; exact BK153.out⟩
              have n1_ : Aside0 (((((((((w113.setCell ⟨gb174, 0, none⟩ (.int .i64 t166)).setCell ⟨gb174, 1, none⟩ (.int .i64 t167)).setCell ⟨gb174, 2, none⟩ (.int .i64 t168)).setCell ⟨gb174, 3, none⟩ (.int .i64 t169)).setCell ⟨gb175, 0, none⟩ (.int .i64 t170)).setCell ⟨gb175, 1, none⟩ (.int .i64 t171)).setCell ⟨gb175, 2, none⟩ (.int .i64 t172)).setCell ⟨gb175, 3, none⟩ (.int .i64 t173)).heap[gb154]? = some (.cells #[.int .i64 a2_0, .int .i64 a2_1, .int .i64 a2_2, .int .i64 a2_3] 24 (0, 0))) := ⟨by (with_reducible repeat (first | refine blk_drewN ?_ _ | refine blk_drew ?_ | refine blk_alloc ?_ _)); refine blk_far ?_ NB154_175.out _; pm117_; refine blk_far ?_ NB154_175.out _; pm117_; refine blk_far ?_ NB154_175.out _; pm117_; refine blk_far ?_ NB154_175.out _; pm117_; refine blk_far ?_ NB154_174.out _; pm117_; refine blk_far ?_ NB154_174.out _; pm117_; refine blk_far ?_ NB154_174.out _; pm117_; refine blk_far ?_ NB154_174.out _; pm117_; exact BK154.out⟩
              have n2_ : Aside0 (((((((((w113.setCell ⟨gb174, 0, none⟩ (.int .i64 t166)).setCell ⟨gb174, 1, none⟩ (.int .i64 t167)).setCell ⟨gb174, 2, none⟩ (.int .i64 t168)).setCell ⟨gb174, 3, none⟩ (.int .i64 t169)).setCell ⟨gb175, 0, none⟩ (.int .i64 t170)).setCell ⟨gb175, 1, none⟩ (.int .i64 t171)).setCell ⟨gb175, 2, none⟩ (.int .i64 t172)).setCell ⟨gb175, 3, none⟩ (.int .i64 t173)).heap[gb164]? = some (.cells #[.int .i64 t156, .int .i64 t157, .int .i64 t158, .int .i64 t159] 24 (0, 0))) := ⟨by (with_reducible repeat (first | refine blk_drewN ?_ _ | refine blk_drew ?_ | refine blk_alloc ?_ _)); refine blk_far ?_ NB164_175.out _; pm117_; refine blk_far ?_ NB164_175.out _; pm117_; refine blk_far ?_ NB164_175.out _; pm117_; refine blk_far ?_ NB164_175.out _; pm117_; refine blk_far ?_ NB164_174.out _; pm117_; refine blk_far ?_ NB164_174.out _; pm117_; refine blk_far ?_ NB164_174.out _; pm117_; refine blk_far ?_ NB164_174.out _; pm117_; exact BK164.out⟩
              have n3_ : Aside0 (((((((((w113.setCell ⟨gb174, 0, none⟩ (.int .i64 t166)).setCell ⟨gb174, 1, none⟩ (.int .i64 t167)).setCell ⟨gb174, 2, none⟩ (.int .i64 t168)).setCell ⟨gb174, 3, none⟩ (.int .i64 t169)).setCell ⟨gb175, 0, none⟩ (.int .i64 t170)).setCell ⟨gb175, 1, none⟩ (.int .i64 t171)).setCell ⟨gb175, 2, none⟩ (.int .i64 t172)).setCell ⟨gb175, 3, none⟩ (.int .i64 t173)).heap[gb165]? = some (.cells #[.int .i64 t160, .int .i64 t161, .int .i64 t162, .int .i64 t163] 24 (0, 0))) := ⟨by (with_reducible repeat (first | refine blk_drewN ?_ _ | refine blk_drew ?_ | refine blk_alloc ?_ _)); refine blk_far ?_ NB165_175.out _; pm117_; refine blk_far ?_ NB165_175.out _; pm117_; refine blk_far ?_ NB165_175.out _; pm117_; refine blk_far ?_ NB165_175.out _; pm117_; refine blk_far ?_ NB165_174.out _; pm117_; refine blk_far ?_ NB165_174.out _; pm117_; refine blk_far ?_ NB165_174.out _; pm117_; refine blk_far ?_ NB165_174.out _; pm117_; exact BK165.out⟩
              have n4_ : Aside0 (((((((((w113.setCell ⟨gb174, 0, none⟩ (.int .i64 t166)).setCell ⟨gb174, 1, none⟩ (.int .i64 t167)).setCell ⟨gb174, 2, none⟩ (.int .i64 t168)).setCell ⟨gb174, 3, none⟩ (.int .i64 t169)).setCell ⟨gb175, 0, none⟩ (.int .i64 t170)).setCell ⟨gb175, 1, none⟩ (.int .i64 t171)).setCell ⟨gb175, 2, none⟩ (.int .i64 t172)).setCell ⟨gb175, 3, none⟩ (.int .i64 t173)).heap[gb174]? = some (.cells #[.int .i64 t166, .int .i64 t167, .int .i64 t168, .int .i64 t169] 24 (0, 0))) := ⟨by (with_reducible repeat (first | refine blk_drewN ?_ _ | refine blk_drew ?_ | refine blk_alloc ?_ _)); refine blk_far ?_ NB174_175.out _; pm117_; refine blk_far ?_ NB174_175.out _; pm117_; refine blk_far ?_ NB174_175.out _; pm117_; refine blk_far ?_ NB174_175.out _; pm117_; refine blk_put (cs := #[.int .i64 t166, .int .i64 t167, .int .i64 t168, .int .i64 0]) ?_ 3 _ rfl; pm117_; refine blk_put (cs := #[.int .i64 t166, .int .i64 t167, .int .i64 0, .int .i64 0]) ?_ 2 _ rfl; pm117_; refine blk_put (cs := #[.int .i64 t166, .int .i64 0, .int .i64 0, .int .i64 0]) ?_ 1 _ rfl; pm117_; refine blk_put (cs := #[.int .i64 0, .int .i64 0, .int .i64 0, .int .i64 0]) ?_ 0 _ rfl; pm117_; exact BK174.out⟩
              have n5_ : Aside0 (((((((((w113.setCell ⟨gb174, 0, none⟩ (.int .i64 t166)).setCell ⟨gb174, 1, none⟩ (.int .i64 t167)).setCell ⟨gb174, 2, none⟩ (.int .i64 t168)).setCell ⟨gb174, 3, none⟩ (.int .i64 t169)).setCell ⟨gb175, 0, none⟩ (.int .i64 t170)).setCell ⟨gb175, 1, none⟩ (.int .i64 t171)).setCell ⟨gb175, 2, none⟩ (.int .i64 t172)).setCell ⟨gb175, 3, none⟩ (.int .i64 t173)).heap[gb175]? = some (.cells #[.int .i64 t170, .int .i64 t171, .int .i64 t172, .int .i64 t173] 24 (0, 0))) := ⟨by (with_reducible repeat (first | refine blk_drewN ?_ _ | refine blk_drew ?_ | refine blk_alloc ?_ _)); refine blk_put (cs := #[.int .i64 t170, .int .i64 t171, .int .i64 t172, .int .i64 0]) ?_ 3 _ rfl; pm117_; refine blk_put (cs := #[.int .i64 t170, .int .i64 t171, .int .i64 0, .int .i64 0]) ?_ 2 _ rfl; pm117_; refine blk_put (cs := #[.int .i64 t170, .int .i64 0, .int .i64 0, .int .i64 0]) ?_ 1 _ rfl; pm117_; refine blk_put (cs := #[.int .i64 0, .int .i64 0, .int .i64 0, .int .i64 0]) ?_ 0 _ rfl; pm117_; refine blk_far ?_ NB175_174.out _; pm117_; refine blk_far ?_ NB175_174.out _; pm117_; refine blk_far ?_ NB175_174.out _; pm117_; refine blk_far ?_ NB175_174.out _; pm117_; exact BK175.out⟩
              have n6_ : Aside0 (Below w.heap.size w ((((((((w113.setCell ⟨gb174, 0, none⟩ (.int .i64 t166)).setCell ⟨gb174, 1, none⟩ (.int .i64 t167)).setCell ⟨gb174, 2, none⟩ (.int .i64 t168)).setCell ⟨gb174, 3, none⟩ (.int .i64 t169)).setCell ⟨gb175, 0, none⟩ (.int .i64 t170)).setCell ⟨gb175, 1, none⟩ (.int .i64 t171)).setCell ⟨gb175, 2, none⟩ (.int .i64 t172)).setCell ⟨gb175, 3, none⟩ (.int .i64 t173))) := ⟨by repeat (first | (with_reducible first | exact HB.out | apply below_alloc | apply pw_below_drewN | apply below_drew1 | refine below_set ?_ GE153.out | refine below_set ?_ GE154.out | refine below_set ?_ GE164.out | refine below_set ?_ GE165.out | refine below_set ?_ GE174.out | refine below_set ?_ GE175.out) | exact HB.out)⟩
              pm151_
              generalize ((((((((w113.setCell ⟨gb174, 0, none⟩ (.int .i64 t166)).setCell ⟨gb174, 1, none⟩ (.int .i64 t167)).setCell ⟨gb174, 2, none⟩ (.int .i64 t168)).setCell ⟨gb174, 3, none⟩ (.int .i64 t169)).setCell ⟨gb175, 0, none⟩ (.int .i64 t170)).setCell ⟨gb175, 1, none⟩ (.int .i64 t171)).setCell ⟨gb175, 2, none⟩ (.int .i64 t172)).setCell ⟨gb175, 3, none⟩ (.int .i64 t173)) = w125 at n0_ n1_ n2_ n3_ n4_ n5_ n6_ ⊢
              pm19_
              pm20_
              pm21_
              pm143_
              pm25_
              pm26_
              refine start_ (n := 46) (S := fun w' => w'.cell? ⟨gb153, 0, none⟩ = some (.int .i64 a1_0) ∧ w'.cell? ⟨gb153, 1, none⟩ = some (.int .i64 a1_1) ∧ w'.cell? ⟨gb153, 2, none⟩ = some (.int .i64 a1_2) ∧ w'.cell? ⟨gb153, 3, none⟩ = some (.int .i64 a1_3) ∧ w'.cell? ⟨gb154, 0, none⟩ = some (.int .i64 a2_0) ∧ w'.cell? ⟨gb154, 1, none⟩ = some (.int .i64 a2_1) ∧ w'.cell? ⟨gb154, 2, none⟩ = some (.int .i64 a2_2) ∧ w'.cell? ⟨gb154, 3, none⟩ = some (.int .i64 a2_3) ∧ w'.cell? ⟨gb164, 0, none⟩ = some (.int .i64 t156) ∧ w'.cell? ⟨gb164, 1, none⟩ = some (.int .i64 t157) ∧ w'.cell? ⟨gb164, 2, none⟩ = some (.int .i64 t158) ∧ w'.cell? ⟨gb164, 3, none⟩ = some (.int .i64 t159) ∧ w'.cell? ⟨gb174, 0, none⟩ = some (.int .i64 t166) ∧ w'.cell? ⟨gb174, 1, none⟩ = some (.int .i64 t167) ∧ w'.cell? ⟨gb174, 2, none⟩ = some (.int .i64 t168) ∧ w'.cell? ⟨gb174, 3, none⟩ = some (.int .i64 t169)) (ds := []) #[false, false, false, false, false, false, false, false, false, false, false, false, false, false, false, false, false, false, false, false, false, false, false, false, false, false, false, false, false, false, false, false, false, false, false, false, false, false, false, false, false, false, false, false, false, false] (by pm18_) rfl rfl ⟨(blk_cell BK153.out 0).trans rfl, (blk_cell BK153.out 1).trans rfl, (blk_cell BK153.out 2).trans rfl, (blk_cell BK153.out 3).trans rfl, (blk_cell BK154.out 0).trans rfl, (blk_cell BK154.out 1).trans rfl, (blk_cell BK154.out 2).trans rfl, (blk_cell BK154.out 3).trans rfl, (blk_cell BK164.out 0).trans rfl, (blk_cell BK164.out 1).trans rfl, (blk_cell BK164.out 2).trans rfl, (blk_cell BK164.out 3).trans rfl, (blk_cell BK174.out 0).trans rfl, (blk_cell BK174.out 1).trans rfl, (blk_cell BK174.out 2).trans rfl, (blk_cell BK174.out 3).trans rfl⟩ (fun hHeld => ?_); refine with_tabW parterrelaw19_OccupyOverlaps.tab5 parterrelaw19_OccupyOverlaps.bits5 (fun HT_ HW_ => ?_)
              generalize w125.drew = w126 at BK153 BK154 BK164 BK165 BK174 BK175 HB hHeld ⊢
              pm28_
              pm149_
              pm31_
              pm149_
              pm32_
              pm149_
              pm33_
              pm149_
              pm154_
              rintro e w127 ⟨rfl, hb⟩
              pm156_
              pm147_
              rintro e w128 ⟨rfl, hb⟩
              pm156_
              pm155_
              pm50_
              pm149_
              pm51_
              pm149_
              pm52_
              pm149_
              pm53_
              pm149_
              pm157_
              rintro e w129 ⟨rfl, hb⟩
              pm156_
              pm150_
              rintro e w130 ⟨rfl, hb⟩
              pm156_
              pm153_
              pm62_
              pm149_
              pm63_
              pm149_
              pm160_
              rintro e w131 ⟨rfl, hb⟩
              pm156_
              pm152_
              rintro e w132 ⟨rfl, hb⟩
              pm156_
              pm161_
              pm71_
              pm149_
              pm72_
              pm149_
              pm73_
              pm74_
              with_reducible refine (occupy_Turn.calls a1_0 a1_1 a1_2 a1_3 t182 t183 t184 t185 _ A20.out).mono ?_
              rintro e w133 ⟨rfl, hb⟩
              pm156_
              pm159_
              rintro e w134 ⟨rfl, hb⟩
              pm156_
              · show Act.put _ (some 54) _ = _
                pm30_
                rfl
              pm77_
              pm137_
              pm78_
              pm137_
              pm79_
              pm137_
              pm80_
              pm149_
              pm81_
              pm149_
              pm82_
              pm137_
              pm158_
          · rw [if_neg c22] at H
            have c22b0 : (t182 == t186 && (t183 == t187 && (t184 == t188 && (t185 == t189)))) = false := by simpa using c22
            (try (have c22b1 : decide (t182 = t186 && (t183 == t187 && (t184 == t188 && (t185 == t189)))) = false := by simpa using c22))
            (try (have c22b2 : (t182 == t186 && (t183 == t187 && (t184 == t188 && (t185 == t189)))) = false := by simpa using c22))
            (try (have c22b3 : ¬ (t182 = t186 && (t183 == t187 && (t184 == t188 && (t185 == t189)))) := by simpa using c22))
            clear c22
            obtain rfl := Option.some.inj H
            go_enter Try.func6, Try.ntmps6
            try go_wp2_with (first | ((with_reducible refine gate_dst (N := 4) rfl ?_); pm132_; intro gb153 hg w135 hbox hb; pm127_; clear hb hbox hg) | ((with_reducible refine gate_dst (N := 5) rfl ?_); pm131_; intro gb154 hg w136 hbox hb; pm122_; clear hb hbox hg) | ((with_reducible refine gate_callee (f := 15) rfl ?_); pm126_; rintro e w137 ⟨rfl, hb⟩; pm124_; (try clear hi)) | ((with_reducible refine gate_dst (N := 7) rfl ?_); pm134_; intro gb164 hg w138 hbox hb; pm121_; clear hb hbox hg) | ((with_reducible refine gate_dst (N := 8) rfl ?_); pm136_; intro gb165 hg w139 hbox hb; pm120_; pm130_; have hnb140 := NB164_153.out; have hnc140 := NB153_164.out; have hnb141 := NB164_154.out; have hnc141 := NB154_164.out; have hnb142 := NB164_165.out; have hnc142 := NB165_164.out; have hcz143_0 : w139.cell? ⟨gb164, 0, none⟩ = some (.int .i64 0) := (blk_cell BK164.out 0).trans rfl; have hcz143_1 : w139.cell? ⟨gb164, 1, none⟩ = some (.int .i64 0) := (blk_cell BK164.out 1).trans rfl; have hcz143_2 : w139.cell? ⟨gb164, 2, none⟩ = some (.int .i64 0) := (blk_cell BK164.out 2).trans rfl; have hcz143_3 : w139.cell? ⟨gb164, 3, none⟩ = some (.int .i64 0) := (blk_cell BK164.out 3).trans rfl; have hfz143_0 := blk_frozen BK164.out 0; have hfz143_1 := blk_frozen BK164.out 1; have hfz143_2 := blk_frozen BK164.out 2; have hfz143_3 := blk_frozen BK164.out 3; have hnb144 := NB165_153.out; have hnc144 := NB153_165.out; have hnb145 := NB165_154.out; have hnc145 := NB154_165.out; have hcz146_0 : w139.cell? ⟨gb165, 0, none⟩ = some (.int .i64 0) := (blk_cell BK165.out 0).trans rfl; have hcz146_1 : w139.cell? ⟨gb165, 1, none⟩ = some (.int .i64 0) := (blk_cell BK165.out 1).trans rfl; have hcz146_2 : w139.cell? ⟨gb165, 2, none⟩ = some (.int .i64 0) := (blk_cell BK165.out 2).trans rfl; have hcz146_3 : w139.cell? ⟨gb165, 3, none⟩ = some (.int .i64 0) := (blk_cell BK165.out 3).trans rfl; have hfz146_0 := blk_frozen BK165.out 0; have hfz146_1 := blk_frozen BK165.out 1; have hfz146_2 := blk_frozen BK165.out 2; have hfz146_3 := blk_frozen BK165.out 3) | ((with_reducible refine gate_callee (f := 16) rfl ?_); pm129_; rintro e w147 ⟨rfl, hb⟩; pm123_; (try clear hi)) | ((with_reducible refine gate_dst (N := 9) rfl ?_); pm135_; intro gb174 hg w148 hbox hb; pm119_; pm128_; clear hb hbox hg) | ((with_reducible refine gate_dst (N := 10) rfl ?_); pm133_; intro gb175 hg w149 hbox hb; pm118_; pm125_; have hnb150 := NB174_153.out; have hnc150 := NB153_174.out; have hnb151 := NB174_154.out; have hnc151 := NB154_174.out; have hnb152 := NB174_164.out; have hnc152 := NB164_174.out; have hnb153 := NB174_165.out; have hnc153 := NB165_174.out; have hnb154 := NB174_175.out; have hnc154 := NB175_174.out; have hcz155_0 : w149.cell? ⟨gb174, 0, none⟩ = some (.int .i64 0) := (blk_cell BK174.out 0).trans rfl; have hcz155_1 : w149.cell? ⟨gb174, 1, none⟩ = some (.int .i64 0) := (blk_cell BK174.out 1).trans rfl; have hcz155_2 : w149.cell? ⟨gb174, 2, none⟩ = some (.int .i64 0) := (blk_cell BK174.out 2).trans rfl; have hcz155_3 : w149.cell? ⟨gb174, 3, none⟩ = some (.int .i64 0) := (blk_cell BK174.out 3).trans rfl; have hfz155_0 := blk_frozen BK174.out 0; have hfz155_1 := blk_frozen BK174.out 1; have hfz155_2 := blk_frozen BK174.out 2; have hfz155_3 := blk_frozen BK174.out 3; have hnb156 := NB175_153.out; have hnc156 := NB153_175.out; have hnb157 := NB175_154.out; have hnc157 := NB154_175.out; have hnb158 := NB175_164.out; have hnc158 := NB164_175.out; have hnb159 := NB175_165.out; have hnc159 := NB165_175.out; have hcz160_0 : w149.cell? ⟨gb175, 0, none⟩ = some (.int .i64 0) := (blk_cell BK175.out 0).trans rfl; have hcz160_1 : w149.cell? ⟨gb175, 1, none⟩ = some (.int .i64 0) := (blk_cell BK175.out 1).trans rfl; have hcz160_2 : w149.cell? ⟨gb175, 2, none⟩ = some (.int .i64 0) := (blk_cell BK175.out 2).trans rfl; have hcz160_3 : w149.cell? ⟨gb175, 3, none⟩ = some (.int .i64 0) := (blk_cell BK175.out 3).trans rfl; have hfz160_0 := blk_frozen BK175.out 0; have hfz160_1 := blk_frozen BK175.out 1; have hfz160_2 := blk_frozen BK175.out 2; have hfz160_3 := blk_frozen BK175.out 3))
            have n0_ : Aside0 (((((((((w149.setCell ⟨gb174, 0, none⟩ (.int .i64 t166)).setCell ⟨gb174, 1, none⟩ (.int .i64 t167)).setCell ⟨gb174, 2, none⟩ (.int .i64 t168)).setCell ⟨gb174, 3, none⟩ (.int .i64 t169)).setCell ⟨gb175, 0, none⟩ (.int .i64 t170)).setCell ⟨gb175, 1, none⟩ (.int .i64 t171)).setCell ⟨gb175, 2, none⟩ (.int .i64 t172)).setCell ⟨gb175, 3, none⟩ (.int .i64 t173)).heap[gb153]? = some (.cells #[.int .i64 a1_0, .int .i64 a1_1, .int .i64 a1_2, .int .i64 a1_3] 24 (0, 0))) := ⟨by (with_reducible repeat (first | refine blk_drewN ?_ _ | refine blk_drew ?_ | refine blk_alloc ?_ _)); refine blk_far ?_ NB153_175.out _; pm117_; refine blk_far ?_ NB153_175.out _; pm117_; refine blk_far ?_ NB153_175.out _; pm117_; refine blk_far ?_ NB153_175.out _; pm117_; refine blk_far ?_ NB153_174.out _; pm117_; refine blk_far ?_ NB153_174.out _; pm117_; refine blk_far ?_ NB153_174.out _; pm117_; refine blk_far ?_ NB153_174.out _; pm117_; exact BK153.out⟩
            have n1_ : Aside0 (((((((((w149.setCell ⟨gb174, 0, none⟩ (.int .i64 t166)).setCell ⟨gb174, 1, none⟩ (.int .i64 t167)).setCell ⟨gb174, 2, none⟩ (.int .i64 t168)).setCell ⟨gb174, 3, none⟩ (.int .i64 t169)).setCell ⟨gb175, 0, none⟩ (.int .i64 t170)).setCell ⟨gb175, 1, none⟩ (.int .i64 t171)).setCell ⟨gb175, 2, none⟩ (.int .i64 t172)).setCell ⟨gb175, 3, none⟩ (.int .i64 t173)).heap[gb154]? = some (.cells #[.int .i64 a2_0, .int .i64 a2_1, .int .i64 a2_2, .int .i64 a2_3] 24 (0, 0))) := ⟨by (with_reducible repeat (first | refine blk_drewN ?_ _ | refine blk_drew ?_ | refine blk_alloc ?_ _)); refine blk_far ?_ NB154_175.out _; pm117_; refine blk_far ?_ NB154_175.out _; pm117_; refine blk_far ?_ NB154_175.out _; pm117_; refine blk_far ?_ NB154_175.out _; pm117_; refine blk_far ?_ NB154_174.out _; pm117_; refine blk_far ?_ NB154_174.out _; pm117_; refine blk_far ?_ NB154_174.out _; pm117_; refine blk_far ?_ NB154_174.out _; pm117_; exact BK154.out⟩
            have n2_ : Aside0 (((((((((w149.setCell ⟨gb174, 0, none⟩ (.int .i64 t166)).setCell ⟨gb174, 1, none⟩ (.int .i64 t167)).setCell ⟨gb174, 2, none⟩ (.int .i64 t168)).setCell ⟨gb174, 3, none⟩ (.int .i64 t169)).setCell ⟨gb175, 0, none⟩ (.int .i64 t170)).setCell ⟨gb175, 1, none⟩ (.int .i64 t171)).setCell ⟨gb175, 2, none⟩ (.int .i64 t172)).setCell ⟨gb175, 3, none⟩ (.int .i64 t173)).heap[gb164]? = some (.cells #[.int .i64 t156, .int .i64 t157, .int .i64 t158, .int .i64 t159] 24 (0, 0))) := ⟨by (with_reducible repeat (first | refine blk_drewN ?_ _ | refine blk_drew ?_ | refine blk_alloc ?_ _)); refine blk_far ?_ NB164_175.out _; pm117_; refine blk_far ?_ NB164_175.out _; pm117_; refine blk_far ?_ NB164_175.out _; pm117_; refine blk_far ?_ NB164_175.out _; pm117_; refine blk_far ?_ NB164_174.out _; pm117_; refine blk_far ?_ NB164_174.out _; pm117_; refine blk_far ?_ NB164_174.out _; pm117_; refine blk_far ?_ NB164_174.out _; pm117_; exact BK164.out⟩
            have n3_ : Aside0 (((((((((w149.setCell ⟨gb174, 0, none⟩ (.int .i64 t166)).setCell ⟨gb174, 1, none⟩ (.int .i64 t167)).setCell ⟨gb174, 2, none⟩ (.int .i64 t168)).setCell ⟨gb174, 3, none⟩ (.int .i64 t169)).setCell ⟨gb175, 0, none⟩ (.int .i64 t170)).setCell ⟨gb175, 1, none⟩ (.int .i64 t171)).setCell ⟨gb175, 2, none⟩ (.int .i64 t172)).setCell ⟨gb175, 3, none⟩ (.int .i64 t173)).heap[gb165]? = some (.cells #[.int .i64 t160, .int .i64 t161, .int .i64 t162, .int .i64 t163] 24 (0, 0))) := ⟨by (with_reducible repeat (first | refine blk_drewN ?_ _ | refine blk_drew ?_ | refine blk_alloc ?_ _)); refine blk_far ?_ NB165_175.out _; pm117_; refine blk_far ?_ NB165_175.out _; pm117_; refine blk_far ?_ NB165_175.out _; pm117_; refine blk_far ?_ NB165_175.out _; pm117_; refine blk_far ?_ NB165_174.out _; pm117_; refine blk_far ?_ NB165_174.out _; pm117_; refine blk_far ?_ NB165_174.out _; pm117_; refine blk_far ?_ NB165_174.out _; pm117_; exact BK165.out⟩
            have n4_ : Aside0 (((((((((w149.setCell ⟨gb174, 0, none⟩ (.int .i64 t166)).setCell ⟨gb174, 1, none⟩ (.int .i64 t167)).setCell ⟨gb174, 2, none⟩ (.int .i64 t168)).setCell ⟨gb174, 3, none⟩ (.int .i64 t169)).setCell ⟨gb175, 0, none⟩ (.int .i64 t170)).setCell ⟨gb175, 1, none⟩ (.int .i64 t171)).setCell ⟨gb175, 2, none⟩ (.int .i64 t172)).setCell ⟨gb175, 3, none⟩ (.int .i64 t173)).heap[gb174]? = some (.cells #[.int .i64 t166, .int .i64 t167, .int .i64 t168, .int .i64 t169] 24 (0, 0))) := ⟨by (with_reducible repeat (first | refine blk_drewN ?_ _ | refine blk_drew ?_ | refine blk_alloc ?_ _)); refine blk_far ?_ NB174_175.out _; pm117_; refine blk_far ?_ NB174_175.out _; pm117_; refine blk_far ?_ NB174_175.out _; pm117_; refine blk_far ?_ NB174_175.out _; pm117_; refine blk_put (cs := #[.int .i64 t166, .int .i64 t167, .int .i64 t168, .int .i64 0]) ?_ 3 _ rfl; pm117_; refine blk_put (cs := #[.int .i64 t166, .int .i64 t167, .int .i64 0, .int .i64 0]) ?_ 2 _ rfl; pm117_; refine blk_put (cs := #[.int .i64 t166, .int .i64 0, .int .i64 0, .int .i64 0]) ?_ 1 _ rfl; pm117_; refine blk_put (cs := #[.int .i64 0, .int .i64 0, .int .i64 0, .int .i64 0]) ?_ 0 _ rfl; pm117_; exact BK174.out⟩
            have n5_ : Aside0 (((((((((w149.setCell ⟨gb174, 0, none⟩ (.int .i64 t166)).setCell ⟨gb174, 1, none⟩ (.int .i64 t167)).setCell ⟨gb174, 2, none⟩ (.int .i64 t168)).setCell ⟨gb174, 3, none⟩ (.int .i64 t169)).setCell ⟨gb175, 0, none⟩ (.int .i64 t170)).setCell ⟨gb175, 1, none⟩ (.int .i64 t171)).setCell ⟨gb175, 2, none⟩ (.int .i64 t172)).setCell ⟨gb175, 3, none⟩ (.int .i64 t173)).heap[gb175]? = some (.cells #[.int .i64 t170, .int .i64 t171, .int .i64 t172, .int .i64 t173] 24 (0, 0))) := ⟨by (with_reducible repeat (first | refine blk_drewN ?_ _ | refine blk_drew ?_ | refine blk_alloc ?_ _)); refine blk_put (cs := #[.int .i64 t170, .int .i64 t171, .int .i64 t172, .int .i64 0]) ?_ 3 _ rfl; pm117_; refine blk_put (cs := #[.int .i64 t170, .int .i64 t171, .int .i64 0, .int .i64 0]) ?_ 2 _ rfl; pm117_; refine blk_put (cs := #[.int .i64 t170, .int .i64 0, .int .i64 0, .int .i64 0]) ?_ 1 _ rfl; pm117_; refine blk_put (cs := #[.int .i64 0, .int .i64 0, .int .i64 0, .int .i64 0]) ?_ 0 _ rfl; pm117_; refine blk_far ?_ NB175_174.out _; pm117_; refine blk_far ?_ NB175_174.out _; pm117_; refine blk_far ?_ NB175_174.out _; pm117_; refine blk_far ?_ NB175_174.out _; pm117_; exact BK175.out⟩
            have n6_ : Aside0 (Below w.heap.size w ((((((((w149.setCell ⟨gb174, 0, none⟩ (.int .i64 t166)).setCell ⟨gb174, 1, none⟩ (.int .i64 t167)).setCell ⟨gb174, 2, none⟩ (.int .i64 t168)).setCell ⟨gb174, 3, none⟩ (.int .i64 t169)).setCell ⟨gb175, 0, none⟩ (.int .i64 t170)).setCell ⟨gb175, 1, none⟩ (.int .i64 t171)).setCell ⟨gb175, 2, none⟩ (.int .i64 t172)).setCell ⟨gb175, 3, none⟩ (.int .i64 t173))) := ⟨by repeat (first | (with_reducible first | exact HB.out | apply below_alloc | apply pw_below_drewN | apply below_drew1 | refine below_set ?_ GE153.out | refine below_set ?_ GE154.out | refine below_set ?_ GE164.out | refine below_set ?_ GE165.out | refine below_set ?_ GE174.out | refine below_set ?_ GE175.out) | exact HB.out)⟩
            pm151_
            generalize ((((((((w149.setCell ⟨gb174, 0, none⟩ (.int .i64 t166)).setCell ⟨gb174, 1, none⟩ (.int .i64 t167)).setCell ⟨gb174, 2, none⟩ (.int .i64 t168)).setCell ⟨gb174, 3, none⟩ (.int .i64 t169)).setCell ⟨gb175, 0, none⟩ (.int .i64 t170)).setCell ⟨gb175, 1, none⟩ (.int .i64 t171)).setCell ⟨gb175, 2, none⟩ (.int .i64 t172)).setCell ⟨gb175, 3, none⟩ (.int .i64 t173)) = w161 at n0_ n1_ n2_ n3_ n4_ n5_ n6_ ⊢
            pm19_
            pm20_
            pm21_
            pm143_
            pm25_
            pm26_
            pm99_
            generalize w161.drew = w162 at BK153 BK154 BK164 BK165 BK174 BK175 HB hHeld ⊢
            pm28_
            pm141_
            pm31_
            pm141_
            pm32_
            pm141_
            pm33_
            pm141_
            pm154_
            rintro e w163 ⟨rfl, hb⟩
            pm145_
            pm147_
            rintro e w164 ⟨rfl, hb⟩
            pm145_
            pm155_
            pm50_
            pm141_
            pm51_
            pm141_
            pm52_
            pm141_
            pm53_
            pm141_
            pm157_
            rintro e w165 ⟨rfl, hb⟩
            pm145_
            pm150_
            rintro e w166 ⟨rfl, hb⟩
            pm145_
            pm153_
            pm62_
            pm141_
            pm63_
            pm141_
            pm160_
            rintro e w167 ⟨rfl, hb⟩
            pm145_
            pm152_
            rintro e w168 ⟨rfl, hb⟩
            pm145_
            pm161_
            pm71_
            pm141_
            pm72_
            pm141_
            pm73_
            pm74_
            with_reducible refine (occupy_Turn.calls a1_0 a1_1 a1_2 a1_3 t182 t183 t184 t185 _ A20.out).mono ?_
            rintro e w169 ⟨rfl, hb⟩
            pm145_
            pm159_
            rintro e w170 ⟨rfl, hb⟩
            pm145_
            · show Act.put _ (some 54) _ = _
              pm30_
              rfl
            pm77_
            pm137_
            pm78_
            pm137_
            pm79_
            pm137_
            pm102_
            pm140_
            pm103_
            pm140_
            pm104_
            pm140_
            pm158_
        · rw [if_neg c19] at H
          have c19b0 : (t180 == t181) = false := by simpa using c19
          (try (have c19b1 : decide (t180 = t181) = false := by simpa using c19))
          (try (have c19b2 : (t180 == t181) = false := by simpa using c19))
          (try (have c19b3 : ¬ (t180 = t181) := by simpa using c19))
          clear c19
          obtain rfl := Option.some.inj H
          go_enter Try.func6, Try.ntmps6
          try go_wp2_with (first | ((with_reducible refine gate_dst (N := 4) rfl ?_); pm132_; intro gb153 hg w171 hbox hb; pm127_; clear hb hbox hg) | ((with_reducible refine gate_dst (N := 5) rfl ?_); pm131_; intro gb154 hg w172 hbox hb; pm122_; clear hb hbox hg) | ((with_reducible refine gate_callee (f := 15) rfl ?_); pm126_; rintro e w173 ⟨rfl, hb⟩; pm124_; (try clear hi)) | ((with_reducible refine gate_dst (N := 7) rfl ?_); pm134_; intro gb164 hg w174 hbox hb; pm121_; clear hb hbox hg) | ((with_reducible refine gate_dst (N := 8) rfl ?_); pm136_; intro gb165 hg w175 hbox hb; pm120_; pm130_; have hnb176 := NB164_153.out; have hnc176 := NB153_164.out; have hnb177 := NB164_154.out; have hnc177 := NB154_164.out; have hnb178 := NB164_165.out; have hnc178 := NB165_164.out; have hcz179_0 : w175.cell? ⟨gb164, 0, none⟩ = some (.int .i64 0) := (blk_cell BK164.out 0).trans rfl; have hcz179_1 : w175.cell? ⟨gb164, 1, none⟩ = some (.int .i64 0) := (blk_cell BK164.out 1).trans rfl; have hcz179_2 : w175.cell? ⟨gb164, 2, none⟩ = some (.int .i64 0) := (blk_cell BK164.out 2).trans rfl; have hcz179_3 : w175.cell? ⟨gb164, 3, none⟩ = some (.int .i64 0) := (blk_cell BK164.out 3).trans rfl; have hfz179_0 := blk_frozen BK164.out 0; have hfz179_1 := blk_frozen BK164.out 1; have hfz179_2 := blk_frozen BK164.out 2; have hfz179_3 := blk_frozen BK164.out 3; have hnb180 := NB165_153.out; have hnc180 := NB153_165.out; have hnb181 := NB165_154.out; have hnc181 := NB154_165.out; have hcz182_0 : w175.cell? ⟨gb165, 0, none⟩ = some (.int .i64 0) := (blk_cell BK165.out 0).trans rfl; have hcz182_1 : w175.cell? ⟨gb165, 1, none⟩ = some (.int .i64 0) := (blk_cell BK165.out 1).trans rfl; have hcz182_2 : w175.cell? ⟨gb165, 2, none⟩ = some (.int .i64 0) := (blk_cell BK165.out 2).trans rfl; have hcz182_3 : w175.cell? ⟨gb165, 3, none⟩ = some (.int .i64 0) := (blk_cell BK165.out 3).trans rfl; have hfz182_0 := blk_frozen BK165.out 0; have hfz182_1 := blk_frozen BK165.out 1; have hfz182_2 := blk_frozen BK165.out 2; have hfz182_3 := blk_frozen BK165.out 3) | ((with_reducible refine gate_callee (f := 16) rfl ?_); pm129_; rintro e w183 ⟨rfl, hb⟩; pm123_; (try clear hi)) | ((with_reducible refine gate_dst (N := 9) rfl ?_); pm135_; intro gb174 hg w184 hbox hb; pm119_; pm128_; clear hb hbox hg) | ((with_reducible refine gate_dst (N := 10) rfl ?_); pm133_; intro gb175 hg w185 hbox hb; pm118_; pm125_; have hnb186 := NB174_153.out; have hnc186 := NB153_174.out; have hnb187 := NB174_154.out; have hnc187 := NB154_174.out; have hnb188 := NB174_164.out; have hnc188 := NB164_174.out; have hnb189 := NB174_165.out; have hnc189 := NB165_174.out; have hnb190 := NB174_175.out; have hnc190 := NB175_174.out; have hcz191_0 : w185.cell? ⟨gb174, 0, none⟩ = some (.int .i64 0) := (blk_cell BK174.out 0).trans rfl; have hcz191_1 : w185.cell? ⟨gb174, 1, none⟩ = some (.int .i64 0) := (blk_cell BK174.out 1).trans rfl; have hcz191_2 : w185.cell? ⟨gb174, 2, none⟩ = some (.int .i64 0) := (blk_cell BK174.out 2).trans rfl; have hcz191_3 : w185.cell? ⟨gb174, 3, none⟩ = some (.int .i64 0) := (blk_cell BK174.out 3).trans rfl; have hfz191_0 := blk_frozen BK174.out 0; have hfz191_1 := blk_frozen BK174.out 1; have hfz191_2 := blk_frozen BK174.out 2; have hfz191_3 := blk_frozen BK174.out 3; have hnb192 := NB175_153.out; have hnc192 := NB153_175.out; have hnb193 := NB175_154.out; have hnc193 := NB154_175.out; have hnb194 := NB175_164.out; have hnc194 := NB164_175.out; have hnb195 := NB175_165.out; have hnc195 := NB165_175.out; have hcz196_0 : w185.cell? ⟨gb175, 0, none⟩ = some (.int .i64 0) := (blk_cell BK175.out 0).trans rfl; have hcz196_1 : w185.cell? ⟨gb175, 1, none⟩ = some (.int .i64 0) := (blk_cell BK175.out 1).trans rfl; have hcz196_2 : w185.cell? ⟨gb175, 2, none⟩ = some (.int .i64 0) := (blk_cell BK175.out 2).trans rfl; have hcz196_3 : w185.cell? ⟨gb175, 3, none⟩ = some (.int .i64 0) := (blk_cell BK175.out 3).trans rfl; have hfz196_0 := blk_frozen BK175.out 0; have hfz196_1 := blk_frozen BK175.out 1; have hfz196_2 := blk_frozen BK175.out 2; have hfz196_3 := blk_frozen BK175.out 3))
          have n0_ : Aside0 (((((((((w185.setCell ⟨gb174, 0, none⟩ (.int .i64 t166)).setCell ⟨gb174, 1, none⟩ (.int .i64 t167)).setCell ⟨gb174, 2, none⟩ (.int .i64 t168)).setCell ⟨gb174, 3, none⟩ (.int .i64 t169)).setCell ⟨gb175, 0, none⟩ (.int .i64 t170)).setCell ⟨gb175, 1, none⟩ (.int .i64 t171)).setCell ⟨gb175, 2, none⟩ (.int .i64 t172)).setCell ⟨gb175, 3, none⟩ (.int .i64 t173)).heap[gb153]? = some (.cells #[.int .i64 a1_0, .int .i64 a1_1, .int .i64 a1_2, .int .i64 a1_3] 24 (0, 0))) := ⟨by (with_reducible repeat (first | refine blk_drewN ?_ _ | refine blk_drew ?_ | refine blk_alloc ?_ _)); refine blk_far ?_ NB153_175.out _; pm117_; refine blk_far ?_ NB153_175.out _; pm117_; refine blk_far ?_ NB153_175.out _; pm117_; refine blk_far ?_ NB153_175.out _; pm117_; refine blk_far ?_ NB153_174.out _; pm117_; refine blk_far ?_ NB153_174.out _; pm117_; refine blk_far ?_ NB153_174.out _; pm117_; refine blk_far ?_ NB153_174.out _; pm117_; exact BK153.out⟩
          have n1_ : Aside0 (((((((((w185.setCell ⟨gb174, 0, none⟩ (.int .i64 t166)).setCell ⟨gb174, 1, none⟩ (.int .i64 t167)).setCell ⟨gb174, 2, none⟩ (.int .i64 t168)).setCell ⟨gb174, 3, none⟩ (.int .i64 t169)).setCell ⟨gb175, 0, none⟩ (.int .i64 t170)).setCell ⟨gb175, 1, none⟩ (.int .i64 t171)).setCell ⟨gb175, 2, none⟩ (.int .i64 t172)).setCell ⟨gb175, 3, none⟩ (.int .i64 t173)).heap[gb154]? = some (.cells #[.int .i64 a2_0, .int .i64 a2_1, .int .i64 a2_2, .int .i64 a2_3] 24 (0, 0))) := ⟨by (with_reducible repeat (first | refine blk_drewN ?_ _ | refine blk_drew ?_ | refine blk_alloc ?_ _)); refine blk_far ?_ NB154_175.out _; pm117_; refine blk_far ?_ NB154_175.out _; pm117_; refine blk_far ?_ NB154_175.out _; pm117_; refine blk_far ?_ NB154_175.out _; pm117_; refine blk_far ?_ NB154_174.out _; pm117_; refine blk_far ?_ NB154_174.out _; pm117_; refine blk_far ?_ NB154_174.out _; pm117_; refine blk_far ?_ NB154_174.out _; pm117_; exact BK154.out⟩
          have n2_ : Aside0 (((((((((w185.setCell ⟨gb174, 0, none⟩ (.int .i64 t166)).setCell ⟨gb174, 1, none⟩ (.int .i64 t167)).setCell ⟨gb174, 2, none⟩ (.int .i64 t168)).setCell ⟨gb174, 3, none⟩ (.int .i64 t169)).setCell ⟨gb175, 0, none⟩ (.int .i64 t170)).setCell ⟨gb175, 1, none⟩ (.int .i64 t171)).setCell ⟨gb175, 2, none⟩ (.int .i64 t172)).setCell ⟨gb175, 3, none⟩ (.int .i64 t173)).heap[gb164]? = some (.cells #[.int .i64 t156, .int .i64 t157, .int .i64 t158, .int .i64 t159] 24 (0, 0))) := ⟨by (with_reducible repeat (first | refine blk_drewN ?_ _ | refine blk_drew ?_ | refine blk_alloc ?_ _)); refine blk_far ?_ NB164_175.out _; pm117_; refine blk_far ?_ NB164_175.out _; pm117_; refine blk_far ?_ NB164_175.out _; pm117_; refine blk_far ?_ NB164_175.out _; pm117_; refine blk_far ?_ NB164_174.out _; pm117_; refine blk_far ?_ NB164_174.out _; pm117_; refine blk_far ?_ NB164_174.out _; pm117_; refine blk_far ?_ NB164_174.out _; pm117_; exact BK164.out⟩
          have n3_ : Aside0 (((((((((w185.setCell ⟨gb174, 0, none⟩ (.int .i64 t166)).setCell ⟨gb174, 1, none⟩ (.int .i64 t167)).setCell ⟨gb174, 2, none⟩ (.int .i64 t168)).setCell ⟨gb174, 3, none⟩ (.int .i64 t169)).setCell ⟨gb175, 0, none⟩ (.int .i64 t170)).setCell ⟨gb175, 1, none⟩ (.int .i64 t171)).setCell ⟨gb175, 2, none⟩ (.int .i64 t172)).setCell ⟨gb175, 3, none⟩ (.int .i64 t173)).heap[gb165]? = some (.cells #[.int .i64 t160, .int .i64 t161, .int .i64 t162, .int .i64 t163] 24 (0, 0))) := ⟨by (with_reducible repeat (first | refine blk_drewN ?_ _ | refine blk_drew ?_ | refine blk_alloc ?_ _)); refine blk_far ?_ NB165_175.out _; pm117_; refine blk_far ?_ NB165_175.out _; pm117_; refine blk_far ?_ NB165_175.out _; pm117_; refine blk_far ?_ NB165_175.out _; pm117_; refine blk_far ?_ NB165_174.out _; pm117_; refine blk_far ?_ NB165_174.out _; pm117_; refine blk_far ?_ NB165_174.out _; pm117_; refine blk_far ?_ NB165_174.out _; pm117_; exact BK165.out⟩
          have n4_ : Aside0 (((((((((w185.setCell ⟨gb174, 0, none⟩ (.int .i64 t166)).setCell ⟨gb174, 1, none⟩ (.int .i64 t167)).setCell ⟨gb174, 2, none⟩ (.int .i64 t168)).setCell ⟨gb174, 3, none⟩ (.int .i64 t169)).setCell ⟨gb175, 0, none⟩ (.int .i64 t170)).setCell ⟨gb175, 1, none⟩ (.int .i64 t171)).setCell ⟨gb175, 2, none⟩ (.int .i64 t172)).setCell ⟨gb175, 3, none⟩ (.int .i64 t173)).heap[gb174]? = some (.cells #[.int .i64 t166, .int .i64 t167, .int .i64 t168, .int .i64 t169] 24 (0, 0))) := ⟨by (with_reducible repeat (first | refine blk_drewN ?_ _ | refine blk_drew ?_ | refine blk_alloc ?_ _)); refine blk_far ?_ NB174_175.out _; pm117_; refine blk_far ?_ NB174_175.out _; pm117_; refine blk_far ?_ NB174_175.out _; pm117_; refine blk_far ?_ NB174_175.out _; pm117_; refine blk_put (cs := #[.int .i64 t166, .int .i64 t167, .int .i64 t168, .int .i64 0]) ?_ 3 _ rfl; pm117_; refine blk_put (cs := #[.int .i64 t166, .int .i64 t167, .int .i64 0, .int .i64 0]) ?_ 2 _ rfl; pm117_; refine blk_put (cs := #[.int .i64 t166, .int .i64 0, .int .i64 0, .int .i64 0]) ?_ 1 _ rfl; pm117_; refine blk_put (cs := #[.int .i64 0, .int .i64 0, .int .i64 0, .int .i64 0]) ?_ 0 _ rfl; pm117_; exact BK174.out⟩
          have n5_ : Aside0 (((((((((w185.setCell ⟨gb174, 0, none⟩ (.int .i64 t166)).setCell ⟨gb174, 1, none⟩ (.int .i64 t167)).setCell ⟨gb174, 2, none⟩ (.int .i64 t168)).setCell ⟨gb174, 3, none⟩ (.int .i64 t169)).setCell ⟨gb175, 0, none⟩ (.int .i64 t170)).setCell ⟨gb175, 1, none⟩ (.int .i64 t171)).setCell ⟨gb175, 2, none⟩ (.int .i64 t172)).setCell ⟨gb175, 3, none⟩ (.int .i64 t173)).heap[gb175]? = some (.cells #[.int .i64 t170, .int .i64 t171, .int .i64 t172, .int .i64 t173] 24 (0, 0))) := ⟨by (with_reducible repeat (first | refine blk_drewN ?_ _ | refine blk_drew ?_ | refine blk_alloc ?_ _)); refine blk_put (cs := #[.int .i64 t170, .int .i64 t171, .int .i64 t172, .int .i64 0]) ?_ 3 _ rfl; pm117_; refine blk_put (cs := #[.int .i64 t170, .int .i64 t171, .int .i64 0, .int .i64 0]) ?_ 2 _ rfl; pm117_; refine blk_put (cs := #[.int .i64 t170, .int .i64 0, .int .i64 0, .int .i64 0]) ?_ 1 _ rfl; pm117_; refine blk_put (cs := #[.int .i64 0, .int .i64 0, .int .i64 0, .int .i64 0]) ?_ 0 _ rfl; pm117_; refine blk_far ?_ NB175_174.out _; pm117_; refine blk_far ?_ NB175_174.out _; pm117_; refine blk_far ?_ NB175_174.out _; pm117_; refine blk_far ?_ NB175_174.out _; pm117_; exact BK175.out⟩
          have n6_ : Aside0 (Below w.heap.size w ((((((((w185.setCell ⟨gb174, 0, none⟩ (.int .i64 t166)).setCell ⟨gb174, 1, none⟩ (.int .i64 t167)).setCell ⟨gb174, 2, none⟩ (.int .i64 t168)).setCell ⟨gb174, 3, none⟩ (.int .i64 t169)).setCell ⟨gb175, 0, none⟩ (.int .i64 t170)).setCell ⟨gb175, 1, none⟩ (.int .i64 t171)).setCell ⟨gb175, 2, none⟩ (.int .i64 t172)).setCell ⟨gb175, 3, none⟩ (.int .i64 t173))) := ⟨by repeat (first | (with_reducible first | exact HB.out | apply below_alloc | apply pw_below_drewN | apply below_drew1 | refine below_set ?_ GE153.out | refine below_set ?_ GE154.out | refine below_set ?_ GE164.out | refine below_set ?_ GE165.out | refine below_set ?_ GE174.out | refine below_set ?_ GE175.out) | exact HB.out)⟩
          pm151_
          generalize ((((((((w185.setCell ⟨gb174, 0, none⟩ (.int .i64 t166)).setCell ⟨gb174, 1, none⟩ (.int .i64 t167)).setCell ⟨gb174, 2, none⟩ (.int .i64 t168)).setCell ⟨gb174, 3, none⟩ (.int .i64 t169)).setCell ⟨gb175, 0, none⟩ (.int .i64 t170)).setCell ⟨gb175, 1, none⟩ (.int .i64 t171)).setCell ⟨gb175, 2, none⟩ (.int .i64 t172)).setCell ⟨gb175, 3, none⟩ (.int .i64 t173)) = w197 at n0_ n1_ n2_ n3_ n4_ n5_ n6_ ⊢
          pm19_
          pm20_
          pm21_
          pm143_
          pm25_
          pm26_
          pm99_
          generalize w197.drew = w198 at BK153 BK154 BK164 BK165 BK174 BK175 HB hHeld ⊢
          pm28_
          pm141_
          pm31_
          pm141_
          pm32_
          pm141_
          pm33_
          pm141_
          pm154_
          rintro e w199 ⟨rfl, hb⟩
          pm145_
          pm147_
          rintro e w200 ⟨rfl, hb⟩
          pm145_
          pm155_
          pm50_
          pm141_
          pm51_
          pm141_
          pm52_
          pm141_
          pm53_
          pm141_
          pm157_
          rintro e w201 ⟨rfl, hb⟩
          pm145_
          pm150_
          rintro e w202 ⟨rfl, hb⟩
          pm145_
          pm153_
          pm62_
          pm141_
          pm63_
          pm141_
          pm160_
          rintro e w203 ⟨rfl, hb⟩
          pm145_
          pm152_
          rintro e w204 ⟨rfl, hb⟩
          pm145_
          pm161_
          pm105_
          pm140_
          pm106_
          pm140_
          pm107_
          pm140_
          pm108_
          pm140_
          pm109_
          pm140_
          pm78_
          pm137_
          pm79_
          pm137_
          pm102_
          pm140_
          pm103_
          pm140_
          pm104_
          pm140_
          pm158_
      · rw [if_neg c16] at H
        have c16b0 : (t178 == t179) = false := by simpa using c16
        (try (have c16b1 : decide (t178 = t179) = false := by simpa using c16))
        (try (have c16b2 : (t178 == t179) = false := by simpa using c16))
        (try (have c16b3 : ¬ (t178 = t179) := by simpa using c16))
        clear c16
        obtain rfl := Option.some.inj H
        go_enter Try.func6, Try.ntmps6
        try go_wp2_with (first | ((with_reducible refine gate_dst (N := 4) rfl ?_); pm132_; intro gb153 hg w205 hbox hb; pm127_; clear hb hbox hg) | ((with_reducible refine gate_dst (N := 5) rfl ?_); pm131_; intro gb154 hg w206 hbox hb; pm122_; clear hb hbox hg) | ((with_reducible refine gate_callee (f := 15) rfl ?_); pm126_; rintro e w207 ⟨rfl, hb⟩; pm124_; (try clear hi)) | ((with_reducible refine gate_dst (N := 7) rfl ?_); pm134_; intro gb164 hg w208 hbox hb; pm121_; clear hb hbox hg) | ((with_reducible refine gate_dst (N := 8) rfl ?_); pm136_; intro gb165 hg w209 hbox hb; pm120_; pm130_; have hnb210 := NB164_153.out; have hnc210 := NB153_164.out; have hnb211 := NB164_154.out; have hnc211 := NB154_164.out; have hnb212 := NB164_165.out; have hnc212 := NB165_164.out; have hcz213_0 : w209.cell? ⟨gb164, 0, none⟩ = some (.int .i64 0) := (blk_cell BK164.out 0).trans rfl; have hcz213_1 : w209.cell? ⟨gb164, 1, none⟩ = some (.int .i64 0) := (blk_cell BK164.out 1).trans rfl; have hcz213_2 : w209.cell? ⟨gb164, 2, none⟩ = some (.int .i64 0) := (blk_cell BK164.out 2).trans rfl; have hcz213_3 : w209.cell? ⟨gb164, 3, none⟩ = some (.int .i64 0) := (blk_cell BK164.out 3).trans rfl; have hfz213_0 := blk_frozen BK164.out 0; have hfz213_1 := blk_frozen BK164.out 1; have hfz213_2 := blk_frozen BK164.out 2; have hfz213_3 := blk_frozen BK164.out 3; have hnb214 := NB165_153.out; have hnc214 := NB153_165.out; have hnb215 := NB165_154.out; have hnc215 := NB154_165.out; have hcz216_0 : w209.cell? ⟨gb165, 0, none⟩ = some (.int .i64 0) := (blk_cell BK165.out 0).trans rfl; have hcz216_1 : w209.cell? ⟨gb165, 1, none⟩ = some (.int .i64 0) := (blk_cell BK165.out 1).trans rfl; have hcz216_2 : w209.cell? ⟨gb165, 2, none⟩ = some (.int .i64 0) := (blk_cell BK165.out 2).trans rfl; have hcz216_3 : w209.cell? ⟨gb165, 3, none⟩ = some (.int .i64 0) := (blk_cell BK165.out 3).trans rfl; have hfz216_0 := blk_frozen BK165.out 0; have hfz216_1 := blk_frozen BK165.out 1; have hfz216_2 := blk_frozen BK165.out 2; have hfz216_3 := blk_frozen BK165.out 3) | ((with_reducible refine gate_callee (f := 16) rfl ?_); pm129_; rintro e w217 ⟨rfl, hb⟩; pm123_; (try clear hi)) | ((with_reducible refine gate_dst (N := 9) rfl ?_); pm135_; intro gb174 hg w218 hbox hb; pm119_; pm128_; clear hb hbox hg) | ((with_reducible refine gate_dst (N := 10) rfl ?_); pm133_; intro gb175 hg w219 hbox hb; pm118_; pm125_; have hnb220 := NB174_153.out; have hnc220 := NB153_174.out; have hnb221 := NB174_154.out; have hnc221 := NB154_174.out; have hnb222 := NB174_164.out; have hnc222 := NB164_174.out; have hnb223 := NB174_165.out; have hnc223 := NB165_174.out; have hnb224 := NB174_175.out; have hnc224 := NB175_174.out; have hcz225_0 : w219.cell? ⟨gb174, 0, none⟩ = some (.int .i64 0) := (blk_cell BK174.out 0).trans rfl; have hcz225_1 : w219.cell? ⟨gb174, 1, none⟩ = some (.int .i64 0) := (blk_cell BK174.out 1).trans rfl; have hcz225_2 : w219.cell? ⟨gb174, 2, none⟩ = some (.int .i64 0) := (blk_cell BK174.out 2).trans rfl; have hcz225_3 : w219.cell? ⟨gb174, 3, none⟩ = some (.int .i64 0) := (blk_cell BK174.out 3).trans rfl; have hfz225_0 := blk_frozen BK174.out 0; have hfz225_1 := blk_frozen BK174.out 1; have hfz225_2 := blk_frozen BK174.out 2; have hfz225_3 := blk_frozen BK174.out 3; have hnb226 := NB175_153.out; have hnc226 := NB153_175.out; have hnb227 := NB175_154.out; have hnc227 := NB154_175.out; have hnb228 := NB175_164.out; have hnc228 := NB164_175.out; have hnb229 := NB175_165.out; have hnc229 := NB165_175.out; have hcz230_0 : w219.cell? ⟨gb175, 0, none⟩ = some (.int .i64 0) := (blk_cell BK175.out 0).trans rfl; have hcz230_1 : w219.cell? ⟨gb175, 1, none⟩ = some (.int .i64 0) := (blk_cell BK175.out 1).trans rfl; have hcz230_2 : w219.cell? ⟨gb175, 2, none⟩ = some (.int .i64 0) := (blk_cell BK175.out 2).trans rfl; have hcz230_3 : w219.cell? ⟨gb175, 3, none⟩ = some (.int .i64 0) := (blk_cell BK175.out 3).trans rfl; have hfz230_0 := blk_frozen BK175.out 0; have hfz230_1 := blk_frozen BK175.out 1; have hfz230_2 := blk_frozen BK175.out 2; have hfz230_3 := blk_frozen BK175.out 3))
        have n0_ : Aside0 (((((((((w219.setCell ⟨gb174, 0, none⟩ (.int .i64 t166)).setCell ⟨gb174, 1, none⟩ (.int .i64 t167)).setCell ⟨gb174, 2, none⟩ (.int .i64 t168)).setCell ⟨gb174, 3, none⟩ (.int .i64 t169)).setCell ⟨gb175, 0, none⟩ (.int .i64 t170)).setCell ⟨gb175, 1, none⟩ (.int .i64 t171)).setCell ⟨gb175, 2, none⟩ (.int .i64 t172)).setCell ⟨gb175, 3, none⟩ (.int .i64 t173)).heap[gb153]? = some (.cells #[.int .i64 a1_0, .int .i64 a1_1, .int .i64 a1_2, .int .i64 a1_3] 24 (0, 0))) := ⟨by (with_reducible repeat (first | refine blk_drewN ?_ _ | refine blk_drew ?_ | refine blk_alloc ?_ _)); refine blk_far ?_ NB153_175.out _; pm117_; refine blk_far ?_ NB153_175.out _; pm117_; refine blk_far ?_ NB153_175.out _; pm117_; refine blk_far ?_ NB153_175.out _; pm117_; refine blk_far ?_ NB153_174.out _; pm117_; refine blk_far ?_ NB153_174.out _; pm117_; refine blk_far ?_ NB153_174.out _; pm117_; refine blk_far ?_ NB153_174.out _; pm117_; exact BK153.out⟩
        have n1_ : Aside0 (((((((((w219.setCell ⟨gb174, 0, none⟩ (.int .i64 t166)).setCell ⟨gb174, 1, none⟩ (.int .i64 t167)).setCell ⟨gb174, 2, none⟩ (.int .i64 t168)).setCell ⟨gb174, 3, none⟩ (.int .i64 t169)).setCell ⟨gb175, 0, none⟩ (.int .i64 t170)).setCell ⟨gb175, 1, none⟩ (.int .i64 t171)).setCell ⟨gb175, 2, none⟩ (.int .i64 t172)).setCell ⟨gb175, 3, none⟩ (.int .i64 t173)).heap[gb154]? = some (.cells #[.int .i64 a2_0, .int .i64 a2_1, .int .i64 a2_2, .int .i64 a2_3] 24 (0, 0))) := ⟨by (with_reducible repeat (first | refine blk_drewN ?_ _ | refine blk_drew ?_ | refine blk_alloc ?_ _)); refine blk_far ?_ NB154_175.out _; pm117_; refine blk_far ?_ NB154_175.out _; pm117_; refine blk_far ?_ NB154_175.out _; pm117_; refine blk_far ?_ NB154_175.out _; pm117_; refine blk_far ?_ NB154_174.out _; pm117_; refine blk_far ?_ NB154_174.out _; pm117_; refine blk_far ?_ NB154_174.out _; pm117_; refine blk_far ?_ NB154_174.out _; pm117_; exact BK154.out⟩
        have n2_ : Aside0 (((((((((w219.setCell ⟨gb174, 0, none⟩ (.int .i64 t166)).setCell ⟨gb174, 1, none⟩ (.int .i64 t167)).setCell ⟨gb174, 2, none⟩ (.int .i64 t168)).setCell ⟨gb174, 3, none⟩ (.int .i64 t169)).setCell ⟨gb175, 0, none⟩ (.int .i64 t170)).setCell ⟨gb175, 1, none⟩ (.int .i64 t171)).setCell ⟨gb175, 2, none⟩ (.int .i64 t172)).setCell ⟨gb175, 3, none⟩ (.int .i64 t173)).heap[gb164]? = some (.cells #[.int .i64 t156, .int .i64 t157, .int .i64 t158, .int .i64 t159] 24 (0, 0))) := ⟨by (with_reducible repeat (first | refine blk_drewN ?_ _ | refine blk_drew ?_ | refine blk_alloc ?_ _)); refine blk_far ?_ NB164_175.out _; pm117_; refine blk_far ?_ NB164_175.out _; pm117_; refine blk_far ?_ NB164_175.out _; pm117_; refine blk_far ?_ NB164_175.out _; pm117_; refine blk_far ?_ NB164_174.out _; pm117_; refine blk_far ?_ NB164_174.out _; pm117_; refine blk_far ?_ NB164_174.out _; pm117_; refine blk_far ?_ NB164_174.out _; pm117_; exact BK164.out⟩
        have n3_ : Aside0 (((((((((w219.setCell ⟨gb174, 0, none⟩ (.int .i64 t166)).setCell ⟨gb174, 1, none⟩ (.int .i64 t167)).setCell ⟨gb174, 2, none⟩ (.int .i64 t168)).setCell ⟨gb174, 3, none⟩ (.int .i64 t169)).setCell ⟨gb175, 0, none⟩ (.int .i64 t170)).setCell ⟨gb175, 1, none⟩ (.int .i64 t171)).setCell ⟨gb175, 2, none⟩ (.int .i64 t172)).setCell ⟨gb175, 3, none⟩ (.int .i64 t173)).heap[gb165]? = some (.cells #[.int .i64 t160, .int .i64 t161, .int .i64 t162, .int .i64 t163] 24 (0, 0))) := ⟨by (with_reducible repeat (first | refine blk_drewN ?_ _ | refine blk_drew ?_ | refine blk_alloc ?_ _)); refine blk_far ?_ NB165_175.out _; pm117_; refine blk_far ?_ NB165_175.out _; pm117_; refine blk_far ?_ NB165_175.out _; pm117_; refine blk_far ?_ NB165_175.out _; pm117_; refine blk_far ?_ NB165_174.out _; pm117_; refine blk_far ?_ NB165_174.out _; pm117_; refine blk_far ?_ NB165_174.out _; pm117_; refine blk_far ?_ NB165_174.out _; pm117_; exact BK165.out⟩
        have n4_ : Aside0 (((((((((w219.setCell ⟨gb174, 0, none⟩ (.int .i64 t166)).setCell ⟨gb174, 1, none⟩ (.int .i64 t167)).setCell ⟨gb174, 2, none⟩ (.int .i64 t168)).setCell ⟨gb174, 3, none⟩ (.int .i64 t169)).setCell ⟨gb175, 0, none⟩ (.int .i64 t170)).setCell ⟨gb175, 1, none⟩ (.int .i64 t171)).setCell ⟨gb175, 2, none⟩ (.int .i64 t172)).setCell ⟨gb175, 3, none⟩ (.int .i64 t173)).heap[gb174]? = some (.cells #[.int .i64 t166, .int .i64 t167, .int .i64 t168, .int .i64 t169] 24 (0, 0))) := ⟨by (with_reducible repeat (first | refine blk_drewN ?_ _ | refine blk_drew ?_ | refine blk_alloc ?_ _)); refine blk_far ?_ NB174_175.out _; pm117_; refine blk_far ?_ NB174_175.out _; pm117_; refine blk_far ?_ NB174_175.out _; pm117_; refine blk_far ?_ NB174_175.out _; pm117_; refine blk_put (cs := #[.int .i64 t166, .int .i64 t167, .int .i64 t168, .int .i64 0]) ?_ 3 _ rfl; pm117_; refine blk_put (cs := #[.int .i64 t166, .int .i64 t167, .int .i64 0, .int .i64 0]) ?_ 2 _ rfl; pm117_; refine blk_put (cs := #[.int .i64 t166, .int .i64 0, .int .i64 0, .int .i64 0]) ?_ 1 _ rfl; pm117_; refine blk_put (cs := #[.int .i64 0, .int .i64 0, .int .i64 0, .int .i64 0]) ?_ 0 _ rfl; pm117_; exact BK174.out⟩
        have n5_ : Aside0 (((((((((w219.setCell ⟨gb174, 0, none⟩ (.int .i64 t166)).setCell ⟨gb174, 1, none⟩ (.int .i64 t167)).setCell ⟨gb174, 2, none⟩ (.int .i64 t168)).setCell ⟨gb174, 3, none⟩ (.int .i64 t169)).setCell ⟨gb175, 0, none⟩ (.int .i64 t170)).setCell ⟨gb175, 1, none⟩ (.int .i64 t171)).setCell ⟨gb175, 2, none⟩ (.int .i64 t172)).setCell ⟨gb175, 3, none⟩ (.int .i64 t173)).heap[gb175]? = some (.cells #[.int .i64 t170, .int .i64 t171, .int .i64 t172, .int .i64 t173] 24 (0, 0))) := ⟨by (with_reducible repeat (first | refine blk_drewN ?_ _ | refine blk_drew ?_ | refine blk_alloc ?_ _)); refine blk_put (cs := #[.int .i64 t170, .int .i64 t171, .int .i64 t172, .int .i64 0]) ?_ 3 _ rfl; pm117_; refine blk_put (cs := #[.int .i64 t170, .int .i64 t171, .int .i64 0, .int .i64 0]) ?_ 2 _ rfl; pm117_; refine blk_put (cs := #[.int .i64 t170, .int .i64 0, .int .i64 0, .int .i64 0]) ?_ 1 _ rfl; pm117_; refine blk_put (cs := #[.int .i64 0, .int .i64 0, .int .i64 0, .int .i64 0]) ?_ 0 _ rfl; pm117_; refine blk_far ?_ NB175_174.out _; pm117_; refine blk_far ?_ NB175_174.out _; pm117_; refine blk_far ?_ NB175_174.out _; pm117_; refine blk_far ?_ NB175_174.out _; pm117_; exact BK175.out⟩
        have n6_ : Aside0 (Below w.heap.size w ((((((((w219.setCell ⟨gb174, 0, none⟩ (.int .i64 t166)).setCell ⟨gb174, 1, none⟩ (.int .i64 t167)).setCell ⟨gb174, 2, none⟩ (.int .i64 t168)).setCell ⟨gb174, 3, none⟩ (.int .i64 t169)).setCell ⟨gb175, 0, none⟩ (.int .i64 t170)).setCell ⟨gb175, 1, none⟩ (.int .i64 t171)).setCell ⟨gb175, 2, none⟩ (.int .i64 t172)).setCell ⟨gb175, 3, none⟩ (.int .i64 t173))) := ⟨by repeat (first | (with_reducible first | exact HB.out | apply below_alloc | apply pw_below_drewN | apply below_drew1 | refine below_set ?_ GE153.out | refine below_set ?_ GE154.out | refine below_set ?_ GE164.out | refine below_set ?_ GE165.out | refine below_set ?_ GE174.out | refine below_set ?_ GE175.out) | exact HB.out)⟩
        pm151_
        generalize ((((((((w219.setCell ⟨gb174, 0, none⟩ (.int .i64 t166)).setCell ⟨gb174, 1, none⟩ (.int .i64 t167)).setCell ⟨gb174, 2, none⟩ (.int .i64 t168)).setCell ⟨gb174, 3, none⟩ (.int .i64 t169)).setCell ⟨gb175, 0, none⟩ (.int .i64 t170)).setCell ⟨gb175, 1, none⟩ (.int .i64 t171)).setCell ⟨gb175, 2, none⟩ (.int .i64 t172)).setCell ⟨gb175, 3, none⟩ (.int .i64 t173)) = w231 at n0_ n1_ n2_ n3_ n4_ n5_ n6_ ⊢
        pm19_
        pm20_
        pm21_
        pm143_
        pm25_
        pm26_
        pm99_
        generalize w231.drew = w232 at BK153 BK154 BK164 BK165 BK174 BK175 HB hHeld ⊢
        pm28_
        pm141_
        pm31_
        pm141_
        pm32_
        pm141_
        pm33_
        pm141_
        pm154_
        rintro e w233 ⟨rfl, hb⟩
        pm145_
        pm147_
        rintro e w234 ⟨rfl, hb⟩
        pm145_
        pm155_
        pm50_
        pm141_
        pm51_
        pm141_
        pm52_
        pm141_
        pm53_
        pm141_
        pm157_
        rintro e w235 ⟨rfl, hb⟩
        pm145_
        pm150_
        rintro e w236 ⟨rfl, hb⟩
        pm145_
        · show Act.put _ (some 38) _ = _
          pm30_
          rfl
        pm57_
        pm137_
        pm58_
        pm137_
        pm59_
        pm137_
        pm110_
        pm140_
        pm111_
        pm140_
        pm112_
        pm140_
        pm113_
        pm140_
        pm114_
        pm140_
        pm115_
        pm140_
        pm116_
        pm140_
        pm69_
        pm137_
        pm70_
        pm137_
        pm105_
        pm140_
        pm106_
        pm140_
        pm107_
        pm140_
        pm108_
        pm140_
        pm109_
        pm140_
        pm78_
        pm137_
        pm79_
        pm137_
        pm102_
        pm140_
        pm103_
        pm140_
        pm104_
        pm140_
        pm158_
    · rw [if_neg c13] at H
      have c13b0 : (t176 == t177) = false := by simpa using c13
      (try (have c13b1 : decide (t176 = t177) = false := by simpa using c13))
      (try (have c13b2 : (t176 == t177) = false := by simpa using c13))
      (try (have c13b3 : ¬ (t176 = t177) := by simpa using c13))
      clear c13
      obtain rfl := Option.some.inj H
      go_enter Try.func6, Try.ntmps6
      try go_wp2_with (first | ((with_reducible refine gate_dst (N := 4) rfl ?_); pm132_; intro gb153 hg w237 hbox hb; pm127_; clear hb hbox hg) | ((with_reducible refine gate_dst (N := 5) rfl ?_); pm131_; intro gb154 hg w238 hbox hb; pm122_; clear hb hbox hg) | ((with_reducible refine gate_callee (f := 15) rfl ?_); pm126_; rintro e w239 ⟨rfl, hb⟩; pm124_; (try clear hi)) | ((with_reducible refine gate_dst (N := 7) rfl ?_); pm134_; intro gb164 hg w240 hbox hb; pm121_; clear hb hbox hg) | ((with_reducible refine gate_dst (N := 8) rfl ?_); pm136_; intro gb165 hg w241 hbox hb; pm120_; pm130_; have hnb242 := NB164_153.out; have hnc242 := NB153_164.out; have hnb243 := NB164_154.out; have hnc243 := NB154_164.out; have hnb244 := NB164_165.out; have hnc244 := NB165_164.out; have hcz245_0 : w241.cell? ⟨gb164, 0, none⟩ = some (.int .i64 0) := (blk_cell BK164.out 0).trans rfl; have hcz245_1 : w241.cell? ⟨gb164, 1, none⟩ = some (.int .i64 0) := (blk_cell BK164.out 1).trans rfl; have hcz245_2 : w241.cell? ⟨gb164, 2, none⟩ = some (.int .i64 0) := (blk_cell BK164.out 2).trans rfl; have hcz245_3 : w241.cell? ⟨gb164, 3, none⟩ = some (.int .i64 0) := (blk_cell BK164.out 3).trans rfl; have hfz245_0 := blk_frozen BK164.out 0; have hfz245_1 := blk_frozen BK164.out 1; have hfz245_2 := blk_frozen BK164.out 2; have hfz245_3 := blk_frozen BK164.out 3; have hnb246 := NB165_153.out; have hnc246 := NB153_165.out; have hnb247 := NB165_154.out; have hnc247 := NB154_165.out; have hcz248_0 : w241.cell? ⟨gb165, 0, none⟩ = some (.int .i64 0) := (blk_cell BK165.out 0).trans rfl; have hcz248_1 : w241.cell? ⟨gb165, 1, none⟩ = some (.int .i64 0) := (blk_cell BK165.out 1).trans rfl; have hcz248_2 : w241.cell? ⟨gb165, 2, none⟩ = some (.int .i64 0) := (blk_cell BK165.out 2).trans rfl; have hcz248_3 : w241.cell? ⟨gb165, 3, none⟩ = some (.int .i64 0) := (blk_cell BK165.out 3).trans rfl; have hfz248_0 := blk_frozen BK165.out 0; have hfz248_1 := blk_frozen BK165.out 1; have hfz248_2 := blk_frozen BK165.out 2; have hfz248_3 := blk_frozen BK165.out 3) | ((with_reducible refine gate_callee (f := 16) rfl ?_); pm129_; rintro e w249 ⟨rfl, hb⟩; pm123_; (try clear hi)) | ((with_reducible refine gate_dst (N := 9) rfl ?_); pm135_; intro gb174 hg w250 hbox hb; pm119_; pm128_; clear hb hbox hg) | ((with_reducible refine gate_dst (N := 10) rfl ?_); pm133_; intro gb175 hg w251 hbox hb; pm118_; pm125_; have hnb252 := NB174_153.out; have hnc252 := NB153_174.out; have hnb253 := NB174_154.out; have hnc253 := NB154_174.out; have hnb254 := NB174_164.out; have hnc254 := NB164_174.out; have hnb255 := NB174_165.out; have hnc255 := NB165_174.out; have hnb256 := NB174_175.out; have hnc256 := NB175_174.out; have hcz257_0 : w251.cell? ⟨gb174, 0, none⟩ = some (.int .i64 0) := (blk_cell BK174.out 0).trans rfl; have hcz257_1 : w251.cell? ⟨gb174, 1, none⟩ = some (.int .i64 0) := (blk_cell BK174.out 1).trans rfl; have hcz257_2 : w251.cell? ⟨gb174, 2, none⟩ = some (.int .i64 0) := (blk_cell BK174.out 2).trans rfl; have hcz257_3 : w251.cell? ⟨gb174, 3, none⟩ = some (.int .i64 0) := (blk_cell BK174.out 3).trans rfl; have hfz257_0 := blk_frozen BK174.out 0; have hfz257_1 := blk_frozen BK174.out 1; have hfz257_2 := blk_frozen BK174.out 2; have hfz257_3 := blk_frozen BK174.out 3; have hnb258 := NB175_153.out; have hnc258 := NB153_175.out; have hnb259 := NB175_154.out; have hnc259 := NB154_175.out; have hnb260 := NB175_164.out; have hnc260 := NB164_175.out; have hnb261 := NB175_165.out; have hnc261 := NB165_175.out; have hcz262_0 : w251.cell? ⟨gb175, 0, none⟩ = some (.int .i64 0) := (blk_cell BK175.out 0).trans rfl; have hcz262_1 : w251.cell? ⟨gb175, 1, none⟩ = some (.int .i64 0) := (blk_cell BK175.out 1).trans rfl; have hcz262_2 : w251.cell? ⟨gb175, 2, none⟩ = some (.int .i64 0) := (blk_cell BK175.out 2).trans rfl; have hcz262_3 : w251.cell? ⟨gb175, 3, none⟩ = some (.int .i64 0) := (blk_cell BK175.out 3).trans rfl; have hfz262_0 := blk_frozen BK175.out 0; have hfz262_1 := blk_frozen BK175.out 1; have hfz262_2 := blk_frozen BK175.out 2; have hfz262_3 := blk_frozen BK175.out 3))
      have n0_ : Aside0 (((((((((w251.setCell ⟨gb174, 0, none⟩ (.int .i64 t166)).setCell ⟨gb174, 1, none⟩ (.int .i64 t167)).setCell ⟨gb174, 2, none⟩ (.int .i64 t168)).setCell ⟨gb174, 3, none⟩ (.int .i64 t169)).setCell ⟨gb175, 0, none⟩ (.int .i64 t170)).setCell ⟨gb175, 1, none⟩ (.int .i64 t171)).setCell ⟨gb175, 2, none⟩ (.int .i64 t172)).setCell ⟨gb175, 3, none⟩ (.int .i64 t173)).heap[gb153]? = some (.cells #[.int .i64 a1_0, .int .i64 a1_1, .int .i64 a1_2, .int .i64 a1_3] 24 (0, 0))) := ⟨by (with_reducible repeat (first | refine blk_drewN ?_ _ | refine blk_drew ?_ | refine blk_alloc ?_ _)); refine blk_far ?_ NB153_175.out _; pm117_; refine blk_far ?_ NB153_175.out _; pm117_; refine blk_far ?_ NB153_175.out _; pm117_; refine blk_far ?_ NB153_175.out _; pm117_; refine blk_far ?_ NB153_174.out _; pm117_; refine blk_far ?_ NB153_174.out _; pm117_; refine blk_far ?_ NB153_174.out _; pm117_; refine blk_far ?_ NB153_174.out _; pm117_; exact BK153.out⟩
      have n1_ : Aside0 (((((((((w251.setCell ⟨gb174, 0, none⟩ (.int .i64 t166)).setCell ⟨gb174, 1, none⟩ (.int .i64 t167)).setCell ⟨gb174, 2, none⟩ (.int .i64 t168)).setCell ⟨gb174, 3, none⟩ (.int .i64 t169)).setCell ⟨gb175, 0, none⟩ (.int .i64 t170)).setCell ⟨gb175, 1, none⟩ (.int .i64 t171)).setCell ⟨gb175, 2, none⟩ (.int .i64 t172)).setCell ⟨gb175, 3, none⟩ (.int .i64 t173)).heap[gb154]? = some (.cells #[.int .i64 a2_0, .int .i64 a2_1, .int .i64 a2_2, .int .i64 a2_3] 24 (0, 0))) := ⟨by (with_reducible repeat (first | refine blk_drewN ?_ _ | refine blk_drew ?_ | refine blk_alloc ?_ _)); refine blk_far ?_ NB154_175.out _; pm117_; refine blk_far ?_ NB154_175.out _; pm117_; refine blk_far ?_ NB154_175.out _; pm117_; refine blk_far ?_ NB154_175.out _; pm117_; refine blk_far ?_ NB154_174.out _; pm117_; refine blk_far ?_ NB154_174.out _; pm117_; refine blk_far ?_ NB154_174.out _; pm117_; refine blk_far ?_ NB154_174.out _; pm117_; exact BK154.out⟩
      have n2_ : Aside0 (((((((((w251.setCell ⟨gb174, 0, none⟩ (.int .i64 t166)).setCell ⟨gb174, 1, none⟩ (.int .i64 t167)).setCell ⟨gb174, 2, none⟩ (.int .i64 t168)).setCell ⟨gb174, 3, none⟩ (.int .i64 t169)).setCell ⟨gb175, 0, none⟩ (.int .i64 t170)).setCell ⟨gb175, 1, none⟩ (.int .i64 t171)).setCell ⟨gb175, 2, none⟩ (.int .i64 t172)).setCell ⟨gb175, 3, none⟩ (.int .i64 t173)).heap[gb164]? = some (.cells #[.int .i64 t156, .int .i64 t157, .int .i64 t158, .int .i64 t159] 24 (0, 0))) := ⟨by (with_reducible repeat (first | refine blk_drewN ?_ _ | refine blk_drew ?_ | refine blk_alloc ?_ _)); refine blk_far ?_ NB164_175.out _; pm117_; refine blk_far ?_ NB164_175.out _; pm117_; refine blk_far ?_ NB164_175.out _; pm117_; refine blk_far ?_ NB164_175.out _; pm117_; refine blk_far ?_ NB164_174.out _; pm117_; refine blk_far ?_ NB164_174.out _; pm117_; refine blk_far ?_ NB164_174.out _; pm117_; refine blk_far ?_ NB164_174.out _; pm117_; exact BK164.out⟩
      have n3_ : Aside0 (((((((((w251.setCell ⟨gb174, 0, none⟩ (.int .i64 t166)).setCell ⟨gb174, 1, none⟩ (.int .i64 t167)).setCell ⟨gb174, 2, none⟩ (.int .i64 t168)).setCell ⟨gb174, 3, none⟩ (.int .i64 t169)).setCell ⟨gb175, 0, none⟩ (.int .i64 t170)).setCell ⟨gb175, 1, none⟩ (.int .i64 t171)).setCell ⟨gb175, 2, none⟩ (.int .i64 t172)).setCell ⟨gb175, 3, none⟩ (.int .i64 t173)).heap[gb165]? = some (.cells #[.int .i64 t160, .int .i64 t161, .int .i64 t162, .int .i64 t163] 24 (0, 0))) := ⟨by (with_reducible repeat (first | refine blk_drewN ?_ _ | refine blk_drew ?_ | refine blk_alloc ?_ _)); refine blk_far ?_ NB165_175.out _; pm117_; refine blk_far ?_ NB165_175.out _; pm117_; refine blk_far ?_ NB165_175.out _; pm117_; refine blk_far ?_ NB165_175.out _; pm117_; refine blk_far ?_ NB165_174.out _; pm117_; refine blk_far ?_ NB165_174.out _; pm117_; refine blk_far ?_ NB165_174.out _; pm117_; refine blk_far ?_ NB165_174.out _; pm117_; exact BK165.out⟩
      have n4_ : Aside0 (((((((((w251.setCell ⟨gb174, 0, none⟩ (.int .i64 t166)).setCell ⟨gb174, 1, none⟩ (.int .i64 t167)).setCell ⟨gb174, 2, none⟩ (.int .i64 t168)).setCell ⟨gb174, 3, none⟩ (.int .i64 t169)).setCell ⟨gb175, 0, none⟩ (.int .i64 t170)).setCell ⟨gb175, 1, none⟩ (.int .i64 t171)).setCell ⟨gb175, 2, none⟩ (.int .i64 t172)).setCell ⟨gb175, 3, none⟩ (.int .i64 t173)).heap[gb174]? = some (.cells #[.int .i64 t166, .int .i64 t167, .int .i64 t168, .int .i64 t169] 24 (0, 0))) := ⟨by (with_reducible repeat (first | refine blk_drewN ?_ _ | refine blk_drew ?_ | refine blk_alloc ?_ _)); refine blk_far ?_ NB174_175.out _; pm117_; refine blk_far ?_ NB174_175.out _; pm117_; refine blk_far ?_ NB174_175.out _; pm117_; refine blk_far ?_ NB174_175.out _; pm117_; refine blk_put (cs := #[.int .i64 t166, .int .i64 t167, .int .i64 t168, .int .i64 0]) ?_ 3 _ rfl; pm117_; refine blk_put (cs := #[.int .i64 t166, .int .i64 t167, .int .i64 0, .int .i64 0]) ?_ 2 _ rfl; pm117_; refine blk_put (cs := #[.int .i64 t166, .int .i64 0, .int .i64 0, .int .i64 0]) ?_ 1 _ rfl; pm117_; refine blk_put (cs := #[.int .i64 0, .int .i64 0, .int .i64 0, .int .i64 0]) ?_ 0 _ rfl; pm117_; exact BK174.out⟩
      have n5_ : Aside0 (((((((((w251.setCell ⟨gb174, 0, none⟩ (.int .i64 t166)).setCell ⟨gb174, 1, none⟩ (.int .i64 t167)).setCell ⟨gb174, 2, none⟩ (.int .i64 t168)).setCell ⟨gb174, 3, none⟩ (.int .i64 t169)).setCell ⟨gb175, 0, none⟩ (.int .i64 t170)).setCell ⟨gb175, 1, none⟩ (.int .i64 t171)).setCell ⟨gb175, 2, none⟩ (.int .i64 t172)).setCell ⟨gb175, 3, none⟩ (.int .i64 t173)).heap[gb175]? = some (.cells #[.int .i64 t170, .int .i64 t171, .int .i64 t172, .int .i64 t173] 24 (0, 0))) := ⟨by (with_reducible repeat (first | refine blk_drewN ?_ _ | refine blk_drew ?_ | refine blk_alloc ?_ _)); refine blk_put (cs := #[.int .i64 t170, .int .i64 t171, .int .i64 t172, .int .i64 0]) ?_ 3 _ rfl; pm117_; refine blk_put (cs := #[.int .i64 t170, .int .i64 t171, .int .i64 0, .int .i64 0]) ?_ 2 _ rfl; pm117_; refine blk_put (cs := #[.int .i64 t170, .int .i64 0, .int .i64 0, .int .i64 0]) ?_ 1 _ rfl; pm117_; refine blk_put (cs := #[.int .i64 0, .int .i64 0, .int .i64 0, .int .i64 0]) ?_ 0 _ rfl; pm117_; refine blk_far ?_ NB175_174.out _; pm117_; refine blk_far ?_ NB175_174.out _; pm117_; refine blk_far ?_ NB175_174.out _; pm117_; refine blk_far ?_ NB175_174.out _; pm117_; exact BK175.out⟩
      have n6_ : Aside0 (Below w.heap.size w ((((((((w251.setCell ⟨gb174, 0, none⟩ (.int .i64 t166)).setCell ⟨gb174, 1, none⟩ (.int .i64 t167)).setCell ⟨gb174, 2, none⟩ (.int .i64 t168)).setCell ⟨gb174, 3, none⟩ (.int .i64 t169)).setCell ⟨gb175, 0, none⟩ (.int .i64 t170)).setCell ⟨gb175, 1, none⟩ (.int .i64 t171)).setCell ⟨gb175, 2, none⟩ (.int .i64 t172)).setCell ⟨gb175, 3, none⟩ (.int .i64 t173))) := ⟨by repeat (first | (with_reducible first | exact HB.out | apply below_alloc | apply pw_below_drewN | apply below_drew1 | refine below_set ?_ GE153.out | refine below_set ?_ GE154.out | refine below_set ?_ GE164.out | refine below_set ?_ GE165.out | refine below_set ?_ GE174.out | refine below_set ?_ GE175.out) | exact HB.out)⟩
      pm151_
      generalize ((((((((w251.setCell ⟨gb174, 0, none⟩ (.int .i64 t166)).setCell ⟨gb174, 1, none⟩ (.int .i64 t167)).setCell ⟨gb174, 2, none⟩ (.int .i64 t168)).setCell ⟨gb174, 3, none⟩ (.int .i64 t169)).setCell ⟨gb175, 0, none⟩ (.int .i64 t170)).setCell ⟨gb175, 1, none⟩ (.int .i64 t171)).setCell ⟨gb175, 2, none⟩ (.int .i64 t172)).setCell ⟨gb175, 3, none⟩ (.int .i64 t173)) = w263 at n0_ n1_ n2_ n3_ n4_ n5_ n6_ ⊢
      pm19_
      pm20_
      pm21_
      pm143_
      pm25_
      pm26_
      pm99_
      generalize w263.drew = w264 at BK153 BK154 BK164 BK165 BK174 BK175 HB hHeld ⊢
      pm28_
      pm141_
      pm31_
      pm141_
      pm32_
      pm141_
      pm33_
      pm141_
      pm154_
      rintro e w265 ⟨rfl, hb⟩
      pm145_
      pm147_
      rintro e w266 ⟨rfl, hb⟩
      pm145_
      pm155_
      refine pure_ (i := 8) (N := some 33) (v := undef) (a' := ?_) #[true, true, true, true, true, true, true, true, true, false, false, false, false, false, false, false, false, false, false, false, false, false, false, false, false, false, false, false, false, false, false, false, false, false, false, false, false, false, false, false, false, false, false, false, false, false] rfl rfl (any_of HT_.out (by pm18_)) (fun _ _ _ h => h) (Or.inr ⟨by rfl, rfl⟩) ?_ ?_
      pm140_
      refine pure_ (i := 9) (N := some 34) (v := undef) (a' := ?_) #[true, true, true, true, true, true, true, true, true, true, false, false, false, false, false, false, false, false, false, false, false, false, false, false, false, false, false, false, false, false, false, false, false, false, false, false, false, false, false, false, false, false, false, false, false, false] rfl rfl (any_of HT_.out (by pm18_)) (fun _ _ _ h => h) (Or.inr ⟨by rfl, rfl⟩) ?_ ?_
      pm140_
      refine pure_ (i := 10) (N := some 35) (v := undef) (a' := ?_) #[true, true, true, true, true, true, true, true, true, true, true, false, false, false, false, false, false, false, false, false, false, false, false, false, false, false, false, false, false, false, false, false, false, false, false, false, false, false, false, false, false, false, false, false, false, false] rfl rfl (any_of HT_.out (by pm18_)) (fun _ _ _ h => h) (Or.inr ⟨by rfl, rfl⟩) ?_ ?_
      pm140_
      refine pure_ (i := 11) (N := some 36) (v := undef) (a' := ?_) #[true, true, true, true, true, true, true, true, true, true, true, true, false, false, false, false, false, false, false, false, false, false, false, false, false, false, false, false, false, false, false, false, false, false, false, false, false, false, false, false, false, false, false, false, false, false] rfl rfl (any_of HT_.out (by pm18_)) (fun _ _ _ h => h) (Or.inr ⟨by rfl, rfl⟩) ?_ ?_
      pm140_
      refine pure_ (i := 12) (N := some 37) (v := undef) (a' := ?_) #[true, true, true, true, true, true, true, true, true, true, true, true, true, false, false, false, false, false, false, false, false, false, false, false, false, false, false, false, false, false, false, false, false, false, false, false, false, false, false, false, false, false, false, false, false, false] rfl rfl (any_of HT_.out (by pm18_)) (fun _ _ _ h => h) (Or.inr ⟨by rfl, rfl⟩) ?_ ?_
      pm140_
      refine pure_ (i := 13) (N := some 38) (v := undef) (a' := ?_) #[true, true, true, true, true, true, true, true, true, true, true, true, true, true, false, false, false, false, false, false, false, false, false, false, false, false, false, false, false, false, false, false, false, false, false, false, false, false, false, false, false, false, false, false, false, false] rfl rfl (any_of HT_.out (by pm18_)) (fun _ _ _ h => h) (Or.inr ⟨by rfl, rfl⟩) ?_ ?_
      pm140_
      refine pure_ (i := 14) (N := some 39) (v := undef) (a' := ?_) #[true, true, true, true, true, true, true, true, true, true, true, true, true, true, true, false, false, false, false, false, false, false, false, false, false, false, false, false, false, false, false, false, false, false, false, false, false, false, false, false, false, false, false, false, false, false] rfl rfl (any_of HT_.out (by pm18_)) (fun _ _ _ h => h) (Or.inr ⟨by rfl, rfl⟩) ?_ ?_
      pm140_
      pm58_
      pm137_
      pm59_
      pm137_
      pm110_
      pm140_
      pm111_
      pm140_
      pm112_
      pm140_
      pm113_
      pm140_
      pm114_
      pm140_
      pm115_
      pm140_
      pm116_
      pm140_
      pm69_
      pm137_
      pm70_
      pm137_
      pm105_
      pm140_
      pm106_
      pm140_
      pm107_
      pm140_
      pm108_
      pm140_
      pm109_
      pm140_
      pm78_
      pm137_
      pm79_
      pm137_
      pm102_
      pm140_
      pm103_
      pm140_
      pm104_
      pm140_
      pm158_
/-- Well formed, field by field. -/
def wf24 (x : S24) : Prop := (Lit.int .i64 x.f0).wf = true ∧ ((Lit.int .i64 x.f1).wf = true ∧ ((Lit.int .i64 x.f2).wf = true ∧ ((Lit.int .i64 x.f3).wf = true)))
/-- THE ONE PURE STATEMENT of parterrelaw19_OccupyOverlaps. -/
def parterrelaw19_OccupyOverlaps.Pure : Prop := ∀ (l0 : List (S24)) (a1_0 : Int) (a1_1 : Int) (a1_2 : Int) (a1_3 : Int) (a2_0 : Int) (a2_1 : Int) (a2_2 : Int) (a2_3 : Int), l0.length ≤ 9223372036854775807 → l0.length * 32 ≤ 140737488351232 → (∀ e_ ∈ l0, wf24 e_) → (Lit.int .i64 a1_0).wf = true → (Lit.int .i64 a1_1).wf = true → (Lit.int .i64 a1_2).wf = true → (Lit.int .i64 a1_3).wf = true → (Lit.int .i64 a2_0).wf = true → (Lit.int .i64 a2_1).wf = true → (Lit.int .i64 a2_2).wf = true → (Lit.int .i64 a2_3).wf = true → ∃ k, parterrelaw19_OccupyOverlaps.f k l0 a1_0 a1_1 a1_2 a1_3 a2_0 a2_1 a2_2 a2_3 = some true

end Go.Proofs.Ytckpmhclngoefaa.PB
