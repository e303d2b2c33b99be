/- The row of the law parterre/parterrelaw24.IntrinsicEnough: whatever the input: true; the input reads as it did. No condition. Its pure statement is proved in YtbebnjiolaomdaaPureIntrinsicEnough. -/
import Derived.Test.YtbebnjiolaomdaaRows
import Derived.Test.YtbebnjiolaomdaaO
import Derived.Test.YtbebnjiolaomdaaSort
import Derived.Test.YtbebnjiolaomdaaPureIntrinsicEnough
import Derived.WalkKit
import Derived.ProofKit
import Derived.OpenShut
import Derived.ShutString
import Derived.ChangeOld
import Derived.Below
import Derived.SizedLaws
import Derived.Carry
namespace Go.Proofs.Ytbebnjiolaomdaa.intrinsicEnough
open Go.ChangeShapes Go.WideShapes Go.ChangeAt Go.RowKit Go.Proofs.Ytbebnjiolaomdaa.Sx Go.Proofs.Ytbebnjiolaomdaa.T
set_option linter.unusedVariables false
theorem own : ownKnob Try.prog.godebug = none := by kernel_rfl
theorem laidOut : laidOutB Try.prog = true := by kernel_rfl
set_option maxRecDepth 100000 in
theorem lifted (os : Os) (started : os.Started) (H : Type) (enc : TypeId × Value → H) :
    ReturnsInHanded {} Try.checked os 3 .any (Rows.intrinsicEnoughSpec.pre6 enc Try.prog Try.f3 Rows.intrinsicEnoughRow.domain false) (Rows.intrinsicEnoughSpec.post enc Try.prog Try.f3 false true false false) := by
 refine returnsInHanded_of_change_sized (C := Try.checked) own started (by kernel_rfl) Try.func3
  (ChangeSpec.witness6 (enc := enc) (C := Try.checked) false ⟨#[], #[.slice none 0 0, .slice none 0 0, .slice none 0 0, .int .i64 0], []⟩ 8 (by kernel_rfl) (by kernel_rfl) (by kernel_rfl) (by kernel_rfl)) ?_
 intro W base args ds gs before hval0 hW hcnd hsz0 _
 have hsz : (DataW.weightsEach Try.prog (Try.f3.params.toList ++ Rows.intrinsicEnoughSpec.plain.varTypes Try.prog) (ds ++ gs)).all (· ≤ reachBytes) = true := hsz0
 have hval : ∀ (j : Nat) t v, Try.f3.params[j]? = some t → args[j]? = some v → Value.okWide Try.prog W .any base t v := hval0
 have hW' := hW
 obtain ⟨p, q, hA0, hV, rfl, hfz, hnd⟩ := hW
 have hA : DataW.TrodAll enc Try.prog W 0 (fun _ => true) true Try.f3.params.toList args.toList ds p := hA0
 rw [Try.params3] at hA hval hsz
 obtain ⟨v0, vs0, d0, ds0, p0, q0, hargs, rfl, rfl, h0, r0⟩ := trodAll_cons hA
 obtain ⟨v1, vs1, d1, ds1, p1, q1, rfl, rfl, rfl, h1, r1⟩ := trodAll_cons r0
 obtain ⟨v2, vs2, d2, ds2, p2, q2, rfl, rfl, rfl, h2, r2⟩ := trodAll_cons r1
 obtain ⟨v3, vs3, d3, ds3, p3, q3, rfl, rfl, rfl, h3, r3⟩ := trodAll_cons r2
 obtain ⟨rfl, rfl, rfl⟩ := trodAll_nil r3
 obtain rfl : args = #[v0, v1, v2, v3] := by cases args; simp_all
 obtain ⟨rfl, rfl⟩ := trodVars_none hV
 have k0 := h0
 have lt0 : ∀ x ∈ p0, x.block < W.heap.size := by obtain ⟨m, hm⟩ := k0; exact DataW.trod_lt m _ _ _ hm
 obtain ⟨a0, len0, cap0, rfl⟩ := okWide_slice Try.underlying22 (hval 0 22 v0 rfl rfl)
 obtain ⟨x0, hr0, hw0⟩ := leaf_arg rfl (opensV_all 12 22 [(.row [.int .i64, .int .i64, .int .i64, .bool, .int .i64, .int .i64, .int .i64])] (by kernel_rfl) (by kernel_rfl)) h0
 have y0 := sized_arg (B := 56) hsz (j := 0) (t := 22) rfl rfl Try.underlying22 (by kernel_rfl) h0 hr0
 have k1 := h1
 have lt1 : ∀ x ∈ p1, x.block < W.heap.size := by obtain ⟨m, hm⟩ := k1; exact DataW.trod_lt m _ _ _ hm
 obtain ⟨a1, len1, cap1, rfl⟩ := okWide_slice Try.underlying23 (hval 1 23 v1 rfl rfl)
 obtain ⟨x1, hr1, hw1⟩ := leaf_arg rfl (opensV_all 12 23 [(.row [.int .i64])] (by kernel_rfl) (by kernel_rfl)) h1
 have y1 := sized_arg (B := 8) hsz (j := 1) (t := 23) rfl rfl Try.underlying23 (by kernel_rfl) h1 hr1
 have k2 := h2
 have lt2 : ∀ x ∈ p2, x.block < W.heap.size := by obtain ⟨m, hm⟩ := k2; exact DataW.trod_lt m _ _ _ hm
 obtain ⟨a2, len2, cap2, rfl⟩ := okWide_slice Try.underlying24 (hval 2 24 v2 rfl rfl)
 obtain ⟨x2, hr2, hw2⟩ := leaf_arg rfl (opensV_all 12 24 [(.row [.int .i64, .int .i64, .int .i64, .int .i64, .int .i64])] (by kernel_rfl) (by kernel_rfl)) h2
 have y2 := sized_arg (B := 40) hsz (j := 2) (t := 24) rfl rfl Try.underlying24 (by kernel_rfl) h2 hr2
 have k3 := h3
 have lt3 : ∀ x ∈ p3, x.block < W.heap.size := by obtain ⟨m, hm⟩ := k3; exact DataW.trod_lt m _ _ _ hm
 obtain ⟨a3, rfl⟩ := okWide_int Try.underlying3 (hval 3 3 v3 rfl rfl)
 obtain ⟨x3, hr3, hw3⟩ := leaf_arg rfl (opensV_all 12 3 [(.int .i64)] (by kernel_rfl) (by kernel_rfl)) h3
 clear hA0 hval0 hsz0 hsz
 obtain ⟨k, hp⟩ := PureIntrinsicEnough x0 x1 x2 x3 (RV.ok _ _ _ hr0) hw0 y0 (RV.ok _ _ _ hr1) hw1 y1 (RV.ok _ _ _ hr2) hw2 y2 (RV.ok _ _ _ hr3) hw3
 have hcall := told_ok (P := Try.prog) (depth := 6) (by kernel_rfl) all_ok k k 3 ⟨[.leaf (.row [.int .i64, .int .i64, .int .i64, .bool, .int .i64, .int .i64, .int .i64]), .leaf (.row [.int .i64]), .leaf (.row [.int .i64, .int .i64, .int .i64, .int .i64, .int .i64]), .leaf (.int .i64)], [.leaf (.bool)]⟩ rfl _ _ hp W _ (fun _ => False) (fun b h => h.elim) (argsR_leaf hr0 (argsR_leaf hr1 (argsR_leaf hr2 (argsR_leaf hr3 argsR_nil))))
 refine hcall.mono fun e W' hpost => ?_
 obtain ⟨u, rfl, hres⟩ := hpost
 obtain ⟨rfl, bel⟩ := law_end hres
 exact ⟨_, rfl, _, _, _, [], _, [], hW', trodAll_mk1 (shut_bool Try.underlying4 _), (trodAll_cons_mk (Below.trod laidOut (by kernel_rfl) (of_decide_eq_true (by kernel_rfl)) k0 bel lt0) (trodAll_cons_mk (Below.trod laidOut (by kernel_rfl) (of_decide_eq_true (by kernel_rfl)) k1 bel lt1) (trodAll_cons_mk (Below.trod laidOut (by kernel_rfl) (of_decide_eq_true (by kernel_rfl)) k2 bel lt2) (trodAll_cons_mk (Below.trod laidOut (by kernel_rfl) (of_decide_eq_true (by kernel_rfl)) k3 bel lt3) trodAll_mk0)))), rfl, bel.frame _, fun h => by cases h⟩
theorem over : Rows.intrinsicEnoughRow.holds Try.pinned (OpenSpec.ofChange Rows.intrinsicEnoughSpec) :=
 OpenClaim.holds_of_wide 3 Try.f3 rfl rfl rfl rfl rfl rfl rfl ⟨rfl, rfl, rfl, rfl, rfl⟩ rfl rfl rfl rfl rfl (by kernel_rfl) Try.func3 (by kernel_rfl)
  (of_decide_eq_true (by kernel_rfl)) (by unfold Func.isWrapper; first | (rw [if_pos (by decide +kernel)]; kernel_rfl) | (rw [if_neg (by decide +kernel)]; exact ⟨rfl, rfl⟩))
  (fun os started H enc _ => lifted os started H enc)
theorem proved : Rows.IntrinsicEnoughSaid := over
#print axioms proved
end Go.Proofs.Ytbebnjiolaomdaa.intrinsicEnough
namespace Go.Proofs.Ytbebnjiolaomdaa
theorem intrinsicEnough_holds : Rows.IntrinsicEnoughSaid := intrinsicEnough.proved
end Go.Proofs.Ytbebnjiolaomdaa
