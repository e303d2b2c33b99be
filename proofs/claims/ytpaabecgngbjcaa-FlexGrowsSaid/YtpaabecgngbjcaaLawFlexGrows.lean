/- The row of the law parterre/parterrelaw26.FlexGrows: whatever the input: true; the input reads as it did. No condition. Its pure statement is proved in YtpaabecgngbjcaaPureFlexGrows. -/
import Derived.Test.YtpaabecgngbjcaaRows
import Derived.Test.YtpaabecgngbjcaaO
import Derived.Test.YtpaabecgngbjcaaPureFlexGrows
import Derived.WalkKit
import Derived.ProofKit
import Derived.OpenShut
import Derived.ShutString
import Derived.ChangeOld
import Derived.Below
import Derived.SizedLaws
import Derived.Carry
namespace Go.Proofs.Ytpaabecgngbjcaa.flexGrows
open Go.ChangeShapes Go.WideShapes Go.ChangeAt Go.RowKit Go.Proofs.Ytpaabecgngbjcaa.Sx Go.Proofs.Ytpaabecgngbjcaa.T
set_option linter.unusedVariables false
theorem own : ownKnob Try.prog.godebug = none := by kernel_rfl
theorem laidOut : laidOutB Try.prog = true := by kernel_rfl
set_option maxRecDepth 100000 in
theorem lifted (os : Os) (started : os.Started) (H : Type) (enc : TypeId × Value → H) :
    ReturnsInHanded {} Try.checked os 5 .any (Rows.flexGrowsSpec.pre6 enc Try.prog Try.f5 Rows.flexGrowsRow.domain false) (Rows.flexGrowsSpec.post enc Try.prog Try.f5 false true false false) := by
  refine returnsInHanded_of_change_sized (C := Try.checked) own started (by kernel_rfl) Try.func5
    (ChangeSpec.witness6 (enc := enc) (C := Try.checked) false ⟨#[], #[.slice none 0 0, .slice none 0 0, .slice none 0 0], []⟩ 8 (by kernel_rfl) (by kernel_rfl) (by kernel_rfl) (by kernel_rfl)) ?_
  intro W base args ds gs before hval0 hW hcnd hsz0 _
  have hsz : (DataW.weightsEach Try.prog (Try.f5.params.toList ++ Rows.flexGrowsSpec.plain.varTypes Try.prog) (ds ++ gs)).all (· ≤ reachBytes) = true := hsz0
  have hval : ∀ (j : Nat) t v, Try.f5.params[j]? = some t → args[j]? = some v → Value.okWide Try.prog W .any base t v := hval0
  have hW' := hW
  obtain ⟨p, q, hA0, hV, rfl, hfz, hnd⟩ := hW
  have hA : DataW.TrodAll enc Try.prog W 0 (fun _ => true) true Try.f5.params.toList args.toList ds p := hA0
  rw [Try.params5] at hA hval hsz
  obtain ⟨v0, vs0, d0, ds0, p0, q0, hargs, rfl, rfl, h0, r0⟩ := trodAll_cons hA
  obtain ⟨v1, vs1, d1, ds1, p1, q1, rfl, rfl, rfl, h1, r1⟩ := trodAll_cons r0
  obtain ⟨v2, vs2, d2, ds2, p2, q2, rfl, rfl, rfl, h2, r2⟩ := trodAll_cons r1
  obtain ⟨rfl, rfl, rfl⟩ := trodAll_nil r2
  obtain rfl : args = #[v0, v1, v2] := by cases args; simp_all
  obtain ⟨rfl, rfl⟩ := trodVars_none hV
  have k0 := h0
  have lt0 : ∀ x ∈ p0, x.block < W.heap.size := by obtain ⟨m, hm⟩ := k0; exact DataW.trod_lt m _ _ _ hm
  obtain ⟨a0, len0, cap0, rfl⟩ := okWide_slice Try.underlying22 (hval 0 22 v0 rfl rfl)
  obtain ⟨x0, hr0, hw0⟩ := leaf_arg rfl (opensV_all 12 22 [(.row [.int .i64, .int .i64, .int .i64, .bool, .int .i64, .int .i64, .int .i64])] (by kernel_rfl) (by kernel_rfl)) h0
  have y0 := sized_arg (B := 56) hsz (j := 0) (t := 22) rfl rfl Try.underlying22 (by kernel_rfl) h0 hr0
  have k1 := h1
  have lt1 : ∀ x ∈ p1, x.block < W.heap.size := by obtain ⟨m, hm⟩ := k1; exact DataW.trod_lt m _ _ _ hm
  obtain ⟨a1, len1, cap1, rfl⟩ := okWide_slice Try.underlying23 (hval 1 23 v1 rfl rfl)
  obtain ⟨x1, hr1, hw1⟩ := leaf_arg rfl (opensV_all 12 23 [(.row [.int .i64])] (by kernel_rfl) (by kernel_rfl)) h1
  have y1 := sized_arg (B := 8) hsz (j := 1) (t := 23) rfl rfl Try.underlying23 (by kernel_rfl) h1 hr1
  have k2 := h2
  have lt2 : ∀ x ∈ p2, x.block < W.heap.size := by obtain ⟨m, hm⟩ := k2; exact DataW.trod_lt m _ _ _ hm
  obtain ⟨a2, len2, cap2, rfl⟩ := okWide_slice Try.underlying30 (hval 2 30 v2 rfl rfl)
  obtain ⟨x2, hr2, hw2⟩ := leaf_arg rfl (opensV_all 12 30 [(.row [.int .i64, .int .i64, .int .i64, .int .i64, .int .i64])] (by kernel_rfl) (by kernel_rfl)) h2
  have y2 := sized_arg (B := 40) hsz (j := 2) (t := 30) rfl rfl Try.underlying30 (by kernel_rfl) h2 hr2
  clear hA0 hval0 hsz0 hsz
  obtain ⟨k, hp⟩ := PureFlexGrows x0 x1 x2 (RV.ok _ _ _ hr0) hw0 y0 (RV.ok _ _ _ hr1) hw1 y1 (RV.ok _ _ _ hr2) hw2 y2
  have hcall := told_ok (P := Try.prog) (depth := 6) (by kernel_rfl) all_ok k k 5 ⟨[.leaf (.row [.int .i64, .int .i64, .int .i64, .bool, .int .i64, .int .i64, .int .i64]), .leaf (.row [.int .i64]), .leaf (.row [.int .i64, .int .i64, .int .i64, .int .i64, .int .i64])], [.leaf (.bool)]⟩ rfl _ _ hp W _ (fun _ => False) (fun b h => h.elim) (argsR_leaf hr0 (argsR_leaf hr1 (argsR_leaf hr2 argsR_nil)))
  refine hcall.mono fun e W' hpost => ?_
  obtain ⟨u, rfl, hres⟩ := hpost
  obtain ⟨rfl, bel⟩ := law_end hres
  exact ⟨_, rfl, _, _, _, [], _, [], hW', trodAll_mk1 (shut_bool Try.underlying4 _), (trodAll_cons_mk (Below.trod laidOut (by kernel_rfl) (of_decide_eq_true (by kernel_rfl)) k0 bel lt0) (trodAll_cons_mk (Below.trod laidOut (by kernel_rfl) (of_decide_eq_true (by kernel_rfl)) k1 bel lt1) (trodAll_cons_mk (Below.trod laidOut (by kernel_rfl) (of_decide_eq_true (by kernel_rfl)) k2 bel lt2) trodAll_mk0))), rfl, bel.frame _, fun h => by cases h⟩
theorem over : Rows.flexGrowsRow.holds Try.pinned (OpenSpec.ofChange Rows.flexGrowsSpec) :=
  OpenClaim.holds_of_wide 5 Try.f5 rfl rfl rfl rfl rfl rfl rfl ⟨rfl, rfl, rfl, rfl, rfl⟩ rfl rfl rfl rfl rfl (by kernel_rfl) Try.func5 (by kernel_rfl)
    (of_decide_eq_true (by kernel_rfl)) (by unfold Func.isWrapper; first | (rw [if_pos (by decide +kernel)]; kernel_rfl) | (rw [if_neg (by decide +kernel)]; exact ⟨rfl, rfl⟩))
    (fun os started H enc _ => lifted os started H enc)
theorem proved : Rows.FlexGrowsSaid := over
#print axioms proved
end Go.Proofs.Ytpaabecgngbjcaa.flexGrows
namespace Go.Proofs.Ytpaabecgngbjcaa
/-- The row, under a short name, for the claim. -/
theorem flexGrows_holds : Rows.FlexGrowsSaid := flexGrows.proved
end Go.Proofs.Ytpaabecgngbjcaa
