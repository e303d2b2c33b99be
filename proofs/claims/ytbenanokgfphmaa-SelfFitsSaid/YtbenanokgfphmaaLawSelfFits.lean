/- The row of the law parterre/parterrelaw29.SelfFits: whatever the input: true; the input reads as it did. No condition. Its pure statement is proved in YtbenanokgfphmaaPureSelfFits. -/
import Derived.Test.YtbenanokgfphmaaRows
import Derived.Test.YtbenanokgfphmaaPBx16
import Derived.Test.YtbenanokgfphmaaPureSelfFits
import Derived.WalkKit
import Derived.ProofKit
import Derived.OpenShut
import Derived.ShutString
import Derived.ChangeOld
import Derived.Below
import Derived.SizedLaws
import Derived.Test.YtbenanokgfphmaaOpen
namespace Go.Proofs.Ytbenanokgfphmaa.selfFits
open Go.ChangeShapes Go.WideShapes Go.ChangeAt Go.RowKit Go.Proofs.Ytbenanokgfphmaa.PB Go.Proofs.Ytbenanokgfphmaa.Open Go.Proofs.YtbenanokgfphmaaW.PrintWords
open Go.ChangeMaps (open_string shut_string)
set_option linter.unusedVariables false
def wf23 (x : S23) : Prop := True ∧ ((Lit.int .i64 x.f1).wf = true)
theorem own : ownKnob Try.prog.godebug = none := by kernel_rfl
theorem laidOut : laidOutB Try.prog = true := by kernel_rfl
theorem opens23 {H : Type} {enc : TypeId × Value → H} {W : World} : Opens enc Try.prog W 23 k23 wf23 :=
  opens_struct Try.underlying23 (by kernel_rfl) (opensF_cons (opens_bool Try.underlying4) (opensF_one (opens_int Try.underlying3))) (fun p => ⟨⟨p.1, p.2⟩, rfl⟩)
theorem opens46 {H : Type} {enc : TypeId × Value → H} {W : World} : Opens enc Try.prog W 46 k46 wf46 :=
  opens_struct Try.underlying46 (by kernel_rfl) (opensF_cons (opens_int Try.underlying3) (opensF_one (opens_int Try.underlying3))) (fun p => ⟨⟨p.1, p.2⟩, rfl⟩)
set_option maxRecDepth 100000 in
theorem lifted (os : Os) (started : os.Started) (H : Type) (enc : TypeId × Value → H) :
    ReturnsInHanded {} Try.checked os 7 .any (Rows.selfFitsSpec.pre6 enc Try.prog Try.f7 Rows.selfFitsRow.domain false) (Rows.selfFitsSpec.post enc Try.prog Try.f7 false true false false) := by
  refine returnsInHanded_of_change_sized (C := Try.checked) own started (by kernel_rfl) Try.func7
    (ChangeSpec.witness6 (enc := enc) (C := Try.checked) false ⟨#[], #[.int .i64 0, .int .i64 0, .agg #[.bool false, .int .i64 0], .agg #[.bool false, .int .i64 0], .agg #[.int .i64 0, .int .i64 0], .int .i64 0], []⟩ 8 (by kernel_rfl) (by kernel_rfl) (by kernel_rfl) (by kernel_rfl)) ?_
  intro W base args ds gs before hval0 hW hcnd hsz0 _
  have hsz : (DataW.weightsEach Try.prog (Try.f7.params.toList ++ Rows.selfFitsSpec.plain.varTypes Try.prog) (ds ++ gs)).all (· ≤ reachBytes) = true := hsz0
  have hval : ∀ (j : Nat) t v, Try.f7.params[j]? = some t → args[j]? = some v → Value.okWide Try.prog W .any base t v := hval0
  have hW' := hW
  obtain ⟨p, q, hA0, hV, rfl, hfz, hnd⟩ := hW
  have hA : DataW.TrodAll enc Try.prog W 0 (fun _ => true) true Try.f7.params.toList args.toList ds p := hA0
  rw [Try.params7] at hA hval hsz
  obtain ⟨v0, vs0, d0, ds0, p0, q0, hargs, rfl, rfl, h0, r0⟩ := trodAll_cons hA
  obtain ⟨v1, vs1, d1, ds1, p1, q1, rfl, rfl, rfl, h1, r1⟩ := trodAll_cons r0
  obtain ⟨v2, vs2, d2, ds2, p2, q2, rfl, rfl, rfl, h2, r2⟩ := trodAll_cons r1
  obtain ⟨v3, vs3, d3, ds3, p3, q3, rfl, rfl, rfl, h3, r3⟩ := trodAll_cons r2
  obtain ⟨v4, vs4, d4, ds4, p4, q4, rfl, rfl, rfl, h4, r4⟩ := trodAll_cons r3
  obtain ⟨v5, vs5, d5, ds5, p5, q5, rfl, rfl, rfl, h5, r5⟩ := trodAll_cons r4
  obtain ⟨rfl, rfl, rfl⟩ := trodAll_nil r5
  obtain rfl : args = #[v0, v1, v2, v3, v4, v5] := by cases args; simp_all
  obtain ⟨rfl, rfl⟩ := trodVars_none hV
  obtain ⟨a0, rfl, rfl, rfl, w0⟩ := open_int Try.underlying3 (hval 0 3 v0 rfl rfl) h0
  obtain ⟨a1, rfl, rfl, rfl, w1⟩ := open_int Try.underlying3 (hval 1 3 v1 rfl rfl) h1
  have k2 := h2
  have lt2 : ∀ x ∈ p2, x.block < W.heap.size := by obtain ⟨m, hm⟩ := k2; exact DataW.trod_lt m _ _ _ hm
  obtain ⟨x2, cs2, rfl, hK2, hw2⟩ := open_whole Try.underlying23 opens23 (hval 2 23 v2 rfl rfl) h2
  obtain rfl := k23_open hK2
  have k3 := h3
  have lt3 : ∀ x ∈ p3, x.block < W.heap.size := by obtain ⟨m, hm⟩ := k3; exact DataW.trod_lt m _ _ _ hm
  obtain ⟨x3, cs3, rfl, hK3, hw3⟩ := open_whole Try.underlying23 opens23 (hval 3 23 v3 rfl rfl) h3
  obtain rfl := k23_open hK3
  have k4 := h4
  have lt4 : ∀ x ∈ p4, x.block < W.heap.size := by obtain ⟨m, hm⟩ := k4; exact DataW.trod_lt m _ _ _ hm
  obtain ⟨x4, cs4, rfl, hK4, hw4⟩ := open_whole Try.underlying46 opens46 (hval 4 46 v4 rfl rfl) h4
  obtain rfl := k46_open hK4
  obtain ⟨a5, rfl, rfl, rfl, w5⟩ := open_int Try.underlying3 (hval 5 3 v5 rfl rfl) h5
  clear hA0 hval0 hsz0 hsz
  obtain ⟨k, hp⟩ := Pure.SelfFits a0 a1 x2.f0 x2.f1 x3.f0 x3.f1 x4.f0 x4.f1 a5 w0 w1 hw2.2 hw3.2 hw4.1 hw4.2 w5
  refine (PB.parterrelaw29_SelfFits.calls k a0 a1 x2.f0 x2.f1 x3.f0 x3.f1 x4.f0 x4.f1 a5 true W  hp).mono fun e W' hpost => ?_
  obtain ⟨he, bel0⟩ := hpost
  have bel : Below W.heap.size W W' := bel0
  subst he
  exact ⟨_, rfl, _, _, _, [], _, [], hW', trodAll_mk1 (shut_bool Try.underlying4 _), (trodAll_cons_mk (shut_int Try.underlying3 w0) (trodAll_cons_mk (shut_int Try.underlying3 w1) (trodAll_cons_mk (Below.trod laidOut (by kernel_rfl) (of_decide_eq_true (by kernel_rfl)) k2 bel lt2) (trodAll_cons_mk (Below.trod laidOut (by kernel_rfl) (of_decide_eq_true (by kernel_rfl)) k3 bel lt3) (trodAll_cons_mk (Below.trod laidOut (by kernel_rfl) (of_decide_eq_true (by kernel_rfl)) k4 bel lt4) (trodAll_cons_mk (shut_int Try.underlying3 w5) trodAll_mk0)))))), rfl, bel.frame _, fun h => by cases h⟩
theorem over : Rows.selfFitsRow.holds Try.pinned (OpenSpec.ofChange Rows.selfFitsSpec) :=
  OpenClaim.holds_of_wide 7 Try.f7 rfl rfl rfl rfl rfl rfl rfl ⟨rfl, rfl, rfl, rfl, rfl⟩ rfl rfl rfl rfl rfl (by kernel_rfl) Try.func7 (by kernel_rfl)
    (of_decide_eq_true (by kernel_rfl)) (by unfold Func.isWrapper; first | (rw [if_pos (by decide +kernel)]; kernel_rfl) | (rw [if_neg (by decide +kernel)]; exact ⟨rfl, rfl⟩))
    (fun os started H enc _ => lifted os started H enc)
theorem proved : Rows.SelfFitsSaid := over
#print axioms proved
end Go.Proofs.Ytbenanokgfphmaa.selfFits
namespace Go.Proofs.Ytbenanokgfphmaa
/-- The row, under a short name, for the claim. -/
theorem selfFits_holds : Rows.SelfFitsSaid := selfFits.proved
end Go.Proofs.Ytbenanokgfphmaa
