/- The row of the law parterre/parterrelaw28.ContentEven: whatever the input: true; the input reads as it did. No condition. Its pure statement is proved in YtbkohlhonhmhmaaPureContentEven. -/
import Derived.Test.YtbkohlhonhmhmaaRows
import Derived.Test.YtbkohlhonhmhmaaPAx21
import Derived.Test.YtbkohlhonhmhmaaPureContentEven
import Derived.WalkKit
import Derived.ProofKit
import Derived.OpenShut
import Derived.ShutString
import Derived.ChangeOld
import Derived.Below
import Derived.SizedLaws
import Derived.Test.YtbkohlhonhmhmaaOpen
namespace Go.Proofs.Ytbkohlhonhmhmaa.contentEven
open Go.ChangeShapes Go.WideShapes Go.ChangeAt Go.RowKit Go.Proofs.Ytbkohlhonhmhmaa.PA Go.Proofs.Ytbkohlhonhmhmaa.Open Go.Proofs.YtbkohlhonhmhmaaW.PrintWords
open Go.ChangeMaps (open_string shut_string)
set_option linter.unusedVariables false
theorem own : ownKnob Try.prog.godebug = none := by kernel_rfl
theorem laidOut : laidOutB Try.prog = true := by kernel_rfl
theorem opens55 {H : Type} {enc : TypeId × Value → H} {W : World} : Opens enc Try.prog W 55 k55 wf55 :=
  opens_struct Try.underlying55 (by kernel_rfl) (opensF_cons (opens_int Try.underlying3) (opensF_one (opens_int Try.underlying3))) (fun p => ⟨⟨p.1, p.2⟩, rfl⟩)
theorem opens57 {H : Type} {enc : TypeId × Value → H} {W : World} : Opens enc Try.prog W 57 k57 wf57 :=
  opens_struct Try.underlying57 (by kernel_rfl) (opensF_cons opens55 (opensF_cons opens55 (opensF_cons (opens_bool Try.underlying4) (opensF_one opens55)))) (fun p => ⟨⟨p.1, p.2.1, p.2.2.1, p.2.2.2⟩, rfl⟩)
theorem opens26 {H : Type} {enc : TypeId × Value → H} {W : World} : Opens enc Try.prog W 26 k26 wf26 :=
  opens_struct Try.underlying26 (by kernel_rfl) (opensF_cons (opens_int Try.underlying3) (opensF_cons (opens_slice Try.underlying22 (by kernel_rfl) opens57) (opensF_cons (opens_slice Try.underlying23 (by kernel_rfl) (opens_bool Try.underlying4)) (opensF_one (opens_slice Try.underlying24 (by kernel_rfl) (opens_int Try.underlying3)))))) (fun p => ⟨⟨p.1, p.2.1, p.2.2.1, p.2.2.2⟩, rfl⟩)
set_option maxRecDepth 100000 in
theorem lifted (os : Os) (started : os.Started) (H : Type) (enc : TypeId × Value → H) :
    ReturnsInHanded {} Try.checked os 5 .any (Rows.contentEvenSpec.pre6 enc Try.prog Try.f5 Rows.contentEvenRow.domain false) (Rows.contentEvenSpec.post enc Try.prog Try.f5 false true false false) := by
  refine returnsInHanded_of_change_sized (C := Try.checked) own started (by kernel_rfl) Try.func5
    (ChangeSpec.witness6 (enc := enc) (C := Try.checked) false ⟨#[], #[.agg #[.int .i64 0, .slice none 0 0, .slice none 0 0, .slice none 0 0], .slice none 0 0, .int .i64 0, .int .i64 0], []⟩ 8 (by kernel_rfl) (by kernel_rfl) (by kernel_rfl) (by kernel_rfl)) ?_
  intro W base args ds gs before hval0 hW hcnd hsz0 _
  have hsz : (DataW.weightsEach Try.prog (Try.f5.params.toList ++ Rows.contentEvenSpec.plain.varTypes Try.prog) (ds ++ gs)).all (· ≤ reachBytes) = true := hsz0
  have hval : ∀ (j : Nat) t v, Try.f5.params[j]? = some t → args[j]? = some v → Value.okWide Try.prog W .any base t v := hval0
  have hW' := hW
  obtain ⟨p, q, hA0, hV, rfl, hfz, hnd⟩ := hW
  have hA : DataW.TrodAll enc Try.prog W 0 (fun _ => true) true Try.f5.params.toList args.toList ds p := hA0
  rw [Try.params5] at hA hval hsz
  obtain ⟨v0, vs0, d0, ds0, p0, q0, hargs, rfl, rfl, h0, r0⟩ := trodAll_cons hA
  obtain ⟨v1, vs1, d1, ds1, p1, q1, rfl, rfl, rfl, h1, r1⟩ := trodAll_cons r0
  obtain ⟨v2, vs2, d2, ds2, p2, q2, rfl, rfl, rfl, h2, r2⟩ := trodAll_cons r1
  obtain ⟨v3, vs3, d3, ds3, p3, q3, rfl, rfl, rfl, h3, r3⟩ := trodAll_cons r2
  obtain ⟨rfl, rfl, rfl⟩ := trodAll_nil r3
  obtain rfl : args = #[v0, v1, v2, v3] := by cases args; simp_all
  obtain ⟨rfl, rfl⟩ := trodVars_none hV
  have k0 := h0
  have lt0 : ∀ x ∈ p0, x.block < W.heap.size := by obtain ⟨m, hm⟩ := k0; exact DataW.trod_lt m _ _ _ hm
  obtain ⟨x0, cs0, rfl, hK0, hw0⟩ := open_whole Try.underlying26 opens26 (hval 0 26 v0 rfl rfl) h0
  obtain ⟨A0_1, C0_1, A0_2, C0_2, A0_3, C0_3, rfl, hc0_1, hr0_1, hc0_2, hr0_2, hc0_3, hr0_3⟩ := k26_open hK0
  obtain ⟨a1, len1, cap1, rfl⟩ := okWide_slice Try.underlying24 (hval 1 24 v1 rfl rfl)
  have k1 := h1
  have lt1 : ∀ x ∈ p1, x.block < W.heap.size := by obtain ⟨m, hm⟩ := k1; exact DataW.trod_lt m _ _ _ hm
  have y1 := sized_row (B := 8) hsz (j := 1) (t := 24) rfl rfl Try.underlying24 (by kernel_rfl) h1
  obtain ⟨l1, rfl, hc1, hr1, hw1⟩ := open_row Try.underlying24 (by kernel_rfl) (opens_int Try.underlying3) h1
  obtain ⟨a2, rfl, rfl, rfl, w2⟩ := open_int Try.underlying3 (hval 2 3 v2 rfl rfl) h2
  obtain ⟨a3, rfl, rfl, rfl, w3⟩ := open_int Try.underlying3 (hval 3 3 v3 rfl rfl) h3
  clear hA0 hval0 hsz0 hsz
  obtain ⟨k, hp⟩ := Pure.ContentEven x0.f0 x0.f1 x0.f2 x0.f3 l1 a2 a3 hw0.1 hr0_1.2.1 hw0.2.1 hr0_2.2.1 hw0.2.2.1 hr0_3.2.1 hw0.2.2.2 hr1.2.1 y1 hw1 w2 w3
  refine (PA.parterrelaw28_ContentEven.calls k x0.f0 _ _ x0.f1 _ _ x0.f2 _ _ x0.f3 _ _ l1 a2 a3 true W hr0_1 hc0_1 hr0_2 hc0_2 hr0_3 hc0_3 hr1 hc1 hp).mono fun e W' hpost => ?_
  obtain ⟨he, bel0⟩ := hpost
  have bel : Below W.heap.size W W' := bel0
  subst he
  exact ⟨_, rfl, _, _, _, [], _, [], hW', trodAll_mk1 (shut_bool Try.underlying4 _), (trodAll_cons_mk (Below.trod laidOut (by kernel_rfl) (of_decide_eq_true (by kernel_rfl)) k0 bel lt0) (trodAll_cons_mk (Below.trod laidOut (by kernel_rfl) (of_decide_eq_true (by kernel_rfl)) k1 bel lt1) (trodAll_cons_mk (shut_int Try.underlying3 w2) (trodAll_cons_mk (shut_int Try.underlying3 w3) trodAll_mk0)))), rfl, bel.frame _, fun h => by cases h⟩
theorem over : Rows.contentEvenRow.holds Try.pinned (OpenSpec.ofChange Rows.contentEvenSpec) :=
  OpenClaim.holds_of_wide 5 Try.f5 rfl rfl rfl rfl rfl rfl rfl ⟨rfl, rfl, rfl, rfl, rfl⟩ rfl rfl rfl rfl rfl (by kernel_rfl) Try.func5 (by kernel_rfl)
    (of_decide_eq_true (by kernel_rfl)) (by unfold Func.isWrapper; first | (rw [if_pos (by decide +kernel)]; kernel_rfl) | (rw [if_neg (by decide +kernel)]; exact ⟨rfl, rfl⟩))
    (fun os started H enc _ => lifted os started H enc)
theorem proved : Rows.ContentEvenSaid := over
#print axioms proved
end Go.Proofs.Ytbkohlhonhmhmaa.contentEven
namespace Go.Proofs.Ytbkohlhonhmhmaa
/-- The row, under a short name, for the claim. -/
theorem contentEven_holds : Rows.ContentEvenSaid := contentEven.proved
end Go.Proofs.Ytbkohlhonhmhmaa
