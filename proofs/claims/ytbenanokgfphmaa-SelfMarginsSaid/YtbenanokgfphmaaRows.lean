/-
  NARROWER THAN 'FOR EVERY INPUT', by the rows' own cells (each row's printed sentence says how): SelfMargins: loops.
  DERIVED. THE GIVEN ROWS OF THIS SEAT. 5 by the template 'for every input the law returns true; each argument reads behind the call as it read before'; 0 by the template 'total and deterministic' (their statements: YtbenanokgfphmaaTotals.lean).
  GIVEN WITH THE SEED: the statements are not yours to turn. If you find one false, say at which input.
  Laid BY PROGRAM, IN A SANDBOX (cutbox-rows.mjs): the forced cells as the released guide's own fill.sh prints them over the translation f9efab069a532abf… (all of the seat's roots in one cut). By AI agents, Wed Nov 11 2026. No macro, syntax, notation, axiom, sorry.
-/
import Derived.Test.YtbenanokgfphmaaChecked
import GoSem.Claim
import GoSem.ClaimJoined
import GoSem.ClaimMapViews
import Derived.JoinedTies
import Derived.KernelRfl
namespace Go.Proofs.Ytbenanokgfphmaa
/- THE CELL 'sum', in the pinned program and in every row, IS THE sha256 OF THE DUMP (.gsa) THAT YtbenanokgfphmaaProg.lean LOADS. Nothing in Lean hashes anything: it is a label: what it is worth is what the hold of that sum in a sandbox is worth. -/
noncomputable def Try.pinned : Pinned := { name := "ytbenanokgfphmaa", sum := "f9efab069a532abf07f77dcff375451a783368fb9c1ea251149c89920d2e7cbf", checked := Try.checked }
namespace Rows
def none {H : Type} : Left H := { results := [], args := [] }

/-- 'parterrelaw29.SelfPlaces': WHATEVER THE INPUT: true; the input reads as it did. -/
def selfPlacesSpec : ChangeSpec := { name := "selfPlaces", fn := fun _ => fun
  | [d1, d2, d3, d4, d5] => { results := [.lit (.bool true)], args := [d1, d2, d3, d4, d5] }
  | _ => none }
def selfPlacesRow : OpenClaim := { program := "ytbenanokgfphmaa", sum := "f9efab069a532abf07f77dcff375451a783368fb9c1ea251149c89920d2e7cbf", func := "parterre/parterrelaw29.SelfPlaces", spec := "selfPlaces", apart := false }
def SelfPlacesSaid : Prop := selfPlacesRow.holds Try.pinned (OpenSpec.ofChange selfPlacesSpec)

/-- ITS FALSE NEIGHBOUR: 'it returns false'. Refute it at one input. -/
def selfPlacesWrong : ChangeSpec := { name := "selfPlaces", fn := fun _ => fun
  | [d1, d2, d3, d4, d5] => { results := [.lit (.bool false)], args := [d1, d2, d3, d4, d5] }
  | _ => none }
def SelfPlacesWrongFalsely : Prop := selfPlacesRow.holds Try.pinned (OpenSpec.ofChange selfPlacesWrong)

/-- 'parterrelaw29.SelfMargins': WHATEVER THE INPUT: true; the input reads as it did. -/
def selfMarginsSpec : ChangeSpec := { name := "selfMargins", fn := fun _ => fun
  | [d1, d2, d3] => { results := [.lit (.bool true)], args := [d1, d2, d3] }
  | _ => none }
def selfMarginsRow : OpenClaim := { program := "ytbenanokgfphmaa", sum := "f9efab069a532abf07f77dcff375451a783368fb9c1ea251149c89920d2e7cbf", func := "parterre/parterrelaw29.SelfMargins", spec := "selfMargins", named := ["math/bits.divideError", "math/bits.overflowError"], loops := true, apart := false }
def SelfMarginsSaid : Prop := selfMarginsRow.holds Try.pinned (OpenSpec.ofChange selfMarginsSpec)

/-- ITS FALSE NEIGHBOUR: 'it returns false'. Refute it at one input. -/
def selfMarginsWrong : ChangeSpec := { name := "selfMargins", fn := fun _ => fun
  | [d1, d2, d3] => { results := [.lit (.bool false)], args := [d1, d2, d3] }
  | _ => none }
def SelfMarginsWrongFalsely : Prop := selfMarginsRow.holds Try.pinned (OpenSpec.ofChange selfMarginsWrong)

/-- 'parterrelaw29.SelfLimits': WHATEVER THE INPUT: true; the input reads as it did. -/
def selfLimitsSpec : ChangeSpec := { name := "selfLimits", fn := fun _ => fun
  | [d1, d2, d3, d4, d5, d6] => { results := [.lit (.bool true)], args := [d1, d2, d3, d4, d5, d6] }
  | _ => none }
def selfLimitsRow : OpenClaim := { program := "ytbenanokgfphmaa", sum := "f9efab069a532abf07f77dcff375451a783368fb9c1ea251149c89920d2e7cbf", func := "parterre/parterrelaw29.SelfLimits", spec := "selfLimits", unfollowed := true, recurses := true, named := ["math/bits.divideError", "math/bits.overflowError"], apart := false }
def SelfLimitsSaid : Prop := selfLimitsRow.holds Try.pinned (OpenSpec.ofChange selfLimitsSpec)

/-- ITS FALSE NEIGHBOUR: 'it returns false'. Refute it at one input. -/
def selfLimitsWrong : ChangeSpec := { name := "selfLimits", fn := fun _ => fun
  | [d1, d2, d3, d4, d5, d6] => { results := [.lit (.bool false)], args := [d1, d2, d3, d4, d5, d6] }
  | _ => none }
def SelfLimitsWrongFalsely : Prop := selfLimitsRow.holds Try.pinned (OpenSpec.ofChange selfLimitsWrong)

/-- 'parterrelaw29.SelfUsed': WHATEVER THE INPUT: true; the input reads as it did. -/
def selfUsedSpec : ChangeSpec := { name := "selfUsed", fn := fun _ => fun
  | [d1, d2, d3, d4, d5, d6] => { results := [.lit (.bool true)], args := [d1, d2, d3, d4, d5, d6] }
  | _ => none }
def selfUsedRow : OpenClaim := { program := "ytbenanokgfphmaa", sum := "f9efab069a532abf07f77dcff375451a783368fb9c1ea251149c89920d2e7cbf", func := "parterre/parterrelaw29.SelfUsed", spec := "selfUsed", unfollowed := true, recurses := true, named := ["math/bits.divideError", "math/bits.overflowError"], apart := false }
def SelfUsedSaid : Prop := selfUsedRow.holds Try.pinned (OpenSpec.ofChange selfUsedSpec)

/-- ITS FALSE NEIGHBOUR: 'it returns false'. Refute it at one input. -/
def selfUsedWrong : ChangeSpec := { name := "selfUsed", fn := fun _ => fun
  | [d1, d2, d3, d4, d5, d6] => { results := [.lit (.bool false)], args := [d1, d2, d3, d4, d5, d6] }
  | _ => none }
def SelfUsedWrongFalsely : Prop := selfUsedRow.holds Try.pinned (OpenSpec.ofChange selfUsedWrong)

/-- 'parterrelaw29.SelfFits': WHATEVER THE INPUT: true; the input reads as it did. -/
def selfFitsSpec : ChangeSpec := { name := "selfFits", fn := fun _ => fun
  | [d1, d2, d3, d4, d5, d6] => { results := [.lit (.bool true)], args := [d1, d2, d3, d4, d5, d6] }
  | _ => none }
def selfFitsRow : OpenClaim := { program := "ytbenanokgfphmaa", sum := "f9efab069a532abf07f77dcff375451a783368fb9c1ea251149c89920d2e7cbf", func := "parterre/parterrelaw29.SelfFits", spec := "selfFits", unfollowed := true, recurses := true, named := ["math/bits.divideError", "math/bits.overflowError"], apart := false }
def SelfFitsSaid : Prop := selfFitsRow.holds Try.pinned (OpenSpec.ofChange selfFitsSpec)

/-- ITS FALSE NEIGHBOUR: 'it returns false'. Refute it at one input. -/
def selfFitsWrong : ChangeSpec := { name := "selfFits", fn := fun _ => fun
  | [d1, d2, d3, d4, d5, d6] => { results := [.lit (.bool false)], args := [d1, d2, d3, d4, d5, d6] }
  | _ => none }
def SelfFitsWrongFalsely : Prop := selfFitsRow.holds Try.pinned (OpenSpec.ofChange selfFitsWrong)

/- THE SECOND FORM. 'bulk': how many values and letters a reading holds, each counted each time it is reached (what is shared counts as often as it is met; a slice's spare places count too). A statement '..UptoSaid' is the law's where the arguments, and the package variables that the reading takes, are together of bulk at most 1048576: NARROWER than '..Said'. Prove '..Said' where nothing that the law and all that it calls make is longer than what came in: it says more and counts as full. Else prove '..UptoSaid'. A law counts once. -/
mutual
def uptoBulk {H : Type} : DataW H → Nat
  | .lit (.string bytes) => bytes.length + 1
  | .lit _ => 1
  | .nil => 1
  | .ptr d => uptoBulk d + 1
  | .slice elems spare => uptoBulkAll elems + uptoBulkAll spare + 1
  | .agg parts => uptoBulkAll parts + 1
  | .iface _ d => uptoBulk d + 1
  | .map entries => uptoBulkEntries entries + 1
  | .held _ => 1
def uptoBulkAll {H : Type} : List (DataW H) → Nat
  | [] => 0
  | d :: r => uptoBulk d + uptoBulkAll r
def uptoBulkEntries {H : Type} : List (Lit × DataW H) → Nat
  | [] => 0
  | x :: r => uptoBulkEntry x + uptoBulkEntries r
def uptoBulkEntry {H : Type} : Lit × DataW H → Nat
  | (.string bytes, d) => bytes.length + uptoBulk d + 1
  | (_, d) => uptoBulk d + 1
 end
def uptoSmall : (H : Type) → List (DataW H) → Bool := fun _ ds => decide (uptoBulkAll ds ≤ 1048576)
def OpenSpec.upto (s : _root_.Go.ChangeSpec) : _root_.Go.OpenSpec := { _root_.Go.OpenSpec.ofChange s with cond := some uptoSmall }

/-- 'parterrelaw29.SelfPlaces', WHERE WHAT IT READS IS OF BULK AT MOST 1048576: true; the input reads as it did. -/
def selfPlacesUptoRow : OpenClaim := { program := "ytbenanokgfphmaa", sum := "f9efab069a532abf07f77dcff375451a783368fb9c1ea251149c89920d2e7cbf", func := "parterre/parterrelaw29.SelfPlaces", spec := "selfPlaces", apart := false, narrowed := true }
def SelfPlacesUptoSaid : Prop := selfPlacesUptoRow.holds Try.pinned (OpenSpec.upto selfPlacesSpec)

/-- 'parterrelaw29.SelfMargins', WHERE WHAT IT READS IS OF BULK AT MOST 1048576: true; the input reads as it did. -/
def selfMarginsUptoRow : OpenClaim := { program := "ytbenanokgfphmaa", sum := "f9efab069a532abf07f77dcff375451a783368fb9c1ea251149c89920d2e7cbf", func := "parterre/parterrelaw29.SelfMargins", spec := "selfMargins", named := ["math/bits.divideError", "math/bits.overflowError"], loops := true, apart := false, narrowed := true }
def SelfMarginsUptoSaid : Prop := selfMarginsUptoRow.holds Try.pinned (OpenSpec.upto selfMarginsSpec)

/-- 'parterrelaw29.SelfLimits', WHERE WHAT IT READS IS OF BULK AT MOST 1048576: true; the input reads as it did. -/
def selfLimitsUptoRow : OpenClaim := { program := "ytbenanokgfphmaa", sum := "f9efab069a532abf07f77dcff375451a783368fb9c1ea251149c89920d2e7cbf", func := "parterre/parterrelaw29.SelfLimits", spec := "selfLimits", unfollowed := true, recurses := true, named := ["math/bits.divideError", "math/bits.overflowError"], apart := false, narrowed := true }
def SelfLimitsUptoSaid : Prop := selfLimitsUptoRow.holds Try.pinned (OpenSpec.upto selfLimitsSpec)

/-- 'parterrelaw29.SelfUsed', WHERE WHAT IT READS IS OF BULK AT MOST 1048576: true; the input reads as it did. -/
def selfUsedUptoRow : OpenClaim := { program := "ytbenanokgfphmaa", sum := "f9efab069a532abf07f77dcff375451a783368fb9c1ea251149c89920d2e7cbf", func := "parterre/parterrelaw29.SelfUsed", spec := "selfUsed", unfollowed := true, recurses := true, named := ["math/bits.divideError", "math/bits.overflowError"], apart := false, narrowed := true }
def SelfUsedUptoSaid : Prop := selfUsedUptoRow.holds Try.pinned (OpenSpec.upto selfUsedSpec)

/-- 'parterrelaw29.SelfFits', WHERE WHAT IT READS IS OF BULK AT MOST 1048576: true; the input reads as it did. -/
def selfFitsUptoRow : OpenClaim := { program := "ytbenanokgfphmaa", sum := "f9efab069a532abf07f77dcff375451a783368fb9c1ea251149c89920d2e7cbf", func := "parterre/parterrelaw29.SelfFits", spec := "selfFits", unfollowed := true, recurses := true, named := ["math/bits.divideError", "math/bits.overflowError"], apart := false, narrowed := true }
def SelfFitsUptoSaid : Prop := selfFitsUptoRow.holds Try.pinned (OpenSpec.upto selfFitsSpec)

end Rows
end Go.Proofs.Ytbenanokgfphmaa
