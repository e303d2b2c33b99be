/-
  No cell of these rows narrows 'for every input' (looked for: loops, veiled, ifaces, maps, wideKeys, modest, calm, conditions, laid).
  DERIVED. THE GIVEN ROWS OF THIS SEAT. 2 by the template 'for every input the law returns true; each argument reads behind the call as it read before'; 0 by the template 'total and deterministic' (their statements: YtmfjdoanipgjkaaTotals.lean).
  GIVEN WITH THE SEED: the statements are not yours to turn. If you find one false, say at which input.
  Laid BY PROGRAM, IN A SANDBOX (cutbox-rows.mjs): the forced cells as the released guide's own fill.sh prints them over the translation c1ee8f3bd547297c… (all of the seat's roots in one cut). By AI agents, Wed Nov 11 2026. No macro, syntax, notation, axiom, sorry.
-/
import Derived.Test.YtmfjdoanipgjkaaChecked
import GoSem.Claim
import GoSem.ClaimJoined
import GoSem.ClaimMapViews
import Derived.JoinedTies
import Derived.KernelRfl
namespace Go.Proofs.Ytmfjdoanipgjkaa
/- THE CELL 'sum', in the pinned program and in every row, IS THE sha256 OF THE DUMP (.gsa) THAT YtmfjdoanipgjkaaProg.lean LOADS. Nothing in Lean hashes anything: it is a label: what it is worth is what the hold of that sum in a sandbox is worth. -/
noncomputable def Try.pinned : Pinned := { name := "ytmfjdoanipgjkaa", sum := "c1ee8f3bd547297c434cb32aa5c835d10d59eb6a6fd5af60ace6510321d9cf85", checked := Try.checked }
namespace Rows
def none {H : Type} : Left H := { results := [], args := [] }

/-- 'parterrelaw21.ImplicitGood': WHATEVER THE INPUT: true; the input reads as it did. -/
def implicitGoodSpec : ChangeSpec := { name := "implicitGood", fn := fun _ => fun
  | [d] => { results := [.lit (.bool true)], args := [d] }
  | _ => none }
def implicitGoodRow : OpenClaim := { program := "ytmfjdoanipgjkaa", sum := "c1ee8f3bd547297c434cb32aa5c835d10d59eb6a6fd5af60ace6510321d9cf85", func := "parterre/parterrelaw21.ImplicitGood", spec := "implicitGood", unfollowed := true, recurses := true, apart := false }
def ImplicitGoodSaid : Prop := implicitGoodRow.holds Try.pinned (OpenSpec.ofChange implicitGoodSpec)

/-- ITS FALSE NEIGHBOUR: 'it returns false'. Refute it at one input. -/
def implicitGoodWrong : ChangeSpec := { name := "implicitGood", fn := fun _ => fun
  | [d] => { results := [.lit (.bool false)], args := [d] }
  | _ => none }
def ImplicitGoodWrongFalsely : Prop := implicitGoodRow.holds Try.pinned (OpenSpec.ofChange implicitGoodWrong)

/-- 'parterrelaw21.ImplicitGaps': WHATEVER THE INPUT: true; the input reads as it did. -/
def implicitGapsSpec : ChangeSpec := { name := "implicitGaps", fn := fun _ => fun
  | [d1, d2, d3, d4, d5, d6] => { results := [.lit (.bool true)], args := [d1, d2, d3, d4, d5, d6] }
  | _ => none }
def implicitGapsRow : OpenClaim := { program := "ytmfjdoanipgjkaa", sum := "c1ee8f3bd547297c434cb32aa5c835d10d59eb6a6fd5af60ace6510321d9cf85", func := "parterre/parterrelaw21.ImplicitGaps", spec := "implicitGaps", unfollowed := true, recurses := true, apart := false }
def ImplicitGapsSaid : Prop := implicitGapsRow.holds Try.pinned (OpenSpec.ofChange implicitGapsSpec)

/-- ITS FALSE NEIGHBOUR: 'it returns false'. Refute it at one input. -/
def implicitGapsWrong : ChangeSpec := { name := "implicitGaps", fn := fun _ => fun
  | [d1, d2, d3, d4, d5, d6] => { results := [.lit (.bool false)], args := [d1, d2, d3, d4, d5, d6] }
  | _ => none }
def ImplicitGapsWrongFalsely : Prop := implicitGapsRow.holds Try.pinned (OpenSpec.ofChange implicitGapsWrong)

/- THE SECOND FORM. 'bulk': how many values and letters a reading holds, each counted each time it is reached (what is shared counts as often as it is met; a slice's spare places count too). A statement '..UptoSaid' is the law's where the arguments, and the package variables that the reading takes, are together of bulk at most 1048576: NARROWER than '..Said'. Prove '..Said' where nothing that the law and all that it calls make is longer than what came in: it says more and counts as full. Else prove '..UptoSaid'. A law counts once. -/
mutual
def uptoBulk {H : Type} : DataW H → Nat
  | .lit (.string bytes) => bytes.length + 1
  | .lit _ => 1
  | .nil => 1
  | .ptr d => uptoBulk d + 1
  | .slice elems spare => uptoBulkAll elems + uptoBulkAll spare + 1
  | .agg parts => uptoBulkAll parts + 1
  | .iface _ d => uptoBulk d + 1
  | .map entries => uptoBulkEntries entries + 1
  | .held _ => 1
def uptoBulkAll {H : Type} : List (DataW H) → Nat
  | [] => 0
  | d :: r => uptoBulk d + uptoBulkAll r
def uptoBulkEntries {H : Type} : List (Lit × DataW H) → Nat
  | [] => 0
  | x :: r => uptoBulkEntry x + uptoBulkEntries r
def uptoBulkEntry {H : Type} : Lit × DataW H → Nat
  | (.string bytes, d) => bytes.length + uptoBulk d + 1
  | (_, d) => uptoBulk d + 1
 end
def uptoSmall : (H : Type) → List (DataW H) → Bool := fun _ ds => decide (uptoBulkAll ds ≤ 1048576)
def OpenSpec.upto (s : _root_.Go.ChangeSpec) : _root_.Go.OpenSpec := { _root_.Go.OpenSpec.ofChange s with cond := some uptoSmall }

/-- 'parterrelaw21.ImplicitGood', WHERE WHAT IT READS IS OF BULK AT MOST 1048576: true; the input reads as it did. -/
def implicitGoodUptoRow : OpenClaim := { program := "ytmfjdoanipgjkaa", sum := "c1ee8f3bd547297c434cb32aa5c835d10d59eb6a6fd5af60ace6510321d9cf85", func := "parterre/parterrelaw21.ImplicitGood", spec := "implicitGood", unfollowed := true, recurses := true, apart := false, narrowed := true }
def ImplicitGoodUptoSaid : Prop := implicitGoodUptoRow.holds Try.pinned (OpenSpec.upto implicitGoodSpec)

/-- 'parterrelaw21.ImplicitGaps', WHERE WHAT IT READS IS OF BULK AT MOST 1048576: true; the input reads as it did. -/
def implicitGapsUptoRow : OpenClaim := { program := "ytmfjdoanipgjkaa", sum := "c1ee8f3bd547297c434cb32aa5c835d10d59eb6a6fd5af60ace6510321d9cf85", func := "parterre/parterrelaw21.ImplicitGaps", spec := "implicitGaps", unfollowed := true, recurses := true, apart := false, narrowed := true }
def ImplicitGapsUptoSaid : Prop := implicitGapsUptoRow.holds Try.pinned (OpenSpec.upto implicitGapsSpec)

end Rows
end Go.Proofs.Ytmfjdoanipgjkaa
