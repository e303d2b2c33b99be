/-
  No cell of these rows narrows 'for every input' (looked for: loops, veiled, ifaces, maps, wideKeys, modest, calm, conditions, laid).
  DERIVED. THE GIVEN ROWS OF THIS SEAT. 4 by the template 'for every input the law returns true; each argument reads behind the call as it read before'; 0 by the template 'total and deterministic' (their statements: YtbebnjiolaomdaaTotals.lean).
  GIVEN WITH THE SEED: the statements are not yours to turn. If you find one false, say at which input.
  Laid BY PROGRAM, IN A SANDBOX (cutbox-rows.mjs): the forced cells as the released guide's own fill.sh prints them over the translation 3eae9c649c8a2078… (all of the seat's roots in one cut). By AI agents, Wed Nov 11 2026. No macro, syntax, notation, axiom, sorry.
-/
import Derived.Test.YtbebnjiolaomdaaChecked
import GoSem.Claim
import GoSem.ClaimJoined
import GoSem.ClaimMapViews
import Derived.JoinedTies
import Derived.KernelRfl
namespace Go.Proofs.Ytbebnjiolaomdaa
/- THE CELL 'sum', in the pinned program and in every row, IS THE sha256 OF THE DUMP (.gsa) THAT YtbebnjiolaomdaaProg.lean LOADS. Nothing in Lean hashes anything: it is a label: what it is worth is what the hold of that sum in a sandbox is worth. -/
noncomputable def Try.pinned : Pinned := { name := "ytbebnjiolaomdaa", sum := "3eae9c649c8a2078191d48008196b5d0b4ae413fee2703d7804bce09e862f005", checked := Try.checked }
namespace Rows
def none {H : Type} : Left H := { results := [], args := [] }

/-- 'parterrelaw24.IntrinsicEnough': WHATEVER THE INPUT: true; the input reads as it did. -/
def intrinsicEnoughSpec : ChangeSpec := { name := "intrinsicEnough", fn := fun _ => fun
  | [d1, d2, d3, d4] => { results := [.lit (.bool true)], args := [d1, d2, d3, d4] }
  | _ => none }
def intrinsicEnoughRow : OpenClaim := { program := "ytbebnjiolaomdaa", sum := "3eae9c649c8a2078191d48008196b5d0b4ae413fee2703d7804bce09e862f005", func := "parterre/parterrelaw24.IntrinsicEnough", spec := "intrinsicEnough", unfollowed := true, recurses := true, named := ["math/bits.divideError", "math/bits.overflowError"], apart := false }
def IntrinsicEnoughSaid : Prop := intrinsicEnoughRow.holds Try.pinned (OpenSpec.ofChange intrinsicEnoughSpec)

/-- ITS FALSE NEIGHBOUR: 'it returns false'. Refute it at one input. -/
def intrinsicEnoughWrong : ChangeSpec := { name := "intrinsicEnough", fn := fun _ => fun
  | [d1, d2, d3, d4] => { results := [.lit (.bool false)], args := [d1, d2, d3, d4] }
  | _ => none }
def IntrinsicEnoughWrongFalsely : Prop := intrinsicEnoughRow.holds Try.pinned (OpenSpec.ofChange intrinsicEnoughWrong)

/-- 'parterrelaw24.IntrinsicMore': WHATEVER THE INPUT: true; the input reads as it did. -/
def intrinsicMoreSpec : ChangeSpec := { name := "intrinsicMore", fn := fun _ => fun
  | [d1, d2, d3, d4] => { results := [.lit (.bool true)], args := [d1, d2, d3, d4] }
  | _ => none }
def intrinsicMoreRow : OpenClaim := { program := "ytbebnjiolaomdaa", sum := "3eae9c649c8a2078191d48008196b5d0b4ae413fee2703d7804bce09e862f005", func := "parterre/parterrelaw24.IntrinsicMore", spec := "intrinsicMore", unfollowed := true, recurses := true, named := ["math/bits.divideError", "math/bits.overflowError"], apart := false }
def IntrinsicMoreSaid : Prop := intrinsicMoreRow.holds Try.pinned (OpenSpec.ofChange intrinsicMoreSpec)

/-- ITS FALSE NEIGHBOUR: 'it returns false'. Refute it at one input. -/
def intrinsicMoreWrong : ChangeSpec := { name := "intrinsicMore", fn := fun _ => fun
  | [d1, d2, d3, d4] => { results := [.lit (.bool false)], args := [d1, d2, d3, d4] }
  | _ => none }
def IntrinsicMoreWrongFalsely : Prop := intrinsicMoreRow.holds Try.pinned (OpenSpec.ofChange intrinsicMoreWrong)

/-- 'parterrelaw24.IntrinsicTurned': WHATEVER THE INPUT: true; the input reads as it did. -/
def intrinsicTurnedSpec : ChangeSpec := { name := "intrinsicTurned", fn := fun _ => fun
  | [d1, d2, d3, d4, d5] => { results := [.lit (.bool true)], args := [d1, d2, d3, d4, d5] }
  | _ => none }
def intrinsicTurnedRow : OpenClaim := { program := "ytbebnjiolaomdaa", sum := "3eae9c649c8a2078191d48008196b5d0b4ae413fee2703d7804bce09e862f005", func := "parterre/parterrelaw24.IntrinsicTurned", spec := "intrinsicTurned", unfollowed := true, recurses := true, named := ["math/bits.divideError", "math/bits.overflowError"], apart := false }
def IntrinsicTurnedSaid : Prop := intrinsicTurnedRow.holds Try.pinned (OpenSpec.ofChange intrinsicTurnedSpec)

/-- ITS FALSE NEIGHBOUR: 'it returns false'. Refute it at one input. -/
def intrinsicTurnedWrong : ChangeSpec := { name := "intrinsicTurned", fn := fun _ => fun
  | [d1, d2, d3, d4, d5] => { results := [.lit (.bool false)], args := [d1, d2, d3, d4, d5] }
  | _ => none }
def IntrinsicTurnedWrongFalsely : Prop := intrinsicTurnedRow.holds Try.pinned (OpenSpec.ofChange intrinsicTurnedWrong)

/-- 'parterrelaw24.IntrinsicTells': WHATEVER THE INPUT: true; the input reads as it did. -/
def intrinsicTellsSpec : ChangeSpec := { name := "intrinsicTells", fn := fun _ => fun
  | [d1, d2, d3, d4, d5] => { results := [.lit (.bool true)], args := [d1, d2, d3, d4, d5] }
  | _ => none }
def intrinsicTellsRow : OpenClaim := { program := "ytbebnjiolaomdaa", sum := "3eae9c649c8a2078191d48008196b5d0b4ae413fee2703d7804bce09e862f005", func := "parterre/parterrelaw24.IntrinsicTells", spec := "intrinsicTells", unfollowed := true, recurses := true, named := ["math/bits.divideError", "math/bits.overflowError"], apart := false }
def IntrinsicTellsSaid : Prop := intrinsicTellsRow.holds Try.pinned (OpenSpec.ofChange intrinsicTellsSpec)

/-- ITS FALSE NEIGHBOUR: 'it returns false'. Refute it at one input. -/
def intrinsicTellsWrong : ChangeSpec := { name := "intrinsicTells", fn := fun _ => fun
  | [d1, d2, d3, d4, d5] => { results := [.lit (.bool false)], args := [d1, d2, d3, d4, d5] }
  | _ => none }
def IntrinsicTellsWrongFalsely : Prop := intrinsicTellsRow.holds Try.pinned (OpenSpec.ofChange intrinsicTellsWrong)

/- THE SECOND FORM. 'bulk': how many values and letters a reading holds, each counted each time it is reached (what is shared counts as often as it is met; a slice's spare places count too). A statement '..UptoSaid' is the law's where the arguments, and the package variables that the reading takes, are together of bulk at most 1048576: NARROWER than '..Said'. Prove '..Said' where nothing that the law and all that it calls make is longer than what came in: it says more and counts as full. Else prove '..UptoSaid'. A law counts once. -/
mutual
def uptoBulk {H : Type} : DataW H → Nat
  | .lit (.string bytes) => bytes.length + 1
  | .lit _ => 1
  | .nil => 1
  | .ptr d => uptoBulk d + 1
  | .slice elems spare => uptoBulkAll elems + uptoBulkAll spare + 1
  | .agg parts => uptoBulkAll parts + 1
  | .iface _ d => uptoBulk d + 1
  | .map entries => uptoBulkEntries entries + 1
  | .held _ => 1
def uptoBulkAll {H : Type} : List (DataW H) → Nat
  | [] => 0
  | d :: r => uptoBulk d + uptoBulkAll r
def uptoBulkEntries {H : Type} : List (Lit × DataW H) → Nat
  | [] => 0
  | x :: r => uptoBulkEntry x + uptoBulkEntries r
def uptoBulkEntry {H : Type} : Lit × DataW H → Nat
  | (.string bytes, d) => bytes.length + uptoBulk d + 1
  | (_, d) => uptoBulk d + 1
 end
def uptoSmall : (H : Type) → List (DataW H) → Bool := fun _ ds => decide (uptoBulkAll ds ≤ 1048576)
def OpenSpec.upto (s : _root_.Go.ChangeSpec) : _root_.Go.OpenSpec := { _root_.Go.OpenSpec.ofChange s with cond := some uptoSmall }

/-- 'parterrelaw24.IntrinsicEnough', WHERE WHAT IT READS IS OF BULK AT MOST 1048576: true; the input reads as it did. -/
def intrinsicEnoughUptoRow : OpenClaim := { program := "ytbebnjiolaomdaa", sum := "3eae9c649c8a2078191d48008196b5d0b4ae413fee2703d7804bce09e862f005", func := "parterre/parterrelaw24.IntrinsicEnough", spec := "intrinsicEnough", unfollowed := true, recurses := true, named := ["math/bits.divideError", "math/bits.overflowError"], apart := false, narrowed := true }
def IntrinsicEnoughUptoSaid : Prop := intrinsicEnoughUptoRow.holds Try.pinned (OpenSpec.upto intrinsicEnoughSpec)

/-- 'parterrelaw24.IntrinsicMore', WHERE WHAT IT READS IS OF BULK AT MOST 1048576: true; the input reads as it did. -/
def intrinsicMoreUptoRow : OpenClaim := { program := "ytbebnjiolaomdaa", sum := "3eae9c649c8a2078191d48008196b5d0b4ae413fee2703d7804bce09e862f005", func := "parterre/parterrelaw24.IntrinsicMore", spec := "intrinsicMore", unfollowed := true, recurses := true, named := ["math/bits.divideError", "math/bits.overflowError"], apart := false, narrowed := true }
def IntrinsicMoreUptoSaid : Prop := intrinsicMoreUptoRow.holds Try.pinned (OpenSpec.upto intrinsicMoreSpec)

/-- 'parterrelaw24.IntrinsicTurned', WHERE WHAT IT READS IS OF BULK AT MOST 1048576: true; the input reads as it did. -/
def intrinsicTurnedUptoRow : OpenClaim := { program := "ytbebnjiolaomdaa", sum := "3eae9c649c8a2078191d48008196b5d0b4ae413fee2703d7804bce09e862f005", func := "parterre/parterrelaw24.IntrinsicTurned", spec := "intrinsicTurned", unfollowed := true, recurses := true, named := ["math/bits.divideError", "math/bits.overflowError"], apart := false, narrowed := true }
def IntrinsicTurnedUptoSaid : Prop := intrinsicTurnedUptoRow.holds Try.pinned (OpenSpec.upto intrinsicTurnedSpec)

/-- 'parterrelaw24.IntrinsicTells', WHERE WHAT IT READS IS OF BULK AT MOST 1048576: true; the input reads as it did. -/
def intrinsicTellsUptoRow : OpenClaim := { program := "ytbebnjiolaomdaa", sum := "3eae9c649c8a2078191d48008196b5d0b4ae413fee2703d7804bce09e862f005", func := "parterre/parterrelaw24.IntrinsicTells", spec := "intrinsicTells", unfollowed := true, recurses := true, named := ["math/bits.divideError", "math/bits.overflowError"], apart := false, narrowed := true }
def IntrinsicTellsUptoSaid : Prop := intrinsicTellsUptoRow.holds Try.pinned (OpenSpec.upto intrinsicTellsSpec)

end Rows
end Go.Proofs.Ytbebnjiolaomdaa
