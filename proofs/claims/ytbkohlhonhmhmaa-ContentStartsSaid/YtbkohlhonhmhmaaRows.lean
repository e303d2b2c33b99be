/-
  No cell of these rows narrows 'for every input' (looked for: loops, veiled, ifaces, maps, wideKeys, modest, calm, conditions, laid).
  DERIVED. THE GIVEN ROWS OF THIS SEAT. 4 by the template 'for every input the law returns true; each argument reads behind the call as it read before'; 0 by the template 'total and deterministic' (their statements: YtbkohlhonhmhmaaTotals.lean).
  GIVEN WITH THE SEED: the statements are not yours to turn. If you find one false, say at which input.
  Laid BY PROGRAM, IN A SANDBOX (cutbox-rows.mjs): the forced cells as the released guide's own fill.sh prints them over the translation dee1b67b395681de… (all of the seat's roots in one cut). By AI agents, Wed Nov 11 2026. No macro, syntax, notation, axiom, sorry.
-/
import Derived.Test.YtbkohlhonhmhmaaChecked
import GoSem.Claim
import GoSem.ClaimJoined
import GoSem.ClaimMapViews
import Derived.JoinedTies
import Derived.KernelRfl
namespace Go.Proofs.Ytbkohlhonhmhmaa
/- THE CELL 'sum', in the pinned program and in every row, IS THE sha256 OF THE DUMP (.gsa) THAT YtbkohlhonhmhmaaProg.lean LOADS. Nothing in Lean hashes anything: it is a label: what it is worth is what the hold of that sum in a sandbox is worth. -/
noncomputable def Try.pinned : Pinned := { name := "ytbkohlhonhmhmaa", sum := "dee1b67b395681de06014fb062d59a6db9961a6c4e0d6e74669a8f130f432021", checked := Try.checked }
namespace Rows
def none {H : Type} : Left H := { results := [], args := [] }

/-- 'parterrelaw28.ContentStarts': WHATEVER THE INPUT: true; the input reads as it did. -/
def contentStartsSpec : ChangeSpec := { name := "contentStarts", fn := fun _ => fun
  | [d1, d2, d3, d4] => { results := [.lit (.bool true)], args := [d1, d2, d3, d4] }
  | _ => none }
def contentStartsRow : OpenClaim := { program := "ytbkohlhonhmhmaa", sum := "dee1b67b395681de06014fb062d59a6db9961a6c4e0d6e74669a8f130f432021", func := "parterre/parterrelaw28.ContentStarts", spec := "contentStarts", unfollowed := true, recurses := true, named := ["math/bits.divideError", "math/bits.overflowError"], apart := false }
def ContentStartsSaid : Prop := contentStartsRow.holds Try.pinned (OpenSpec.ofChange contentStartsSpec)

/-- ITS FALSE NEIGHBOUR: 'it returns false'. Refute it at one input. -/
def contentStartsWrong : ChangeSpec := { name := "contentStarts", fn := fun _ => fun
  | [d1, d2, d3, d4] => { results := [.lit (.bool false)], args := [d1, d2, d3, d4] }
  | _ => none }
def ContentStartsWrongFalsely : Prop := contentStartsRow.holds Try.pinned (OpenSpec.ofChange contentStartsWrong)

/-- 'parterrelaw28.ContentWithin': WHATEVER THE INPUT: true; the input reads as it did. -/
def contentWithinSpec : ChangeSpec := { name := "contentWithin", fn := fun _ => fun
  | [d1, d2, d3, d4] => { results := [.lit (.bool true)], args := [d1, d2, d3, d4] }
  | _ => none }
def contentWithinRow : OpenClaim := { program := "ytbkohlhonhmhmaa", sum := "dee1b67b395681de06014fb062d59a6db9961a6c4e0d6e74669a8f130f432021", func := "parterre/parterrelaw28.ContentWithin", spec := "contentWithin", unfollowed := true, recurses := true, named := ["math/bits.divideError", "math/bits.overflowError"], apart := false }
def ContentWithinSaid : Prop := contentWithinRow.holds Try.pinned (OpenSpec.ofChange contentWithinSpec)

/-- ITS FALSE NEIGHBOUR: 'it returns false'. Refute it at one input. -/
def contentWithinWrong : ChangeSpec := { name := "contentWithin", fn := fun _ => fun
  | [d1, d2, d3, d4] => { results := [.lit (.bool false)], args := [d1, d2, d3, d4] }
  | _ => none }
def ContentWithinWrongFalsely : Prop := contentWithinRow.holds Try.pinned (OpenSpec.ofChange contentWithinWrong)

/-- 'parterrelaw28.ContentEven': WHATEVER THE INPUT: true; the input reads as it did. -/
def contentEvenSpec : ChangeSpec := { name := "contentEven", fn := fun _ => fun
  | [d1, d2, d3, d4] => { results := [.lit (.bool true)], args := [d1, d2, d3, d4] }
  | _ => none }
def contentEvenRow : OpenClaim := { program := "ytbkohlhonhmhmaa", sum := "dee1b67b395681de06014fb062d59a6db9961a6c4e0d6e74669a8f130f432021", func := "parterre/parterrelaw28.ContentEven", spec := "contentEven", unfollowed := true, recurses := true, named := ["math/bits.divideError", "math/bits.overflowError"], apart := false }
def ContentEvenSaid : Prop := contentEvenRow.holds Try.pinned (OpenSpec.ofChange contentEvenSpec)

/-- ITS FALSE NEIGHBOUR: 'it returns false'. Refute it at one input. -/
def contentEvenWrong : ChangeSpec := { name := "contentEven", fn := fun _ => fun
  | [d1, d2, d3, d4] => { results := [.lit (.bool false)], args := [d1, d2, d3, d4] }
  | _ => none }
def ContentEvenWrongFalsely : Prop := contentEvenRow.holds Try.pinned (OpenSpec.ofChange contentEvenWrong)

/-- 'parterrelaw28.ContentAreas': WHATEVER THE INPUT: true; the input reads as it did. -/
def contentAreasSpec : ChangeSpec := { name := "contentAreas", fn := fun _ => fun
  | [d1, d2, d3, d4, d5] => { results := [.lit (.bool true)], args := [d1, d2, d3, d4, d5] }
  | _ => none }
def contentAreasRow : OpenClaim := { program := "ytbkohlhonhmhmaa", sum := "dee1b67b395681de06014fb062d59a6db9961a6c4e0d6e74669a8f130f432021", func := "parterre/parterrelaw28.ContentAreas", spec := "contentAreas", unfollowed := true, recurses := true, named := ["math/bits.divideError", "math/bits.overflowError"], apart := false }
def ContentAreasSaid : Prop := contentAreasRow.holds Try.pinned (OpenSpec.ofChange contentAreasSpec)

/-- ITS FALSE NEIGHBOUR: 'it returns false'. Refute it at one input. -/
def contentAreasWrong : ChangeSpec := { name := "contentAreas", fn := fun _ => fun
  | [d1, d2, d3, d4, d5] => { results := [.lit (.bool false)], args := [d1, d2, d3, d4, d5] }
  | _ => none }
def ContentAreasWrongFalsely : Prop := contentAreasRow.holds Try.pinned (OpenSpec.ofChange contentAreasWrong)

/- THE SECOND FORM. 'bulk': how many values and letters a reading holds, each counted each time it is reached (what is shared counts as often as it is met; a slice's spare places count too). A statement '..UptoSaid' is the law's where the arguments, and the package variables that the reading takes, are together of bulk at most 1048576: NARROWER than '..Said'. Prove '..Said' where nothing that the law and all that it calls make is longer than what came in: it says more and counts as full. Else prove '..UptoSaid'. A law counts once. -/
mutual
def uptoBulk {H : Type} : DataW H → Nat
  | .lit (.string bytes) => bytes.length + 1
  | .lit _ => 1
  | .nil => 1
  | .ptr d => uptoBulk d + 1
  | .slice elems spare => uptoBulkAll elems + uptoBulkAll spare + 1
  | .agg parts => uptoBulkAll parts + 1
  | .iface _ d => uptoBulk d + 1
  | .map entries => uptoBulkEntries entries + 1
  | .held _ => 1
def uptoBulkAll {H : Type} : List (DataW H) → Nat
  | [] => 0
  | d :: r => uptoBulk d + uptoBulkAll r
def uptoBulkEntries {H : Type} : List (Lit × DataW H) → Nat
  | [] => 0
  | x :: r => uptoBulkEntry x + uptoBulkEntries r
def uptoBulkEntry {H : Type} : Lit × DataW H → Nat
  | (.string bytes, d) => bytes.length + uptoBulk d + 1
  | (_, d) => uptoBulk d + 1
 end
def uptoSmall : (H : Type) → List (DataW H) → Bool := fun _ ds => decide (uptoBulkAll ds ≤ 1048576)
def OpenSpec.upto (s : _root_.Go.ChangeSpec) : _root_.Go.OpenSpec := { _root_.Go.OpenSpec.ofChange s with cond := some uptoSmall }

/-- 'parterrelaw28.ContentStarts', WHERE WHAT IT READS IS OF BULK AT MOST 1048576: true; the input reads as it did. -/
def contentStartsUptoRow : OpenClaim := { program := "ytbkohlhonhmhmaa", sum := "dee1b67b395681de06014fb062d59a6db9961a6c4e0d6e74669a8f130f432021", func := "parterre/parterrelaw28.ContentStarts", spec := "contentStarts", unfollowed := true, recurses := true, named := ["math/bits.divideError", "math/bits.overflowError"], apart := false, narrowed := true }
def ContentStartsUptoSaid : Prop := contentStartsUptoRow.holds Try.pinned (OpenSpec.upto contentStartsSpec)

/-- 'parterrelaw28.ContentWithin', WHERE WHAT IT READS IS OF BULK AT MOST 1048576: true; the input reads as it did. -/
def contentWithinUptoRow : OpenClaim := { program := "ytbkohlhonhmhmaa", sum := "dee1b67b395681de06014fb062d59a6db9961a6c4e0d6e74669a8f130f432021", func := "parterre/parterrelaw28.ContentWithin", spec := "contentWithin", unfollowed := true, recurses := true, named := ["math/bits.divideError", "math/bits.overflowError"], apart := false, narrowed := true }
def ContentWithinUptoSaid : Prop := contentWithinUptoRow.holds Try.pinned (OpenSpec.upto contentWithinSpec)

/-- 'parterrelaw28.ContentEven', WHERE WHAT IT READS IS OF BULK AT MOST 1048576: true; the input reads as it did. -/
def contentEvenUptoRow : OpenClaim := { program := "ytbkohlhonhmhmaa", sum := "dee1b67b395681de06014fb062d59a6db9961a6c4e0d6e74669a8f130f432021", func := "parterre/parterrelaw28.ContentEven", spec := "contentEven", unfollowed := true, recurses := true, named := ["math/bits.divideError", "math/bits.overflowError"], apart := false, narrowed := true }
def ContentEvenUptoSaid : Prop := contentEvenUptoRow.holds Try.pinned (OpenSpec.upto contentEvenSpec)

/-- 'parterrelaw28.ContentAreas', WHERE WHAT IT READS IS OF BULK AT MOST 1048576: true; the input reads as it did. -/
def contentAreasUptoRow : OpenClaim := { program := "ytbkohlhonhmhmaa", sum := "dee1b67b395681de06014fb062d59a6db9961a6c4e0d6e74669a8f130f432021", func := "parterre/parterrelaw28.ContentAreas", spec := "contentAreas", unfollowed := true, recurses := true, named := ["math/bits.divideError", "math/bits.overflowError"], apart := false, narrowed := true }
def ContentAreasUptoSaid : Prop := contentAreasUptoRow.holds Try.pinned (OpenSpec.upto contentAreasSpec)

end Rows
end Go.Proofs.Ytbkohlhonhmhmaa
