/-
  No cell of these rows narrows 'for every input' (looked for: loops, veiled, ifaces, maps, wideKeys, modest, calm, conditions, laid).
  DERIVED. THE GIVEN ROWS OF THIS SEAT. 3 by the template 'for every input the law returns true; each argument reads behind the call as it read before'; 0 by the template 'total and deterministic' (their statements: YtpaabecgngbjcaaTotals.lean).
  GIVEN WITH THE SEED: the statements are not yours to turn. If you find one false, say at which input.
  Laid BY PROGRAM, IN A SANDBOX (cutbox-rows.mjs): the forced cells as the released guide's own fill.sh prints them over the translation 32a550dfe94305fd… (all of the seat's roots in one cut). By AI agents, Wed Nov 11 2026. No macro, syntax, notation, axiom, sorry.
-/
import Derived.Test.YtpaabecgngbjcaaChecked
import GoSem.Claim
import GoSem.ClaimJoined
import GoSem.ClaimMapViews
import Derived.JoinedTies
import Derived.KernelRfl
namespace Go.Proofs.Ytpaabecgngbjcaa
/- THE CELL 'sum', in the pinned program and in every row, IS THE sha256 OF THE DUMP (.gsa) THAT YtpaabecgngbjcaaProg.lean LOADS. Nothing in Lean hashes anything: it is a label: what it is worth is what the hold of that sum in a sandbox is worth. -/
noncomputable def Try.pinned : Pinned := { name := "ytpaabecgngbjcaa", sum := "32a550dfe94305fded1af198e45d4e2c431da9ea8fe01c7df1c8d18aa042584d", checked := Try.checked }
namespace Rows
def none {H : Type} : Left H := { results := [], args := [] }

/-- 'parterrelaw26.FlexFills': WHATEVER THE INPUT: true; the input reads as it did. -/
def flexFillsSpec : ChangeSpec := { name := "flexFills", fn := fun _ => fun
  | [d1, d2, d3] => { results := [.lit (.bool true)], args := [d1, d2, d3] }
  | _ => none }
def flexFillsRow : OpenClaim := { program := "ytpaabecgngbjcaa", sum := "32a550dfe94305fded1af198e45d4e2c431da9ea8fe01c7df1c8d18aa042584d", func := "parterre/parterrelaw26.FlexFills", spec := "flexFills", unfollowed := true, recurses := true, named := ["math/bits.divideError", "math/bits.overflowError"], apart := false }
def FlexFillsSaid : Prop := flexFillsRow.holds Try.pinned (OpenSpec.ofChange flexFillsSpec)

/-- ITS FALSE NEIGHBOUR: 'it returns false'. Refute it at one input. -/
def flexFillsWrong : ChangeSpec := { name := "flexFills", fn := fun _ => fun
  | [d1, d2, d3] => { results := [.lit (.bool false)], args := [d1, d2, d3] }
  | _ => none }
def FlexFillsWrongFalsely : Prop := flexFillsRow.holds Try.pinned (OpenSpec.ofChange flexFillsWrong)

/-- 'parterrelaw26.FlexTells': WHATEVER THE INPUT: true; the input reads as it did. -/
def flexTellsSpec : ChangeSpec := { name := "flexTells", fn := fun _ => fun
  | [d1, d2, d3, d4] => { results := [.lit (.bool true)], args := [d1, d2, d3, d4] }
  | _ => none }
def flexTellsRow : OpenClaim := { program := "ytpaabecgngbjcaa", sum := "32a550dfe94305fded1af198e45d4e2c431da9ea8fe01c7df1c8d18aa042584d", func := "parterre/parterrelaw26.FlexTells", spec := "flexTells", unfollowed := true, recurses := true, named := ["math/bits.divideError", "math/bits.overflowError"], apart := false }
def FlexTellsSaid : Prop := flexTellsRow.holds Try.pinned (OpenSpec.ofChange flexTellsSpec)

/-- ITS FALSE NEIGHBOUR: 'it returns false'. Refute it at one input. -/
def flexTellsWrong : ChangeSpec := { name := "flexTells", fn := fun _ => fun
  | [d1, d2, d3, d4] => { results := [.lit (.bool false)], args := [d1, d2, d3, d4] }
  | _ => none }
def FlexTellsWrongFalsely : Prop := flexTellsRow.holds Try.pinned (OpenSpec.ofChange flexTellsWrong)

/-- 'parterrelaw26.FlexGrows': WHATEVER THE INPUT: true; the input reads as it did. -/
def flexGrowsSpec : ChangeSpec := { name := "flexGrows", fn := fun _ => fun
  | [d1, d2, d3] => { results := [.lit (.bool true)], args := [d1, d2, d3] }
  | _ => none }
def flexGrowsRow : OpenClaim := { program := "ytpaabecgngbjcaa", sum := "32a550dfe94305fded1af198e45d4e2c431da9ea8fe01c7df1c8d18aa042584d", func := "parterre/parterrelaw26.FlexGrows", spec := "flexGrows", unfollowed := true, recurses := true, named := ["math/bits.divideError", "math/bits.overflowError"], apart := false }
def FlexGrowsSaid : Prop := flexGrowsRow.holds Try.pinned (OpenSpec.ofChange flexGrowsSpec)

/-- ITS FALSE NEIGHBOUR: 'it returns false'. Refute it at one input. -/
def flexGrowsWrong : ChangeSpec := { name := "flexGrows", fn := fun _ => fun
  | [d1, d2, d3] => { results := [.lit (.bool false)], args := [d1, d2, d3] }
  | _ => none }
def FlexGrowsWrongFalsely : Prop := flexGrowsRow.holds Try.pinned (OpenSpec.ofChange flexGrowsWrong)

/- THE SECOND FORM. 'bulk': how many values and letters a reading holds, each counted each time it is reached (what is shared counts as often as it is met; a slice's spare places count too). A statement '..UptoSaid' is the law's where the arguments, and the package variables that the reading takes, are together of bulk at most 1048576: NARROWER than '..Said'. Prove '..Said' where nothing that the law and all that it calls make is longer than what came in: it says more and counts as full. Else prove '..UptoSaid'. A law counts once. -/
mutual
def uptoBulk {H : Type} : DataW H → Nat
  | .lit (.string bytes) => bytes.length + 1
  | .lit _ => 1
  | .nil => 1
  | .ptr d => uptoBulk d + 1
  | .slice elems spare => uptoBulkAll elems + uptoBulkAll spare + 1
  | .agg parts => uptoBulkAll parts + 1
  | .iface _ d => uptoBulk d + 1
  | .map entries => uptoBulkEntries entries + 1
  | .held _ => 1
def uptoBulkAll {H : Type} : List (DataW H) → Nat
  | [] => 0
  | d :: r => uptoBulk d + uptoBulkAll r
def uptoBulkEntries {H : Type} : List (Lit × DataW H) → Nat
  | [] => 0
  | x :: r => uptoBulkEntry x + uptoBulkEntries r
def uptoBulkEntry {H : Type} : Lit × DataW H → Nat
  | (.string bytes, d) => bytes.length + uptoBulk d + 1
  | (_, d) => uptoBulk d + 1
 end
def uptoSmall : (H : Type) → List (DataW H) → Bool := fun _ ds => decide (uptoBulkAll ds ≤ 1048576)
def OpenSpec.upto (s : _root_.Go.ChangeSpec) : _root_.Go.OpenSpec := { _root_.Go.OpenSpec.ofChange s with cond := some uptoSmall }

/-- 'parterrelaw26.FlexFills', WHERE WHAT IT READS IS OF BULK AT MOST 1048576: true; the input reads as it did. -/
def flexFillsUptoRow : OpenClaim := { program := "ytpaabecgngbjcaa", sum := "32a550dfe94305fded1af198e45d4e2c431da9ea8fe01c7df1c8d18aa042584d", func := "parterre/parterrelaw26.FlexFills", spec := "flexFills", unfollowed := true, recurses := true, named := ["math/bits.divideError", "math/bits.overflowError"], apart := false, narrowed := true }
def FlexFillsUptoSaid : Prop := flexFillsUptoRow.holds Try.pinned (OpenSpec.upto flexFillsSpec)

/-- 'parterrelaw26.FlexTells', WHERE WHAT IT READS IS OF BULK AT MOST 1048576: true; the input reads as it did. -/
def flexTellsUptoRow : OpenClaim := { program := "ytpaabecgngbjcaa", sum := "32a550dfe94305fded1af198e45d4e2c431da9ea8fe01c7df1c8d18aa042584d", func := "parterre/parterrelaw26.FlexTells", spec := "flexTells", unfollowed := true, recurses := true, named := ["math/bits.divideError", "math/bits.overflowError"], apart := false, narrowed := true }
def FlexTellsUptoSaid : Prop := flexTellsUptoRow.holds Try.pinned (OpenSpec.upto flexTellsSpec)

/-- 'parterrelaw26.FlexGrows', WHERE WHAT IT READS IS OF BULK AT MOST 1048576: true; the input reads as it did. -/
def flexGrowsUptoRow : OpenClaim := { program := "ytpaabecgngbjcaa", sum := "32a550dfe94305fded1af198e45d4e2c431da9ea8fe01c7df1c8d18aa042584d", func := "parterre/parterrelaw26.FlexGrows", spec := "flexGrows", unfollowed := true, recurses := true, named := ["math/bits.divideError", "math/bits.overflowError"], apart := false, narrowed := true }
def FlexGrowsUptoSaid : Prop := flexGrowsUptoRow.holds Try.pinned (OpenSpec.upto flexGrowsSpec)

end Rows
end Go.Proofs.Ytpaabecgngbjcaa
