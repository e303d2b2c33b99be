/-
  No cell of these rows narrows 'for every input' (looked for: loops, veiled, ifaces, maps, wideKeys, modest, calm, conditions, laid).
  DERIVED. THE GIVEN ROWS OF THIS SEAT. 3 by the template 'for every input the law returns true; each argument reads behind the call as it read before'; 0 by the template 'total and deterministic' (their statements: YtolgoenpckiggaaTotals.lean).
  GIVEN WITH THE SEED: the statements are not yours to turn. If you find one false, say at which input.
  Laid BY PROGRAM, IN A SANDBOX (cutbox-rows.mjs): the forced cells as the released guide's own fill.sh prints them over the translation ec8e9c8b964e89f4… (all of the seat's roots in one cut). By AI agents, Wed Nov 11 2026. No macro, syntax, notation, axiom, sorry.
-/
import Derived.Test.YtolgoenpckiggaaChecked
import GoSem.Claim
import GoSem.ClaimJoined
import GoSem.ClaimMapViews
import Derived.JoinedTies
import Derived.KernelRfl
namespace Go.Proofs.Ytolgoenpckiggaa
/- THE CELL 'sum', in the pinned program and in every row, IS THE sha256 OF THE DUMP (.gsa) THAT YtolgoenpckiggaaProg.lean LOADS. Nothing in Lean hashes anything: it is a label: what it is worth is what the hold of that sum in a sandbox is worth. -/
noncomputable def Try.pinned : Pinned := { name := "ytolgoenpckiggaa", sum := "ec8e9c8b964e89f4c941c5dc374b525e5ab3c0e7e9ecc813cd1fbf1a7c8e026b", checked := Try.checked }
namespace Rows
def none {H : Type} : Left H := { results := [], args := [] }

/-- 'parterrelaw25.MaximiseRoom': WHATEVER THE INPUT: true; the input reads as it did. -/
def maximiseRoomSpec : ChangeSpec := { name := "maximiseRoom", fn := fun _ => fun
  | [d1, d2] => { results := [.lit (.bool true)], args := [d1, d2] }
  | _ => none }
def maximiseRoomRow : OpenClaim := { program := "ytolgoenpckiggaa", sum := "ec8e9c8b964e89f4c941c5dc374b525e5ab3c0e7e9ecc813cd1fbf1a7c8e026b", func := "parterre/parterrelaw25.MaximiseRoom", spec := "maximiseRoom", unfollowed := true, recurses := true, apart := false }
def MaximiseRoomSaid : Prop := maximiseRoomRow.holds Try.pinned (OpenSpec.ofChange maximiseRoomSpec)

/-- ITS FALSE NEIGHBOUR: 'it returns false'. Refute it at one input. -/
def maximiseRoomWrong : ChangeSpec := { name := "maximiseRoom", fn := fun _ => fun
  | [d1, d2] => { results := [.lit (.bool false)], args := [d1, d2] }
  | _ => none }
def MaximiseRoomWrongFalsely : Prop := maximiseRoomRow.holds Try.pinned (OpenSpec.ofChange maximiseRoomWrong)

/-- 'parterrelaw25.MaximiseWhole': WHATEVER THE INPUT: true; the input reads as it did. -/
def maximiseWholeSpec : ChangeSpec := { name := "maximiseWhole", fn := fun _ => fun
  | [d1, d2] => { results := [.lit (.bool true)], args := [d1, d2] }
  | _ => none }
def maximiseWholeRow : OpenClaim := { program := "ytolgoenpckiggaa", sum := "ec8e9c8b964e89f4c941c5dc374b525e5ab3c0e7e9ecc813cd1fbf1a7c8e026b", func := "parterre/parterrelaw25.MaximiseWhole", spec := "maximiseWhole", unfollowed := true, recurses := true, apart := false }
def MaximiseWholeSaid : Prop := maximiseWholeRow.holds Try.pinned (OpenSpec.ofChange maximiseWholeSpec)

/-- ITS FALSE NEIGHBOUR: 'it returns false'. Refute it at one input. -/
def maximiseWholeWrong : ChangeSpec := { name := "maximiseWhole", fn := fun _ => fun
  | [d1, d2] => { results := [.lit (.bool false)], args := [d1, d2] }
  | _ => none }
def MaximiseWholeWrongFalsely : Prop := maximiseWholeRow.holds Try.pinned (OpenSpec.ofChange maximiseWholeWrong)

/-- 'parterrelaw25.MaximiseTells': WHATEVER THE INPUT: true; the input reads as it did. -/
def maximiseTellsSpec : ChangeSpec := { name := "maximiseTells", fn := fun _ => fun
  | [d1, d2, d3] => { results := [.lit (.bool true)], args := [d1, d2, d3] }
  | _ => none }
def maximiseTellsRow : OpenClaim := { program := "ytolgoenpckiggaa", sum := "ec8e9c8b964e89f4c941c5dc374b525e5ab3c0e7e9ecc813cd1fbf1a7c8e026b", func := "parterre/parterrelaw25.MaximiseTells", spec := "maximiseTells", unfollowed := true, recurses := true, apart := false }
def MaximiseTellsSaid : Prop := maximiseTellsRow.holds Try.pinned (OpenSpec.ofChange maximiseTellsSpec)

/-- ITS FALSE NEIGHBOUR: 'it returns false'. Refute it at one input. -/
def maximiseTellsWrong : ChangeSpec := { name := "maximiseTells", fn := fun _ => fun
  | [d1, d2, d3] => { results := [.lit (.bool false)], args := [d1, d2, d3] }
  | _ => none }
def MaximiseTellsWrongFalsely : Prop := maximiseTellsRow.holds Try.pinned (OpenSpec.ofChange maximiseTellsWrong)

/- THE SECOND FORM. 'bulk': how many values and letters a reading holds, each counted each time it is reached (what is shared counts as often as it is met; a slice's spare places count too). A statement '..UptoSaid' is the law's where the arguments, and the package variables that the reading takes, are together of bulk at most 1048576: NARROWER than '..Said'. Prove '..Said' where nothing that the law and all that it calls make is longer than what came in: it says more and counts as full. Else prove '..UptoSaid'. A law counts once. -/
mutual
def uptoBulk {H : Type} : DataW H → Nat
  | .lit (.string bytes) => bytes.length + 1
  | .lit _ => 1
  | .nil => 1
  | .ptr d => uptoBulk d + 1
  | .slice elems spare => uptoBulkAll elems + uptoBulkAll spare + 1
  | .agg parts => uptoBulkAll parts + 1
  | .iface _ d => uptoBulk d + 1
  | .map entries => uptoBulkEntries entries + 1
  | .held _ => 1
def uptoBulkAll {H : Type} : List (DataW H) → Nat
  | [] => 0
  | d :: r => uptoBulk d + uptoBulkAll r
def uptoBulkEntries {H : Type} : List (Lit × DataW H) → Nat
  | [] => 0
  | x :: r => uptoBulkEntry x + uptoBulkEntries r
def uptoBulkEntry {H : Type} : Lit × DataW H → Nat
  | (.string bytes, d) => bytes.length + uptoBulk d + 1
  | (_, d) => uptoBulk d + 1
 end
def uptoSmall : (H : Type) → List (DataW H) → Bool := fun _ ds => decide (uptoBulkAll ds ≤ 1048576)
def OpenSpec.upto (s : _root_.Go.ChangeSpec) : _root_.Go.OpenSpec := { _root_.Go.OpenSpec.ofChange s with cond := some uptoSmall }

/-- 'parterrelaw25.MaximiseRoom', WHERE WHAT IT READS IS OF BULK AT MOST 1048576: true; the input reads as it did. -/
def maximiseRoomUptoRow : OpenClaim := { program := "ytolgoenpckiggaa", sum := "ec8e9c8b964e89f4c941c5dc374b525e5ab3c0e7e9ecc813cd1fbf1a7c8e026b", func := "parterre/parterrelaw25.MaximiseRoom", spec := "maximiseRoom", unfollowed := true, recurses := true, apart := false, narrowed := true }
def MaximiseRoomUptoSaid : Prop := maximiseRoomUptoRow.holds Try.pinned (OpenSpec.upto maximiseRoomSpec)

/-- 'parterrelaw25.MaximiseWhole', WHERE WHAT IT READS IS OF BULK AT MOST 1048576: true; the input reads as it did. -/
def maximiseWholeUptoRow : OpenClaim := { program := "ytolgoenpckiggaa", sum := "ec8e9c8b964e89f4c941c5dc374b525e5ab3c0e7e9ecc813cd1fbf1a7c8e026b", func := "parterre/parterrelaw25.MaximiseWhole", spec := "maximiseWhole", unfollowed := true, recurses := true, apart := false, narrowed := true }
def MaximiseWholeUptoSaid : Prop := maximiseWholeUptoRow.holds Try.pinned (OpenSpec.upto maximiseWholeSpec)

/-- 'parterrelaw25.MaximiseTells', WHERE WHAT IT READS IS OF BULK AT MOST 1048576: true; the input reads as it did. -/
def maximiseTellsUptoRow : OpenClaim := { program := "ytolgoenpckiggaa", sum := "ec8e9c8b964e89f4c941c5dc374b525e5ab3c0e7e9ecc813cd1fbf1a7c8e026b", func := "parterre/parterrelaw25.MaximiseTells", spec := "maximiseTells", unfollowed := true, recurses := true, apart := false, narrowed := true }
def MaximiseTellsUptoSaid : Prop := maximiseTellsUptoRow.holds Try.pinned (OpenSpec.upto maximiseTellsSpec)

end Rows
end Go.Proofs.Ytolgoenpckiggaa
