/-
  No cell of these rows narrows 'for every input' (looked for: loops, veiled, ifaces, maps, wideKeys, modest, calm, conditions, laid).
  DERIVED. THE GIVEN ROWS OF THIS SEAT. 4 by the template 'for every input the law returns true; each argument reads behind the call as it read before'; 0 by the template 'total and deterministic' (their statements: YtckpmhclngoefaaTotals.lean).
  GIVEN WITH THE SEED: the statements are not yours to turn. If you find one false, say at which input.
  Laid BY PROGRAM, IN A SANDBOX (cutbox-rows.mjs): the forced cells as the released guide's own fill.sh prints them over the translation bf4d8449b28c009d… (all of the seat's roots in one cut). By AI agents, Wed Nov 11 2026. No macro, syntax, notation, axiom, sorry.
-/
import Derived.Test.YtckpmhclngoefaaChecked
import GoSem.Claim
import GoSem.ClaimJoined
import GoSem.ClaimMapViews
import Derived.JoinedTies
import Derived.KernelRfl
namespace Go.Proofs.Ytckpmhclngoefaa
/- THE CELL 'sum', in the pinned program and in every row, IS THE sha256 OF THE DUMP (.gsa) THAT YtckpmhclngoefaaProg.lean LOADS. Nothing in Lean hashes anything: it is a label: what it is worth is what the hold of that sum in a sandbox is worth. -/
noncomputable def Try.pinned : Pinned := { name := "ytckpmhclngoefaa", sum := "bf4d8449b28c009d79d4e88a19ff9a5f30bcecf6ad4ab9e77ffb38f26caedd3a", checked := Try.checked }
namespace Rows
def none {H : Type} : Left H := { results := [], args := [] }

/-- 'parterrelaw19.OccupyNear': WHATEVER THE INPUT: true; the input reads as it did. -/
def occupyNearSpec : ChangeSpec := { name := "occupyNear", fn := fun _ => fun
  | [d1, d2, d3] => { results := [.lit (.bool true)], args := [d1, d2, d3] }
  | _ => none }
def occupyNearRow : OpenClaim := { program := "ytckpmhclngoefaa", sum := "bf4d8449b28c009d79d4e88a19ff9a5f30bcecf6ad4ab9e77ffb38f26caedd3a", func := "parterre/parterrelaw19.OccupyNear", spec := "occupyNear", unfollowed := true, recurses := true, apart := false }
def OccupyNearSaid : Prop := occupyNearRow.holds Try.pinned (OpenSpec.ofChange occupyNearSpec)

/-- ITS FALSE NEIGHBOUR: 'it returns false'. Refute it at one input. -/
def occupyNearWrong : ChangeSpec := { name := "occupyNear", fn := fun _ => fun
  | [d1, d2, d3] => { results := [.lit (.bool false)], args := [d1, d2, d3] }
  | _ => none }
def OccupyNearWrongFalsely : Prop := occupyNearRow.holds Try.pinned (OpenSpec.ofChange occupyNearWrong)

/-- 'parterrelaw19.OccupyNext': WHATEVER THE INPUT: true; the input reads as it did. -/
def occupyNextSpec : ChangeSpec := { name := "occupyNext", fn := fun _ => fun
  | [d1, d2, d3] => { results := [.lit (.bool true)], args := [d1, d2, d3] }
  | _ => none }
def occupyNextRow : OpenClaim := { program := "ytckpmhclngoefaa", sum := "bf4d8449b28c009d79d4e88a19ff9a5f30bcecf6ad4ab9e77ffb38f26caedd3a", func := "parterre/parterrelaw19.OccupyNext", spec := "occupyNext", unfollowed := true, recurses := true, apart := false }
def OccupyNextSaid : Prop := occupyNextRow.holds Try.pinned (OpenSpec.ofChange occupyNextSpec)

/-- ITS FALSE NEIGHBOUR: 'it returns false'. Refute it at one input. -/
def occupyNextWrong : ChangeSpec := { name := "occupyNext", fn := fun _ => fun
  | [d1, d2, d3] => { results := [.lit (.bool false)], args := [d1, d2, d3] }
  | _ => none }
def OccupyNextWrongFalsely : Prop := occupyNextRow.holds Try.pinned (OpenSpec.ofChange occupyNextWrong)

/-- 'parterrelaw19.OccupyTurned': WHATEVER THE INPUT: true; the input reads as it did. -/
def occupyTurnedSpec : ChangeSpec := { name := "occupyTurned", fn := fun _ => fun
  | [d1, d2, d3] => { results := [.lit (.bool true)], args := [d1, d2, d3] }
  | _ => none }
def occupyTurnedRow : OpenClaim := { program := "ytckpmhclngoefaa", sum := "bf4d8449b28c009d79d4e88a19ff9a5f30bcecf6ad4ab9e77ffb38f26caedd3a", func := "parterre/parterrelaw19.OccupyTurned", spec := "occupyTurned", unfollowed := true, recurses := true, apart := false }
def OccupyTurnedSaid : Prop := occupyTurnedRow.holds Try.pinned (OpenSpec.ofChange occupyTurnedSpec)

/-- ITS FALSE NEIGHBOUR: 'it returns false'. Refute it at one input. -/
def occupyTurnedWrong : ChangeSpec := { name := "occupyTurned", fn := fun _ => fun
  | [d1, d2, d3] => { results := [.lit (.bool false)], args := [d1, d2, d3] }
  | _ => none }
def OccupyTurnedWrongFalsely : Prop := occupyTurnedRow.holds Try.pinned (OpenSpec.ofChange occupyTurnedWrong)

/-- 'parterrelaw19.OccupyOverlaps': WHATEVER THE INPUT: true; the input reads as it did. -/
def occupyOverlapsSpec : ChangeSpec := { name := "occupyOverlaps", fn := fun _ => fun
  | [d1, d2, d3] => { results := [.lit (.bool true)], args := [d1, d2, d3] }
  | _ => none }
def occupyOverlapsRow : OpenClaim := { program := "ytckpmhclngoefaa", sum := "bf4d8449b28c009d79d4e88a19ff9a5f30bcecf6ad4ab9e77ffb38f26caedd3a", func := "parterre/parterrelaw19.OccupyOverlaps", spec := "occupyOverlaps", unfollowed := true, recurses := true, apart := false }
def OccupyOverlapsSaid : Prop := occupyOverlapsRow.holds Try.pinned (OpenSpec.ofChange occupyOverlapsSpec)

/-- ITS FALSE NEIGHBOUR: 'it returns false'. Refute it at one input. -/
def occupyOverlapsWrong : ChangeSpec := { name := "occupyOverlaps", fn := fun _ => fun
  | [d1, d2, d3] => { results := [.lit (.bool false)], args := [d1, d2, d3] }
  | _ => none }
def OccupyOverlapsWrongFalsely : Prop := occupyOverlapsRow.holds Try.pinned (OpenSpec.ofChange occupyOverlapsWrong)

/- THE SECOND FORM. 'bulk': how many values and letters a reading holds, each counted each time it is reached (what is shared counts as often as it is met; a slice's spare places count too). A statement '..UptoSaid' is the law's where the arguments, and the package variables that the reading takes, are together of bulk at most 1048576: NARROWER than '..Said'. Prove '..Said' where nothing that the law and all that it calls make is longer than what came in: it says more and counts as full. Else prove '..UptoSaid'. A law counts once. -/
mutual
def uptoBulk {H : Type} : DataW H → Nat
  | .lit (.string bytes) => bytes.length + 1
  | .lit _ => 1
  | .nil => 1
  | .ptr d => uptoBulk d + 1
  | .slice elems spare => uptoBulkAll elems + uptoBulkAll spare + 1
  | .agg parts => uptoBulkAll parts + 1
  | .iface _ d => uptoBulk d + 1
  | .map entries => uptoBulkEntries entries + 1
  | .held _ => 1
def uptoBulkAll {H : Type} : List (DataW H) → Nat
  | [] => 0
  | d :: r => uptoBulk d + uptoBulkAll r
def uptoBulkEntries {H : Type} : List (Lit × DataW H) → Nat
  | [] => 0
  | x :: r => uptoBulkEntry x + uptoBulkEntries r
def uptoBulkEntry {H : Type} : Lit × DataW H → Nat
  | (.string bytes, d) => bytes.length + uptoBulk d + 1
  | (_, d) => uptoBulk d + 1
 end
def uptoSmall : (H : Type) → List (DataW H) → Bool := fun _ ds => decide (uptoBulkAll ds ≤ 1048576)
def OpenSpec.upto (s : _root_.Go.ChangeSpec) : _root_.Go.OpenSpec := { _root_.Go.OpenSpec.ofChange s with cond := some uptoSmall }

/-- 'parterrelaw19.OccupyNear', WHERE WHAT IT READS IS OF BULK AT MOST 1048576: true; the input reads as it did. -/
def occupyNearUptoRow : OpenClaim := { program := "ytckpmhclngoefaa", sum := "bf4d8449b28c009d79d4e88a19ff9a5f30bcecf6ad4ab9e77ffb38f26caedd3a", func := "parterre/parterrelaw19.OccupyNear", spec := "occupyNear", unfollowed := true, recurses := true, apart := false, narrowed := true }
def OccupyNearUptoSaid : Prop := occupyNearUptoRow.holds Try.pinned (OpenSpec.upto occupyNearSpec)

/-- 'parterrelaw19.OccupyNext', WHERE WHAT IT READS IS OF BULK AT MOST 1048576: true; the input reads as it did. -/
def occupyNextUptoRow : OpenClaim := { program := "ytckpmhclngoefaa", sum := "bf4d8449b28c009d79d4e88a19ff9a5f30bcecf6ad4ab9e77ffb38f26caedd3a", func := "parterre/parterrelaw19.OccupyNext", spec := "occupyNext", unfollowed := true, recurses := true, apart := false, narrowed := true }
def OccupyNextUptoSaid : Prop := occupyNextUptoRow.holds Try.pinned (OpenSpec.upto occupyNextSpec)

/-- 'parterrelaw19.OccupyTurned', WHERE WHAT IT READS IS OF BULK AT MOST 1048576: true; the input reads as it did. -/
def occupyTurnedUptoRow : OpenClaim := { program := "ytckpmhclngoefaa", sum := "bf4d8449b28c009d79d4e88a19ff9a5f30bcecf6ad4ab9e77ffb38f26caedd3a", func := "parterre/parterrelaw19.OccupyTurned", spec := "occupyTurned", unfollowed := true, recurses := true, apart := false, narrowed := true }
def OccupyTurnedUptoSaid : Prop := occupyTurnedUptoRow.holds Try.pinned (OpenSpec.upto occupyTurnedSpec)

/-- 'parterrelaw19.OccupyOverlaps', WHERE WHAT IT READS IS OF BULK AT MOST 1048576: true; the input reads as it did. -/
def occupyOverlapsUptoRow : OpenClaim := { program := "ytckpmhclngoefaa", sum := "bf4d8449b28c009d79d4e88a19ff9a5f30bcecf6ad4ab9e77ffb38f26caedd3a", func := "parterre/parterrelaw19.OccupyOverlaps", spec := "occupyOverlaps", unfollowed := true, recurses := true, apart := false, narrowed := true }
def OccupyOverlapsUptoSaid : Prop := occupyOverlapsUptoRow.holds Try.pinned (OpenSpec.upto occupyOverlapsSpec)

end Rows
end Go.Proofs.Ytckpmhclngoefaa
