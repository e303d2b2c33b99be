/-
  No cell of these rows narrows 'for every input' (looked for: loops, veiled, ifaces, maps, wideKeys, modest, calm, conditions, laid).
  DERIVED. THE GIVEN ROWS OF THIS SEAT. 3 by the template 'for every input the law returns true; each argument reads behind the call as it read before'; 0 by the template 'total and deterministic' (their statements: YtecccaniopkphaaTotals.lean).
  GIVEN WITH THE SEED: the statements are not yours to turn. If you find one false, say at which input.
  Laid BY PROGRAM, IN A SANDBOX (cutbox-rows.mjs): the forced cells as the released guide's own fill.sh prints them over the translation a55f64aae7b0a37b… (all of the seat's roots in one cut). By AI agents, Wed Nov 11 2026. No macro, syntax, notation, axiom, sorry.
-/
import Derived.Test.YtecccaniopkphaaChecked
import GoSem.Claim
import GoSem.ClaimJoined
import GoSem.ClaimMapViews
import Derived.JoinedTies
import Derived.KernelRfl
namespace Go.Proofs.Ytecccaniopkphaa
/- THE CELL 'sum', in the pinned program and in every row, IS THE sha256 OF THE DUMP (.gsa) THAT YtecccaniopkphaaProg.lean LOADS. Nothing in Lean hashes anything: it is a label: what it is worth is what the hold of that sum in a sandbox is worth. -/
noncomputable def Try.pinned : Pinned := { name := "ytecccaniopkphaa", sum := "a55f64aae7b0a37b25ab7da2775562277808cdf9b1a5957c4393817bd0a94856", checked := Try.checked }
namespace Rows
def none {H : Type} : Left H := { results := [], args := [] }

/-- 'parterrelaw23.SpreadAll': WHATEVER THE INPUT: true; the input reads as it did. -/
def spreadAllSpec : ChangeSpec := { name := "spreadAll", fn := fun _ => fun
  | [d1, d2, d3] => { results := [.lit (.bool true)], args := [d1, d2, d3] }
  | _ => none }
def spreadAllRow : OpenClaim := { program := "ytecccaniopkphaa", sum := "a55f64aae7b0a37b25ab7da2775562277808cdf9b1a5957c4393817bd0a94856", func := "parterre/parterrelaw23.SpreadAll", spec := "spreadAll", unfollowed := true, recurses := true, apart := false }
def SpreadAllSaid : Prop := spreadAllRow.holds Try.pinned (OpenSpec.ofChange spreadAllSpec)

/-- ITS FALSE NEIGHBOUR: 'it returns false'. Refute it at one input. -/
def spreadAllWrong : ChangeSpec := { name := "spreadAll", fn := fun _ => fun
  | [d1, d2, d3] => { results := [.lit (.bool false)], args := [d1, d2, d3] }
  | _ => none }
def SpreadAllWrongFalsely : Prop := spreadAllRow.holds Try.pinned (OpenSpec.ofChange spreadAllWrong)

/-- 'parterrelaw23.SpreadAlike': WHATEVER THE INPUT: true; the input reads as it did. -/
def spreadAlikeSpec : ChangeSpec := { name := "spreadAlike", fn := fun _ => fun
  | [d1, d2, d3] => { results := [.lit (.bool true)], args := [d1, d2, d3] }
  | _ => none }
def spreadAlikeRow : OpenClaim := { program := "ytecccaniopkphaa", sum := "a55f64aae7b0a37b25ab7da2775562277808cdf9b1a5957c4393817bd0a94856", func := "parterre/parterrelaw23.SpreadAlike", spec := "spreadAlike", unfollowed := true, recurses := true, apart := false }
def SpreadAlikeSaid : Prop := spreadAlikeRow.holds Try.pinned (OpenSpec.ofChange spreadAlikeSpec)

/-- ITS FALSE NEIGHBOUR: 'it returns false'. Refute it at one input. -/
def spreadAlikeWrong : ChangeSpec := { name := "spreadAlike", fn := fun _ => fun
  | [d1, d2, d3] => { results := [.lit (.bool false)], args := [d1, d2, d3] }
  | _ => none }
def SpreadAlikeWrongFalsely : Prop := spreadAlikeRow.holds Try.pinned (OpenSpec.ofChange spreadAlikeWrong)

/-- 'parterrelaw23.SpreadUps': WHATEVER THE INPUT: true; the input reads as it did. -/
def spreadUpsSpec : ChangeSpec := { name := "spreadUps", fn := fun _ => fun
  | [d1, d2, d3] => { results := [.lit (.bool true)], args := [d1, d2, d3] }
  | _ => none }
def spreadUpsRow : OpenClaim := { program := "ytecccaniopkphaa", sum := "a55f64aae7b0a37b25ab7da2775562277808cdf9b1a5957c4393817bd0a94856", func := "parterre/parterrelaw23.SpreadUps", spec := "spreadUps", unfollowed := true, recurses := true, named := ["math/bits.divideError", "math/bits.overflowError"], apart := false }
def SpreadUpsSaid : Prop := spreadUpsRow.holds Try.pinned (OpenSpec.ofChange spreadUpsSpec)

/-- ITS FALSE NEIGHBOUR: 'it returns false'. Refute it at one input. -/
def spreadUpsWrong : ChangeSpec := { name := "spreadUps", fn := fun _ => fun
  | [d1, d2, d3] => { results := [.lit (.bool false)], args := [d1, d2, d3] }
  | _ => none }
def SpreadUpsWrongFalsely : Prop := spreadUpsRow.holds Try.pinned (OpenSpec.ofChange spreadUpsWrong)

/- THE SECOND FORM. 'bulk': how many values and letters a reading holds, each counted each time it is reached (what is shared counts as often as it is met; a slice's spare places count too). A statement '..UptoSaid' is the law's where the arguments, and the package variables that the reading takes, are together of bulk at most 1048576: NARROWER than '..Said'. Prove '..Said' where nothing that the law and all that it calls make is longer than what came in: it says more and counts as full. Else prove '..UptoSaid'. A law counts once. -/
mutual
def uptoBulk {H : Type} : DataW H → Nat
  | .lit (.string bytes) => bytes.length + 1
  | .lit _ => 1
  | .nil => 1
  | .ptr d => uptoBulk d + 1
  | .slice elems spare => uptoBulkAll elems + uptoBulkAll spare + 1
  | .agg parts => uptoBulkAll parts + 1
  | .iface _ d => uptoBulk d + 1
  | .map entries => uptoBulkEntries entries + 1
  | .held _ => 1
def uptoBulkAll {H : Type} : List (DataW H) → Nat
  | [] => 0
  | d :: r => uptoBulk d + uptoBulkAll r
def uptoBulkEntries {H : Type} : List (Lit × DataW H) → Nat
  | [] => 0
  | x :: r => uptoBulkEntry x + uptoBulkEntries r
def uptoBulkEntry {H : Type} : Lit × DataW H → Nat
  | (.string bytes, d) => bytes.length + uptoBulk d + 1
  | (_, d) => uptoBulk d + 1
 end
def uptoSmall : (H : Type) → List (DataW H) → Bool := fun _ ds => decide (uptoBulkAll ds ≤ 1048576)
def OpenSpec.upto (s : _root_.Go.ChangeSpec) : _root_.Go.OpenSpec := { _root_.Go.OpenSpec.ofChange s with cond := some uptoSmall }

/-- 'parterrelaw23.SpreadAll', WHERE WHAT IT READS IS OF BULK AT MOST 1048576: true; the input reads as it did. -/
def spreadAllUptoRow : OpenClaim := { program := "ytecccaniopkphaa", sum := "a55f64aae7b0a37b25ab7da2775562277808cdf9b1a5957c4393817bd0a94856", func := "parterre/parterrelaw23.SpreadAll", spec := "spreadAll", unfollowed := true, recurses := true, apart := false, narrowed := true }
def SpreadAllUptoSaid : Prop := spreadAllUptoRow.holds Try.pinned (OpenSpec.upto spreadAllSpec)

/-- 'parterrelaw23.SpreadAlike', WHERE WHAT IT READS IS OF BULK AT MOST 1048576: true; the input reads as it did. -/
def spreadAlikeUptoRow : OpenClaim := { program := "ytecccaniopkphaa", sum := "a55f64aae7b0a37b25ab7da2775562277808cdf9b1a5957c4393817bd0a94856", func := "parterre/parterrelaw23.SpreadAlike", spec := "spreadAlike", unfollowed := true, recurses := true, apart := false, narrowed := true }
def SpreadAlikeUptoSaid : Prop := spreadAlikeUptoRow.holds Try.pinned (OpenSpec.upto spreadAlikeSpec)

/-- 'parterrelaw23.SpreadUps', WHERE WHAT IT READS IS OF BULK AT MOST 1048576: true; the input reads as it did. -/
def spreadUpsUptoRow : OpenClaim := { program := "ytecccaniopkphaa", sum := "a55f64aae7b0a37b25ab7da2775562277808cdf9b1a5957c4393817bd0a94856", func := "parterre/parterrelaw23.SpreadUps", spec := "spreadUps", unfollowed := true, recurses := true, named := ["math/bits.divideError", "math/bits.overflowError"], apart := false, narrowed := true }
def SpreadUpsUptoSaid : Prop := spreadUpsUptoRow.holds Try.pinned (OpenSpec.upto spreadUpsSpec)

end Rows
end Go.Proofs.Ytecccaniopkphaa
