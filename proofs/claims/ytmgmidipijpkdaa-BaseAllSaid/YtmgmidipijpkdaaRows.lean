/-
  No cell of these rows narrows 'for every input' (looked for: loops, veiled, ifaces, maps, wideKeys, modest, calm, conditions, laid).
  DERIVED. THE GIVEN ROWS OF THIS SEAT. 3 by the template 'for every input the law returns true; each argument reads behind the call as it read before'; 0 by the template 'total and deterministic' (their statements: YtmgmidipijpkdaaTotals.lean).
  GIVEN WITH THE SEED: the statements are not yours to turn. If you find one false, say at which input.
  Laid BY PROGRAM, IN A SANDBOX (cutbox-rows.mjs): the forced cells as the released guide's own fill.sh prints them over the translation 81c3ae030e8d60d9… (all of the seat's roots in one cut). By AI agents, Wed Nov 11 2026. No macro, syntax, notation, axiom, sorry.
-/
import Derived.Test.YtmgmidipijpkdaaChecked
import GoSem.Claim
import GoSem.ClaimJoined
import GoSem.ClaimMapViews
import Derived.JoinedTies
import Derived.KernelRfl
namespace Go.Proofs.Ytmgmidipijpkdaa
/- THE CELL 'sum', in the pinned program and in every row, IS THE sha256 OF THE DUMP (.gsa) THAT YtmgmidipijpkdaaProg.lean LOADS. Nothing in Lean hashes anything: it is a label: what it is worth is what the hold of that sum in a sandbox is worth. -/
noncomputable def Try.pinned : Pinned := { name := "ytmgmidipijpkdaa", sum := "81c3ae030e8d60d9ceaafa3ba41696ca23fd7b84a718cd895cf314de4aeeffb6", checked := Try.checked }
namespace Rows
def none {H : Type} : Left H := { results := [], args := [] }

/-- 'parterrelaw22.BaseStarts': WHATEVER THE INPUT: true; the input reads as it did. -/
def baseStartsSpec : ChangeSpec := { name := "baseStarts", fn := fun _ => fun
  | [d1, d2, d3] => { results := [.lit (.bool true)], args := [d1, d2, d3] }
  | _ => none }
def baseStartsRow : OpenClaim := { program := "ytmgmidipijpkdaa", sum := "81c3ae030e8d60d9ceaafa3ba41696ca23fd7b84a718cd895cf314de4aeeffb6", func := "parterre/parterrelaw22.BaseStarts", spec := "baseStarts", unfollowed := true, recurses := true, named := ["math/bits.divideError", "math/bits.overflowError"], apart := false }
def BaseStartsSaid : Prop := baseStartsRow.holds Try.pinned (OpenSpec.ofChange baseStartsSpec)

/-- ITS FALSE NEIGHBOUR: 'it returns false'. Refute it at one input. -/
def baseStartsWrong : ChangeSpec := { name := "baseStarts", fn := fun _ => fun
  | [d1, d2, d3] => { results := [.lit (.bool false)], args := [d1, d2, d3] }
  | _ => none }
def BaseStartsWrongFalsely : Prop := baseStartsRow.holds Try.pinned (OpenSpec.ofChange baseStartsWrong)

/-- 'parterrelaw22.BaseGood': WHATEVER THE INPUT: true; the input reads as it did. -/
def baseGoodSpec : ChangeSpec := { name := "baseGood", fn := fun _ => fun
  | [d] => { results := [.lit (.bool true)], args := [d] }
  | _ => none }
def baseGoodRow : OpenClaim := { program := "ytmgmidipijpkdaa", sum := "81c3ae030e8d60d9ceaafa3ba41696ca23fd7b84a718cd895cf314de4aeeffb6", func := "parterre/parterrelaw22.BaseGood", spec := "baseGood", unfollowed := true, recurses := true, named := ["math/bits.divideError", "math/bits.overflowError"], apart := false }
def BaseGoodSaid : Prop := baseGoodRow.holds Try.pinned (OpenSpec.ofChange baseGoodSpec)

/-- ITS FALSE NEIGHBOUR: 'it returns false'. Refute it at one input. -/
def baseGoodWrong : ChangeSpec := { name := "baseGood", fn := fun _ => fun
  | [d] => { results := [.lit (.bool false)], args := [d] }
  | _ => none }
def BaseGoodWrongFalsely : Prop := baseGoodRow.holds Try.pinned (OpenSpec.ofChange baseGoodWrong)

/-- 'parterrelaw22.BaseAll': WHATEVER THE INPUT: true; the input reads as it did. -/
def baseAllSpec : ChangeSpec := { name := "baseAll", fn := fun _ => fun
  | [d1, d2, d3] => { results := [.lit (.bool true)], args := [d1, d2, d3] }
  | _ => none }
def baseAllRow : OpenClaim := { program := "ytmgmidipijpkdaa", sum := "81c3ae030e8d60d9ceaafa3ba41696ca23fd7b84a718cd895cf314de4aeeffb6", func := "parterre/parterrelaw22.BaseAll", spec := "baseAll", unfollowed := true, recurses := true, named := ["math/bits.divideError", "math/bits.overflowError"], apart := false }
def BaseAllSaid : Prop := baseAllRow.holds Try.pinned (OpenSpec.ofChange baseAllSpec)

/-- ITS FALSE NEIGHBOUR: 'it returns false'. Refute it at one input. -/
def baseAllWrong : ChangeSpec := { name := "baseAll", fn := fun _ => fun
  | [d1, d2, d3] => { results := [.lit (.bool false)], args := [d1, d2, d3] }
  | _ => none }
def BaseAllWrongFalsely : Prop := baseAllRow.holds Try.pinned (OpenSpec.ofChange baseAllWrong)

/- THE SECOND FORM. 'bulk': how many values and letters a reading holds, each counted each time it is reached (what is shared counts as often as it is met; a slice's spare places count too). A statement '..UptoSaid' is the law's where the arguments, and the package variables that the reading takes, are together of bulk at most 1048576: NARROWER than '..Said'. Prove '..Said' where nothing that the law and all that it calls make is longer than what came in: it says more and counts as full. Else prove '..UptoSaid'. A law counts once. -/
mutual
def uptoBulk {H : Type} : DataW H → Nat
  | .lit (.string bytes) => bytes.length + 1
  | .lit _ => 1
  | .nil => 1
  | .ptr d => uptoBulk d + 1
  | .slice elems spare => uptoBulkAll elems + uptoBulkAll spare + 1
  | .agg parts => uptoBulkAll parts + 1
  | .iface _ d => uptoBulk d + 1
  | .map entries => uptoBulkEntries entries + 1
  | .held _ => 1
def uptoBulkAll {H : Type} : List (DataW H) → Nat
  | [] => 0
  | d :: r => uptoBulk d + uptoBulkAll r
def uptoBulkEntries {H : Type} : List (Lit × DataW H) → Nat
  | [] => 0
  | x :: r => uptoBulkEntry x + uptoBulkEntries r
def uptoBulkEntry {H : Type} : Lit × DataW H → Nat
  | (.string bytes, d) => bytes.length + uptoBulk d + 1
  | (_, d) => uptoBulk d + 1
 end
def uptoSmall : (H : Type) → List (DataW H) → Bool := fun _ ds => decide (uptoBulkAll ds ≤ 1048576)
def OpenSpec.upto (s : _root_.Go.ChangeSpec) : _root_.Go.OpenSpec := { _root_.Go.OpenSpec.ofChange s with cond := some uptoSmall }

/-- 'parterrelaw22.BaseStarts', WHERE WHAT IT READS IS OF BULK AT MOST 1048576: true; the input reads as it did. -/
def baseStartsUptoRow : OpenClaim := { program := "ytmgmidipijpkdaa", sum := "81c3ae030e8d60d9ceaafa3ba41696ca23fd7b84a718cd895cf314de4aeeffb6", func := "parterre/parterrelaw22.BaseStarts", spec := "baseStarts", unfollowed := true, recurses := true, named := ["math/bits.divideError", "math/bits.overflowError"], apart := false, narrowed := true }
def BaseStartsUptoSaid : Prop := baseStartsUptoRow.holds Try.pinned (OpenSpec.upto baseStartsSpec)

/-- 'parterrelaw22.BaseGood', WHERE WHAT IT READS IS OF BULK AT MOST 1048576: true; the input reads as it did. -/
def baseGoodUptoRow : OpenClaim := { program := "ytmgmidipijpkdaa", sum := "81c3ae030e8d60d9ceaafa3ba41696ca23fd7b84a718cd895cf314de4aeeffb6", func := "parterre/parterrelaw22.BaseGood", spec := "baseGood", unfollowed := true, recurses := true, named := ["math/bits.divideError", "math/bits.overflowError"], apart := false, narrowed := true }
def BaseGoodUptoSaid : Prop := baseGoodUptoRow.holds Try.pinned (OpenSpec.upto baseGoodSpec)

/-- 'parterrelaw22.BaseAll', WHERE WHAT IT READS IS OF BULK AT MOST 1048576: true; the input reads as it did. -/
def baseAllUptoRow : OpenClaim := { program := "ytmgmidipijpkdaa", sum := "81c3ae030e8d60d9ceaafa3ba41696ca23fd7b84a718cd895cf314de4aeeffb6", func := "parterre/parterrelaw22.BaseAll", spec := "baseAll", unfollowed := true, recurses := true, named := ["math/bits.divideError", "math/bits.overflowError"], apart := false, narrowed := true }
def BaseAllUptoSaid : Prop := baseAllUptoRow.holds Try.pinned (OpenSpec.upto baseAllSpec)

end Rows
end Go.Proofs.Ytmgmidipijpkdaa
