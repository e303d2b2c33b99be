/-
  No cell of these rows narrows 'for every input' (looked for: loops, veiled, ifaces, maps, wideKeys, modest, calm, conditions, laid).
  DERIVED. THE GIVEN ROWS OF THIS SEAT. 5 by the template 'for every input the law returns true; each argument reads behind the call as it read before'; 0 by the template 'total and deterministic' (their statements: YtckjdlmfibjpaaaGreatTotals.lean).
  GIVEN WITH THE SEED: the statements are not yours to turn. If you find one false, say at which input.
  Laid BY PROGRAM, IN A SANDBOX (cutbox-rows.mjs): the forced cells as the released guide's own fill.sh prints them over the translation 15ae2bb1892f8216… (all of the seat's roots in one cut). By AI agents, Wed Nov 11 2026. No macro, syntax, notation, axiom, sorry.
-/
import Derived.Test.YtckjdlmfibjpaaaGreatChecked
import GoSem.Claim
import GoSem.ClaimJoined
import GoSem.ClaimMapViews
import Derived.JoinedTies
import Derived.KernelRfl
namespace Go.Proofs.YtckjdlmfibjpaaaGreat
/- THE CELL 'sum', in the pinned program and in every row, IS THE sha256 OF THE DUMP (.gsa) THAT YtckjdlmfibjpaaaGreatProg.lean LOADS. Nothing in Lean hashes anything: it is a label: what it is worth is what the hold of that sum in a sandbox is worth. -/
noncomputable def Tryz.pinned : Pinned := { name := "ytckjdlmfibjpaaagreat", sum := "15ae2bb1892f82168def29e55569c6bc90fbb08623689269fa7c92d1632e0abd", checked := Tryz.checked }
namespace Rows
def none {H : Type} : Left H := { results := [], args := [] }

/-- 'parterrelaw27.TracksSizes': WHATEVER THE INPUT: true; the input reads as it did. -/
def tracksSizesSpec : ChangeSpec := { name := "tracksSizes", fn := fun _ => fun
  | [d1, d2, d3, d4, d5] => { results := [.lit (.bool true)], args := [d1, d2, d3, d4, d5] }
  | _ => none }
def tracksSizesRow : OpenClaim := { program := "ytckjdlmfibjpaaagreat", sum := "15ae2bb1892f82168def29e55569c6bc90fbb08623689269fa7c92d1632e0abd", func := "parterre/parterrelaw27.TracksSizes", spec := "tracksSizes", unfollowed := true, recurses := true, named := ["math/bits.divideError", "math/bits.overflowError"], apart := false }
def TracksSizesSaid : Prop := tracksSizesRow.holds Tryz.pinned (OpenSpec.ofChange tracksSizesSpec)

/-- ITS FALSE NEIGHBOUR: 'it returns false'. Refute it at one input. -/
def tracksSizesWrong : ChangeSpec := { name := "tracksSizes", fn := fun _ => fun
  | [d1, d2, d3, d4, d5] => { results := [.lit (.bool false)], args := [d1, d2, d3, d4, d5] }
  | _ => none }
def TracksSizesWrongFalsely : Prop := tracksSizesRow.holds Tryz.pinned (OpenSpec.ofChange tracksSizesWrong)

/-- 'parterrelaw27.TracksSums': WHATEVER THE INPUT: true; the input reads as it did. -/
def tracksSumsSpec : ChangeSpec := { name := "tracksSums", fn := fun _ => fun
  | [d1, d2] => { results := [.lit (.bool true)], args := [d1, d2] }
  | _ => none }
def tracksSumsRow : OpenClaim := { program := "ytckjdlmfibjpaaagreat", sum := "15ae2bb1892f82168def29e55569c6bc90fbb08623689269fa7c92d1632e0abd", func := "parterre/parterrelaw27.TracksSums", spec := "tracksSums", unfollowed := true, recurses := true, named := ["math/bits.divideError", "math/bits.overflowError"], apart := false }
def TracksSumsSaid : Prop := tracksSumsRow.holds Tryz.pinned (OpenSpec.ofChange tracksSumsSpec)

/-- ITS FALSE NEIGHBOUR: 'it returns false'. Refute it at one input. -/
def tracksSumsWrong : ChangeSpec := { name := "tracksSums", fn := fun _ => fun
  | [d1, d2] => { results := [.lit (.bool false)], args := [d1, d2] }
  | _ => none }
def TracksSumsWrongFalsely : Prop := tracksSumsRow.holds Tryz.pinned (OpenSpec.ofChange tracksSumsWrong)

/-- 'parterrelaw27.TracksFixed': WHATEVER THE INPUT: true; the input reads as it did. -/
def tracksFixedSpec : ChangeSpec := { name := "tracksFixed", fn := fun _ => fun
  | [d1, d2, d3, d4, d5] => { results := [.lit (.bool true)], args := [d1, d2, d3, d4, d5] }
  | _ => none }
def tracksFixedRow : OpenClaim := { program := "ytckjdlmfibjpaaagreat", sum := "15ae2bb1892f82168def29e55569c6bc90fbb08623689269fa7c92d1632e0abd", func := "parterre/parterrelaw27.TracksFixed", spec := "tracksFixed", unfollowed := true, recurses := true, named := ["math/bits.divideError", "math/bits.overflowError"], apart := false }
def TracksFixedSaid : Prop := tracksFixedRow.holds Tryz.pinned (OpenSpec.ofChange tracksFixedSpec)

/-- ITS FALSE NEIGHBOUR: 'it returns false'. Refute it at one input. -/
def tracksFixedWrong : ChangeSpec := { name := "tracksFixed", fn := fun _ => fun
  | [d1, d2, d3, d4, d5] => { results := [.lit (.bool false)], args := [d1, d2, d3, d4, d5] }
  | _ => none }
def TracksFixedWrongFalsely : Prop := tracksFixedRow.holds Tryz.pinned (OpenSpec.ofChange tracksFixedWrong)

/-- 'parterrelaw27.TracksFull': WHATEVER THE INPUT: true; the input reads as it did. -/
def tracksFullSpec : ChangeSpec := { name := "tracksFull", fn := fun _ => fun
  | [d1, d2, d3, d4] => { results := [.lit (.bool true)], args := [d1, d2, d3, d4] }
  | _ => none }
def tracksFullRow : OpenClaim := { program := "ytckjdlmfibjpaaagreat", sum := "15ae2bb1892f82168def29e55569c6bc90fbb08623689269fa7c92d1632e0abd", func := "parterre/parterrelaw27.TracksFull", spec := "tracksFull", unfollowed := true, recurses := true, named := ["math/bits.divideError", "math/bits.overflowError"], apart := false }
def TracksFullSaid : Prop := tracksFullRow.holds Tryz.pinned (OpenSpec.ofChange tracksFullSpec)

/-- ITS FALSE NEIGHBOUR: 'it returns false'. Refute it at one input. -/
def tracksFullWrong : ChangeSpec := { name := "tracksFull", fn := fun _ => fun
  | [d1, d2, d3, d4] => { results := [.lit (.bool false)], args := [d1, d2, d3, d4] }
  | _ => none }
def TracksFullWrongFalsely : Prop := tracksFullRow.holds Tryz.pinned (OpenSpec.ofChange tracksFullWrong)

/-- 'parterrelaw27.TracksEnough': WHATEVER THE INPUT: true; the input reads as it did. -/
def tracksEnoughSpec : ChangeSpec := { name := "tracksEnough", fn := fun _ => fun
  | [d1, d2, d3, d4, d5] => { results := [.lit (.bool true)], args := [d1, d2, d3, d4, d5] }
  | _ => none }
def tracksEnoughRow : OpenClaim := { program := "ytckjdlmfibjpaaagreat", sum := "15ae2bb1892f82168def29e55569c6bc90fbb08623689269fa7c92d1632e0abd", func := "parterre/parterrelaw27.TracksEnough", spec := "tracksEnough", unfollowed := true, recurses := true, named := ["math/bits.divideError", "math/bits.overflowError"], apart := false }
def TracksEnoughSaid : Prop := tracksEnoughRow.holds Tryz.pinned (OpenSpec.ofChange tracksEnoughSpec)

/-- ITS FALSE NEIGHBOUR: 'it returns false'. Refute it at one input. -/
def tracksEnoughWrong : ChangeSpec := { name := "tracksEnough", fn := fun _ => fun
  | [d1, d2, d3, d4, d5] => { results := [.lit (.bool false)], args := [d1, d2, d3, d4, d5] }
  | _ => none }
def TracksEnoughWrongFalsely : Prop := tracksEnoughRow.holds Tryz.pinned (OpenSpec.ofChange tracksEnoughWrong)

/- THE SECOND FORM. 'bulk': how many values and letters a reading holds, each counted each time it is reached (what is shared counts as often as it is met; a slice's spare places count too). A statement '..UptoSaid' is the law's where the arguments, and the package variables that the reading takes, are together of bulk at most 1048576: NARROWER than '..Said'. Prove '..Said' where nothing that the law and all that it calls make is longer than what came in: it says more and counts as full. Else prove '..UptoSaid'. A law counts once. -/
mutual
def uptoBulk {H : Type} : DataW H → Nat
  | .lit (.string bytes) => bytes.length + 1
  | .lit _ => 1
  | .nil => 1
  | .ptr d => uptoBulk d + 1
  | .slice elems spare => uptoBulkAll elems + uptoBulkAll spare + 1
  | .agg parts => uptoBulkAll parts + 1
  | .iface _ d => uptoBulk d + 1
  | .map entries => uptoBulkEntries entries + 1
  | .held _ => 1
def uptoBulkAll {H : Type} : List (DataW H) → Nat
  | [] => 0
  | d :: r => uptoBulk d + uptoBulkAll r
def uptoBulkEntries {H : Type} : List (Lit × DataW H) → Nat
  | [] => 0
  | x :: r => uptoBulkEntry x + uptoBulkEntries r
def uptoBulkEntry {H : Type} : Lit × DataW H → Nat
  | (.string bytes, d) => bytes.length + uptoBulk d + 1
  | (_, d) => uptoBulk d + 1
 end
def uptoSmall : (H : Type) → List (DataW H) → Bool := fun _ ds => decide (uptoBulkAll ds ≤ 1048576)
def OpenSpec.upto (s : _root_.Go.ChangeSpec) : _root_.Go.OpenSpec := { _root_.Go.OpenSpec.ofChange s with cond := some uptoSmall }

/-- 'parterrelaw27.TracksSizes', WHERE WHAT IT READS IS OF BULK AT MOST 1048576: true; the input reads as it did. -/
def tracksSizesUptoRow : OpenClaim := { program := "ytckjdlmfibjpaaagreat", sum := "15ae2bb1892f82168def29e55569c6bc90fbb08623689269fa7c92d1632e0abd", func := "parterre/parterrelaw27.TracksSizes", spec := "tracksSizes", unfollowed := true, recurses := true, named := ["math/bits.divideError", "math/bits.overflowError"], apart := false, narrowed := true }
def TracksSizesUptoSaid : Prop := tracksSizesUptoRow.holds Tryz.pinned (OpenSpec.upto tracksSizesSpec)

/-- 'parterrelaw27.TracksSums', WHERE WHAT IT READS IS OF BULK AT MOST 1048576: true; the input reads as it did. -/
def tracksSumsUptoRow : OpenClaim := { program := "ytckjdlmfibjpaaagreat", sum := "15ae2bb1892f82168def29e55569c6bc90fbb08623689269fa7c92d1632e0abd", func := "parterre/parterrelaw27.TracksSums", spec := "tracksSums", unfollowed := true, recurses := true, named := ["math/bits.divideError", "math/bits.overflowError"], apart := false, narrowed := true }
def TracksSumsUptoSaid : Prop := tracksSumsUptoRow.holds Tryz.pinned (OpenSpec.upto tracksSumsSpec)

/-- 'parterrelaw27.TracksFixed', WHERE WHAT IT READS IS OF BULK AT MOST 1048576: true; the input reads as it did. -/
def tracksFixedUptoRow : OpenClaim := { program := "ytckjdlmfibjpaaagreat", sum := "15ae2bb1892f82168def29e55569c6bc90fbb08623689269fa7c92d1632e0abd", func := "parterre/parterrelaw27.TracksFixed", spec := "tracksFixed", unfollowed := true, recurses := true, named := ["math/bits.divideError", "math/bits.overflowError"], apart := false, narrowed := true }
def TracksFixedUptoSaid : Prop := tracksFixedUptoRow.holds Tryz.pinned (OpenSpec.upto tracksFixedSpec)

/-- 'parterrelaw27.TracksFull', WHERE WHAT IT READS IS OF BULK AT MOST 1048576: true; the input reads as it did. -/
def tracksFullUptoRow : OpenClaim := { program := "ytckjdlmfibjpaaagreat", sum := "15ae2bb1892f82168def29e55569c6bc90fbb08623689269fa7c92d1632e0abd", func := "parterre/parterrelaw27.TracksFull", spec := "tracksFull", unfollowed := true, recurses := true, named := ["math/bits.divideError", "math/bits.overflowError"], apart := false, narrowed := true }
def TracksFullUptoSaid : Prop := tracksFullUptoRow.holds Tryz.pinned (OpenSpec.upto tracksFullSpec)

/-- 'parterrelaw27.TracksEnough', WHERE WHAT IT READS IS OF BULK AT MOST 1048576: true; the input reads as it did. -/
def tracksEnoughUptoRow : OpenClaim := { program := "ytckjdlmfibjpaaagreat", sum := "15ae2bb1892f82168def29e55569c6bc90fbb08623689269fa7c92d1632e0abd", func := "parterre/parterrelaw27.TracksEnough", spec := "tracksEnough", unfollowed := true, recurses := true, named := ["math/bits.divideError", "math/bits.overflowError"], apart := false, narrowed := true }
def TracksEnoughUptoSaid : Prop := tracksEnoughUptoRow.holds Tryz.pinned (OpenSpec.upto tracksEnoughSpec)

end Rows
end Go.Proofs.YtckjdlmfibjpaaaGreat
