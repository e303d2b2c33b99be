/- The trees that are written down are what the runner makes of the program's code (5 of 5). No condition. -/
import Derived.Test.YtbebnjiolaomdaaT
import Derived.Test.YtbebnjiolaomdaaProg
set_option maxRecDepth 100000
set_option linter.unusedVariables false
namespace Go.Proofs.Ytbebnjiolaomdaa.T
open Go Go.Proofs.Ytbebnjiolaomdaa.Sx Go.Proofs
def o_ref24_limited : List (Nat × List (Nat × Df)) := [(1072276277207949422, [(1444865316421695143, ⟨11, 1, [([10, 9], [(10, (.ex (.int .i64) (v 9))), (9, (.ex (.int .i64) (v 10)))])], [], []⟩)]),
  (1409797577276282809, [(2271035150954700795, ⟨12, 1, [([9], [(9, (.ex (.int .i64) (v 11)))])], [], []⟩)])]
theorem ok_ref24_limited : ∃ orc, (treeOf Try.prog sg (ofOrc orc) (sxDrawn Try.prog sg) 6 25 ⟨[.leaf (.row [.int .i64, .int .i64, .int .i64, .bool, .int .i64, .int .i64, .int .i64]), .leaf (.row [.int .i64]), .agg [.int .i64, .int .i64, .int .i64, .int .i64, .int .i64], .leaf (.int .i64)], [.leaf (.int .i64)]⟩).same ref24_limited = true := ⟨orcOf o_ref24_limited, by kernel_rfl⟩
def o_ref22_Good : List (Nat × List (Nat × Df)) := []
theorem ok_ref22_Good : ∃ orc, (treeOf Try.prog sg (ofOrc orc) (sxDrawn Try.prog sg) 6 30 ⟨[.agg [.int .i64, .int .i64, .int .i64, .bool, .int .i64, .int .i64, .int .i64]], [.leaf (.bool)]⟩).same ref22_Good = true := ⟨orcOf o_ref22_Good, by kernel_rfl⟩
def o_ref24_within : List (Nat × List (Nat × Df)) := []
theorem ok_ref24_within : ∃ orc, (treeOf Try.prog sg (ofOrc orc) (sxDrawn Try.prog sg) 6 24 ⟨[.leaf (.int .i64)], [.leaf (.bool)]⟩).same ref24_within = true := ⟨orcOf o_ref24_within, by kernel_rfl⟩
def o_ref24_Good : List (Nat × List (Nat × Df)) := [(1703077686304976623, [(19280871185620224, ⟨6, 0, [([10], [(10, (.ex (.int .i64) (v 5)))])], [], []⟩)]),
  (566005827167449424, [(1597053997389968476, ⟨7, 1, [([], [(94, (.ex (.bool) (v 6)))])], [0], []⟩)]),
  (1534316536280809964, [(1645502658164701082, ⟨5, 0, [([9], [(9, (.ex (.int .i64) (v 4)))])], [], []⟩)]),
  (1703077686303976620, [(571476833031146786, ⟨6, 0, [([], [(49, (.ex (.bool) (v 5)))])], [], []⟩)])]
theorem ok_ref24_Good : ∃ orc, (treeOf Try.prog sg (ofOrc orc) (sxDrawn Try.prog sg) 6 14 ⟨[.leaf (.row [.int .i64, .int .i64, .int .i64, .bool, .int .i64, .int .i64, .int .i64]), .leaf (.row [.int .i64]), .leaf (.row [.int .i64, .int .i64, .int .i64, .int .i64, .int .i64]), .leaf (.int .i64)], [.leaf (.bool)]⟩).same ref24_Good = true := ⟨orcOf o_ref24_Good, by kernel_rfl⟩
def o_ref24_Limited : List (Nat × List (Nat × Df)) := [(903516127167782706, [(1937344537041180036, ⟨9, 2, [([], [(19, (.ex (.bool) (v 8)))])], [], []⟩)])]
theorem ok_ref24_Limited : ∃ orc, (treeOf Try.prog sg (ofOrc orc) (sxDrawn Try.prog sg) 6 12 ⟨[.leaf (.row [.int .i64, .int .i64, .int .i64, .bool, .int .i64, .int .i64, .int .i64]), .leaf (.row [.int .i64]), .agg [.int .i64, .int .i64, .int .i64, .int .i64, .int .i64], .leaf (.int .i64)], [.leaf (.int .i64)]⟩).same ref24_Limited = true := ⟨orcOf o_ref24_Limited, by kernel_rfl⟩
def o_law24_IntrinsicTells : List (Nat × List (Nat × Df)) := [(1871830836301143270, [(945134614340562434, ⟨7, 0, [([21], [(21, (.ex (.int .i64) (v 6)))])], [], []⟩)])]
theorem ok_law24_IntrinsicTells : ∃ orc, (treeOf Try.prog sg (ofOrc orc) (sxDrawn Try.prog sg) 6 6 ⟨[.leaf (.row [.int .i64, .int .i64, .int .i64, .bool, .int .i64, .int .i64, .int .i64]), .leaf (.row [.int .i64]), .leaf (.row [.int .i64, .int .i64, .int .i64, .int .i64, .int .i64]), .leaf (.int .i64), .leaf (.int .i64)], [.leaf (.bool)]⟩).same law24_IntrinsicTells = true := ⟨orcOf o_law24_IntrinsicTells, by kernel_rfl⟩
end Go.Proofs.Ytbebnjiolaomdaa.T
