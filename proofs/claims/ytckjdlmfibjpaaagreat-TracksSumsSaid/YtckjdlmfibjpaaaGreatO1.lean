/- The trees that are written down are what the runner makes of the program's code (1 of 7). No condition. -/
import Derived.Test.YtckjdlmfibjpaaaGreatT
import Derived.Test.YtckjdlmfibjpaaaGreatProg
set_option maxRecDepth 100000
set_option linter.unusedVariables false
namespace Go.Proofs.YtckjdlmfibjpaaaGreat.T
open Go Go.Proofs.YtckjdlmfibjpaaaGreat.Sx Go.Proofs
def o_law27_px : List (Nat × List (Nat × Df)) := []
theorem ok_law27_px : ∃ orc, (treeOf Tryz.prog sg (ofOrc orc) (sxDrawn Tryz.prog sg) 6 15 ⟨[.leaf (.int .i64)], [.agg [.int .i64, .int .i64]]⟩).same law27_px = true := ⟨orcOf o_law27_px, by kernel_rfl⟩
def o_track_auto : List (Nat × List (Nat × Df)) := []
theorem ok_track_auto : ∃ orc, (treeOf Tryz.prog sg (ofOrc orc) (sxDrawn Tryz.prog sg) 6 146 ⟨[], [.agg [.int .i64, .int .i64]]⟩).same track_auto = true := ⟨orcOf o_track_auto, by kernel_rfl⟩
def o_track_fit : List (Nat × List (Nat × Df)) := []
theorem ok_track_fit : ∃ orc, (treeOf Tryz.prog sg (ofOrc orc) (sxDrawn Tryz.prog sg) 6 87 ⟨[.agg [.int .i64, .int .i64]], [.agg [.int .i64, .int .i64, .int .i64, .int .i64, .bool, .int .i64, .int .i64]]⟩).same track_fit = true := ⟨orcOf o_track_fit, by kernel_rfl⟩
def o_track_isLen : List (Nat × List (Nat × Df)) := []
theorem ok_track_isLen : ∃ orc, (treeOf Tryz.prog sg (ofOrc orc) (sxDrawn Tryz.prog sg) 6 88 ⟨[.agg [.int .i64, .int .i64]], [.leaf (.bool)]⟩).same track_isLen = true := ⟨orcOf o_track_isLen, by kernel_rfl⟩
def o_value_keyBit : List (Nat × List (Nat × Df)) := [(1479842069011797731, [(899577586985117154, ⟨2, 0, [([], [(6, (.ex (.bool) (v 1)))])], [], []⟩)])]
theorem ok_value_keyBit : ∃ orc, (treeOf Tryz.prog sg (ofOrc orc) (sxDrawn Tryz.prog sg) 6 148 ⟨[.leaf (.int .i64)], [.leaf (.int .i64)]⟩).same value_keyBit = true := ⟨orcOf o_value_keyBit, by kernel_rfl⟩
def o_value_Good : List (Nat × List (Nat × Df)) := [(267073154615031130, [(339819854088062088, ⟨4, 2, [([], [(4, (.ex (.bool) (v 3)))]), ([], [])], [], []⟩)]),
  (1617173652560490624, [(1394890538122051667, ⟨4, 2, [([], [(4, (.ex (.bool) (v 3)))]), ([19], [])], [], []⟩)])]
theorem ok_value_Good : ∃ orc, (treeOf Tryz.prog sg (ofOrc orc) (sxDrawn Tryz.prog sg) 6 89 ⟨[.agg [.int .i64, .int .i64], .leaf (.int .i64)], [.leaf (.bool)]⟩).same value_Good = true := ⟨orcOf o_value_Good, by kernel_rfl⟩
def o_track_Right : List (Nat × List (Nat × Df)) := []
theorem ok_track_Right : ∃ orc, (treeOf Tryz.prog sg (ofOrc orc) (sxDrawn Tryz.prog sg) 6 35 ⟨[.agg [.int .i64, .int .i64, .int .i64, .int .i64, .bool, .int .i64, .int .i64]], [.leaf (.bool)]⟩).same track_Right = true := ⟨orcOf o_track_Right, by kernel_rfl⟩
def o_fixed_Is : List (Nat × List (Nat × Df)) := []
theorem ok_fixed_Is : ∃ orc, (treeOf Tryz.prog sg (ofOrc orc) (sxDrawn Tryz.prog sg) 6 34 ⟨[.leaf (.int .i64)], [.leaf (.bool)]⟩).same fixed_Is = true := ⟨orcOf o_fixed_Is, by kernel_rfl⟩
def o_implicit_within : List (Nat × List (Nat × Df)) := []
theorem ok_implicit_within : ∃ orc, (treeOf Tryz.prog sg (ofOrc orc) (sxDrawn Tryz.prog sg) 6 36 ⟨[.leaf (.int .i64)], [.leaf (.bool)]⟩).same implicit_within = true := ⟨orcOf o_implicit_within, by kernel_rfl⟩
def o_implicit_Good : List (Nat × List (Nat × Df)) := [(318480558353360905, [(1051329337835354448, ⟨5, 1, [([39], [(39, (.ex (.int .i64) (v 4)))])], [], []⟩)]),
  (723537974454512460, [(1201424335485788689, ⟨6, 2, [([], [(75, (.ex (.bool) (v 5)))])], [1], []⟩)])]
theorem ok_implicit_Good : ∃ orc, (treeOf Tryz.prog sg (ofOrc orc) (sxDrawn Tryz.prog sg) 6 16 ⟨[.agg [.int .i64, .row [.int .i64, .int .i64, .int .i64, .int .i64, .bool, .int .i64, .int .i64], .row [.bool], .row [.int .i64]]], [.leaf (.bool)]⟩).same implicit_Good = true := ⟨orcOf o_implicit_Good, by kernel_rfl⟩
def o_fixed_size : List (Nat × List (Nat × Df)) := []
theorem ok_fixed_size : ∃ orc, (treeOf Tryz.prog sg (ofOrc orc) (sxDrawn Tryz.prog sg) 6 121 ⟨[.leaf (.int .i64)], [.leaf (.int .u64)]⟩).same fixed_size = true := ⟨orcOf o_fixed_size, by kernel_rfl⟩
def o_math_bits_Mul64 : List (Nat × List (Nat × Df)) := []
theorem ok_math_bits_Mul64 : ∃ orc, (treeOf Tryz.prog sg (ofOrc orc) (sxDrawn Tryz.prog sg) 6 120 ⟨[.leaf (.int .u64), .leaf (.int .u64)], [.leaf (.int .u64), .leaf (.int .u64)]⟩).same math_bits_Mul64 = true := ⟨orcOf o_math_bits_Mul64, by kernel_rfl⟩
end Go.Proofs.YtckjdlmfibjpaaaGreat.T
