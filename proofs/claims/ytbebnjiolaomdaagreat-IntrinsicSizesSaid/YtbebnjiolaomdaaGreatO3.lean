/- The trees that are written down are what the runner makes of the program's code (3 of 4). No condition. -/
import Derived.Test.YtbebnjiolaomdaaGreatT
import Derived.Test.YtbebnjiolaomdaaGreatProg
set_option maxRecDepth 100000
set_option linter.unusedVariables false
namespace Go.Proofs.YtbebnjiolaomdaaGreat.T
open Go Go.Proofs.YtbebnjiolaomdaaGreat.Sx Go.Proofs
def o_ref22_Good : List (Nat × List (Nat × Df)) := []
theorem ok_ref22_Good : ∃ orc, (treeOf Tryz.prog sg (ofOrc orc) (sxDrawn Tryz.prog sg) 6 46 ⟨[.agg [.int .i64, .int .i64, .int .i64, .bool, .int .i64, .int .i64, .int .i64]], [.leaf (.bool)]⟩).same ref22_Good = true := ⟨orcOf o_ref22_Good, by kernel_rfl⟩
def o_ref24_within : List (Nat × List (Nat × Df)) := []
theorem ok_ref24_within : ∃ orc, (treeOf Tryz.prog sg (ofOrc orc) (sxDrawn Tryz.prog sg) 6 47 ⟨[.leaf (.int .i64)], [.leaf (.bool)]⟩).same ref24_within = true := ⟨orcOf o_ref24_within, by kernel_rfl⟩
def o_ref24_Good : List (Nat × List (Nat × Df)) := [(702311946747737219, [(144064294123218316, ⟨6, 0, [([10], [(10, (.ex (.int .i64) (v 5)))])], [], []⟩)]),
 (1107325149994250608, [(1040907196226850213, ⟨7, 1, [([], [(94, (.ex (.bool) (v 6)))])], [0], []⟩)]),
 (82256980376439655, [(1019298347638430001, ⟨5, 0, [([9], [(9, (.ex (.int .i64) (v 4)))])], [], []⟩)]),
 (702348790793269024, [(623749244114821754, ⟨6, 0, [([], [(49, (.ex (.bool) (v 5)))])], [], []⟩)])]
theorem ok_ref24_Good : ∃ orc, (treeOf Tryz.prog sg (ofOrc orc) (sxDrawn Tryz.prog sg) 6 17 ⟨[.leaf (.row [.int .i64, .int .i64, .int .i64, .bool, .int .i64, .int .i64, .int .i64]), .leaf (.row [.int .i64]), .leaf (.row [.int .i64, .int .i64, .int .i64, .int .i64, .int .i64]), .leaf (.int .i64)], [.leaf (.bool)]⟩).same ref24_Good = true := ⟨orcOf o_ref24_Good, by kernel_rfl⟩
def o_ref24_gaps : List (Nat × List (Nat × Df)) := [(1205981948140159849, [(2163345005267365847, ⟨8, 1, [([6, 5], [(6, (.ex (.int .i64) (v 6))), (5, (.ex (.int .i64) (v 7)))])], [], []⟩)])]
theorem ok_ref24_gaps : ∃ orc, (treeOf Tryz.prog sg (ofOrc orc) (sxDrawn Tryz.prog sg) 6 89 ⟨[.leaf (.row [.int .i64]), .agg [.int .i64, .int .i64, .int .i64, .int .i64, .int .i64]], [.leaf (.int .i64)]⟩).same ref24_gaps = true := ⟨orcOf o_ref24_gaps, by kernel_rfl⟩
def o_ref24_fits : List (Nat × List (Nat × Df)) := []
theorem ok_ref24_fits : ∃ orc, (treeOf Tryz.prog sg (ofOrc orc) (sxDrawn Tryz.prog sg) 6 50 ⟨[.agg [.int .i64, .int .i64, .int .i64, .bool, .int .i64, .int .i64, .int .i64]], [.leaf (.int .i64)]⟩).same ref24_fits = true := ⟨orcOf o_ref24_fits, by kernel_rfl⟩
def o_ref24_limited : List (Nat × List (Nat × Df)) := [(1712262398239659934, [(2167928402520584811, ⟨11, 1, [([10, 9], [(10, (.ex (.int .i64) (v 9))), (9, (.ex (.int .i64) (v 10)))])], [], []⟩)]),
 (195256611857749325, [(578459866620654729, ⟨12, 1, [([9], [(9, (.ex (.int .i64) (v 11)))])], [], []⟩)])]
theorem ok_ref24_limited : ∃ orc, (treeOf Tryz.prog sg (ofOrc orc) (sxDrawn Tryz.prog sg) 6 88 ⟨[.leaf (.row [.int .i64, .int .i64, .int .i64, .bool, .int .i64, .int .i64, .int .i64]), .leaf (.row [.int .i64]), .agg [.int .i64, .int .i64, .int .i64, .int .i64, .int .i64], .leaf (.int .i64)], [.leaf (.int .i64)]⟩).same ref24_limited = true := ⟨orcOf o_ref24_limited, by kernel_rfl⟩
def o_ref24_wanted : List (Nat × List (Nat × Df)) := []
theorem ok_ref24_wanted : ∃ orc, (treeOf Tryz.prog sg (ofOrc orc) (sxDrawn Tryz.prog sg) 6 48 ⟨[.leaf (.row [.int .i64, .int .i64, .int .i64, .bool, .int .i64, .int .i64, .int .i64]), .leaf (.row [.int .i64]), .agg [.int .i64, .int .i64, .int .i64, .int .i64, .int .i64], .leaf (.int .i64), .leaf (.int .i64)], [.leaf (.int .i64)]⟩).same ref24_wanted = true := ⟨orcOf o_ref24_wanted, by kernel_rfl⟩
def o_ref22_Raise : List (Nat × List (Nat × Df)) := []
theorem ok_ref22_Raise : ∃ orc, (treeOf Tryz.prog sg (ofOrc orc) (sxDrawn Tryz.prog sg) 6 49 ⟨[.agg [.int .i64, .int .i64, .int .i64, .bool, .int .i64, .int .i64, .int .i64]], [.agg [.int .i64, .int .i64, .int .i64, .bool, .int .i64, .int .i64, .int .i64]]⟩).same ref22_Raise = true := ⟨orcOf o_ref22_Raise, by kernel_rfl⟩
def o_ref24_one : List (Nat × List (Nat × Df)) := [(714007487330528388, [(2086019509667483662, ⟨11, 2, [([], [])], [1], [(1, (.box [(.ex (.int .i64) (at_ 0 (v 0) (v 4))), (.ex (.int .i64) (at_ 1 (v 0) (v 4))), (.ex (.int .i64) (at_ 2 (v 0) (v 4))), (.ex (.bool) (.bin (.cell 3 (.bool)) (v 0) (v 4))), (.ex (.int .i64) (at_ 4 (v 0) (v 4))), (.ex (.int .i64) (v 10)), (.ex (.int .i64) (at_ 6 (v 0) (v 4)))]))]⟩)]),
 (882738162127269639, [(102352740527573238, ⟨12, 2, [([], [])], [1], [(1, (.box [(.ex (.int .i64) (at_ 0 (v 0) (v 4))), (.ex (.int .i64) (at_ 1 (v 0) (v 4))), (.ex (.int .i64) (at_ 2 (v 0) (v 4))), (.ex (.bool) (.bin (.cell 3 (.bool)) (v 0) (v 4))), (.ex (.int .i64) (at_ 4 (v 0) (v 4))), (.ex (.int .i64) (v 10)), (.ex (.int .i64) (v 11))]))]⟩)]),
 (1334062453701825952, [(2090630591598089827, ⟨12, 2, [([], [(90, (.ex (.bool) (v 11)))])], [], []⟩)]),
 (1273474851320339848, [(119553479269599527, ⟨10, 2, [([16, 15, 14, 13, 12], [(16, (.ex (.int .i64) (v 5))), (15, (.ex (.bool) (v 6))), (14, (.ex (.int .i64) (v 7))), (13, (.ex (.int .i64) (v 8))), (12, (.ex (.int .i64) (v 9)))])], [], []⟩)]),
 (262764252656142046, [(474387809932056201, ⟨14, 3, [([15, 14, 13, 12], [(14, (.ex (.int .i64) (v 11))), (13, (.ex (.int .i64) (v 12))), (12, (.ex (.int .i64) (v 10))), (15, (.ex (.bool) (v 13)))])], [], []⟩)])]
theorem ok_ref24_one : ∃ orc, (treeOf Tryz.prog sg (ofOrc orc) (sxDrawn Tryz.prog sg) 6 18 ⟨[.leaf (.row [.int .i64, .int .i64, .int .i64, .bool, .int .i64, .int .i64, .int .i64]), .leaf (.row [.int .i64]), .leaf (.row [.int .i64, .int .i64, .int .i64, .int .i64, .int .i64]), .leaf (.int .i64), .leaf (.int .i64)], [.agg [.int .i64, .int .i64, .int .i64, .bool, .int .i64, .int .i64, .int .i64]]⟩).same ref24_one = true := ⟨orcOf o_ref24_one, by kernel_rfl⟩
def o_ref24_flexible : List (Nat × List (Nat × Df)) := [(1205967210521947127, [(947054204696261205, ⟨7, 1, [([5], [(5, (.ex (.int .i64) (v 6)))])], [], []⟩)])]
theorem ok_ref24_flexible : ∃ orc, (treeOf Tryz.prog sg (ofOrc orc) (sxDrawn Tryz.prog sg) 6 19 ⟨[.leaf (.row [.int .i64, .int .i64, .int .i64, .bool, .int .i64, .int .i64, .int .i64]), .agg [.int .i64, .int .i64, .int .i64, .int .i64, .int .i64]], [.leaf (.bool)]⟩).same ref24_flexible = true := ⟨orcOf o_ref24_flexible, by kernel_rfl⟩
def o_ref24_size : List (Nat × List (Nat × Df)) := []
theorem ok_ref24_size : ∃ orc, (treeOf Tryz.prog sg (ofOrc orc) (sxDrawn Tryz.prog sg) 6 53 ⟨[.agg [.int .i64, .int .i64, .int .i64, .bool, .int .i64, .int .i64, .int .i64], .leaf (.int .i64)], [.leaf (.int .i64)]⟩).same ref24_size = true := ⟨orcOf o_ref24_size, by kernel_rfl⟩
def o_ref24_of : List (Nat × List (Nat × Df)) := []
theorem ok_ref24_of : ∃ orc, (treeOf Tryz.prog sg (ofOrc orc) (sxDrawn Tryz.prog sg) 6 52 ⟨[.agg [.int .i64, .int .i64, .int .i64, .bool, .int .i64, .int .i64, .int .i64], .leaf (.int .i64), .leaf (.int .i64)], [.leaf (.bool)]⟩).same ref24_of = true := ⟨orcOf o_ref24_of, by kernel_rfl⟩
def o_ref24_room : List (Nat × List (Nat × Df)) := []
theorem ok_ref24_room : ∃ orc, (treeOf Tryz.prog sg (ofOrc orc) (sxDrawn Tryz.prog sg) 6 90 ⟨[.agg [.int .i64, .int .i64, .int .i64, .bool, .int .i64, .int .i64, .int .i64], .leaf (.int .i64), .leaf (.bool)], [.leaf (.int .i64)]⟩).same ref24_room = true := ⟨orcOf o_ref24_room, by kernel_rfl⟩
def o_ref24_far : List (Nat × List (Nat × Df)) := []
theorem ok_ref24_far : ∃ orc, (treeOf Tryz.prog sg (ofOrc orc) (sxDrawn Tryz.prog sg) 6 91 ⟨[.agg [.int .i64, .int .i64, .int .i64, .bool, .int .i64, .int .i64, .int .i64], .leaf (.int .i64)], [.leaf (.bool)]⟩).same ref24_far = true := ⟨orcOf o_ref24_far, by kernel_rfl⟩
def o_ref23_Right : List (Nat × List (Nat × Df)) := [(1147960581611113034, [(1605879284465330995, ⟨3, 0, [([5], [(5, (.ex (.int .i64) (v 2)))])], [], []⟩)])]
theorem ok_ref23_Right : ∃ orc, (treeOf Tryz.prog sg (ofOrc orc) (sxDrawn Tryz.prog sg) 6 103 ⟨[.leaf (.int .i64), .leaf (.row [.int .i64])], [.leaf (.bool)]⟩).same ref23_Right = true := ⟨orcOf o_ref23_Right, by kernel_rfl⟩
def o_ref23_taken : List (Nat × List (Nat × Df)) := [(1366074921549106613, [(2250587993630780348, ⟨5, 0, [([8, 7], [(8, (.ex (.int .i64) (v 3))), (7, (.ex (.int .i64) (v 4)))])], [], []⟩)])]
theorem ok_ref23_taken : ∃ orc, (treeOf Tryz.prog sg (ofOrc orc) (sxDrawn Tryz.prog sg) 6 111 ⟨[.leaf (.int .i64), .leaf (.row [.int .i64]), .leaf (.int .i64)], [.leaf (.int .i64)]⟩).same ref23_taken = true := ⟨orcOf o_ref23_taken, by kernel_rfl⟩
def o_ref23_Up : List (Nat × List (Nat × Df)) := [(254030756749964866, [(1234578301476101059, ⟨9, 1, [([10, 9], [(10, (.ex (.int .i64) (v 6))), (9, (.ex (.int .i64) (v 7)))])], [0], [(0, (.rows [.int .i64] (v 8)))]⟩)]),
 (1211642867233127625, [(2232626714423986599, ⟨11, 1, [([9], [(9, (.ex (.int .i64) (v 9)))])], [0], [(0, (.rows [.int .i64] (v 10)))]⟩)]),
 (1602291130716921502, [(645196405010299544, ⟨5, 1, [([7, 6], [(7, (.ex (.int .i64) (v 4))), (6, (.ex (.int .i64) (v 3)))])], [], []⟩)])]
theorem ok_ref23_Up : ∃ orc, (treeOf Tryz.prog sg (ofOrc orc) (sxDrawn Tryz.prog sg) 6 104 ⟨[.leaf (.int .i64), .leaf (.row [.int .i64])], [.own [.int .i64]]⟩).same ref23_Up = true := ⟨orcOf o_ref23_Up, by kernel_rfl⟩
def o_ref01_Split : List (Nat × List (Nat × Df)) := [(1147975319229325756, [(1034660171403412798, ⟨4, 1, [([6, 5], [(6, (.ex (.int .i64) (v 2))), (5, (.own 0 none))])], [], [(0, (.rows [.int .i64] (v 3)))]⟩)]),
 (1721741303699899479, [(2018041416052749111, ⟨5, 1, [([7], [(7, (.ex (.int .i64) (v 4)))])], [], []⟩)])]
theorem ok_ref01_Split : ∃ orc, (treeOf Tryz.prog sg (ofOrc orc) (sxDrawn Tryz.prog sg) 6 105 ⟨[.leaf (.int .i64), .leaf (.int .i64)], [.own [.int .i64]]⟩).same ref01_Split = true := ⟨orcOf o_ref01_Split, by kernel_rfl⟩
def o_ref23_Fill : List (Nat × List (Nat × Df)) := [(330131886081513908, [(50411057247377537, ⟨12, 3, [([13, 12], [(13, (.ex (.int .i64) (v 9))), (12, (.ex (.int .i64) (v 10)))])], [1], [(1, (.rows [.int .i64] (v 11)))]⟩)]),
 (1287743996564676667, [(1979615726635131138, ⟨14, 3, [([12], [(12, (.ex (.int .i64) (v 12)))])], [1], [(1, (.rows [.int .i64] (v 13)))]⟩)]),
 (2176027639951069781, [(202276176209733221, ⟨8, 2, [([10, 9, 8], [(10, (.ex (.int .i64) (v 5))), (9, (.ex (.int .i64) (v 6))), (8, (.ex (.int .i64) (v 7)))])], [0], []⟩)]),
 (827789372411432228, [(1820741183069668257, ⟨9, 2, [([9, 8], [(9, (.ex (.int .i64) (v 8))), (8, (.ex (.int .i64) (sub (v 7) (at_ 0 (v 4) (v 5)))))])], [], []⟩)])]
theorem ok_ref23_Fill : ∃ orc, (treeOf Tryz.prog sg (ofOrc orc) (sxDrawn Tryz.prog sg) 6 92 ⟨[.leaf (.int .i64), .leaf (.row [.int .i64]), .leaf (.row [.bool])], [.own [.int .i64]]⟩).same ref23_Fill = true := ⟨orcOf o_ref23_Fill, by kernel_rfl⟩
def o_ref01_size : List (Nat × List (Nat × Df)) := []
theorem ok_ref01_size : ∃ orc, (treeOf Tryz.prog sg (ofOrc orc) (sxDrawn Tryz.prog sg) 6 118 ⟨[.leaf (.int .i64)], [.leaf (.int .u64)]⟩).same ref01_size = true := ⟨orcOf o_ref01_size, by kernel_rfl⟩
end Go.Proofs.YtbebnjiolaomdaaGreat.T
