/- The trees that are written down are what the runner makes of the program's code (1 of 4). No condition. -/
import Derived.Test.YtckjdlmfibjpaaaGreatT
import Derived.Test.YtckjdlmfibjpaaaGreatProg
set_option maxRecDepth 100000
set_option linter.unusedVariables false
namespace Go.Proofs.YtckjdlmfibjpaaaGreat.T
open Go Go.Proofs.YtckjdlmfibjpaaaGreat.Sx Go.Proofs
theorem ok_law27_light:OkL Tryz.prog sg 6 8 law27_light:=⟨orcOf [],by kernel_rfl⟩
theorem ok_track_auto:OkL Tryz.prog sg 6 146 track_auto:=⟨orcOf [],by kernel_rfl⟩
theorem ok_track_fit:OkL Tryz.prog sg 6 87 track_fit:=⟨orcOf [],by kernel_rfl⟩
theorem ok_track_isLen:OkL Tryz.prog sg 6 88 track_isLen:=⟨orcOf [],by kernel_rfl⟩
def o_value_keyBit:List (Nat×List (Nat×Df)):= [(1479842069011797731,[(899577586985117154,⟨2,0,[([],[(6,(.ex (.bool) (v 1)))])],[],[]⟩)])]
theorem ok_value_keyBit:OkL Tryz.prog sg 6 148 value_keyBit:=⟨orcOf o_value_keyBit,by kernel_rfl⟩
def o_value_Good:List (Nat×List (Nat×Df)):= [(267073154615031130,[(339819854088062088,⟨4,2,[([],[(4,(.ex (.bool) (v 3)))]),([],[])],[],[]⟩)]),
 (1617173652560490624,[(1394890538122051667,⟨4,2,[([],[(4,(.ex (.bool) (v 3)))]),([19],[])],[],[]⟩)])]
theorem ok_value_Good:OkL Tryz.prog sg 6 89 value_Good:=⟨orcOf o_value_Good,by kernel_rfl⟩
theorem ok_track_Right:OkL Tryz.prog sg 6 35 track_Right:=⟨orcOf [],by kernel_rfl⟩
theorem ok_fixed_Is:OkL Tryz.prog sg 6 34 fixed_Is:=⟨orcOf [],by kernel_rfl⟩
theorem ok_implicit_within:OkL Tryz.prog sg 6 36 implicit_within:=⟨orcOf [],by kernel_rfl⟩
def o_implicit_Good:List (Nat×List (Nat×Df)):= [(318480558353360905,[(1051329337835354448,⟨5,1,[([39],[(39,(.ex (.int .i64) (v 4)))])],[],[]⟩)]),
 (723537974454512460,[(1201424335485788689,⟨6,2,[([],[(75,(.ex (.bool) (v 5)))])],[1],[]⟩)])]
theorem ok_implicit_Good:OkL Tryz.prog sg 6 16 implicit_Good:=⟨orcOf o_implicit_Good,by kernel_rfl⟩
theorem ok_fixed_size:OkL Tryz.prog sg 6 121 fixed_size:=⟨orcOf [],by kernel_rfl⟩
theorem ok_math_bits_Mul64:OkL Tryz.prog sg 6 120 math_bits_Mul64:=⟨orcOf [],by kernel_rfl⟩
def o_math_bits_Len64:List (Nat×List (Nat×Df)):= [(1028532515055454140,[(2008463105064607501,⟨3,0,[([2,0],[(2,(.ex (.int .i64) (v 1))),(0,(.ex (.int .u64) (v 2)))])],[],[]⟩)]),
 (1366052815121787530,[(680045463539501353,⟨5,0,[([2,0],[(2,(.ex (.int .i64) (v 3))),(0,(.ex (.int .u64) (v 4)))])],[],[]⟩)]),
 (1703573115188120920,[(771332471884081455,⟨7,0,[([2,0],[(2,(.ex (.int .i64) (v 5))),(0,(.ex (.int .u64) (v 6)))])],[],[]⟩)])]
theorem ok_math_bits_Len64:OkL Tryz.prog sg 6 171 math_bits_Len64:=⟨orcOf o_math_bits_Len64,by kernel_rfl⟩
theorem ok_math_bits_LeadingZeros64:OkL Tryz.prog sg 6 180 math_bits_LeadingZeros64:=⟨orcOf [],by kernel_rfl⟩
def o_math_bits_Div64:List (Nat×List (Nat×Df)):= [(1936871492533959986,[(1693009225580968685,⟨5,0,[([15],[(15,(.ex (.int .u64) (v 4)))])],[],[]⟩),
 (2266080260163148371,⟨6,0,[([16,15],[(16,(.ex (.int .u64) (v 4))),(15,(.ex (.int .u64) (v 5)))])],[],[]⟩)]),
 (2105631642567126681,[(2036847629968748548,⟨6,0,[([18],[(18,(.ex (.int .u64) (v 5)))])],[],[]⟩),
 (601738783667926222,⟨7,0,[([16,18],[(16,(.ex (.int .u64) (v 5))),(18,(.ex (.int .u64) (v 6)))])],[],[]⟩)])]
theorem ok_math_bits_Div64:OkL Tryz.prog sg 6 122 math_bits_Div64:=⟨orcOf o_math_bits_Div64,by kernel_rfl⟩
theorem ok_fixed_MulDiv:OkL Tryz.prog sg 6 64 fixed_MulDiv:=⟨orcOf [],by kernel_rfl⟩
def o_fixed_Percent:List (Nat×List (Nat×Df)):= [(1654299982183464007,[(1348028743063336360,⟨6,0,[([],[(31,(.ex (.bool) (v 5)))])],[],[]⟩)])]
theorem ok_fixed_Percent:OkL Tryz.prog sg 6 149 fixed_Percent:=⟨orcOf o_fixed_Percent,by kernel_rfl⟩
theorem ok_value_Resolve:OkL Tryz.prog sg 6 90 value_Resolve:=⟨orcOf [],by kernel_rfl⟩
def o_base_kind:List (Nat×List (Nat×Df)):= [(699679391613340681,[(355730345541376581,⟨3,1,[([],[])],[0],[]⟩)])]
theorem ok_base_kind:OkL Tryz.prog sg 6 91 base_kind:=⟨orcOf o_base_kind,by kernel_rfl⟩
def o_base_Raise:List (Nat×List (Nat×Df)):= [(708324461810241529,[(181826103466578498,⟨8,2,[([],[])],[0],[(0,(.box [(.ex (.int .i64) (v 0)),(.ex (.int .i64) (v 1)),(.ex (.int .i64) (v 2)),(.ex (.bool) (v 3)),(.ex (.int .i64) (v 4)),(.ex (.int .i64) (v 5)),(.ex (.int .i64) (v 7))]))]⟩)])]
theorem ok_base_Raise:OkL Tryz.prog sg 6 61 base_Raise:=⟨orcOf o_base_Raise,by kernel_rfl⟩
end Go.Proofs.YtckjdlmfibjpaaaGreat.T
