/- The trees that are written down are what the runner makes of the program's code (2 of 4). No condition. -/
import Derived.Test.YtckjdlmfibjpaaaGreatT
import Derived.Test.YtckjdlmfibjpaaaGreatProg
set_option maxRecDepth 100000
set_option linter.unusedVariables false
namespace Go.Proofs.YtckjdlmfibjpaaaGreat.T
open Go Go.Proofs.YtckjdlmfibjpaaaGreat.Sx Go.Proofs
def o_base_Start:List (Nat×List (Nat×Df)):= [(877949499431055807,[(2147954629615371155,⟨22,8,[([],[])],[7,6,5,4],[(7,(.box [(.ex (.int .i64) (v 19)),(.ex (.int .i64) (v 20)),(.ex (.int .i64) (n 0)),(.ex (.bool) (.bool false)),(.ex (.int .i64) (n 0)),(.ex (.int .i64) (v 10)),(.ex (.int .i64) (v 21))]))]⟩)]),
 (1046599117327627087,[(777752083931324135,⟨23,8,[([],[])],[7],[(7,(.box [(.ex (.int .i64) (v 19)),(.ex (.int .i64) (v 20)),(.ex (.int .i64) (v 22)),(.ex (.bool) (.bool false)),(.ex (.int .i64) (n 0)),(.ex (.int .i64) (v 10)),(.ex (.int .i64) (v 21))]))]⟩)]),
 (1215359267360793782,[(1252545493958356206,⟨25,8,[([],[])],[7,3,2,0],[(7,(.box [(.ex (.int .i64) (v 19)),(.ex (.int .i64) (v 20)),(.ex (.int .i64) (v 22)),(.ex (.bool) (v 23)),(.ex (.int .i64) (v 24)),(.ex (.int .i64) (v 10)),(.ex (.int .i64) (v 21))]))]⟩)]),
 (1045866868303894002,[(1580169128886775326,⟨10,2,[([],[(28,(.ex (.bool) (v 9)))])],[],[]⟩)])]
theorem ok_base_Start:OkL Tryz.prog sg 6 37 base_Start:=⟨orcOf o_base_Start,by kernel_rfl⟩
def o_base_All:List (Nat×List (Nat×Df)):= [(944584883832694584,[(1692350084979756925,⟨9,3,[([25],[(25,(.ex (.int .i64) (v 7)))])],[1],[(1,(.rows [.int .i64,.int .i64,.int .i64,.bool,.int .i64,.int .i64,.int .i64] (v 8)))]⟩)]),
 (1518350868303268307,[(2299640781031233958,⟨16,4,[([],[])],[3],[(3,(.box [(.ex (.int .i64) (v 9)),(.ex (.int .i64) (v 10)),(.ex (.int .i64) (v 11)),(.ex (.int .i64) (v 12)),(.ex (.bool) (v 13)),(.ex (.int .i64) (v 14)),(.ex (.int .i64) (v 15))]))]⟩)])]
theorem ok_base_All:OkL Tryz.prog sg 6 18 base_All:=⟨orcOf o_base_All,by kernel_rfl⟩
theorem ok_intrinsic_within:OkL Tryz.prog sg 6 95 intrinsic_within:=⟨orcOf [],by kernel_rfl⟩
theorem ok_intrinsic_Good_2:OkL Tryz.prog sg 6 94 intrinsic_Good_2:=⟨orcOf [],by kernel_rfl⟩
theorem ok_base_Good_1:OkL Tryz.prog sg 6 150 base_Good_1:=⟨orcOf [],by kernel_rfl⟩
def o_base_Good:List (Nat×List (Nat×Df)):= [(1374705254127794739,[(867732242607814729,⟨8,1,[([],[(4,(.ex (.bool) (v 7)))])],[],[]⟩)])]
theorem ok_base_Good:OkL Tryz.prog sg 6 93 base_Good:=⟨orcOf o_base_Good,by kernel_rfl⟩
theorem ok_intrinsic_Good_1:OkL Tryz.prog sg 6 92 intrinsic_Good_1:=⟨orcOf [],by kernel_rfl⟩
def o_intrinsic_Good:List (Nat×List (Nat×Df)):= [(2154897406762677233,[(1957259701249052313,⟨6,0,[([43],[(43,(.ex (.int .i64) (v 5)))])],[],[]⟩)]),
 (254045494368177588,[(2078209590231071869,⟨7,1,[([],[(81,(.ex (.bool) (v 6)))])],[0],[]⟩)]),
 (1534842440391379669,[(739772563398310286,⟨5,0,[([],[(40,(.ex (.bool) (v 4)))])],[],[]⟩)]),
 (1181754389066153423,[(930634043700893895,⟨6,0,[([],[(4,(.ex (.int .i64) (v 5)))]),([],[]),([38,37],[])],[],[]⟩)]),
 (1181776495493472506,[(264793028686550207,⟨6,0,[([8],[(8,(.ex (.int .i64) (v 5)))]),([],[]),([38,37],[])],[],[]⟩)]),
 (1132548800915140392,[(1009717292913712084,⟨5,0,[([],[(4,(.ex (.int .i64) (v 4)))]),([],[]),([33,32,29,28,25,24,21,20,19],[])],[],[]⟩)]),
 (1132570907342459475,[(709211463706882679,⟨5,0,[([8],[(8,(.ex (.int .i64) (v 4)))]),([],[]),([33,32,29,28,25,24,21,20,19],[])],[],[]⟩)])]
theorem ok_intrinsic_Good:OkL Tryz.prog sg 6 38 intrinsic_Good:=⟨orcOf o_intrinsic_Good,by kernel_rfl⟩
theorem ok_slices_Clone___api_Sizing_api_Sizing_:OkL Tryz.prog sg 6 39 slices_Clone___api_Sizing_api_Sizing_:=⟨orcOf [],by kernel_rfl⟩
theorem ok_intrinsic_loose:OkL Tryz.prog sg 6 102 intrinsic_loose:=⟨orcOf [],by kernel_rfl⟩
theorem ok_intrinsic_limit:OkL Tryz.prog sg 6 105 intrinsic_limit:=⟨orcOf [],by kernel_rfl⟩
theorem ok_pintrinsic_sizer_rounds_1:OkL Tryz.prog sg 6 151 pintrinsic_sizer_rounds_1:=⟨orcOf [],by kernel_rfl⟩
theorem ok_intrinsic_content:OkL Tryz.prog sg 6 97 intrinsic_content:=⟨orcOf [],by kernel_rfl⟩
theorem ok_intrinsic_Size_1:OkL Tryz.prog sg 6 42 intrinsic_Size_1:=⟨orcOf [],by kernel_rfl⟩
theorem ok_pintrinsic_sizer_bases_2:OkL Tryz.prog sg 6 107 pintrinsic_sizer_bases_2:=⟨orcOf [],by kernel_rfl⟩
theorem ok_pintrinsic_sizer_rounds_7:OkL Tryz.prog sg 6 158 pintrinsic_sizer_rounds_7:=⟨orcOf [],by kernel_rfl⟩
theorem ok_spread_right:OkL Tryz.prog sg 6 115 spread_right:=⟨orcOf [],by kernel_rfl⟩
def o_spread_rooms:List (Nat×List (Nat×Df)):= [(1028547252673666862,[(1955031929076228418,⟨2,0,[([7],[(7,(.ex (.int .i64) (v 1)))])],[],[]⟩)])]
theorem ok_spread_rooms:OkL Tryz.prog sg 6 116 spread_rooms:=⟨orcOf o_spread_rooms,by kernel_rfl⟩
def o_spread_Up:List (Nat×List (Nat×Df)):= [(1908969656550636740,[(2026177379702767585,⟨5,4,[([],[])],[2,0],[(2,(.rows [.int .i64] (v 4))),(0,(.box [(.ex (.int .i64) (v 3))]))]⟩)]),
 (2246475218998757408,[(1841586461014969025,⟨8,4,[([],[(27,(.ex (.bool) (v 5)))])],[2,0],[(2,(.rows [.int .i64] (v 7))),(0,(.box [(.ex (.int .i64) (v 6))]))]⟩)]),
 (1662965103067605589,[(1092383692151044474,⟨8,4,[([],[(3,(.ex (.bool) (v 7)))]),([25],[])],[2,0],[(2,(.rows [.int .i64] (v 6))),(0,(.box [(.ex (.int .i64) (v 5))]))]⟩)]),
 (2089618528483376518,[(612354473019483451,⟨9,4,[([7],[(7,(.ex (.int .i64) (v 7)))]),([],[])],[2],[(2,(.rows [.int .i64] (v 8)))]⟩)]),
 (2089633266101589240,[(1760319102319010998,⟨10,4,[([35,7],[(35,(.ex (.int .i64) (v 7))),(7,(.ex (.int .i64) (v 8)))]),([],[])],[2],[(2,(.rows [.int .i64] (v 9)))]⟩)]),
 (741372892134632604,[(1858622464825016701,⟨12,4,[([7],[(7,(.ex (.int .i64) (v 10)))]),([],[])],[2],[(2,(.rows [.int .i64] (v 11)))]⟩)]),
 (1662994578304031033,[(938738890753231819,⟨7,4,[([12,4],[(12,(.ex (.int .i64) (v 5))),(4,(.ex (.int .i64) (v 6)))]),([25],[])],[],[]⟩)]),
 (1187021526998008419,[(1033502467462402846,⟨8,4,[([4],[(4,(.ex (.int .i64) (v 7)))]),([],[])],[],[]⟩)]),
 (1288914690179339176,[(989972841640198993,⟨3,4,[([],[(19,(.ex (.bool) (v 2)))])],[],[]⟩)])]
theorem ok_spread_Up:OkL Tryz.prog sg 6 50 spread_Up:=⟨orcOf o_spread_Up,by kernel_rfl⟩
def o_fixed_Split:List (Nat×List (Nat×Df)):= [(1384206266015353367,[(2251571423078644820,⟨4,1,[([21],[(21,(.ex (.int .i64) (v 2)))])],[0],[(0,(.rows [.int .i64] (v 3)))]⟩)]),
 (2173028751228923987,[(79742027492434095,⟨5,1,[([],[])],[0],[(0,(.rows [.int .i64] (v 4)))]⟩)])]
theorem ok_fixed_Split:OkL Tryz.prog sg 6 59 fixed_Split:=⟨orcOf o_fixed_Split,by kernel_rfl⟩
end Go.Proofs.YtckjdlmfibjpaaaGreat.T
