/- The trees that are written down are what the runner makes of the program's code (4 of 4). No condition. -/
import Derived.Test.YtckjdlmfibjpaaaGreatT
import Derived.Test.YtckjdlmfibjpaaaGreatProg
set_option maxRecDepth 100000
set_option linter.unusedVariables false
namespace Go.Proofs.YtckjdlmfibjpaaaGreat.T
open Go Go.Proofs.YtckjdlmfibjpaaaGreat.Sx Go.Proofs
def o_flex_shared:List (Nat×List (Nat×Df)):= [(315855372028070728,[(55951128754862797,⟨6,3,[([],[])],[1,0],[(1,(.rows [.bool] (v 5))),(2,(.rows [.int .i64] (v 4))),(0,(.box [(.ex (.int .i64) (v 2)),(.ex (.int .i64) (v 3)),(.own 2 none)]))]⟩)]),
 (784469803996428737,[(1664964358985859304,⟨13,4,[([58,8],[(58,(.ex (.int .i64) (v 10))),(8,(.ex (.int .i64) (v 11)))])],[1],[(1,(.rows [.bool] (v 12)))]⟩)]),
 (1742052439243166052,[(573193688471719914,⟨15,4,[([8],[(8,(.ex (.int .i64) (v 13)))])],[1],[(1,(.rows [.bool] (v 14)))]⟩)]),
 (324507811034077937,[(1971028975355178456,⟨10,4,[([18],[(18,(.ex (.int .i64) (v 6)))])],[0,2],[(3,(.rows [.int .i64] (v 9))),(0,(.box [(.ex (.int .i64) (v 7)),(.ex (.int .i64) (v 8)),(.own 3 none)]))]⟩)]),
 (784462435187322376,[(349395298925914204,⟨13,7,[([],[])],[3,0],[(6,(.rows [.int .i64] (v 12))),(0,(.box [(.ex (.int .i64) (v 10)),(.ex (.int .i64) (v 11)),(.own 6 none)]))]⟩)])]
theorem ok_flex_shared:OkL Tryz.prog sg 6 54 flex_shared:=⟨orcOf o_flex_shared,by kernel_rfl⟩
theorem ok_flex_right_1:OkL Tryz.prog sg 6 118 flex_right_1:=⟨orcOf [],by kernel_rfl⟩
def o_flex_right:List (Nat×List (Nat×Df)):= [(25329437606112621,[(214485949507007812,⟨4,0,[([],[(4,(.ex (.int .i64) (v 3)))]),([],[]),([14,13,9],[])],[],[]⟩)]),
 (25351544033431704,[(1144384180091175728,⟨4,0,[([8],[(8,(.ex (.int .i64) (v 3)))]),([],[]),([14,13,9],[])],[],[]⟩)])]
theorem ok_flex_right:OkL Tryz.prog sg 6 53 flex_right:=⟨orcOf o_flex_right,by kernel_rfl⟩
def o_flex_Fill:List (Nat×List (Nat×Df)):= [(2070920300303492233,[(1230862290378834761,⟨12,4,[([],[])],[2,1,0],[(2,(.imap (v 11)))]⟩)]),
 (1140649208166158001,[(355116233258772693,⟨14,5,[([16],[(16,(.ex (.int .i64) (v 12)))]),([],[])],[4],[(4,(.rows [.int .i64,.int .i64,.int .i64,.bool,.int .i64,.int .i64,.int .i64] (v 13)))]⟩)]),
 (1929471693379728621,[(333816472747522024,⟨15,6,[([],[]),([],[])],[4],[(4,(.rows [.int .i64,.int .i64,.int .i64,.bool,.int .i64,.int .i64,.int .i64] (v 14)))]⟩)]),
 (2024609211975449309,[(643559852382677814,⟨14,4,[([69],[(69,(.ex (.int .i64) (v 12)))])],[2,1],[(2,(.imap (v 13)))]⟩)]),
 (1113337665056754918,[(299574732788784283,⟨11,3,[([38],[(38,(.ex (.int .i64) (v 8)))])],[2,1],[(2,(.imap (v 10))),(1,(.rows [.int .i64] (v 9)))]⟩)]),
 (1366067552740000252,[(829282225320084274,⟨4,0,[([],[(23,(.ex (.bool) (v 3)))])],[],[]⟩)])]
theorem ok_flex_Fill:OkL Tryz.prog sg 6 23 flex_Fill:=⟨orcOf o_flex_Fill,by kernel_rfl⟩
def o_maximise_Stretch:List (Nat×List (Nat×Df)):= [(916932899608047534,[(501487403179115847,⟨10,5,[([15],[(15,(.ex (.int .i64) (v 8)))]),([],[])],[4,3,0],[(4,(.rows [.int .i64,.int .i64,.int .i64,.bool,.int .i64,.int .i64,.int .i64] (v 9)))]⟩)]),
 (560746126629211909,[(661357903753374665,⟨8,4,[([43],[(43,(.ex (.int .i64) (v 6)))])],[1],[(1,(.rows [.int .i64] (v 7)))]⟩)]),
 (1817384475505450204,[(94125156765556727,⟨5,1,[([22,5],[(22,(.ex (.int .i64) (v 3))),(5,(.own 0 none))])],[],[(0,(.rows [.int .i64] (v 4)))]⟩)]),
 (1939826168401467614,[(1964975003364551974,⟨6,4,[([5],[(5,(.own 3 none))])],[0],[(3,(.rows [.int .i64] (v 5)))]⟩)]),
 (1197300033897727196,[(646546114416450599,⟨3,0,[([],[(18,(.ex (.bool) (v 2)))])],[],[]⟩)])]
theorem ok_maximise_Stretch:OkL Tryz.prog sg 6 24 maximise_Stretch:=⟨orcOf o_maximise_Stretch,by kernel_rfl⟩
def o_maximise_Grow:List (Nat×List (Nat×Df)):= [(794498575521136485,[(74999473684728078,⟨8,4,[([15],[(15,(.ex (.int .i64) (v 6)))]),([],[])],[3,0],[(3,(.rows [.int .i64,.int .i64,.int .i64,.bool,.int .i64,.int .i64,.int .i64] (v 7)))]⟩)]),
 (1602298499526027863,[(1232236344496750776,⟨5,1,[([23],[(23,(.ex (.int .i64) (v 3)))])],[0],[(0,(.rows [.int .i64] (v 4)))]⟩)]),
 (1197300033897727196,[(422798050590958082,⟨3,0,[([],[(16,(.ex (.bool) (v 2)))])],[],[]⟩)])]
theorem ok_maximise_Grow:OkL Tryz.prog sg 6 22 maximise_Grow:=⟨orcOf o_maximise_Grow,by kernel_rfl⟩
def o_maximise_Full:List (Nat×List (Nat×Df)):= [(992270024648481441,[(2141630856729040776,⟨4,1,[([15],[(15,(.ex (.int .i64) (v 2)))]),([],[])],[0],[(0,(.rows [.int .i64,.int .i64,.int .i64,.bool,.int .i64,.int .i64,.int .i64] (v 3)))]⟩)]),
 (125710305857331751,[(774095527241942781,⟨5,1,[([],[]),([],[]),([],[])],[0],[(0,(.rows [.int .i64,.int .i64,.int .i64,.bool,.int .i64,.int .i64,.int .i64] (v 4)))]⟩)])]
theorem ok_maximise_Full:OkL Tryz.prog sg 6 26 maximise_Full:=⟨orcOf o_maximise_Full,by kernel_rfl⟩
theorem ok_flex_up:OkL Tryz.prog sg 6 62 flex_up:=⟨orcOf [],by kernel_rfl⟩
theorem ok_flex_Unit:OkL Tryz.prog sg 6 63 flex_Unit:=⟨orcOf [],by kernel_rfl⟩
def o_flex_Grow:List (Nat×List (Nat×Df)):= [(947774673840665686,[(560258190468440499,⟨12,2,[([16],[(16,(.ex (.int .i64) (v 10)))]),([],[])],[1],[(1,(.rows [.int .i64,.int .i64,.int .i64,.bool,.int .i64,.int .i64,.int .i64] (v 11)))]⟩)]),
 (1736597159054236306,[(2158099724542884987,⟨13,3,[([],[]),([],[])],[1],[(1,(.rows [.int .i64,.int .i64,.int .i64,.bool,.int .i64,.int .i64,.int .i64] (v 12)))]⟩)]),
 (591558425625404617,[(227778656564187282,⟨10,1,[([75],[(75,(.ex (.int .i64) (v 8)))])],[0],[(0,(.imap (v 9)))]⟩)]),
 (1380388279648081598,[(665885830326408124,⟨11,2,[([],[])],[0],[(0,(.imap (v 10)))]⟩)]),
 (469131470347599929,[(517744443764715785,⟨8,0,[([48,7],[(48,(.ex (.int .i64) (v 6))),(7,(.ex (.int .i64) (v 7)))])],[],[]⟩)]),
 (1986151994347723260,[(1268388650051360603,⟨6,0,[([30,7],[(30,(.ex (.int .i64) (v 4))),(7,(.ex (.int .i64) (v 5)))])],[],[]⟩)]),
 (469138839156706290,[(878451077386642757,⟨7,1,[([7],[(7,(.ex (.int .i64) (v 6)))])],[],[]⟩)]),
 (1366067552740000252,[(11982816451476074,⟨4,0,[([],[(26,(.ex (.bool) (v 3)))])],[],[]⟩)])]
theorem ok_flex_Grow:OkL Tryz.prog sg 6 25 flex_Grow:=⟨orcOf o_flex_Grow,by kernel_rfl⟩
theorem ok_tracks_within:OkL Tryz.prog sg 6 17 tracks_within:=⟨orcOf [],by kernel_rfl⟩
def o_tracks_Size:List (Nat×List (Nat×Df)):= [(123727824344524220,[(2042506931857428208,⟨14,5,[([],[])],[3,4,2,1],[(3,(.box [(.ex (.row [.int .i64,.int .i64,.int .i64,.bool,.int .i64,.int .i64,.int .i64]) (v 13))]))]⟩)]),
 (866180270757201028,[(796339755848331712,⟨18,6,[([105],[(105,(.ex (.int .i64) (v 16)))])],[5,3,0],[(5,(.rows [.int .i64] (v 17)))]⟩)]),
 (2272704494202774314,[(295909431743239582,⟨20,5,[([],[]),([],[])],[3],[(3,(.box [(.ex (.row [.int .i64,.int .i64,.int .i64,.bool,.int .i64,.int .i64,.int .i64]) (v 19))]))]⟩)]),
 (918822325219338313,[(464363664789276369,⟨16,5,[([],[]),([],[])],[3,4,2],[(3,(.box [(.ex (.row [.int .i64,.int .i64,.int .i64,.bool,.int .i64,.int .i64,.int .i64]) (v 15))]))]⟩)]),
 (877128824698046390,[(651821589794025157,⟨8,2,[([],[])],[],[]⟩)]),
 (2231057486567077163,[(2076721610302477588,⟨9,2,[([],[(25,(.ex (.bool) (v 8)))])],[],[]⟩)])]
theorem ok_tracks_Size:OkL Tryz.prog sg 6 10 tracks_Size:=⟨orcOf o_tracks_Size,by kernel_rfl⟩
theorem ok_law27_px:OkL Tryz.prog sg 6 15 law27_px:=⟨orcOf [],by kernel_rfl⟩
def o_tracks_Sum:List (Nat×List (Nat×Df)):= [(874100460739475152,[(2100686736735590121,⟨9,1,[([33,4],[(33,(.ex (.int .i64) (v 7))),(4,(.ex (.int .i64) (v 8)))])],[],[]⟩)]),
 (254038125559071227,[(2241752436176828184,⟨7,1,[([23],[(23,(.ex (.int .i64) (v 6)))])],[],[]⟩)])]
theorem ok_tracks_Sum:OkL Tryz.prog sg 6 13 tracks_Sum:=⟨orcOf o_tracks_Sum,by kernel_rfl⟩
def o_ref01_Ints:List (Nat×List (Nat×Df)):= [(1648602219044964426,[(340407618400871150,⟨3,0,[([5],[(5,(.ex (.int .i64) (v 2)))])],[],[]⟩)])]
theorem ok_ref01_Ints:OkL Tryz.prog sg 6 12 ref01_Ints:=⟨orcOf o_ref01_Ints,by kernel_rfl⟩
theorem ok_law27_lives:OkL Tryz.prog sg 6 9 law27_lives:=⟨orcOf [],by kernel_rfl⟩
def o_law27_TracksFixed:List (Nat×List (Nat×Df)):= [(431450714598245131,[(395698549129809257,⟨12,2,[([46],[(46,(.ex (.int .i64) (v 11)))])],[],[]⟩)]),
 (1051513049778649056,[(1986335169956243980,⟨12,3,[([],[])],[],[]⟩)])]
theorem ok_law27_TracksFixed:OkL Tryz.prog sg 6 5 law27_TracksFixed:=⟨orcOf o_law27_TracksFixed,by kernel_rfl⟩
def o_law27_TracksFull:List (Nat×List (Nat×Df)):= [(600247708676943631,[(828127825988192154,⟨16,2,[([50,15,14,13],[(50,(.ex (.int .i64) (v 12))),(15,(.ex (.bool) (v 13))),(14,(.ex (.bool) (v 14))),(13,(.ex (.bool) (v 15)))])],[1],[]⟩)]),
 (1726583125147741280,[(1008797758148163475,⟨19,3,[([15,14,13],[(15,(.ex (.bool) (v 18))),(14,(.ex (.bool) (v 16))),(13,(.ex (.bool) (v 17)))])],[],[]⟩)]),
 (108302723103737614,[(2066030887578622130,⟨18,3,[([14,13],[(14,(.ex (.bool) (v 16))),(13,(.ex (.bool) (v 17)))])],[],[]⟩)])]
theorem ok_law27_TracksFull:OkL Tryz.prog sg 6 6 law27_TracksFull:=⟨orcOf o_law27_TracksFull,by kernel_rfl⟩
def o_law27_TracksEnough:List (Nat×List (Nat×Df)):= [(882752899745482361,[(515949173357186642,⟨12,2,[([56],[(56,(.ex (.int .i64) (v 11)))])],[],[]⟩)]),
 (1287773471801102111,[(1286446216610649709,⟨16,3,[([18,17,16,15],[(18,(.ex (.int .i64) (v 12))),(17,(.ex (.bool) (v 13))),(16,(.ex (.bool) (v 14))),(15,(.ex (.int .i64) (v 15)))])],[],[]⟩)]),
 (108287985485524892,[(263694740274860980,⟨19,4,[([17,16,15],[(17,(.ex (.bool) (v 17))),(16,(.ex (.bool) (v 18))),(15,(.ex (.int .i64) (v 16)))])],[],[]⟩)]),
 (795828486227896094,[(327265967086314406,⟨17,4,[([15],[(15,(.ex (.int .i64) (v 16)))])],[],[]⟩)])]
theorem ok_law27_TracksEnough:OkL Tryz.prog sg 6 7 law27_TracksEnough:=⟨orcOf o_law27_TracksEnough,by kernel_rfl⟩
end Go.Proofs.YtckjdlmfibjpaaaGreat.T
