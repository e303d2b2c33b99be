/- The sizer's tree holds the trees written once. No condition. -/
import Derived.Test.YtbebnjiolaomdaaT
import Derived.Test.YtbebnjiolaomdaaKgz
set_option linter.unusedVariables false
set_option maxRecDepth 100000
namespace Go.Proofs.Ytbebnjiolaomdaa.T
open Go Go.Proofs.Ytbebnjiolaomdaa.Sx Go.Proofs.Ytbebnjiolaomdaa.M
@[reducible] def Wsp : Ex := .bin .rget (v 17) (at_ 0 (.un .sort (v 15)) (v 18))
def gv1 : T := giveT (wkL 3 c_pintrinsic_sizer_rounds_1) c_pintrinsic_sizer_bases_2 (those1 c_pintrinsic_sizer_rounds_7) (fillT roomBT c_intrinsic_loose)
def gv2 : T := giveT (wkC c_pintrinsic_sizer_rounds_9) c_pintrinsic_sizer_bases_2 (those1 c_pintrinsic_sizer_rounds_8) (fillT roomBT c_intrinsic_loose)
def gv3 : T := giveT (wkL 4 c_pintrinsic_sizer_rounds_3) c_pintrinsic_sizer_bases_2 (those2 c_pintrinsic_sizer_rounds_6 c_pintrinsic_sizer_rounds_4) (fillT roomBT c_intrinsic_content)
def gv4 : T := giveT (wkC c_pintrinsic_sizer_several_1) c_pintrinsic_sizer_limits_1 (those1 c_intrinsic_loose) (fillT roomLT c_pintrinsic_sizer_limits_2)
def gv5 : T := giveT (wkC c_pintrinsic_sizer_several_2) c_pintrinsic_sizer_limits_1 (those1 c_intrinsic_content) (fillT roomLT c_pintrinsic_sizer_limits_2)
def gf1 : T := giveT (wkL 3 c_pintrinsic_sizer_rounds_1) c_pintrinsic_sizer_bases_2 (those1F c_pintrinsic_sizer_rounds_7) fillTF
def gf2 : T := giveT (wkC c_pintrinsic_sizer_rounds_9) c_pintrinsic_sizer_bases_2 (those1F c_pintrinsic_sizer_rounds_8) fillTF
def gf3 : T := giveT (wkL 4 c_pintrinsic_sizer_rounds_3) c_pintrinsic_sizer_bases_2 (those2F c_pintrinsic_sizer_rounds_6 c_pintrinsic_sizer_rounds_4) fillTF
/-- What is behind a tree that stands within another one. -/
def At (t : T) (σ : List Ex) (nv jl : Nat) (K : T) : T := T.inst σ σ.length nv t jl (fun _ _ _ => K) (some 0) []
def k12 : T := .jump 3 [add (v 18) (n 1), v 50]
def k11 : T := At fitT [v 48] 49 17 k12
def k10 : T := At limAT [v 42, v 46, v 44] 47 16 k11
def k9 : T := asr (le (len (v 42)) (n 140737488355328)) (At (hadT c_intrinsic_content) [Wsp, v 42] 45 15 k10)
def k8 : T := At gv5 [Wsp, v 42, v 1, v 20, v 21, v 40] 43 14 k9
def k7 : T := At limAT [v 36, v 40, v 38] 41 13 k8
def k6 : T := At (hadT c_intrinsic_loose) [Wsp, v 36] 39 12 k7
def k5 : T := asr (le (len (v 36)) (n 140737488355328)) (At gv4 [Wsp, v 36, v 1, v 20, v 21, mkB (len (v 36))] 37 11 k6)
def k4 : T := At raiseT [v 34] 35 10 k5
def k3 : T := At addT [v 30, v 32] 33 9 k4
def k2 : T := At gv3 [Wsp, v 30, v 1, v 22, v 21, .nil] 31 8 k3
def k1 : T := At addT [v 26, v 28] 29 7 k2
def k0 : T := At gv2 [Wsp, v 26, v 1, v 20, v 21, .nil] 27 6 k1
def kb : T := At addT [v 19, v 24] 25 5 k0
def ka : T := At gv1 [Wsp, v 19, v 1, v 20, v 21, .nil] 23 4 kb
theorem same_j19 : intrinsic_Size_j19 = ka := by rfl
def e7 : T := .ret [v 38, n 0]
def e6 : T := At endT [v 36] 37 11 e7
def e5 : T := At raiseT [v 34] 35 10 e6
def e4 : T := At addT [v 30, v 32] 33 9 e5
def e3 : T := At gf3 [v 16, v 30, v 1, v 22, v 21, .nil] 31 8 e4
def e2 : T := At addT [v 26, v 28] 29 7 e3
def e1 : T := At gf2 [v 16, v 26, v 1, v 20, v 21, .nil] 27 6 e2
def eb : T := At addT [v 19, v 24] 25 5 e1
def ea : T := At gf1 [v 16, v 19, v 1, v 20, v 21, .nil] 23 4 eb
theorem same_j107 : intrinsic_Size_j107 = ea := by rfl
end Go.Proofs.Ytbebnjiolaomdaa.T
