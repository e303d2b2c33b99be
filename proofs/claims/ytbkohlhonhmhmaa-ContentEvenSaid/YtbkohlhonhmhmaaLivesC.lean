/- The chapter's example, computed. -/
import Derived.Test.YtbkohlhonhmhmaaPAx12
import Derived.Test.YtbkohlhonhmhmaaEv
namespace Go.Proofs.Ytbkohlhonhmhmaa.LivesC
open Go.RowKit Go.Proofs.Ytbkohlhonhmhmaa.PA Go.Proofs.YtbkohlhonhmhmaaW.PrintWords Go.Proofs.YtbkohlhonhmhmaaW.PrintMore
theorem lives_k : parterrelaw28_lives.f 200 = some true := by decide +kernel
theorem lives_ev : Ev (fun k => parterrelaw28_lives.f k) true := Ev.of parterrelaw28_lives.mono lives_k
end Go.Proofs.Ytbkohlhonhmhmaa.LivesC
