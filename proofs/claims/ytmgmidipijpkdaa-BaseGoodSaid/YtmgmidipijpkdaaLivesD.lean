/- The chapter's examples, computed. -/
import Derived.Test.YtmgmidipijpkdaaPAx24
import Derived.Test.YtmgmidipijpkdaaEv
namespace Go.Proofs.Ytmgmidipijpkdaa.LivesC
open Go.RowKit Go.Proofs.Ytmgmidipijpkdaa.PA Go.Proofs.YtmgmidipijpkdaaW.PrintWords Go.Proofs.YtmgmidipijpkdaaW.PrintMore
theorem lives_k : parterrelaw22_lives.f 200 = some true := by decide +kernel
theorem lives_ev : Ev (fun k => parterrelaw22_lives.f k) true := Ev.of parterrelaw22_lives.mono lives_k
end Go.Proofs.Ytmgmidipijpkdaa.LivesC
