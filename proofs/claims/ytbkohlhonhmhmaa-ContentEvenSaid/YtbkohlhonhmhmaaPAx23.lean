-- written by a program of this session (a print of the translation with changes of its own)
import Derived.Test.YtbkohlhonhmhmaaPAx0
namespace Go.Proofs.Ytbkohlhonhmhmaa.PA
open Go.RowKit Go.Proofs.YtbkohlhonhmhmaaW.PrintWords Go.Proofs.YtbkohlhonhmhmaaW.PrintLast Go.Proofs.YtbkohlhonhmhmaaW.PrintMore
def wf55 (x : S55) : Prop := (Lit.int .i64 x.f0).wf = true ∧ ((Lit.int .i64 x.f1).wf = true)
def wf57 (x : S57) : Prop := wf55 x.f0 ∧ (wf55 x.f1 ∧ (True ∧ (wf55 x.f3)))
def wf26 (x : S26) : Prop := (Lit.int .i64 x.f0).wf = true ∧ ((∀ e_ ∈ x.f1, wf57 e_) ∧ ((∀ e_ ∈ x.f2, True) ∧ ((∀ e_ ∈ x.f3, (Lit.int .i64 e_).wf = true))))
end Go.Proofs.Ytbkohlhonhmhmaa.PA
