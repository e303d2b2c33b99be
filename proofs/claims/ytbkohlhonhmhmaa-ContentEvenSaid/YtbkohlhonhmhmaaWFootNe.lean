-- written by a program of this session (the print's words that this claim uses)
import Derived.Test.YtbkohlhonhmhmaaWN
namespace Go.Proofs.YtbkohlhonhmhmaaW.PrintWords
open Go.RowKit
namespace Kd
section
variable {α : Type} {d : Kd α} {W : World} {g n : Nat} {S ok : Nat → Prop} {A : Option Addr} {ad : Addr} {xs : List α}
end
end Kd
end Go.Proofs.YtbkohlhonhmhmaaW.PrintWords
