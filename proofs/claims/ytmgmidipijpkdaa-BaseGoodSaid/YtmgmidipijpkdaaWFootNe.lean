-- written by a program of this session (the print's words that this claim uses)
import Derived.Test.YtmgmidipijpkdaaWN
namespace Go.Proofs.YtmgmidipijpkdaaW.PrintWords
open Go.RowKit
namespace Kd
section
variable {α : Type} {d : Kd α} {W : World} {g n : Nat} {S ok : Nat → Prop} {A : Option Addr} {ad : Addr} {xs : List α}
end
end Kd
end Go.Proofs.YtmgmidipijpkdaaW.PrintWords
