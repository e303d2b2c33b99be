/- Small words on numbers and on enough rounds, for the pure texts of this seat. -/
import Derived.Test.YtmgmidipijpkdaaWWords
import Derived.OpenShut
namespace Go.Proofs.Ytmgmidipijpkdaa.Evs
open Go.RowKit Go.Proofs.YtmgmidipijpkdaaW.PrintWords
theorem wrap_in (n : Int) (h1 : -9223372036854775808 ≤ n) (h2 : n ≤ 9223372036854775807) : wrap64 n = n := by
  unfold wrap64
  omega
theorem wf_in {n : Int} (h : (Lit.int .i64 n).wf = true) : -9223372036854775808 ≤ n ∧ n ≤ 9223372036854775807 := bounds_i64 h
end Go.Proofs.Ytmgmidipijpkdaa.Evs
