/- Part of the proof; written by a program out of the texts in wip/. -/
import Derived.Test.YtoboapnbbcedbaaRouteTurnsTop4
set_option linter.unusedVariables false
set_option linter.unusedSimpArgs false
namespace Go.Sh
open Go Go.Eng
section
variable {N : Nat} {t : api_Topo}
def apartL (a b : List Int) : Bool := allB a.length fun i => allB b.length fun k => !(w64 (Int.tdiv (at0 a i) 2) == w64 (Int.tdiv (at0 b k) 2))
def clearL (A B : List Int) : Bool := (List.range' 1 (A.length - 2)).all fun i => !B.contains (at0 A i)
def apartB (t : api_Topo) (a b : List Int) : Bool := apartL a b && (clearL (nodesL t a) (nodesL t b) && clearL (nodesL t b) (nodesL t a))
end
end Go.Sh

