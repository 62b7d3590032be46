/- The proof of FnExactIndexOf: a part of it. No condition beyond the statement's own. -/
import Derived.Test.YtaakhgjlekllgaaZEIndexOfWWords
import Derived.Laws.StructEq
namespace Go.Proofs.YtaakhgjlekllgaaW.PrintWords
open Go.RowKit
section
variable {P : Program} {d : Nat} {xs ys : Array Value} {f : Field} {fs : List Field} {a b : Value} {r s : Bool} {w : World}
end
end Go.Proofs.YtaakhgjlekllgaaW.PrintWords
