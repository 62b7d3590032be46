/- The proof of FnIndex: a part of it. No condition beyond the statement's own. -/
import Derived.Test.YtaakhgjlekllgaaZFIndexWInv
import Derived.Test.YtaakhgjlekllgaaZFIndexWFootNe
namespace Go.Proofs.YtaakhgjlekllgaaW.PrintWords
open Go.RowKit
end Go.Proofs.YtaakhgjlekllgaaW.PrintWords
namespace Go.Proofs.YtaakhgjlekllgaaW.PrintLast
section
variable {ops : Array Oper} {a : Act} {o og : Oper} {g : Nat} {t : Tmp} {u : Bool}
end
end Go.Proofs.YtaakhgjlekllgaaW.PrintLast
