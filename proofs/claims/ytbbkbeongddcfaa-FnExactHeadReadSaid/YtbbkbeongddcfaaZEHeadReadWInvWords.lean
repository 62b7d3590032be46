/- The proof of FnExactHeadRead: a part of it. No condition beyond the statement's own. -/
import Derived.Test.YtbbkbeongddcfaaZEHeadReadWInv
import Derived.Test.YtbbkbeongddcfaaZEHeadReadWFootNe
namespace Go.Proofs.YtbbkbeongddcfaaW.PrintWords
open Go.RowKit
end Go.Proofs.YtbbkbeongddcfaaW.PrintWords
namespace Go.Proofs.YtbbkbeongddcfaaW.PrintLast
section
variable {ops : Array Oper} {a : Act} {o og : Oper} {g : Nat} {t : Tmp} {u : Bool}
end
end Go.Proofs.YtbbkbeongddcfaaW.PrintLast
