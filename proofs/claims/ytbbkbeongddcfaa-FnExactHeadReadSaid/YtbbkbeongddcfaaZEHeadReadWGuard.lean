/- The proof of FnExactHeadRead: a part of it. No condition beyond the statement's own. -/
import Derived.Test.YtbbkbeongddcfaaZEHeadReadWWords
namespace Go.Proofs.YtbbkbeongddcfaaW.PrintWords
open Go.RowKit
section
variable {P : Program} {ops : Array Oper} {rest : List Oper} {o : Oper} {a : Act} {Q : Exit → Act → World → Prop} {W : World}
end
end Go.Proofs.YtbbkbeongddcfaaW.PrintWords
