/- The proof of FnExactHeadRead: a part of it. No condition beyond the statement's own. -/
import Derived.Test.YtbbkbeongddcfaaZEHeadReadWTab
namespace Go.Proofs.YtbbkbeongddcfaaW.PrintLast
section
variable {P : Program} {ops : Array Oper} {Q : Exit → Act → World → Prop} {md : Region.Mode} {S : World → Prop} {ds : List Nat} {T : Bool × List (List Nat × List Nat)}
end
end Go.Proofs.YtbbkbeongddcfaaW.PrintLast
