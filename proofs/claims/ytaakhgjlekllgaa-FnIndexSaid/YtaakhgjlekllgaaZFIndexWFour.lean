/- The proof of FnIndex: a part of it. No condition beyond the statement's own. -/
import Derived.Test.YtaakhgjlekllgaaZFIndexWTab
namespace Go.Proofs.YtaakhgjlekllgaaW.PrintLast
section
variable {P : Program} {ops : Array Oper} {Q : Exit → Act → World → Prop} {md : Region.Mode} {S : World → Prop} {ds : List Nat} {T : Bool × List (List Nat × List Nat)}
end
end Go.Proofs.YtaakhgjlekllgaaW.PrintLast
