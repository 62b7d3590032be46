/- The proof of FnExactHexText: a part of it. No condition beyond the statement's own. -/
import Derived.Test.YtiifnljongidiaaZEHexTextWInv
import Derived.Test.YtiifnljongidiaaZEHexTextWFootNe
namespace Go.Proofs.YtiifnljongidiaaW.PrintWords
open Go.RowKit
end Go.Proofs.YtiifnljongidiaaW.PrintWords
namespace Go.Proofs.YtiifnljongidiaaW.PrintLast
section
variable {ops : Array Oper} {a : Act} {o og : Oper} {g : Nat} {t : Tmp} {u : Bool}
end
end Go.Proofs.YtiifnljongidiaaW.PrintLast
