/- The proof of FnExactHexText: a part of it. No condition beyond the statement's own. -/
import Derived.Test.YtiifnljongidiaaZEHexTextWWords
namespace Go.Proofs.YtiifnljongidiaaW.PrintWords
open Go.RowKit
section
variable {P : Program} {ops : Array Oper} {rest : List Oper} {o : Oper} {a : Act} {Q : Exit → Act → World → Prop} {W : World}
end
end Go.Proofs.YtiifnljongidiaaW.PrintWords
