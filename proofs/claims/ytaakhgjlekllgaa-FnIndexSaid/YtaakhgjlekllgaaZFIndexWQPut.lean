/- The proof of FnIndex: a part of it. No condition beyond the statement's own. -/
import Derived.Test.YtaakhgjlekllgaaZFIndexWWords
import Derived.Test.YtaakhgjlekllgaaZFIndexWLast
namespace Go.Proofs.YtaakhgjlekllgaaW.PrintWords
open Go.RowKit
namespace Kd
section
variable {α : Type} {d : Kd α} {e base g o n cap : Nat} {ok okp : Nat → Prop} {w W : World} {v : Value} {xs : List α}
end
section
variable {α : Type} {enc : α → Value} {h1 : ∀ x, (enc x).oneCell' = true} {e base g o n cap : Nat} {ok : Nat → Prop} {W : World} {xs : List α}
end
end Kd
end Go.Proofs.YtaakhgjlekllgaaW.PrintWords
