/- The proof of FnIndex: a part of it. No condition beyond the statement's own. -/
import Derived.Test.YtaakhgjlekllgaaZFIndexWApart
import Derived.Test.YtaakhgjlekllgaaZFIndexWArr
namespace Go.Proofs.YtaakhgjlekllgaaW.PrintWords
open Go.RowKit
namespace Kd
section
variable {α : Type} {d : Kd α} {e base g n c : Nat} {ok : Nat → Prop} {w w0 W : World} {A : Option Addr} {xs : List α}
end
end Kd
end Go.Proofs.YtaakhgjlekllgaaW.PrintWords
