-- Laid by a program of this session (wip/tools/mp.py) out of the translation. Lean checks it.
import Derived.Test.YtikjondklgghkaaProg
import Derived.Below
import Derived.Deep.Draws
import Derived.Deep.AppendLies
import Derived.Maps.AppendAt
import Derived.OwnWalk
import Derived.Laws.BytesArg
import Derived.Laws.MakeOwn
import Derived.Laws.OwnMore
import Derived.Deep.OwnRows
import Derived.Tactics
import Derived.Lib.ConvBytes
import Derived.Laws.Slices
import Derived.WalkKit
import Derived.KernelRfl
import Derived.RowKit3
import Derived.Deep.LoopGhost
import Derived.Deep.QuietTactic
import Derived.BigQuiet
import Derived.WideLaws
import Derived.Deep.DeepCutAuto
import Derived.Deep.CutBlock
import Derived.Deep.RegionHeld3
import Derived.Laws.Rows
import Derived.Lib.AppendStr
import Derived.ArgAppend
import Derived.Laws.IdiomCopy
import Derived.OrdersHeld
import Derived.Laws.BitsLemmas
import Derived.RowKit
import Derived.Test.YtikjondklgghkaaXWords
import Derived.Test.YtikjondklgghkaaXShelf
import Derived.Test.YtikjondklgghkaaWWords
import Derived.Test.YtikjondklgghkaaWLast
import Derived.Test.YtikjondklgghkaaWTab
import Derived.Test.YtikjondklgghkaaWFour
import Derived.Test.YtikjondklgghkaaWQPut
import Derived.Test.YtikjondklgghkaaWApart
import Derived.Test.YtikjondklgghkaaWArr
import Derived.Test.YtikjondklgghkaaWZeros
import Derived.Test.YtikjondklgghkaaWFoot
import Derived.Test.YtikjondklgghkaaWKept
import Derived.Test.YtikjondklgghkaaWShare
import Derived.Test.YtikjondklgghkaaWN
import Derived.Test.YtikjondklgghkaaWFootNe
import Derived.Test.YtikjondklgghkaaWAt
import Derived.Test.YtikjondklgghkaaWEqStruct
import Derived.Test.YtikjondklgghkaaWRepsOne
import Derived.Test.YtikjondklgghkaaWInv
import Derived.Test.YtikjondklgghkaaWInvWords
import Derived.Test.YtikjondklgghkaaWGuard
import Derived.Test.YtikjondklgghkaaWNEv
import Derived.Test.YtikjondklgghkaaWMore
namespace Go.Proofs.Ytikjondklgghkaa.PRd
open Go.RowKit Go.Proofs.YtikjondklgghkaaW.PrintWords Go.Proofs.YtikjondklgghkaaW.PrintLast Go.Proofs.YtikjondklgghkaaW.PrintMore Go.Proofs.YtikjondklgghkaaX
attribute [local go_sem] max2_int min2_int max_two min_two max_three min_three max_four min_four   -- for this text's walks alone
set_option linter.unusedVariables false
set_option linter.unusedSimpArgs false



def errW : Option Int → Value
  | none => .nilIface
  | some c => .iface 0 (.int .i64 c)
theorem errW_none : errW none = .nilIface := rfl
theorem errW_some (c : Int) : errW (some c) = .iface 0 (.int .i64 c) := rfl

theorem info5 : (Try.prog.info? 5).map (fun i => (i.zero, i.size, i.bytes)) = some (some (.int .u8 0), 1, 1) := by kernel_rfl
-- the values' own types

def xconv43.f (a0 : ByteArray) : Option (List Int) := xBytes a0
end Go.Proofs.Ytikjondklgghkaa.PRd
