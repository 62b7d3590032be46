-- Laid by a program of this session (wip/tools/mp.py) out of the translation. Lean checks it.
import Derived.Test.YtikjondklgghkaaPRecx0
import Derived.Test.YtikjondklgghkaaPRecx10
import Derived.Test.YtikjondklgghkaaXOpen
import Derived.KernelRfl
namespace Go.Proofs.Ytikjondklgghkaa.PRec
open Go.RowKit Go.Proofs.YtikjondklgghkaaW.PrintWords Go.Proofs.YtikjondklgghkaaW.PrintLast Go.Proofs.YtikjondklgghkaaW.PrintMore Go.Proofs.YtikjondklgghkaaX
attribute [local go_sem] max2_int min2_int max_two min_two max_three min_three max_four min_four   -- for this text's walks alone
set_option linter.unusedVariables false
set_option linter.unusedSimpArgs false

/-- THE ONE PURE STATEMENT of laws_FnExactRecordPack. -/
def laws_FnExactRecordPack.Pure : Prop := ∀ (a0_0 : Int) (a0_1 : ByteArray) (a0_2 : ByteArray), ((Lit.int .i64 a0_0).wf = true) → (a0_1.size ≤ 140737488351232) → (a0_2.size ≤ 140737488351232) → ∃ k, laws_FnExactRecordPack.f k a0_0 a0_1 a0_2 = some true
end Go.Proofs.Ytikjondklgghkaa.PRec
