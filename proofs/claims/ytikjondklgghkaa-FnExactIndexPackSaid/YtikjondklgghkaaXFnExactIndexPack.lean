-- Laid by a program of this session (wip/tools/mp.py) out of the translation. Lean checks it.
import Derived.Test.YtikjondklgghkaaPRecx0
import Derived.Test.YtikjondklgghkaaPRecx15
import Derived.Test.YtikjondklgghkaaXOpen
import Derived.KernelRfl
namespace Go.Proofs.Ytikjondklgghkaa.PRec
open Go.RowKit Go.Proofs.YtikjondklgghkaaW.PrintWords Go.Proofs.YtikjondklgghkaaW.PrintLast Go.Proofs.YtikjondklgghkaaW.PrintMore Go.Proofs.YtikjondklgghkaaX
attribute [local go_sem] max2_int min2_int max_two min_two max_three min_three max_four min_four   -- for this text's walks alone
set_option linter.unusedVariables false
set_option linter.unusedSimpArgs false

theorem opn95 : Opn k95 Try.prog 95 (fun x_ : S95 => (x_.f0.size ≤ 140737488351232) ∧ (x_.f1.size ≤ 140737488351232)) := Opn.imp (Opn.struct Try.underlying95 (OpnFs.cons (Opn.string Try.underlying9) rfl (by kernel_rfl) (OpnFs.one (Opn.string Try.underlying9) rfl (by kernel_rfl))) (by kernel_rfl) (fun x : S95 => (x.f0, x.f1)) (fun y => (⟨y.1, y.2⟩ : S95)) (fun _ => rfl)) (fun x h => by simpa using h)
/-- THE ONE PURE STATEMENT of laws_FnExactIndexPack. -/
def laws_FnExactIndexPack.Pure : Prop := ∀ (l0 : List (S95)), (l0.length ≤ maxLen ∧ l0.length * 32 ≤ 140737488351232 ∧ ∀ x_ ∈ l0, (x_.f0.size ≤ 140737488351232) ∧ (x_.f1.size ≤ 140737488351232)) → ∃ k, laws_FnExactIndexPack.f k l0 = some true
end Go.Proofs.Ytikjondklgghkaa.PRec
