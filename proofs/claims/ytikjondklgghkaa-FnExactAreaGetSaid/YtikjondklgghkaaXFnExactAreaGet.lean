-- Laid by a program of this session (wip/tools/mp.py) out of the translation. Lean checks it.
import Derived.Test.YtikjondklgghkaaPDiskx0
import Derived.Test.YtikjondklgghkaaPDiskx11
import Derived.Test.YtikjondklgghkaaXOpen
import Derived.KernelRfl
namespace Go.Proofs.Ytikjondklgghkaa.PDisk
open Go.RowKit Go.Proofs.YtikjondklgghkaaW.PrintWords Go.Proofs.YtikjondklgghkaaW.PrintLast Go.Proofs.YtikjondklgghkaaW.PrintMore Go.Proofs.YtikjondklgghkaaX
attribute [local go_sem] max2_int min2_int max_two min_two max_three min_three max_four min_four   -- for this text's walks alone
set_option linter.unusedVariables false
set_option linter.unusedSimpArgs false

theorem opn135 : Opn k135 Try.prog 135 (fun x_ : S135 => ((Lit.int .i64 x_.f0).wf = true) ∧ (x_.f1.size ≤ 140737488351232)) := Opn.imp (Opn.struct Try.underlying135 (OpnFs.cons (Opn.int Try.underlying3) rfl (by kernel_rfl) (OpnFs.one (Opn.string Try.underlying9) rfl (by kernel_rfl))) (by kernel_rfl) (fun x : S135 => (x.f0, x.f1)) (fun y => (⟨y.1, y.2⟩ : S135)) (fun _ => rfl)) (fun x h => by simpa using h)
/-- THE ONE PURE STATEMENT of laws_FnExactAreaGet. -/
def laws_FnExactAreaGet.Pure : Prop := ∀ (l0_0 : List ByteArray) (l0_1 : List (S135)) (a1 : Int) (a2 : Int) (a3 : Int), (l0_0.length ≤ maxLen ∧ l0_0.length * 16 ≤ 140737488351232 ∧ ∀ x_ ∈ l0_0, x_.size ≤ 140737488351232) → (l0_1.length ≤ maxLen ∧ l0_1.length * 24 ≤ 140737488351232 ∧ ∀ x_ ∈ l0_1, ((Lit.int .i64 x_.f0).wf = true) ∧ (x_.f1.size ≤ 140737488351232)) → ((Lit.int .i64 a1).wf = true) → ((Lit.int .i64 a2).wf = true) → ((Lit.int .i64 a3).wf = true) → ∃ k, laws_FnExactAreaGet.f k l0_0 l0_1 a1 a2 a3 = some true
end Go.Proofs.Ytikjondklgghkaa.PDisk
