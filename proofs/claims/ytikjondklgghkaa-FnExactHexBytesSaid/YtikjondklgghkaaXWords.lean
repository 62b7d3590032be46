/-
Small words that the printed walks use beside the print's own: how an empty text is told apart.
No condition: lemmas alone.
-/
import Derived.WalkKit
namespace Go.Proofs.YtikjondklgghkaaX
@[simp] theorem bne_nil_bytes (l : List UInt8) : (l != ([] : List UInt8)) = !l.isEmpty := by cases l <;> rfl
@[simp] theorem beq_nil_bytes (l : List UInt8) : (l == ([] : List UInt8)) = l.isEmpty := by cases l <;> rfl
end Go.Proofs.YtikjondklgghkaaX
