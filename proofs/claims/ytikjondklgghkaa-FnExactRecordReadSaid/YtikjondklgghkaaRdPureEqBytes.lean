/-
Rows of bytes compared by the laws' own function: a row with itself.
No condition beyond the length.
-/
import Derived.Test.YtikjondklgghkaaPRdx1
import Derived.Test.YtikjondklgghkaaXPure
namespace Go.Proofs.Ytikjondklgghkaa.Pure
open Go.RowKit Go.Proofs.YtikjondklgghkaaX Go.Proofs.Ytikjondklgghkaa.PRd Go.Proofs.YtikjondklgghkaaW.PrintWords Go.Proofs.YtikjondklgghkaaW.PrintLast

theorem eqBytes (l : List Int) (hn : l.length ≤ 140737488355328) : Ev (fun k => laws_eqByteS.f k l l) true := by
  have key : ∀ i, i ≤ l.length → Ev (fun k => laws_eqByteS.l0 k l l (i : Int)) true := by
    refine down (L := fun k i => laws_eqByteS.l0 k l l (i : Int)) (R := fun _ => true) ?_ ?_
    · exact Ev.step (fun k => laws_eqByteS.l0.eq_2 (k := k) ..) (Ev.neg (by omega) (Ev.now _))
    · intro i hi ih
      refine Ev.step (fun k => laws_eqByteS.l0.eq_2 (k := k) ..) (Ev.pos (by omega) (Ev.pos (by omega) (Ev.pos (by omega) (Ev.pos rfl ?_))))
      rw [wrap_succ hi (by omega)]
      exact ih
  exact Ev.pos rfl (key 0 (by omega))
end Go.Proofs.Ytikjondklgghkaa.Pure
