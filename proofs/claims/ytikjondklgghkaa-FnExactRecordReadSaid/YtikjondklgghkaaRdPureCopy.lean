/-
Rows of bytes copied by the laws' own function.
No condition beyond the length.
-/
import Derived.Test.YtikjondklgghkaaPRdx4
import Derived.Test.YtikjondklgghkaaXPure
namespace Go.Proofs.Ytikjondklgghkaa.Pure
open Go.RowKit Go.Proofs.YtikjondklgghkaaX Go.Proofs.Ytikjondklgghkaa.PRd Go.Proofs.YtikjondklgghkaaW.PrintWords Go.Proofs.YtikjondklgghkaaW.PrintLast

theorem rd_get (l : List Int) {i : Nat} (h : i < l.length) : rd l (i : Int) = l[i] := by simp [rd, List.getD, h]
theorem toBytes (l : List Int) (hn : l.length ≤ 140737488355328) : Ev (fun k => laws_toByteS.f k l) l := by
  have key : ∀ i, i ≤ l.length → Ev (fun k => laws_toByteS.l0 k l (filled (fun x => x) 0 l i) (i : Int)) l := by
    refine down (L := fun k i => laws_toByteS.l0 k l (filled (fun x => x) 0 l i) (i : Int)) (R := fun _ => l) ?_ ?_
    · refine Ev.step (fun k => laws_toByteS.l0.eq_2 (k := k) ..) (Ev.neg (by omega) (Ev.eq (Ev.now _) ?_))
      rw [filled_all, List.map_id']
    · intro i hi ih
      refine Ev.step (fun k => laws_toByteS.l0.eq_2 (k := k) ..) (Ev.pos (by omega) (Ev.pos (by omega) (Ev.pos (by rw [filled_length _ _ _ (by omega)]; omega) ?_)))
      rw [wrap_succ hi (by omega), rd_get l hi, filled_step (fun x => x) 0 l hi rfl]
      exact ih
  have := key 0 (by omega)
  rw [filled_zero] at this
  exact Ev.pos (by omega) (Ev.pos (by omega) this)
end Go.Proofs.Ytikjondklgghkaa.Pure
