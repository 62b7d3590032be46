/-
Rows of bytes in the laws' own functions: compared, marked, held.
No condition beyond the lengths.
-/
import Derived.Test.YtikjondklgghkaaPDiskx1
import Derived.Test.YtikjondklgghkaaXPure
namespace Go.Proofs.Ytikjondklgghkaa.Pure
open Go.RowKit Go.Proofs.YtikjondklgghkaaX Go.Proofs.Ytikjondklgghkaa.PDisk Go.Proofs.YtikjondklgghkaaW.PrintWords Go.Proofs.YtikjondklgghkaaW.PrintLast

theorem eqBytes (l : List Int) (hn : l.length ≤ 140737488355328) : Ev (fun k => laws_eqByteS.f k l l) true := by
  have key : ∀ i, i ≤ l.length → Ev (fun k => laws_eqByteS.l0 k l l (i : Int)) true := by
    refine down (L := fun k i => laws_eqByteS.l0 k l l (i : Int)) (R := fun _ => true) ?_ ?_
    · exact Ev.step (fun k => laws_eqByteS.l0.eq_2 (k := k) ..) (Ev.neg (by omega) (Ev.now _))
    · intro i hi ih
      refine Ev.step (fun k => laws_eqByteS.l0.eq_2 (k := k) ..) (Ev.pos (by omega) (Ev.pos (by omega) (Ev.pos (by omega) (Ev.pos rfl ?_))))
      rw [wrap_succ hi (by omega)]
      exact ih
  exact Ev.pos rfl (key 0 (by omega))
/-- The row that marking leaves: m, m + 1, .. as bytes. -/
def marks (m n : Nat) : List Int := (List.range n).map fun i => ((m + i : Nat) : Int) % 256
theorem marks_length (m n : Nat) : (marks m n).length = n := by simp [marks]
theorem marks_at (m n i : Nat) (h : i < n) : rd (marks m n) (i : Int) = ((m + i : Nat) : Int) % 256 := by
  unfold rd marks
  rw [Int.toNat_natCast, List.getD_eq_getElem?_getD, List.getElem?_map, List.getElem?_range h]
  rfl
theorem markBytes (l : List Int) (m : Nat) (hn : l.length + m ≤ 140737488355328) : Ev (fun k => laws_markByteS.f k l (m : Int)) (((m + l.length : Nat) : Int), marks m l.length) := by
  let st : Nat → List Int := fun i => marks m i ++ l.drop i
  have hst : ∀ i, i ≤ l.length → (st i).length = l.length := by intro i hi; simp [st, marks_length]; omega
  have key : ∀ i, i ≤ l.length → Ev (fun k => laws_markByteS.l0 k (st i) ((m + i : Nat) : Int) (i : Int)) (((m + l.length : Nat) : Int), marks m l.length) := by
    refine down (L := fun k i => laws_markByteS.l0 k (st i) ((m + i : Nat) : Int) (i : Int)) (R := fun _ => (((m + l.length : Nat) : Int), marks m l.length)) ?_ ?_
    · exact Ev.step (fun k => laws_markByteS.l0.eq_2 (k := k) ..) (Ev.neg (by rw [hst _ (by omega)]; omega) (Ev.is (by simp [st])))
    · intro i hi ih
      refine Ev.step (fun k => laws_markByteS.l0.eq_2 (k := k) ..) (Ev.pos (by rw [hst _ (by omega)]; omega) (Ev.pos (by omega) ?_))
      rw [wrap_succ hi (by omega), wrap_succ (i := m + i) (n := m + l.length) (by omega) (by omega)]
      have e : (st i).set (i : Int).toNat (((m + i : Nat) : Int) % 256) = st (i + 1) := by
        simp only [st]
        rw [Int.toNat_natCast, List.set_append_right _ _ (by rw [marks_length]; omega), marks_length, Nat.sub_self, List.drop_eq_getElem_cons hi, List.set_cons_zero]
        rw [marks, marks, List.range_succ, List.map_append, List.append_assoc]
        rfl
      rw [e]
      exact ih
  exact key 0 (by omega)
theorem heldBytes (m n : Nat) (hn : n + m ≤ 140737488355328) : Ev (fun k => laws_heldByteS.f k (marks m n) (m : Int)) ((m + n : Nat) : Int) := by
  have key : ∀ i, i ≤ n → Ev (fun k => laws_heldByteS.l0 k (marks m n) ((m + i : Nat) : Int) (i : Int)) ((m + n : Nat) : Int) := by
    refine down (L := fun k i => laws_heldByteS.l0 k (marks m n) ((m + i : Nat) : Int) (i : Int)) (R := fun _ => ((m + n : Nat) : Int)) ?_ ?_
    · exact Ev.step (fun k => laws_heldByteS.l0.eq_2 (k := k) ..) (Ev.neg (by rw [marks_length]; omega) (Ev.now _))
    · intro i hi ih
      refine Ev.step (fun k => laws_heldByteS.l0.eq_2 (k := k) ..) (Ev.pos (by rw [marks_length]; omega) (Ev.pos (by omega) (Ev.pos (marks_at m n i hi) ?_)))
      rw [wrap_succ hi (by omega), wrap_succ (i := m + i) (n := m + n) (by omega) (by omega)]
      exact ih
  exact key 0 (by omega)
end Go.Proofs.Ytikjondklgghkaa.Pure
