/-
Texts read from bytes: the reference's GetText and the program's tell the same.
No condition beyond the rows' own: bytes, and a length that memory holds.
-/
import Derived.Test.YtikjondklgghkaaPRdx3
import Derived.Test.YtikjondklgghkaaPRdx8
import Derived.Test.YtikjondklgghkaaXPure
import Derived.Test.YtikjondklgghkaaRdPureNum
import Derived.Test.YtikjondklgghkaaRdPureGet
namespace Go.Proofs.Ytikjondklgghkaa.Pure
open Go.RowKit Go.Proofs.YtikjondklgghkaaX Go.Proofs.Ytikjondklgghkaa.PRd Go.Proofs.YtikjondklgghkaaW.PrintWords Go.Proofs.YtikjondklgghkaaW.PrintLast Go.Proofs.YtikjondklgghkaaW.PrintMore

def TextOk (l : List Int) (a : Int) (r : ByteArray × Int × Bool) : Prop := (r.2.2 = false → r = (⟨#[]⟩, 0, false)) ∧ (r.2.2 = true → 0 ≤ a ∧ a < r.2.1 ∧ r.2.1 ≤ (l.length : Int) ∧ r.1.size ≤ l.length)
theorem getText (l : List Int) (hl : l.length ≤ 140737488355328) (hb : ∀ y ∈ l, 0 ≤ y ∧ y ≤ 255) (a : Int) : ∃ r, Ev (fun n => spec_GetText.f n l a) r ∧ Ev (fun n => impl_GetText.f n l a) r ∧ TextOk l a r := by
  obtain ⟨⟨n, next, ok⟩, r1, r2, r3, r4⟩ := getNum l hl hb a
  unfold spec_GetText.f impl_GetText.f
  cases ok with
  | false => exact ⟨(⟨#[]⟩, 0, false), Ev.bind r1 (Ev.neg (by simp) (Ev.now _)), Ev.bind r2 (Ev.neg (by simp) (Ev.now _)), fun _ => rfl, fun h => by cases h⟩
  | true =>
    obtain ⟨q1, q2, q3, q4, q5⟩ := r4 rfl
    simp only at q1 q2 q4 q5
    have hw : wrap64 ((l.length : Int) - next) = (l.length : Int) - next := wrap_id (by omega) (by omega)
    by_cases c : n > (l.length : Int) - next
    · refine ⟨(⟨#[]⟩, 0, false), Ev.bind r1 (Ev.pos rfl (Ev.pos ?_ (Ev.now _))), Ev.bind r2 (Ev.pos rfl (Ev.pos ?_ (Ev.now _))), fun _ => rfl, fun h => by cases h⟩
      · simp only; rw [hw]; exact c
      · simp only; rw [hw]; exact c
    · have hw2 : wrap64 (next + n) = next + n := wrap_id (by omega) (by omega)
      refine ⟨(strOfNums ((l.take (next + n).toNat).drop next.toNat), next + n, true), ?_, ?_, (fun h => by cases h), fun _ => ⟨?_, ?_, ?_, ?_⟩⟩
      · refine Ev.bind r1 (Ev.pos rfl (Ev.neg ?_ (Ev.pos ?_ (Ev.pos ?_ (Ev.pos ?_ (Ev.is ?_))))))
        · simp only; rw [hw]; exact c
        · simp only; omega
        · simp only; rw [hw2]; omega
        · simp only; rw [hw2]; omega
        · simp only; rw [hw2]
      · refine Ev.bind r2 (Ev.pos rfl (Ev.neg ?_ (Ev.pos ?_ (Ev.pos ?_ (Ev.pos ?_ (Ev.is ?_))))))
        · simp only; rw [hw]; exact c
        · simp only; omega
        · simp only; rw [hw2]; omega
        · simp only; rw [hw2]; omega
        · simp only; rw [hw2]
      · exact q3
      · simp only; omega
      · simp only; omega
      · simp only; rw [strOfNums_size]; simp; omega
end Go.Proofs.Ytikjondklgghkaa.Pure
