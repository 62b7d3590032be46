/-
RecordPack: program and reference give the same bytes, and the program's row is its own.
No condition beyond the row's own.
-/
import Derived.Test.YtikjondklgghkaaPRecx10
import Derived.Test.YtikjondklgghkaaPRecx4
import Derived.Test.YtikjondklgghkaaPRecx7
import Derived.Test.YtikjondklgghkaaXPure
import Derived.Test.YtikjondklgghkaaPureNum
import Derived.Test.YtikjondklgghkaaPureBytes
import Derived.Test.YtikjondklgghkaaPureRec
import Derived.Test.YtikjondklgghkaaXFnExactRecordPack
namespace Go.Proofs.Ytikjondklgghkaa.Pure
open Go.RowKit Go.Proofs.YtikjondklgghkaaX Go.Proofs.Ytikjondklgghkaa.PRec Go.Proofs.YtikjondklgghkaaW.PrintWords Go.Proofs.YtikjondklgghkaaW.PrintLast

theorem szRec (a0 : Int) (a1 a2 : ByteArray) (h1 : a1.size ≤ 140737488351232) (h2 : a2.size ≤ 140737488351232) : ∃ r, laws_szRecord.f a0 a1 a2 1048576 = some r ∧ (¬ r < 0 → a1.size + a2.size ≤ 1048576) := by
  unfold laws_szRecord.f
  rw [wrap_id (by omega) (by omega), wrap_id (by omega) (by omega)]
  split
  · exact ⟨_, rfl, by omega⟩
  · split
    · exact ⟨_, rfl, by omega⟩
    · exact ⟨_, rfl, by omega⟩
theorem FnExactRecordPack : laws_FnExactRecordPack.Pure := by
  intro a u b _ hu hb
  refine Ev.rounds (r := true) ?_
  show Ev (fun k => laws_FnExactRecordPack.f k a u b) true
  obtain ⟨r, hr, hs⟩ := szRec a u b hu hb
  refine Ev.known hr ?_
  refine Ev.ite (fun _ => Ev.now _) (fun hn => ?_)
  have hs := hs hn
  have hl := recPacked_length a u b
  have h1 := spec_rec a u b (by omega)
  have h2 := impl_rec a u b (by omega)
  have hm := markBytes (recPacked a u b).1 1 (by omega)
  have hh := heldBytes 1 (recPacked a u b).1.length (by omega)
  have he := eqBytes (recPacked a u b).1 (by omega)
  refine Ev.known rfl (Ev.bind h1 (Ev.known rfl (Ev.bind h2 (Ev.bind he (Ev.pos rfl ?_)))))
  refine Ev.step (fun k => laws_FnExactRecordPack.j0.eq_2 (k := k) ..) (Ev.neg (by simp) (Ev.bind hm (Ev.bind hh (Ev.neg (by omega) (Ev.pos rfl ?_)))))
  refine Ev.known rfl (Ev.bind h2 (Ev.bind he (Ev.pos rfl ?_)))
  exact Ev.step (fun k => laws_FnExactRecordPack.j1.eq_2 (k := k) ..) (Ev.neg (by simp) (Ev.bind hh (Ev.neg (by omega) (Ev.pos rfl (Ev.now _)))))
end Go.Proofs.Ytikjondklgghkaa.Pure
