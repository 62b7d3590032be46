/-
RecordRead: program and reference tell the same of any bytes, from any place on; the program turns nothing of the bytes.
No condition beyond the row's own.
-/
import Derived.Test.YtikjondklgghkaaPRdx10
import Derived.Test.YtikjondklgghkaaXPure
import Derived.Test.YtikjondklgghkaaRdPureNum
import Derived.Test.YtikjondklgghkaaRdPureRec
import Derived.Test.YtikjondklgghkaaRdPureGet
import Derived.Test.YtikjondklgghkaaRdPureGetText
import Derived.Test.YtikjondklgghkaaRdPureRead
import Derived.Test.YtikjondklgghkaaRdPureCopy
import Derived.Test.YtikjondklgghkaaRdPureEqBytes
namespace Go.Proofs.Ytikjondklgghkaa.Pure
open Go.RowKit Go.Proofs.YtikjondklgghkaaX Go.Proofs.Ytikjondklgghkaa.PRd Go.Proofs.YtikjondklgghkaaW.PrintWords Go.Proofs.YtikjondklgghkaaW.PrintLast

theorem FnExactRecordRead : laws_FnExactRecordRead.Pure := by
  intro l a _ _ hb _
  refine Ev.rounds (r := true) ?_
  show Ev (fun k => laws_FnExactRecordRead.f k l a) true
  unfold laws_FnExactRecordRead.f
  refine Ev.ite (fun _ => Ev.now _) (fun hn => ?_)
  have hto := toBytes l (by omega)
  obtain ⟨r, h1, h2, _⟩ := readBoth l (by omega) (fun y hy => bounds_u8 (hb y hy)) a
  refine Ev.bind hto (Ev.bind h1 (Ev.bind hto (Ev.bind h2 (Ev.known (a := true) (by unfold laws_eqRecord.f; simp) (Ev.pos rfl (Ev.pos rfl ?_))))))
  exact Ev.step (fun k => laws_FnExactRecordRead.j0.eq_2 (k := k) ..) (Ev.neg (by simp) (Ev.bind hto (Ev.bind (eqBytes l (by omega)) (Ev.pos rfl (Ev.now _)))))
end Go.Proofs.Ytikjondklgghkaa.Pure
