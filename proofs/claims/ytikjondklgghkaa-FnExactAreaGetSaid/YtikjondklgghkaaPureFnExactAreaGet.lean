/-
AreaGet: program and reference tell the same bytes; the program turns nothing of the disk, and its row is its own.
No condition beyond the row's own.
-/
import Derived.Test.YtikjondklgghkaaPDiskx11
import Derived.Test.YtikjondklgghkaaXPure
import Derived.Test.YtikjondklgghkaaDkPureBytes
import Derived.Test.YtikjondklgghkaaDkPureDisk
import Derived.Test.YtikjondklgghkaaDkPureArea
import Derived.Test.YtikjondklgghkaaDkPureDiskLaw
import Derived.Test.YtikjondklgghkaaXFnExactAreaGet
namespace Go.Proofs.Ytikjondklgghkaa.Pure
open Go.RowKit Go.Proofs.YtikjondklgghkaaX Go.Proofs.Ytikjondklgghkaa.PDisk Go.Proofs.YtikjondklgghkaaW.PrintWords Go.Proofs.YtikjondklgghkaaW.PrintLast

theorem FnExactAreaGet : laws_FnExactAreaGet.Pure := by
  intro safe late a b c ⟨_, hs, _⟩ ⟨_, hl, _⟩ _ _ _
  refine Ev.rounds (r := true) ?_
  show Ev (fun k => laws_FnExactAreaGet.f k safe late a b c) true
  obtain ⟨r, hr⟩ := szDisk safe late (by omega) (by omega) 1048576
  refine Ev.bind hr (Ev.ite (fun _ => Ev.now _) (fun _ => ?_))
  have hto := toDisk safe late (by omega) (by omega)
  have hlen : (late.map convP).length = late.length := List.length_map ..
  have h1 := spec_areaGet safe (late.map convP) a b c (by omega) (by omega)
  have h2 := impl_areaGet safe (late.map convP) a b c (by omega) (by omega)
  have hL := areaTold_length safe (late.map convP) a b c
  obtain ⟨m, q1, q2, hm, hm0⟩ := markDisk safe (late.map convP) (by omega) (by omega)
  have heq := eqDisk safe (late.map convP) (by omega) (by omega)
  generalize areaTold safe (late.map convP) a b c = R at h1 h2 hL
  have hk := markBytes R.1 1 (by omega)
  have hh := heldBytes 1 R.1.length (by omega)
  have he := eqBytes R.1 (by omega)
  refine Ev.bind hto (Ev.bind h1 (Ev.bind hto (Ev.bind h2 (Ev.bind he (Ev.pos rfl ?_)))))
  refine Ev.step (fun k => laws_FnExactAreaGet.j0.eq_2 (k := k) ..) (Ev.neg (by simp) (Ev.bind hto (Ev.bind heq (Ev.pos rfl (Ev.bind hm (Ev.neg (by omega) (Ev.bind he (Ev.pos rfl ?_))))))))
  refine Ev.step (fun k => laws_FnExactAreaGet.j1.eq_2 (k := k) ..) (Ev.neg (by simp) (Ev.bind hk (Ev.bind hh (Ev.neg (by omega) (Ev.pos rfl (Ev.bind hto (Ev.bind h2 (Ev.bind he (Ev.pos rfl ?_)))))))))
  exact Ev.step (fun k => laws_FnExactAreaGet.j2.eq_2 (k := k) ..) (Ev.neg (by simp) (Ev.bind hh (Ev.neg (by omega) (Ev.pos rfl (Ev.now _)))))
end Go.Proofs.Ytikjondklgghkaa.Pure
