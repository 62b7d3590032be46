-- Laid by a program of this session (wip/tools/mp.py) out of the translation. Lean checks it.
import Derived.Test.YtikjondklgghkaaRows
import Derived.Test.YtikjondklgghkaaXFnExactAreaGet
import Derived.Test.YtikjondklgghkaaPureFnExactAreaGet
import Derived.WalkKit
import Derived.ProofKit
import Derived.OpenShut
import Derived.ShutString
import Derived.ChangeOld
import Derived.Below
import Derived.SizedLaws
namespace Go.Proofs.Ytikjondklgghkaa.fnExactAreaGet
open Go.ChangeShapes Go.WideShapes Go.ChangeAt Go.RowKit Go.Proofs.YtikjondklgghkaaX Go.Proofs.Ytikjondklgghkaa.PDisk Go.Proofs.YtikjondklgghkaaW.PrintWords
open Go.ChangeMaps (open_string shut_string)
set_option linter.unusedVariables false
theorem own : ownKnob Try.prog.godebug = none := by kernel_rfl
theorem laidOut : laidOutB Try.prog = true := by kernel_rfl
set_option maxHeartbeats 1000000 in
set_option maxRecDepth 100000 in
theorem lifted (os : Os) (started : os.Started) (H : Type) (enc : TypeId × Value → H) :
    ReturnsInHanded {} Try.checked os 12 .any (Rows.fnExactAreaGetSpec.pre6 enc Try.prog Try.f12 Rows.fnExactAreaGetRow.domain false) (Rows.fnExactAreaGetSpec.post enc Try.prog Try.f12 false true false false) := by
  refine returnsInHanded_of_change_sized (C := Try.checked) own started (by kernel_rfl) Try.func12
    (ChangeSpec.witness6 (enc := enc) (C := Try.checked) false ⟨#[], #[.agg #[.slice none 0 0, .slice none 0 0], .int .i64 0, .int .i64 0, .int .i64 0], []⟩ 8 (by kernel_rfl) (by kernel_rfl) (by kernel_rfl) (by kernel_rfl)) ?_
  intro W base args ds gs before hval0 hW hcnd hsz0 _
  have hsz : (DataW.weightsEach Try.prog (Try.f12.params.toList ++ Rows.fnExactAreaGetSpec.plain.varTypes Try.prog) (ds ++ gs)).all (· ≤ reachBytes) = true := hsz0
  have hval : ∀ (j : Nat) t v, Try.f12.params[j]? = some t → args[j]? = some v → Value.okWide Try.prog W .any base t v := hval0
  have hW' := hW
  obtain ⟨p, q, hA0, hV, rfl, hfz, hnd⟩ := hW
  have hA : DataW.TrodAll enc Try.prog W 0 (fun _ => true) true Try.f12.params.toList args.toList ds p := hA0
  rw [Try.params12] at hA hval hsz
  obtain ⟨v0, vs0, d0, ds0, p0, q0, hargs, rfl, rfl, h0, r0⟩ := trodAll_cons hA
  obtain ⟨v1, vs1, d1, ds1, p1, q1, rfl, rfl, rfl, h1, r1⟩ := trodAll_cons r0
  obtain ⟨v2, vs2, d2, ds2, p2, q2, rfl, rfl, rfl, h2, r2⟩ := trodAll_cons r1
  obtain ⟨v3, vs3, d3, ds3, p3, q3, rfl, rfl, rfl, h3, r3⟩ := trodAll_cons r2
  obtain ⟨rfl, rfl, rfl⟩ := trodAll_nil r3
  obtain rfl : args = #[v0, v1, v2, v3] := by cases args; simp_all
  obtain ⟨rfl, rfl⟩ := trodVars_none hV
  have k0 := h0
  have lt0 := arg_lt h0
  obtain ⟨⟨l0_0, l0_1⟩, hK0, hB0⟩ := arg_open (d := (Kd.pair (Kd.slice 9 Kd.string) (Kd.slice 135 k135))) (Opn.struct Try.underlying68 (OpnFs.cons (Opn.slice (e := 9) Try.underlying65 (Opn.string Try.underlying9) (by kernel_rfl) (b := 16) (by kernel_rfl)) rfl (by kernel_rfl) (OpnFs.one (Opn.slice (e := 135) Try.underlying66 opn135 (by kernel_rfl) (b := 24) (by kernel_rfl)) rfl (by kernel_rfl))) (by kernel_rfl) (fun x => x) (fun y => y) (fun _ => rfl)) hsz (j := 0) (t := 68) rfl rfl h0
  obtain ⟨cs0, hcs0⟩ : ∃ cs, v0.cells.toList = cs := ⟨_, rfl⟩
  rw [hcs0] at hK0
  obtain ⟨_, _, rfl, ⟨A0_0, c0_0, rfl, hc0_0, hr0_0⟩, ⟨A0_1, c0_1, rfl, hc0_1, hr0_1⟩⟩ := hK0
  obtain rfl := arg_agg Try.underlying68 (hval 0 68 v0 rfl rfl) hcs0
  obtain ⟨b0_0, b0_1⟩ := hB0
  have k1 := h1
  have lt1 := arg_lt h1
  obtain ⟨a1, hK1, hB1⟩ := arg_open (d := (Kd.int .i64)) (Opn.int Try.underlying3) hsz (j := 1) (t := 3) rfl rfl h1
  obtain ⟨z1, rfl, _, _, _⟩ := open_int Try.underlying3 (hval 1 3 v1 rfl rfl) k1
  obtain rfl : a1 = z1 := Eq.symm (by simpa [Kd.int, Kd.scalar, Value.cells] using hK1)
  have b1 := hB1
  have k2 := h2
  have lt2 := arg_lt h2
  obtain ⟨a2, hK2, hB2⟩ := arg_open (d := (Kd.int .i64)) (Opn.int Try.underlying3) hsz (j := 2) (t := 3) rfl rfl h2
  obtain ⟨z2, rfl, _, _, _⟩ := open_int Try.underlying3 (hval 2 3 v2 rfl rfl) k2
  obtain rfl : a2 = z2 := Eq.symm (by simpa [Kd.int, Kd.scalar, Value.cells] using hK2)
  have b2 := hB2
  have k3 := h3
  have lt3 := arg_lt h3
  obtain ⟨a3, hK3, hB3⟩ := arg_open (d := (Kd.int .i64)) (Opn.int Try.underlying3) hsz (j := 3) (t := 3) rfl rfl h3
  obtain ⟨z3, rfl, _, _, _⟩ := open_int Try.underlying3 (hval 3 3 v3 rfl rfl) k3
  obtain rfl : a3 = z3 := Eq.symm (by simpa [Kd.int, Kd.scalar, Value.cells] using hK3)
  have b3 := hB3
  clear hA0 hval0 hsz0 hsz
  obtain ⟨kk, hk⟩ := Pure.FnExactAreaGet l0_0 l0_1 a1 a2 a3 (by simpa using b0_0) (by simpa using b0_1) b1 b2 b3
  refine (laws_FnExactAreaGet.calls kk A0_0 c0_0 l0_0 A0_1 c0_1 l0_1 a1 a2 a3 true W hr0_0 hc0_0 hr0_1 hc0_1 hk).mono fun e W' he => ?_
  obtain ⟨rfl, bel⟩ := he
  exact ⟨_, rfl, _, _, _, [], _, [], hW', trodAll_mk1 (shut_bool Try.underlying4 _), (trodAll_cons_mk (Below.trod laidOut (by kernel_rfl) (of_decide_eq_true (by kernel_rfl)) k0 bel lt0) (trodAll_cons_mk (Below.trod laidOut (by kernel_rfl) (of_decide_eq_true (by kernel_rfl)) k1 bel lt1) (trodAll_cons_mk (Below.trod laidOut (by kernel_rfl) (of_decide_eq_true (by kernel_rfl)) k2 bel lt2) (trodAll_cons_mk (Below.trod laidOut (by kernel_rfl) (of_decide_eq_true (by kernel_rfl)) k3 bel lt3) trodAll_mk0)))), rfl, bel.frame _, fun h => by cases h⟩
theorem over : Rows.fnExactAreaGetRow.holds Try.pinned (OpenSpec.ofChange Rows.fnExactAreaGetSpec) :=
  OpenClaim.holds_of_wide 12 Try.f12 rfl rfl rfl rfl rfl rfl rfl ⟨rfl, rfl, rfl, rfl, rfl⟩ rfl rfl rfl rfl rfl (by kernel_rfl) Try.func12 (by kernel_rfl)
    (of_decide_eq_true (by kernel_rfl)) (by unfold Func.isWrapper; first | (rw [if_pos (by decide +kernel)]; kernel_rfl) | (rw [if_neg (by decide +kernel)]; exact ⟨rfl, rfl⟩))
    (fun os started H enc _ => lifted os started H enc)
theorem proved : Rows.FnExactAreaGetSaid := over
#print axioms proved
end Go.Proofs.Ytikjondklgghkaa.fnExactAreaGet
namespace Go.Proofs.Ytikjondklgghkaa
/-- The row, under a short name, for the claim. -/
theorem fnExactAreaGet_holds : Rows.FnExactAreaGetSaid := fnExactAreaGet.proved
end Go.Proofs.Ytikjondklgghkaa
