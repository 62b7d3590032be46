-- Laid by a program of this session (wip/tools/mp.py) out of the translation. Lean checks it.
import Derived.Test.YtikjondklgghkaaRows
import Derived.Test.YtikjondklgghkaaXFnExactRecordPack
import Derived.Test.YtikjondklgghkaaPureFnExactRecordPack
import Derived.WalkKit
import Derived.ProofKit
import Derived.OpenShut
import Derived.ShutString
import Derived.ChangeOld
import Derived.Below
import Derived.SizedLaws
namespace Go.Proofs.Ytikjondklgghkaa.fnExactRecordPack
open Go.ChangeShapes Go.WideShapes Go.ChangeAt Go.RowKit Go.Proofs.YtikjondklgghkaaX Go.Proofs.Ytikjondklgghkaa.PRec Go.Proofs.YtikjondklgghkaaW.PrintWords
open Go.ChangeMaps (open_string shut_string)
set_option linter.unusedVariables false
theorem own : ownKnob Try.prog.godebug = none := by kernel_rfl
theorem laidOut : laidOutB Try.prog = true := by kernel_rfl
set_option maxHeartbeats 1000000 in
set_option maxRecDepth 100000 in
theorem lifted (os : Os) (started : os.Started) (H : Type) (enc : TypeId × Value → H) :
    ReturnsInHanded {} Try.checked os 8 .any (Rows.fnExactRecordPackSpec.pre6 enc Try.prog Try.f8 Rows.fnExactRecordPackRow.domain false) (Rows.fnExactRecordPackSpec.post enc Try.prog Try.f8 false true false false) := by
  refine returnsInHanded_of_change_sized (C := Try.checked) own started (by kernel_rfl) Try.func8
    (ChangeSpec.witness6 (enc := enc) (C := Try.checked) false ⟨#[], #[.agg #[.int .i64 0, .string ByteArray.empty, .string ByteArray.empty]], []⟩ 8 (by kernel_rfl) (by kernel_rfl) (by kernel_rfl) (by kernel_rfl)) ?_
  intro W base args ds gs before hval0 hW hcnd hsz0 _
  have hsz : (DataW.weightsEach Try.prog (Try.f8.params.toList ++ Rows.fnExactRecordPackSpec.plain.varTypes Try.prog) (ds ++ gs)).all (· ≤ reachBytes) = true := hsz0
  have hval : ∀ (j : Nat) t v, Try.f8.params[j]? = some t → args[j]? = some v → Value.okWide Try.prog W .any base t v := hval0
  have hW' := hW
  obtain ⟨p, q, hA0, hV, rfl, hfz, hnd⟩ := hW
  have hA : DataW.TrodAll enc Try.prog W 0 (fun _ => true) true Try.f8.params.toList args.toList ds p := hA0
  rw [Try.params8] at hA hval hsz
  obtain ⟨v0, vs0, d0, ds0, p0, q0, hargs, rfl, rfl, h0, r0⟩ := trodAll_cons hA
  obtain ⟨rfl, rfl, rfl⟩ := trodAll_nil r0
  obtain rfl : args = #[v0] := by cases args; simp_all
  obtain ⟨rfl, rfl⟩ := trodVars_none hV
  have k0 := h0
  have lt0 := arg_lt h0
  obtain ⟨⟨a0_0, a0_1, a0_2⟩, hK0, hB0⟩ := arg_open (d := (Kd.pair (Kd.int .i64) (Kd.pair Kd.string Kd.string))) (Opn.struct Try.underlying41 (OpnFs.cons (Opn.int Try.underlying3) rfl (by kernel_rfl) (OpnFs.cons (Opn.string Try.underlying9) rfl (by kernel_rfl) (OpnFs.one (Opn.string Try.underlying9) rfl (by kernel_rfl)))) (by kernel_rfl) (fun x => x) (fun y => y) (fun _ => rfl)) hsz (j := 0) (t := 41) rfl rfl h0
  obtain ⟨cs0, hcs0⟩ : ∃ cs, v0.cells.toList = cs := ⟨_, rfl⟩
  rw [hcs0] at hK0
  obtain ⟨_, _, rfl, rfl, ⟨_, _, rfl, rfl, rfl⟩⟩ := hK0
  obtain rfl := arg_agg Try.underlying41 (hval 0 41 v0 rfl rfl) hcs0
  obtain ⟨b0_0, ⟨b0_1, b0_2⟩⟩ := hB0
  clear hA0 hval0 hsz0 hsz
  obtain ⟨kk, hk⟩ := Pure.FnExactRecordPack a0_0 a0_1 a0_2 b0_0 b0_1 b0_2
  refine (laws_FnExactRecordPack.calls kk a0_0 a0_1 a0_2 true W  hk).mono fun e W' he => ?_
  obtain ⟨rfl, bel⟩ := he
  exact ⟨_, rfl, _, _, _, [], _, [], hW', trodAll_mk1 (shut_bool Try.underlying4 _), (trodAll_cons_mk (Below.trod laidOut (by kernel_rfl) (of_decide_eq_true (by kernel_rfl)) k0 bel lt0) trodAll_mk0), rfl, bel.frame _, fun h => by cases h⟩
theorem over : Rows.fnExactRecordPackRow.holds Try.pinned (OpenSpec.ofChange Rows.fnExactRecordPackSpec) :=
  OpenClaim.holds_of_wide 8 Try.f8 rfl rfl rfl rfl rfl rfl rfl ⟨rfl, rfl, rfl, rfl, rfl⟩ rfl rfl rfl rfl rfl (by kernel_rfl) Try.func8 (by kernel_rfl)
    (of_decide_eq_true (by kernel_rfl)) (by unfold Func.isWrapper; first | (rw [if_pos (by decide +kernel)]; kernel_rfl) | (rw [if_neg (by decide +kernel)]; exact ⟨rfl, rfl⟩))
    (fun os started H enc _ => lifted os started H enc)
theorem proved : Rows.FnExactRecordPackSaid := over
#print axioms proved
end Go.Proofs.Ytikjondklgghkaa.fnExactRecordPack
namespace Go.Proofs.Ytikjondklgghkaa
/-- The row, under a short name, for the claim. -/
theorem fnExactRecordPack_holds : Rows.FnExactRecordPackSaid := fnExactRecordPack.proved
end Go.Proofs.Ytikjondklgghkaa
