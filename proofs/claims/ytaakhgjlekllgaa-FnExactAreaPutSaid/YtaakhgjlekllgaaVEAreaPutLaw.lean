/- The given statement FnExactAreaPut of the seat holds: the function of the law answers true at every input that the statement lets in. No condition. -/
import Derived.Test.YtaakhgjlekllgaaVEAreaPut0
import Derived.Test.YtaakhgjlekllgaaRows
import Derived.WalkKit
import Derived.ProofKit
import Derived.OpenShut
import Derived.ShutString
import Derived.ChangeOld
import Derived.Below
import Derived.SizedLaws
set_option linter.unusedVariables false
namespace Go.Proofs.Ytaakhgjlekllgaa.fnExactAreaPut
open Go.ChangeShapes Go.WideShapes Go.ChangeAt Go.RowKit Go.Proofs.Ytaakhgjlekllgaa.V
theorem own : ownKnob Try.prog.godebug = none := by kernel_rfl
theorem laidOut : laidOutB Try.prog = true := by kernel_rfl
set_option maxHeartbeats 1000000 in
set_option maxRecDepth 100000 in
theorem lifted (os : Os) (started : os.Started) (H : Type) (enc : TypeId × Value → H) :
    ReturnsInHanded {} Try.checked os 6 .any (Rows.fnExactAreaPutSpec.pre6 enc Try.prog Try.f6 Rows.fnExactAreaPutRow.domain false) (Rows.fnExactAreaPutSpec.post enc Try.prog Try.f6 false true false false) := by
  refine returnsInHanded_of_change_sized (C := Try.checked) own started (by kernel_rfl) Try.func6
    (ChangeSpec.witness6 (enc := enc) (C := Try.checked) false ⟨#[], #[.agg #[.slice none 0 0, .slice none 0 0], .int .i64 0, .int .i64 0, .slice none 0 0], []⟩ 8 (by kernel_rfl) (by kernel_rfl) (by kernel_rfl) (by kernel_rfl)) ?_
  intro W base args ds gs before hval0 hW hcnd hsz0 _
  have hsz : (DataW.weightsEach Try.prog (Try.f6.params.toList ++ Rows.fnExactAreaPutSpec.plain.varTypes Try.prog) (ds ++ gs)).all (· ≤ reachBytes) = true := hsz0
  have hval : ∀ (j : Nat) t v, Try.f6.params[j]? = some t → args[j]? = some v → Value.okWide Try.prog W .any base t v := hval0
  have hW' := hW
  obtain ⟨p, q, hA0, hV, rfl, hfz, hnd⟩ := hW
  have hA : DataW.TrodAll enc Try.prog W 0 (fun _ => true) true Try.f6.params.toList args.toList ds p := hA0
  rw [Try.params6] at hA hval hsz
  obtain ⟨v0, vs0, d0, ds0, p0, q0, hargs, rfl, rfl, h0, r0⟩ := trodAll_cons hA
  obtain ⟨v1, vs1, d1, ds1, p1, q1, rfl, rfl, rfl, h1, r1⟩ := trodAll_cons r0
  obtain ⟨v2, vs2, d2, ds2, p2, q2, rfl, rfl, rfl, h2, r2⟩ := trodAll_cons r1
  obtain ⟨v3, vs3, d3, ds3, p3, q3, rfl, rfl, rfl, h3, r3⟩ := trodAll_cons r2
  obtain ⟨rfl, rfl, rfl⟩ := trodAll_nil r3
  obtain rfl : args = #[v0, v1, v2, v3] := by cases args; simp_all
  obtain ⟨rfl, rfl⟩ := trodVars_none hV
  have k0 := h0
  have lt0 := trod_ltV h0
  obtain ⟨x0, hv0, hr0, hb0⟩ := arg_openV (t := S51) (id := 51) (by kernel_rfl) hsz (j := 0) rfl rfl (hval 0 51 v0 rfl rfl) h0
  have k1 := h1
  have lt1 := trod_ltV h1
  obtain ⟨x1, hv1, hr1, hb1⟩ := arg_openV (t := (.int .i64)) (id := 3) (by kernel_rfl) hsz (j := 1) rfl rfl (hval 1 3 v1 rfl rfl) h1
  have k2 := h2
  have lt2 := trod_ltV h2
  obtain ⟨x2, hv2, hr2, hb2⟩ := arg_openV (t := (.int .i64)) (id := 3) (by kernel_rfl) hsz (j := 2) rfl rfl (hval 2 3 v2 rfl rfl) h2
  have k3 := h3
  have lt3 := trod_ltV h3
  obtain ⟨x3, hv3, hr3, hb3⟩ := arg_openV (t := (.row false (.int .u8))) (id := 22) (by kernel_rfl) hsz (j := 3) rfl rfl (hval 3 22 v3 rfl rfl) h3
  clear hA0 hval0 hsz0 hsz
  have hk := FnExactAreaPut_pure x0 x1 x2 x3 hb0 hb1 hb2 hb3
  refine (law_calls laws_FnExactAreaPut_o (x := (x0, x1, x2, x3, ())) (vals := #[v0, v1, v2, v3]) ⟨v0, _, _, rfl, hv0, hr0, ⟨v1, _, _, rfl, hv1, hr1, ⟨v2, _, _, rfl, hv2, hr2, ⟨v3, _, _, rfl, hv3, hr3, ⟨rfl, rfl⟩⟩⟩⟩⟩ hk).mono fun e W' he => ?_
  obtain ⟨rfl, bel⟩ := he
  exact ⟨_, rfl, _, _, _, [], _, [], hW', trodAll_mk1 (shut_bool Try.underlying4 _), (trodAll_cons_mk (Below.trod laidOut (by kernel_rfl) (of_decide_eq_true (by kernel_rfl)) k0 bel lt0) (trodAll_cons_mk (Below.trod laidOut (by kernel_rfl) (of_decide_eq_true (by kernel_rfl)) k1 bel lt1) (trodAll_cons_mk (Below.trod laidOut (by kernel_rfl) (of_decide_eq_true (by kernel_rfl)) k2 bel lt2) (trodAll_cons_mk (Below.trod laidOut (by kernel_rfl) (of_decide_eq_true (by kernel_rfl)) k3 bel lt3) trodAll_mk0)))), rfl, bel.frame _, fun h => by cases h⟩
theorem over : Rows.fnExactAreaPutRow.holds Try.pinned (OpenSpec.ofChange Rows.fnExactAreaPutSpec) :=
  OpenClaim.holds_of_wide 6 Try.f6 rfl rfl rfl rfl rfl rfl rfl ⟨rfl, rfl, rfl, rfl, rfl⟩ rfl rfl rfl rfl rfl (by kernel_rfl) Try.func6 (by kernel_rfl)
    (of_decide_eq_true (by kernel_rfl)) (by unfold Func.isWrapper; first | (rw [if_pos (by decide +kernel)]; kernel_rfl) | (rw [if_neg (by decide +kernel)]; exact ⟨rfl, rfl⟩))
    (fun os started H enc _ => lifted os started H enc)
theorem proved : Rows.FnExactAreaPutSaid := over
#print axioms proved
end Go.Proofs.Ytaakhgjlekllgaa.fnExactAreaPut
namespace Go.Proofs.Ytaakhgjlekllgaa
theorem fnExactAreaPut_holds : Rows.FnExactAreaPutSaid := fnExactAreaPut.proved
end Go.Proofs.Ytaakhgjlekllgaa
