/- The given statement FnExactArchiveGet of the seat holds: the function of the law answers true at every input that the statement lets in. No condition. -/
import Derived.Test.YtcpecilmkkmaiaaGreatVEArchiveGet2
import Derived.Test.YtcpecilmkkmaiaaGreatRows
import Derived.WalkKit
import Derived.ProofKit
import Derived.OpenShut
import Derived.ShutString
import Derived.ChangeOld
import Derived.Below
import Derived.SizedLaws
set_option linter.unusedVariables false
namespace Go.Proofs.YtcpecilmkkmaiaaGreat.fnExactArchiveGet
open Go.ChangeShapes Go.WideShapes Go.ChangeAt Go.RowKit Go.Proofs.YtcpecilmkkmaiaaGreat.V
theorem own : ownKnob Tryz.prog.godebug = none := by kernel_rfl
theorem laidOut : laidOutB Tryz.prog = true := by kernel_rfl
set_option maxHeartbeats 1000000 in
set_option maxRecDepth 100000 in
theorem lifted (os : Os) (started : os.Started) (H : Type) (enc : TypeId × Value → H) :
    ReturnsInHanded {} Tryz.checked os 3 .any (Rows.fnExactArchiveGetSpec.pre6 enc Tryz.prog Tryz.f3 Rows.fnExactArchiveGetRow.domain false) (Rows.fnExactArchiveGetSpec.post enc Tryz.prog Tryz.f3 false true false false) := by
  refine returnsInHanded_of_change_sized (C := Tryz.checked) own started (by kernel_rfl) Tryz.func3
    (ChangeSpec.witness6 (enc := enc) (C := Tryz.checked) false ⟨#[], #[.agg #[.bool false, .slice none 0 0, .slice none 0 0, .int .i64 0, .int .i64 0, .int .i64 0, .slice none 0 0], .string ByteArray.empty], []⟩ 8 (by kernel_rfl) (by kernel_rfl) (by kernel_rfl) (by kernel_rfl)) ?_
  intro W base args ds gs before hval0 hW hcnd hsz0 _
  have hsz : (DataW.weightsEach Tryz.prog (Tryz.f3.params.toList ++ Rows.fnExactArchiveGetSpec.plain.varTypes Tryz.prog) (ds ++ gs)).all (· ≤ reachBytes) = true := hsz0
  have hval : ∀ (j : Nat) t v, Tryz.f3.params[j]? = some t → args[j]? = some v → Value.okWide Tryz.prog W .any base t v := hval0
  have hW' := hW
  obtain ⟨p, q, hA0, hV, rfl, hfz, hnd⟩ := hW
  have hA : DataW.TrodAll enc Tryz.prog W 0 (fun _ => true) true Tryz.f3.params.toList args.toList ds p := hA0
  rw [Tryz.params3] at hA hval hsz
  obtain ⟨v0, vs0, d0, ds0, p0, q0, hargs, rfl, rfl, h0, r0⟩ := trodAll_cons hA
  obtain ⟨v1, vs1, d1, ds1, p1, q1, rfl, rfl, rfl, h1, r1⟩ := trodAll_cons r0
  obtain ⟨rfl, rfl, rfl⟩ := trodAll_nil r1
  obtain rfl : args = #[v0, v1] := by cases args; simp_all
  obtain ⟨rfl, rfl⟩ := trodVars_none hV
  have k0 := h0
  have lt0 := Zahf h0
  obtain ⟨x0, hv0, hr0, hb0⟩ := Zafq (t := S30) (id := 30) (by kernel_rfl) hsz (j := 0) rfl rfl (hval 0 30 v0 rfl rfl) h0
  have k1 := h1
  have lt1 := Zahf h1
  obtain ⟨x1, hv1, hr1, hb1⟩ := Zafq (t := .str) (id := 9) (by kernel_rfl) hsz (j := 1) rfl rfl (hval 1 9 v1 rfl rfl) h1
  clear hA0 hval0 hsz0 hsz
  have hk := Zq0 x0 x1 hb0 hb1
  refine (law_calls Zoc (x := (x0, x1, ())) (vals := #[v0, v1]) ⟨v0, _, _, rfl, hv0, hr0, ⟨v1, _, _, rfl, hv1, hr1, ⟨rfl, rfl⟩⟩⟩ hk).mono fun e W' he => ?_
  obtain ⟨rfl, bel⟩ := he
  exact ⟨_, rfl, _, _, _, [], _, [], hW', trodAll_mk1 (shut_bool Tryz.underlying4 _), (trodAll_cons_mk (Below.trod laidOut (by kernel_rfl) (of_decide_eq_true (by kernel_rfl)) k0 bel lt0) (trodAll_cons_mk (Below.trod laidOut (by kernel_rfl) (of_decide_eq_true (by kernel_rfl)) k1 bel lt1) trodAll_mk0)), rfl, bel.frame _, fun h => by cases h⟩
theorem over : Rows.fnExactArchiveGetRow.holds Tryz.pinned (OpenSpec.ofChange Rows.fnExactArchiveGetSpec) :=
  OpenClaim.holds_of_wide 3 Tryz.f3 rfl rfl rfl rfl rfl rfl rfl ⟨rfl, rfl, rfl, rfl, rfl⟩ rfl rfl rfl rfl rfl (by kernel_rfl) Tryz.func3 (by kernel_rfl)
    (of_decide_eq_true (by kernel_rfl)) (by unfold Func.isWrapper; first | (rw [if_pos (by decide +kernel)]; kernel_rfl) | (rw [if_neg (by decide +kernel)]; exact ⟨rfl, rfl⟩))
    (fun os started H enc _ => lifted os started H enc)
theorem proved : Rows.FnExactArchiveGetSaid := over
#print axioms proved
end Go.Proofs.YtcpecilmkkmaiaaGreat.fnExactArchiveGet
namespace Go.Proofs.YtcpecilmkkmaiaaGreat
theorem fnExactArchiveGet_holds : Rows.FnExactArchiveGetSaid := fnExactArchiveGet.proved
end Go.Proofs.YtcpecilmkkmaiaaGreat
