/- The given statement FnExactNumText of the seat holds: the function of the law answers true at every input that the statement lets in. No condition. -/
/- The given card FnExactNumTextCardSaid of the seat holds: the program's NumText returns what the reference's returns, for all arguments, where the listed tables hold what the program's text lays (the card ties them). No other condition. -/
import Derived.Test.YtjbmhpldjncdbaaDoorCards
import Derived.Test.YtjbmhpldjncdbaaDoorTie
import Derived.Test.YtjbmhpldjncdbaaDoorXShelf
import Derived.Test.YtjbmhpldjncdbaaDoorVENumText0
import Derived.WalkKit
import Derived.ProofKit
import Derived.OpenShut
import Derived.ShutString
import Derived.ChangeOld
import Derived.Below
import Derived.Deep.DeepHandedRow
import Derived.Lib.LaidTab
import Derived.Lib.AppendIntMem
set_option linter.unusedVariables false
namespace Go.Proofs.YtjbmhpldjncdbaaDoor.fnExactNumText
open Go.ChangeShapes Go.WideShapes Go.ChangeAt Go.RowKit
theorem own : ownKnob Tryd.prog.godebug = none := by kernel_rfl
theorem gTab : Tryd.prog.globalNamed "internal/strconv.uint64pow10" = some 1 := by kernel_rfl
theorem gTabType : (Tryd.prog.globals[1]?).map (·.type) = some 69 := by kernel_rfl
theorem cells69 : Tryd.prog.cellsOf 69 = 20 := by kernel_rfl
theorem cells62 : Tryd.prog.cellsOf 62 = 1 := by kernel_rfl
theorem laid_tail {P : Program} {W : World} {x : String × DataW Unit} {l : List (String × DataW Unit)} (h : laidMet P (x :: l) W) : laidMet P l W := by
  obtain ⟨name, d⟩ := x
  obtain ⟨ps, ⟨g, t, cs, fuel, p, q, h1, h2, h3, h4, h5, rfl⟩, hn, hc⟩ := h
  refine ⟨q, h5, ?_, fun b off hb => hc b off (List.mem_append.2 (.inr hb))⟩
  exact (List.nodup_append.1 hn).2.1
theorem table {W : World} (h : laidMetH Tryd.prog Rows.fnExactNumTextRow.laid W) : Lib.TabIs Tryd.prog W "internal/strconv.uint64pow10" .u64 Lib.pow10Tab :=
  Lib.tabIs_of_head (rest := []) gTab gTabType Tryd.underlying69 Tryd.underlying62 cells62 cells69 (laid_tail (laid_tail h))
theorem str_calls {P : Program} {f : Nat} {g : Int × Unit → Option (Unit × (ByteArray × Unit))} (hK : Go.Proofs.YtjbmhpldjncdbaaDoor.V.Known P f ⟨[.val (.int .i64)], [.str], .pair .str .unit, g⟩) {W : World} {n : Int} {s : ByteArray} (hg : g (n, ()) = some ((), s, ())) :
    Calls P f #[.int .i64 n] W (fun e W' => e = .returned (.string s) ∧ Below W.heap.size W W') := by
  have := hK.2 W (Go.Proofs.YtjbmhpldjncdbaaDoor.V.Lt W) (fun _ => False) [] (n, ()) [.int .i64 n] ((), s, ()) ⟨.int .i64 n, [.int .i64 n], [], rfl, ⟨fun q => (by cases q), fun _ => rfl⟩, rfl, rfl, rfl⟩ (fun k h => h.elim) (fun k h => h.elim (fun h => h) (fun h => h.elim)) (fun v h => by cases h) hg
  refine this.mono fun e W' he => ?_
  obtain ⟨v, rfl, hk, vs, us, I', O1, O2, hv, hb⟩ := he
  refine ⟨?_, hk.os, hk.tape, hk.output, hk.size, fun k hk' => hk.same k hk' (fun h => h) (fun i h => ?_)⟩
  · obtain ⟨v', vs', u1, u2, e1, e2, e3, e4, e5, e6⟩ := hb.res
    obtain ⟨w1, w2, F1, F2, r1, _, _, _, r2, r3⟩ := hb.val
    subst e1; subst e5; subst e6
    have r2 : w1 = [.string s] := r2
    have r3 : w2 = [] := r3
    subst r2; subst r3
    rw [e2] at r1
    simp only [List.append_nil] at r1
    have := e3.2 rfl
    rw [hv]
    simp only [Go.Proofs.YtjbmhpldjncdbaaDoor.V.oneOf]
    rw [r1] at this
    rw [← (List.cons.inj this).1]
  · obtain ⟨u, q, _⟩ := h
    cases q
theorem tab_kept {w w' : World} (hb : Below w.heap.size w w') (h : Lib.TabIs Tryd.prog w "internal/strconv.uint64pow10" .u64 Lib.pow10Tab) : Lib.TabIs Tryd.prog w' "internal/strconv.uint64pow10" .u64 Lib.pow10Tab := by
  unfold Lib.TabIs World.var? at h ⊢
  rw [gTab] at h ⊢
  simp only [Option.bind_some] at h ⊢
  by_cases hg : 1 < w.heap.size
  · rw [hb.block 1 hg]; exact h
  · rw [Array.getElem?_eq_none (by omega)] at h
    cases h
open Go.Lib in
theorem impl_walk (n : Int) (h0 : -9223372036854775808 ≤ n) (h1 : n ≤ 9223372036854775807) (w : World) (htab : Lib.TabIs Tryd.prog w "internal/strconv.uint64pow10" .u64 Lib.pow10Tab) :
    Calls Tryd.prog 6 #[.int .i64 n] w fun e w' => e = .returned (.string ⟨(Lib.itoa n).toArray⟩) ∧ Below w.heap.size w w' := by
  have e14 : ∀ args w, (callFunc 14 args).run Tryd.prog w = .ok (.enter 14 args) w := enters_of Tryd.func14 (by kernel_rfl) rfl
  go_enter Tryd.func6, Tryd.ntmps6
  go_wp2_with (go_at_fn 14; refine (Tryd.strconv_Itoa n h0 h1 _ htab).mono ?_; rintro e w' ⟨rfl, k, os, rfl⟩)
  go_ret
  exact ⟨rfl, below_grow _ _ (Nat.le_refl _) _ _⟩
theorem law_walk (n : Int) (h0 : -9223372036854775808 ≤ n) (h1 : n ≤ 9223372036854775807) (w : World) (htab : Lib.TabIs Tryd.prog w "internal/strconv.uint64pow10" .u64 Lib.pow10Tab) :
    Calls Tryd.prog 3 #[.int .i64 n] w fun e w' => e = .returned (.bool true) ∧ Below w.heap.size w w' := by
  have e5 : ∀ args w, (callFunc 5 args).run Tryd.prog w = .ok (.enter 5 args) w := enters_of Tryd.func5 (by kernel_rfl) rfl
  have e6 : ∀ args w, (callFunc 6 args).run Tryd.prog w = .ok (.enter 6 args) w := enters_of Tryd.func6 (by kernel_rfl) rfl
  go_enter Tryd.func3, Tryd.ntmps3
  go_wp2_with (first
    | (go_at_fn 5; refine (str_calls Go.Proofs.YtjbmhpldjncdbaaDoor.V.spec_NumText_o (Go.Proofs.YtjbmhpldjncdbaaDoor.V.spec_numText h0 h1)).mono ?_; rintro e w1 ⟨rfl, hb1⟩)
    | (go_at_fn 6; refine (impl_walk n h0 h1 _ (tab_kept hb1 htab)).mono ?_; rintro e w2 ⟨rfl, hb2⟩))
  go_ret
  exact ⟨rfl, ⟨hb2.os.trans hb1.os, hb2.tape.trans hb1.tape, hb2.output.trans hb1.output, Nat.le_trans hb1.size hb2.size, fun k hk => (hb2.block k (Nat.lt_of_lt_of_le hk hb1.size)).trans (hb1.block k hk)⟩⟩
theorem contract (H : Type) (enc : TypeId × Value → H) (W : World) (base : Nat) (args : Array Value) (ds gs : List (DataW H)) (before : List MemPlace)
    (hval : ∀ (j : Nat) t v, Tryd.f3.params[j]? = some t → args[j]? = some v → Value.okWide Tryd.prog W .any base t v)
    (hW : DataW.Whole enc Tryd.prog Tryd.f3.params.toList Rows.fnExactNumTextSpec.vars false W args.toList ds gs before) (hL : laidMetH Tryd.prog Rows.fnExactNumTextRow.laid W) :
    Calls Tryd.prog 3 args W fun e W' => ∃ v, e = .returned v ∧ Rows.fnExactNumTextSpec.post enc Tryd.prog Tryd.f3 false true false false W args v W' := by
  have hW' := hW
  obtain ⟨p, q, hA0, hV, rfl, hfz, hnd⟩ := hW
  have hA : DataW.TrodAll enc Tryd.prog W 0 (fun _ => true) true Tryd.f3.params.toList args.toList ds p := hA0
  rw [Tryd.params3] at hA hval
  obtain ⟨v0, vs0, d0, ds0, p0, q0, hargs, rfl, rfl, h0, r0⟩ := trodAll_cons hA
  obtain ⟨rfl, rfl, rfl⟩ := trodAll_nil r0
  obtain rfl : args = #[v0] := by cases args; simp_all
  obtain ⟨rfl, rfl⟩ := trodVars_none hV
  obtain ⟨n, rfl, rfl, rfl, hwn⟩ := open_int Tryd.underlying3 (hval 0 3 v0 rfl rfl) h0
  clear hA0
  simp only [List.append_nil] at hW'
  have hr : -9223372036854775808 ≤ n ∧ n ≤ 9223372036854775807 := by
    have h := hwn
    simp only [Lit.wf, Bool.and_eq_true, decide_eq_true_eq] at h
    exact h
  refine (law_walk n hr.1 hr.2 W (table hL)).mono fun e W' ⟨he, bel⟩ => ?_
  subst he
  exact ⟨_, rfl, _, _, _, [], _, [], hW', trodAll_mk1 (shut_bool Tryd.underlying4 _), trodAll_cons_mk (shut_int Tryd.underlying3 hwn) trodAll_mk0, rfl, bel.frame _, fun h => by cases h⟩
def tab32 : List Int := [0, 1, 28, 2, 29, 14, 24, 3, 30, 22, 20, 15, 25, 17, 4, 8, 31, 27, 13, 23, 21, 19, 16, 7, 26, 12, 18, 6, 11, 5, 10, 9]
def tab64 : List Int := [0, 1, 56, 2, 57, 49, 28, 3, 61, 58, 42, 50, 38, 29, 17, 4, 62, 47, 59, 36, 45, 43, 51, 22, 53, 39, 33, 30, 24, 18, 12, 5, 63, 55, 48, 27, 60, 41, 37, 16, 46, 35, 44, 21, 52, 32, 23, 11, 54, 26, 40, 15, 34, 20, 31, 10, 25, 14, 19, 9, 13, 8, 7, 6]
noncomputable def laidWorld (os : Os) : World :=
  let w0 := World.holding Tryd.prog os ⟨#[], #[], []⟩
  let lay (h : Array Obj) (g : Nat) (zs : Array Value) : Array Obj := h.modify g fun
    | .cells _ t frozen => .cells zs t frozen
    | o => o
  { w0 with heap := lay (lay (lay w0.heap 1 (Lib.pow10Tab.map fun z => Value.int .u64 z).toArray) 2 (tab32.map fun z => Value.int .u8 z).toArray) 3 (tab64.map fun z => Value.int .u8 z).toArray }
theorem laid_met (os : Os) : laidMet Tryd.prog Rows.fnExactNumTextRow.laid ((laidWorld os).forCall (fun _ _ => 0) ⟨#[], #[.int .i64 0], []⟩).memory :=
  laidMet_of_run' 8 (by kernel_rfl) (by kernel_rfl)
theorem reads (os : Os) {H : Type} (enc : TypeId × Value → H) : ∃ places, DataW.whole enc Tryd.prog ((laidWorld os).forCall (fun _ _ => 0) ⟨#[], #[.int .i64 0], []⟩).memory Tryd.f3.params.toList Rows.fnExactNumTextSpec.vars false #[Value.int .i64 0].toList 8 = some ([.lit (.int .i64 0)], [], places) :=
  ⟨[], by kernel_rfl⟩
set_option maxRecDepth 100000 in
theorem lifted (os : Os) (started : os.Started) (H : Type) (enc : TypeId × Value → H) (F : Stop.Interp) :
    ReturnsInHanded {} Tryd.checked os 3 .any ((OpenSpec.ofChange Rows.fnExactNumTextSpec).preRow enc Tryd.prog Tryd.f3 Rows.fnExactNumTextRow.domain false Rows.fnExactNumTextRow.laid) (((OpenSpec.ofChange Rows.fnExactNumTextSpec).at F).post enc Tryd.prog Tryd.f3 false true false false) := by
  obtain ⟨places, hx⟩ := reads os enc
  refine returnsInHanded_of_row (C := Tryd.checked) (s := OpenSpec.ofChange Rows.fnExactNumTextSpec) own started (by kernel_rfl) Tryd.func3
    (witness_row_at (enc := enc) (C := Tryd.checked) false (laidWorld os) #[.int .i64 0] rfl (by kernel_rfl) (by kernel_rfl) (by kernel_rfl)
      (OpenSpec.preRow_of_cond 8 hx (by kernel_rfl) (fun k hk => by cases hk) (by kernel_rfl) (laid_met os))) ?_
  intro W base args ds gs before hval hW _ _ _ hL _ _
  exact contract H enc W base args ds gs before hval hW hL
theorem said : Rows.FnExactNumTextSaid :=
  OpenClaim.holds_of_cond 3 Tryd.f3 rfl rfl rfl rfl rfl rfl rfl ⟨rfl, rfl, rfl, rfl, rfl⟩ rfl rfl rfl rfl rfl (by kernel_rfl) Tryd.func3 (by kernel_rfl)
    (of_decide_eq_true (by kernel_rfl)) (by unfold Func.isWrapper; first | (rw [if_pos (by decide +kernel)]; kernel_rfl) | (rw [if_neg (by decide +kernel)]; exact ⟨rfl, rfl⟩))
    (fun os started H enc _ F => by rw [OpenClaim.pre_eq_preRow]; exact lifted os started H enc F)
theorem plain (f : FuncId) (fn : Func) (hf : Tryd.pinned.checked.prog.funcNamed "loop.example/g00118/laws.FnExactNumText" = some f) (hfn : Tryd.pinned.checked.prog.funcs[f]? = some fn) :
    false = Tryd.pinned.checked.prog.looks [] ∧ ∀ (j : Nat) t, fn.params[j]? = some t → Tryd.pinned.checked.prog.wantsStandIn t = false := by
  obtain rfl : f = 3 := Option.some.inj ((show Tryd.prog.funcNamed "loop.example/g00118/laws.FnExactNumText" = some 3 by kernel_rfl).symm.trans hf) |>.symm
  obtain rfl : fn = Tryd.f3 := (Option.some.inj (Tryd.func3.symm.trans hfn)).symm
  refine ⟨by kernel_rfl, fun j t ht => ?_⟩
  rw [Tryd.params3] at ht
  obtain rfl : t = 3 := by simpa using Array.mem_of_getElem? ht
  exact (show Tryd.prog.wantsStandIn 3 = false by kernel_rfl)
theorem card : Rows.FnExactNumTextCardSaid :=
  Claim7.holds_tied_plain_at .later [] _ _ _ _ said (fun _ h => by cases h) (by kernel_rfl) (fun _ h => by cases h) fnExactNumText_row_tie rfl ⟨rfl, rfl⟩ (by kernel_rfl) rfl plain (by kernel_rfl)
#print axioms card
end Go.Proofs.YtjbmhpldjncdbaaDoor.fnExactNumText
namespace Go.Proofs.YtjbmhpldjncdbaaDoor
theorem fnExactNumText_holds : Rows.FnExactNumTextCardSaid := fnExactNumText.card
end Go.Proofs.YtjbmhpldjncdbaaDoor
