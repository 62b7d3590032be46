/-
slices.Insert of one element into rows of two cells an element, at any place of their blocks, at this translation: what it leaves in the row.
No condition beyond the rows' own.
-/
import Derived.Test.YtcpecilmkkmaiaaGreatVDel
import Derived.Laws.AppendOwn
namespace Go.Proofs.YtcpecilmkkmaiaaGreatX
set_option linter.unusedVariables false
set_option linter.unusedSimpArgs false
open Go.RowKit
set_option maxHeartbeats 4000000 in
set_option maxRecDepth 1000000 in
theorem insert_end (A : Option Addr) (n c vb vo vc : Nat) (hnc : n ≤ c) (hA : A = none → n = 0 ∧ c = 0) (w w1 : World) (v' : Value) (hrun : ∀ ty, (Builtin.append_ #[41, 41] ty #[.slice A n c, .slice (some ⟨vb, vo, none⟩) 1 vc]).run Tryz.prog w = .ok v' w1) :
    Calls Tryz.prog 137 #[.slice A n c, .int .i64 n, .slice (some ⟨vb, vo, none⟩) 1 vc] w fun e w' => e = .returned v' ∧ w' = w1 := by
  have HR := Aside0.mk hrun
  have mixed : Tryz.prog.follows Departure.mixedOrders = true := by kernel_rfl
  clear hrun
  rcases A with _ | a_
  · obtain ⟨rfl, rfl⟩ := hA rfl
    clear hA hnc
    go_enter Tryz.func137, Tryz.ntmps137
    go_wp2_with ((with_reducible refine gate_builtin (b := .append) (xs := #[.tmp 23, .tmp 24]) rfl ?_); at_builtin; refine Lib.wpList_append_run _ rfl _ _ _ _ rfl _ _ rfl rfl _ _ (HR.out _) ?_)
    all_goals (go_ret; exact ⟨rfl, rfl⟩)
  · clear hA
    go_enter Tryz.func137, Tryz.ntmps137
    go_wp2_with ((with_reducible refine gate_builtin (b := .append) (xs := #[.tmp 23, .tmp 24]) rfl ?_); at_builtin; refine Lib.wpList_append_run _ rfl _ _ _ _ rfl _ _ rfl rfl _ _ (HR.out _) ?_)
    all_goals (go_ret; exact ⟨rfl, rfl⟩)
end Go.Proofs.YtcpecilmkkmaiaaGreatX
