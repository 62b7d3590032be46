/-
  No cell of these rows narrows 'for every input' (looked for: loops, veiled, ifaces, maps, wideKeys, modest, calm, conditions, laid).
  DERIVED. THE GIVEN ROWS OF THIS SEAT. 2 by the template 'for every input the law returns true; each argument reads behind the call as it read before'; 0 by the template 'total and deterministic' (their statements: YtjiichnhdhlegaaGreatTotals.lean).
  GIVEN WITH THE SEED: the statements are not yours to turn. If you find one false, say at which input.
  Laid BY PROGRAM, IN A SANDBOX (cutbox-rows.mjs): the forced cells as the released guide's own fill.sh prints them over the translation 7d317d7cb5c9229c… (all of the seat's roots in one cut). By AI agents, Wed Nov 11 2026. No macro, syntax, notation, axiom, sorry.
-/
import Derived.Test.YtjiichnhdhlegaaGreatChecked
import GoSem.Claim
import GoSem.ClaimJoined
import GoSem.ClaimMapViews
import Derived.JoinedTies
import Derived.KernelRfl
namespace Go.Proofs.YtjiichnhdhlegaaGreat
/- THE CELL 'sum', in the pinned program and in every row, IS THE sha256 OF THE DUMP (.gsa) THAT YtjiichnhdhlegaaGreatProg.lean LOADS. Nothing in Lean hashes anything: it is a label: what it is worth is what the hold of that sum in a sandbox is worth. -/
noncomputable def Tryz.pinned : Pinned := { name := "ytjiichnhdhlegaagreat", sum := "7d317d7cb5c9229c07249aa11d86d3310dd683a9fb07a9ce65f1d2afdda265ee", checked := Tryz.checked }
namespace Rows
def none {H : Type} : Left H := { results := [], args := [] }

/-- 'laws.FnExactArchiveCompact': WHATEVER THE INPUT: true; the input reads as it did. -/
def fnExactArchiveCompactSpec : ChangeSpec := { name := "fnExactArchiveCompact", fn := fun _ => fun
  | [d] => { results := [.lit (.bool true)], args := [d] }
  | _ => none }
def fnExactArchiveCompactRow : OpenClaim := { program := "ytjiichnhdhlegaagreat", sum := "7d317d7cb5c9229c07249aa11d86d3310dd683a9fb07a9ce65f1d2afdda265ee", func := "loop.example/g00118/laws.FnExactArchiveCompact", spec := "fnExactArchiveCompact", inPlace := ["internal/abi.NoEscape", "internal/bytealg.MakeNoZero", "slices.overlaps[loop.example/g00118/impl.Entry]"], unfollowed := true, recurses := true, apart := false }
def FnExactArchiveCompactSaid : Prop := fnExactArchiveCompactRow.holds Tryz.pinned (OpenSpec.ofChange fnExactArchiveCompactSpec)

/-- ITS FALSE NEIGHBOUR: 'it returns false'. Refute it at one input. -/
def fnExactArchiveCompactWrong : ChangeSpec := { name := "fnExactArchiveCompact", fn := fun _ => fun
  | [d] => { results := [.lit (.bool false)], args := [d] }
  | _ => none }
def FnExactArchiveCompactWrongFalsely : Prop := fnExactArchiveCompactRow.holds Tryz.pinned (OpenSpec.ofChange fnExactArchiveCompactWrong)

/-- 'laws.FnExactArchiveDrop': WHATEVER THE INPUT: true; the input reads as it did. -/
def fnExactArchiveDropSpec : ChangeSpec := { name := "fnExactArchiveDrop", fn := fun _ => fun
  | [d1, d2] => { results := [.lit (.bool true)], args := [d1, d2] }
  | _ => none }
def fnExactArchiveDropRow : OpenClaim := { program := "ytjiichnhdhlegaagreat", sum := "7d317d7cb5c9229c07249aa11d86d3310dd683a9fb07a9ce65f1d2afdda265ee", func := "loop.example/g00118/laws.FnExactArchiveDrop", spec := "fnExactArchiveDrop", inPlace := ["internal/abi.NoEscape", "internal/bytealg.MakeNoZero", "slices.overlaps[loop.example/g00118/impl.Entry]"], unfollowed := true, recurses := true, apart := false }
def FnExactArchiveDropSaid : Prop := fnExactArchiveDropRow.holds Tryz.pinned (OpenSpec.ofChange fnExactArchiveDropSpec)

/-- ITS FALSE NEIGHBOUR: 'it returns false'. Refute it at one input. -/
def fnExactArchiveDropWrong : ChangeSpec := { name := "fnExactArchiveDrop", fn := fun _ => fun
  | [d1, d2] => { results := [.lit (.bool false)], args := [d1, d2] }
  | _ => none }
def FnExactArchiveDropWrongFalsely : Prop := fnExactArchiveDropRow.holds Tryz.pinned (OpenSpec.ofChange fnExactArchiveDropWrong)

/- THE SECOND FORM. 'bulk': how many values and letters a reading holds, each counted each time it is reached (what is shared counts as often as it is met; a slice's spare places count too). A statement '..UptoSaid' is the law's where the arguments, and the package variables that the reading takes, are together of bulk at most 1048576: NARROWER than '..Said'. Prove '..Said' where nothing that the law and all that it calls make is longer than what came in: it says more and counts as full. Else prove '..UptoSaid'. A law counts once. -/
mutual
def uptoBulk {H : Type} : DataW H → Nat
  | .lit (.string bytes) => bytes.length + 1
  | .lit _ => 1
  | .nil => 1
  | .ptr d => uptoBulk d + 1
  | .slice elems spare => uptoBulkAll elems + uptoBulkAll spare + 1
  | .agg parts => uptoBulkAll parts + 1
  | .iface _ d => uptoBulk d + 1
  | .map entries => uptoBulkEntries entries + 1
  | .held _ => 1
def uptoBulkAll {H : Type} : List (DataW H) → Nat
  | [] => 0
  | d :: r => uptoBulk d + uptoBulkAll r
def uptoBulkEntries {H : Type} : List (Lit × DataW H) → Nat
  | [] => 0
  | x :: r => uptoBulkEntry x + uptoBulkEntries r
def uptoBulkEntry {H : Type} : Lit × DataW H → Nat
  | (.string bytes, d) => bytes.length + uptoBulk d + 1
  | (_, d) => uptoBulk d + 1
 end
def uptoSmall : (H : Type) → List (DataW H) → Bool := fun _ ds => decide (uptoBulkAll ds ≤ 1048576)
def OpenSpec.upto (s : _root_.Go.ChangeSpec) : _root_.Go.OpenSpec := { _root_.Go.OpenSpec.ofChange s with cond := some uptoSmall }

/-- 'laws.FnExactArchiveCompact', WHERE WHAT IT READS IS OF BULK AT MOST 1048576: true; the input reads as it did. -/
def fnExactArchiveCompactUptoRow : OpenClaim := { program := "ytjiichnhdhlegaagreat", sum := "7d317d7cb5c9229c07249aa11d86d3310dd683a9fb07a9ce65f1d2afdda265ee", func := "loop.example/g00118/laws.FnExactArchiveCompact", spec := "fnExactArchiveCompact", inPlace := ["internal/abi.NoEscape", "internal/bytealg.MakeNoZero", "slices.overlaps[loop.example/g00118/impl.Entry]"], unfollowed := true, recurses := true, apart := false, narrowed := true }
def FnExactArchiveCompactUptoSaid : Prop := fnExactArchiveCompactUptoRow.holds Tryz.pinned (OpenSpec.upto fnExactArchiveCompactSpec)

/-- 'laws.FnExactArchiveDrop', WHERE WHAT IT READS IS OF BULK AT MOST 1048576: true; the input reads as it did. -/
def fnExactArchiveDropUptoRow : OpenClaim := { program := "ytjiichnhdhlegaagreat", sum := "7d317d7cb5c9229c07249aa11d86d3310dd683a9fb07a9ce65f1d2afdda265ee", func := "loop.example/g00118/laws.FnExactArchiveDrop", spec := "fnExactArchiveDrop", inPlace := ["internal/abi.NoEscape", "internal/bytealg.MakeNoZero", "slices.overlaps[loop.example/g00118/impl.Entry]"], unfollowed := true, recurses := true, apart := false, narrowed := true }
def FnExactArchiveDropUptoSaid : Prop := fnExactArchiveDropUptoRow.holds Tryz.pinned (OpenSpec.upto fnExactArchiveDropSpec)

end Rows
end Go.Proofs.YtjiichnhdhlegaaGreat
