/-
  No cell of these rows narrows 'for every input' (looked for: loops, veiled, ifaces, maps, wideKeys, modest, calm, conditions, laid).
  DERIVED. THE GIVEN ROWS OF THIS SEAT. 3 by the template 'for every input the law returns true; each argument reads behind the call as it read before'; 0 by the template 'total and deterministic' (their statements: YtekcpaiphcmfmaaGreatTotals.lean).
  GIVEN WITH THE SEED: the statements are not yours to turn. If you find one false, say at which input.
  Laid BY PROGRAM, IN A SANDBOX (cutbox-rows.mjs): the forced cells as the released guide's own fill.sh prints them over the translation 3f526a3f8434cf42… (all of the seat's roots in one cut). By AI agents, Wed Nov 11 2026. No macro, syntax, notation, axiom, sorry.
-/
import Derived.Test.YtekcpaiphcmfmaaGreatChecked
import GoSem.Claim
import GoSem.ClaimJoined
import GoSem.ClaimMapViews
import Derived.JoinedTies
import Derived.KernelRfl
namespace Go.Proofs.YtekcpaiphcmfmaaGreat
/- THE CELL 'sum', in the pinned program and in every row, IS THE sha256 OF THE DUMP (.gsa) THAT YtekcpaiphcmfmaaGreatProg.lean LOADS. Nothing in Lean hashes anything: it is a label: what it is worth is what the hold of that sum in a sandbox is worth. -/
noncomputable def Tryz.pinned : Pinned := { name := "ytekcpaiphcmfmaagreat", sum := "3f526a3f8434cf42af538a1e3270879989730c027899fd111b36722e0d2c9274", checked := Tryz.checked }
namespace Rows
def none {H : Type} : Left H := { results := [], args := [] }

/-- 'laws.FnExactArchiveUrls': WHATEVER THE INPUT: true; the input reads as it did. -/
def fnExactArchiveUrlsSpec : ChangeSpec := { name := "fnExactArchiveUrls", fn := fun _ => fun
  | [d] => { results := [.lit (.bool true)], args := [d] }
  | _ => none }
def fnExactArchiveUrlsRow : OpenClaim := { program := "ytekcpaiphcmfmaagreat", sum := "3f526a3f8434cf42af538a1e3270879989730c027899fd111b36722e0d2c9274", func := "loop.example/g00118/laws.FnExactArchiveUrls", spec := "fnExactArchiveUrls", inPlace := ["internal/abi.NoEscape", "internal/bytealg.MakeNoZero", "slices.overlaps[loop.example/g00118/impl.Entry]"], apart := false }
def FnExactArchiveUrlsSaid : Prop := fnExactArchiveUrlsRow.holds Tryz.pinned (OpenSpec.ofChange fnExactArchiveUrlsSpec)

/-- ITS FALSE NEIGHBOUR: 'it returns false'. Refute it at one input. -/
def fnExactArchiveUrlsWrong : ChangeSpec := { name := "fnExactArchiveUrls", fn := fun _ => fun
  | [d] => { results := [.lit (.bool false)], args := [d] }
  | _ => none }
def FnExactArchiveUrlsWrongFalsely : Prop := fnExactArchiveUrlsRow.holds Tryz.pinned (OpenSpec.ofChange fnExactArchiveUrlsWrong)

/-- 'laws.FnExactArchiveCrash': WHATEVER THE INPUT: true; the input reads as it did. -/
def fnExactArchiveCrashSpec : ChangeSpec := { name := "fnExactArchiveCrash", fn := fun _ => fun
  | [d] => { results := [.lit (.bool true)], args := [d] }
  | _ => none }
def fnExactArchiveCrashRow : OpenClaim := { program := "ytekcpaiphcmfmaagreat", sum := "3f526a3f8434cf42af538a1e3270879989730c027899fd111b36722e0d2c9274", func := "loop.example/g00118/laws.FnExactArchiveCrash", spec := "fnExactArchiveCrash", inPlace := ["internal/abi.NoEscape", "internal/bytealg.MakeNoZero", "slices.overlaps[loop.example/g00118/impl.Entry]"], apart := false }
def FnExactArchiveCrashSaid : Prop := fnExactArchiveCrashRow.holds Tryz.pinned (OpenSpec.ofChange fnExactArchiveCrashSpec)

/-- ITS FALSE NEIGHBOUR: 'it returns false'. Refute it at one input. -/
def fnExactArchiveCrashWrong : ChangeSpec := { name := "fnExactArchiveCrash", fn := fun _ => fun
  | [d] => { results := [.lit (.bool false)], args := [d] }
  | _ => none }
def FnExactArchiveCrashWrongFalsely : Prop := fnExactArchiveCrashRow.holds Tryz.pinned (OpenSpec.ofChange fnExactArchiveCrashWrong)

/-- 'laws.FnExactArchiveOpen': WHATEVER THE INPUT: true; the input reads as it did. -/
def fnExactArchiveOpenSpec : ChangeSpec := { name := "fnExactArchiveOpen", fn := fun _ => fun
  | [d] => { results := [.lit (.bool true)], args := [d] }
  | _ => none }
def fnExactArchiveOpenRow : OpenClaim := { program := "ytekcpaiphcmfmaagreat", sum := "3f526a3f8434cf42af538a1e3270879989730c027899fd111b36722e0d2c9274", func := "loop.example/g00118/laws.FnExactArchiveOpen", spec := "fnExactArchiveOpen", inPlace := ["internal/abi.NoEscape", "internal/bytealg.MakeNoZero", "slices.overlaps[loop.example/g00118/impl.Entry]"], apart := false }
def FnExactArchiveOpenSaid : Prop := fnExactArchiveOpenRow.holds Tryz.pinned (OpenSpec.ofChange fnExactArchiveOpenSpec)

/-- ITS FALSE NEIGHBOUR: 'it returns false'. Refute it at one input. -/
def fnExactArchiveOpenWrong : ChangeSpec := { name := "fnExactArchiveOpen", fn := fun _ => fun
  | [d] => { results := [.lit (.bool false)], args := [d] }
  | _ => none }
def FnExactArchiveOpenWrongFalsely : Prop := fnExactArchiveOpenRow.holds Tryz.pinned (OpenSpec.ofChange fnExactArchiveOpenWrong)

/- THE SECOND FORM. 'bulk': how many values and letters a reading holds, each counted each time it is reached (what is shared counts as often as it is met; a slice's spare places count too). A statement '..UptoSaid' is the law's where the arguments, and the package variables that the reading takes, are together of bulk at most 1048576: NARROWER than '..Said'. Prove '..Said' where nothing that the law and all that it calls make is longer than what came in: it says more and counts as full. Else prove '..UptoSaid'. A law counts once. -/
mutual
def uptoBulk {H : Type} : DataW H → Nat
  | .lit (.string bytes) => bytes.length + 1
  | .lit _ => 1
  | .nil => 1
  | .ptr d => uptoBulk d + 1
  | .slice elems spare => uptoBulkAll elems + uptoBulkAll spare + 1
  | .agg parts => uptoBulkAll parts + 1
  | .iface _ d => uptoBulk d + 1
  | .map entries => uptoBulkEntries entries + 1
  | .held _ => 1
def uptoBulkAll {H : Type} : List (DataW H) → Nat
  | [] => 0
  | d :: r => uptoBulk d + uptoBulkAll r
def uptoBulkEntries {H : Type} : List (Lit × DataW H) → Nat
  | [] => 0
  | x :: r => uptoBulkEntry x + uptoBulkEntries r
def uptoBulkEntry {H : Type} : Lit × DataW H → Nat
  | (.string bytes, d) => bytes.length + uptoBulk d + 1
  | (_, d) => uptoBulk d + 1
 end
def uptoSmall : (H : Type) → List (DataW H) → Bool := fun _ ds => decide (uptoBulkAll ds ≤ 1048576)
def OpenSpec.upto (s : _root_.Go.ChangeSpec) : _root_.Go.OpenSpec := { _root_.Go.OpenSpec.ofChange s with cond := some uptoSmall }

/-- 'laws.FnExactArchiveUrls', WHERE WHAT IT READS IS OF BULK AT MOST 1048576: true; the input reads as it did. -/
def fnExactArchiveUrlsUptoRow : OpenClaim := { program := "ytekcpaiphcmfmaagreat", sum := "3f526a3f8434cf42af538a1e3270879989730c027899fd111b36722e0d2c9274", func := "loop.example/g00118/laws.FnExactArchiveUrls", spec := "fnExactArchiveUrls", inPlace := ["internal/abi.NoEscape", "internal/bytealg.MakeNoZero", "slices.overlaps[loop.example/g00118/impl.Entry]"], apart := false, narrowed := true }
def FnExactArchiveUrlsUptoSaid : Prop := fnExactArchiveUrlsUptoRow.holds Tryz.pinned (OpenSpec.upto fnExactArchiveUrlsSpec)

/-- 'laws.FnExactArchiveCrash', WHERE WHAT IT READS IS OF BULK AT MOST 1048576: true; the input reads as it did. -/
def fnExactArchiveCrashUptoRow : OpenClaim := { program := "ytekcpaiphcmfmaagreat", sum := "3f526a3f8434cf42af538a1e3270879989730c027899fd111b36722e0d2c9274", func := "loop.example/g00118/laws.FnExactArchiveCrash", spec := "fnExactArchiveCrash", inPlace := ["internal/abi.NoEscape", "internal/bytealg.MakeNoZero", "slices.overlaps[loop.example/g00118/impl.Entry]"], apart := false, narrowed := true }
def FnExactArchiveCrashUptoSaid : Prop := fnExactArchiveCrashUptoRow.holds Tryz.pinned (OpenSpec.upto fnExactArchiveCrashSpec)

/-- 'laws.FnExactArchiveOpen', WHERE WHAT IT READS IS OF BULK AT MOST 1048576: true; the input reads as it did. -/
def fnExactArchiveOpenUptoRow : OpenClaim := { program := "ytekcpaiphcmfmaagreat", sum := "3f526a3f8434cf42af538a1e3270879989730c027899fd111b36722e0d2c9274", func := "loop.example/g00118/laws.FnExactArchiveOpen", spec := "fnExactArchiveOpen", inPlace := ["internal/abi.NoEscape", "internal/bytealg.MakeNoZero", "slices.overlaps[loop.example/g00118/impl.Entry]"], apart := false, narrowed := true }
def FnExactArchiveOpenUptoSaid : Prop := fnExactArchiveOpenUptoRow.holds Tryz.pinned (OpenSpec.upto fnExactArchiveOpenSpec)

end Rows
end Go.Proofs.YtekcpaiphcmfmaaGreat
