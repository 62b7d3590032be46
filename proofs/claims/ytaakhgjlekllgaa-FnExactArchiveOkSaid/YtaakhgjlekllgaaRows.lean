/-
  No cell of these rows narrows 'for every input' (looked for: loops, veiled, ifaces, maps, wideKeys, modest, calm, conditions, laid).
  DERIVED. THE GIVEN ROWS OF THIS SEAT. 11 by the template 'for every input the law returns true; each argument reads behind the call as it read before'; 0 by the template 'total and deterministic' (their statements: YtaakhgjlekllgaaTotals.lean).
  GIVEN WITH THE SEED: the statements are not yours to turn. If you find one false, say at which input.
  Laid BY PROGRAM, IN A SANDBOX (cutbox-rows.mjs): the forced cells as the released guide's own fill.sh prints them over the translation ee27789708980758… (all of the seat's roots in one cut). By AI agents, Wed Nov 11 2026. No macro, syntax, notation, axiom, sorry.
-/
import Derived.Test.YtaakhgjlekllgaaChecked
import GoSem.Claim
import GoSem.ClaimJoined
import GoSem.ClaimMapViews
import Derived.JoinedTies
import Derived.KernelRfl
namespace Go.Proofs.Ytaakhgjlekllgaa
/- THE CELL 'sum', in the pinned program and in every row, IS THE sha256 OF THE DUMP (.gsa) THAT YtaakhgjlekllgaaProg.lean LOADS. Nothing in Lean hashes anything: it is a label: what it is worth is what the hold of that sum in a sandbox is worth. -/
noncomputable def Try.pinned : Pinned := { name := "ytaakhgjlekllgaa", sum := "ee2778970898075839992c23a7f5fce3a9a6dd5c316966f82b45fcfe102f1e5b", checked := Try.checked }
namespace Rows
def none {H : Type} : Left H := { results := [], args := [] }

/-- 'laws.FnRecords': WHATEVER THE INPUT: true; the input reads as it did. -/
def fnRecordsSpec : ChangeSpec := { name := "fnRecords", fn := fun _ => fun
  | [d] => { results := [.lit (.bool true)], args := [d] }
  | _ => none }
def fnRecordsRow : OpenClaim := { program := "ytaakhgjlekllgaa", sum := "ee2778970898075839992c23a7f5fce3a9a6dd5c316966f82b45fcfe102f1e5b", func := "loop.example/g00118/laws.FnRecords", spec := "fnRecords", apart := false }
def FnRecordsSaid : Prop := fnRecordsRow.holds Try.pinned (OpenSpec.ofChange fnRecordsSpec)

/-- ITS FALSE NEIGHBOUR: 'it returns false'. Refute it at one input. -/
def fnRecordsWrong : ChangeSpec := { name := "fnRecords", fn := fun _ => fun
  | [d] => { results := [.lit (.bool false)], args := [d] }
  | _ => none }
def FnRecordsWrongFalsely : Prop := fnRecordsRow.holds Try.pinned (OpenSpec.ofChange fnRecordsWrong)

/-- 'laws.FnExactRecords': WHATEVER THE INPUT: true; the input reads as it did. -/
def fnExactRecordsSpec : ChangeSpec := { name := "fnExactRecords", fn := fun _ => fun
  | [d] => { results := [.lit (.bool true)], args := [d] }
  | _ => none }
def fnExactRecordsRow : OpenClaim := { program := "ytaakhgjlekllgaa", sum := "ee2778970898075839992c23a7f5fce3a9a6dd5c316966f82b45fcfe102f1e5b", func := "loop.example/g00118/laws.FnExactRecords", spec := "fnExactRecords", apart := false }
def FnExactRecordsSaid : Prop := fnExactRecordsRow.holds Try.pinned (OpenSpec.ofChange fnExactRecordsSpec)

/-- ITS FALSE NEIGHBOUR: 'it returns false'. Refute it at one input. -/
def fnExactRecordsWrong : ChangeSpec := { name := "fnExactRecords", fn := fun _ => fun
  | [d] => { results := [.lit (.bool false)], args := [d] }
  | _ => none }
def FnExactRecordsWrongFalsely : Prop := fnExactRecordsRow.holds Try.pinned (OpenSpec.ofChange fnExactRecordsWrong)

/-- 'laws.FnExactIndexOf': WHATEVER THE INPUT: true; the input reads as it did. -/
def fnExactIndexOfSpec : ChangeSpec := { name := "fnExactIndexOf", fn := fun _ => fun
  | [d] => { results := [.lit (.bool true)], args := [d] }
  | _ => none }
def fnExactIndexOfRow : OpenClaim := { program := "ytaakhgjlekllgaa", sum := "ee2778970898075839992c23a7f5fce3a9a6dd5c316966f82b45fcfe102f1e5b", func := "loop.example/g00118/laws.FnExactIndexOf", spec := "fnExactIndexOf", inPlace := ["slices.overlaps[loop.example/g00118/impl.Entry]"], apart := false }
def FnExactIndexOfSaid : Prop := fnExactIndexOfRow.holds Try.pinned (OpenSpec.ofChange fnExactIndexOfSpec)

/-- ITS FALSE NEIGHBOUR: 'it returns false'. Refute it at one input. -/
def fnExactIndexOfWrong : ChangeSpec := { name := "fnExactIndexOf", fn := fun _ => fun
  | [d] => { results := [.lit (.bool false)], args := [d] }
  | _ => none }
def FnExactIndexOfWrongFalsely : Prop := fnExactIndexOfRow.holds Try.pinned (OpenSpec.ofChange fnExactIndexOfWrong)

/-- 'laws.FnExactAreaPut': WHATEVER THE INPUT: true; the input reads as it did. -/
def fnExactAreaPutSpec : ChangeSpec := { name := "fnExactAreaPut", fn := fun _ => fun
  | [d1, d2, d3, d4] => { results := [.lit (.bool true)], args := [d1, d2, d3, d4] }
  | _ => none }
def fnExactAreaPutRow : OpenClaim := { program := "ytaakhgjlekllgaa", sum := "ee2778970898075839992c23a7f5fce3a9a6dd5c316966f82b45fcfe102f1e5b", func := "loop.example/g00118/laws.FnExactAreaPut", spec := "fnExactAreaPut", apart := false }
def FnExactAreaPutSaid : Prop := fnExactAreaPutRow.holds Try.pinned (OpenSpec.ofChange fnExactAreaPutSpec)

/-- ITS FALSE NEIGHBOUR: 'it returns false'. Refute it at one input. -/
def fnExactAreaPutWrong : ChangeSpec := { name := "fnExactAreaPut", fn := fun _ => fun
  | [d1, d2, d3, d4] => { results := [.lit (.bool false)], args := [d1, d2, d3, d4] }
  | _ => none }
def FnExactAreaPutWrongFalsely : Prop := fnExactAreaPutRow.holds Try.pinned (OpenSpec.ofChange fnExactAreaPutWrong)

/-- 'laws.FnIndex': WHATEVER THE INPUT: true; the input reads as it did. -/
def fnIndexSpec : ChangeSpec := { name := "fnIndex", fn := fun _ => fun
  | [d] => { results := [.lit (.bool true)], args := [d] }
  | _ => none }
def fnIndexRow : OpenClaim := { program := "ytaakhgjlekllgaa", sum := "ee2778970898075839992c23a7f5fce3a9a6dd5c316966f82b45fcfe102f1e5b", func := "loop.example/g00118/laws.FnIndex", spec := "fnIndex", inPlace := ["slices.overlaps[loop.example/g00118/impl.Entry]"], apart := false }
def FnIndexSaid : Prop := fnIndexRow.holds Try.pinned (OpenSpec.ofChange fnIndexSpec)

/-- ITS FALSE NEIGHBOUR: 'it returns false'. Refute it at one input. -/
def fnIndexWrong : ChangeSpec := { name := "fnIndex", fn := fun _ => fun
  | [d] => { results := [.lit (.bool false)], args := [d] }
  | _ => none }
def FnIndexWrongFalsely : Prop := fnIndexRow.holds Try.pinned (OpenSpec.ofChange fnIndexWrong)

/-- 'laws.FnExactHeadNow': WHATEVER THE INPUT: true; the input reads as it did. -/
def fnExactHeadNowSpec : ChangeSpec := { name := "fnExactHeadNow", fn := fun _ => fun
  | [d] => { results := [.lit (.bool true)], args := [d] }
  | _ => none }
def fnExactHeadNowRow : OpenClaim := { program := "ytaakhgjlekllgaa", sum := "ee2778970898075839992c23a7f5fce3a9a6dd5c316966f82b45fcfe102f1e5b", func := "loop.example/g00118/laws.FnExactHeadNow", spec := "fnExactHeadNow", inPlace := ["internal/abi.NoEscape", "internal/bytealg.MakeNoZero"], apart := false }
def FnExactHeadNowSaid : Prop := fnExactHeadNowRow.holds Try.pinned (OpenSpec.ofChange fnExactHeadNowSpec)

/-- ITS FALSE NEIGHBOUR: 'it returns false'. Refute it at one input. -/
def fnExactHeadNowWrong : ChangeSpec := { name := "fnExactHeadNow", fn := fun _ => fun
  | [d] => { results := [.lit (.bool false)], args := [d] }
  | _ => none }
def FnExactHeadNowWrongFalsely : Prop := fnExactHeadNowRow.holds Try.pinned (OpenSpec.ofChange fnExactHeadNowWrong)

/-- 'laws.FnExactHeadPut': WHATEVER THE INPUT: true; the input reads as it did. -/
def fnExactHeadPutSpec : ChangeSpec := { name := "fnExactHeadPut", fn := fun _ => fun
  | [d1, d2] => { results := [.lit (.bool true)], args := [d1, d2] }
  | _ => none }
def fnExactHeadPutRow : OpenClaim := { program := "ytaakhgjlekllgaa", sum := "ee2778970898075839992c23a7f5fce3a9a6dd5c316966f82b45fcfe102f1e5b", func := "loop.example/g00118/laws.FnExactHeadPut", spec := "fnExactHeadPut", inPlace := ["internal/abi.NoEscape", "internal/bytealg.MakeNoZero"], apart := false }
def FnExactHeadPutSaid : Prop := fnExactHeadPutRow.holds Try.pinned (OpenSpec.ofChange fnExactHeadPutSpec)

/-- ITS FALSE NEIGHBOUR: 'it returns false'. Refute it at one input. -/
def fnExactHeadPutWrong : ChangeSpec := { name := "fnExactHeadPut", fn := fun _ => fun
  | [d1, d2] => { results := [.lit (.bool false)], args := [d1, d2] }
  | _ => none }
def FnExactHeadPutWrongFalsely : Prop := fnExactHeadPutRow.holds Try.pinned (OpenSpec.ofChange fnExactHeadPutWrong)

/-- 'laws.FnExactArchiveNew': WHATEVER THE INPUT: true; the input reads as it did. -/
def fnExactArchiveNewSpec : ChangeSpec := { name := "fnExactArchiveNew", fn := fun _ => fun
  | [] => { results := [.lit (.bool true)], args := [] }
  | _ => none }
def fnExactArchiveNewRow : OpenClaim := { program := "ytaakhgjlekllgaa", sum := "ee2778970898075839992c23a7f5fce3a9a6dd5c316966f82b45fcfe102f1e5b", func := "loop.example/g00118/laws.FnExactArchiveNew", spec := "fnExactArchiveNew", inPlace := ["internal/abi.NoEscape", "internal/bytealg.MakeNoZero"], unfollowed := true, recurses := true, apart := false }
def FnExactArchiveNewSaid : Prop := fnExactArchiveNewRow.holds Try.pinned (OpenSpec.ofChange fnExactArchiveNewSpec)

/-- ITS FALSE NEIGHBOUR: 'it returns false'. Refute it at one input. -/
def fnExactArchiveNewWrong : ChangeSpec := { name := "fnExactArchiveNew", fn := fun _ => fun
  | [] => { results := [.lit (.bool false)], args := [] }
  | _ => none }
def FnExactArchiveNewWrongFalsely : Prop := fnExactArchiveNewRow.holds Try.pinned (OpenSpec.ofChange fnExactArchiveNewWrong)

/-- 'laws.FnHeads': WHATEVER THE INPUT: true; the input reads as it did. -/
def fnHeadsSpec : ChangeSpec := { name := "fnHeads", fn := fun _ => fun
  | [d] => { results := [.lit (.bool true)], args := [d] }
  | _ => none }
def fnHeadsRow : OpenClaim := { program := "ytaakhgjlekllgaa", sum := "ee2778970898075839992c23a7f5fce3a9a6dd5c316966f82b45fcfe102f1e5b", func := "loop.example/g00118/laws.FnHeads", spec := "fnHeads", inPlace := ["internal/abi.NoEscape", "internal/bytealg.MakeNoZero"], apart := false }
def FnHeadsSaid : Prop := fnHeadsRow.holds Try.pinned (OpenSpec.ofChange fnHeadsSpec)

/-- ITS FALSE NEIGHBOUR: 'it returns false'. Refute it at one input. -/
def fnHeadsWrong : ChangeSpec := { name := "fnHeads", fn := fun _ => fun
  | [d] => { results := [.lit (.bool false)], args := [d] }
  | _ => none }
def FnHeadsWrongFalsely : Prop := fnHeadsRow.holds Try.pinned (OpenSpec.ofChange fnHeadsWrong)

/-- 'laws.FnAreas': WHATEVER THE INPUT: true; the input reads as it did. -/
def fnAreasSpec : ChangeSpec := { name := "fnAreas", fn := fun _ => fun
  | [d] => { results := [.lit (.bool true)], args := [d] }
  | _ => none }
def fnAreasRow : OpenClaim := { program := "ytaakhgjlekllgaa", sum := "ee2778970898075839992c23a7f5fce3a9a6dd5c316966f82b45fcfe102f1e5b", func := "loop.example/g00118/laws.FnAreas", spec := "fnAreas", inPlace := ["internal/abi.NoEscape", "internal/bytealg.MakeNoZero"], apart := false }
def FnAreasSaid : Prop := fnAreasRow.holds Try.pinned (OpenSpec.ofChange fnAreasSpec)

/-- ITS FALSE NEIGHBOUR: 'it returns false'. Refute it at one input. -/
def fnAreasWrong : ChangeSpec := { name := "fnAreas", fn := fun _ => fun
  | [d] => { results := [.lit (.bool false)], args := [d] }
  | _ => none }
def FnAreasWrongFalsely : Prop := fnAreasRow.holds Try.pinned (OpenSpec.ofChange fnAreasWrong)

/-- 'laws.FnExactArchiveOk': WHATEVER THE INPUT: true; the input reads as it did. -/
def fnExactArchiveOkSpec : ChangeSpec := { name := "fnExactArchiveOk", fn := fun _ => fun
  | [d] => { results := [.lit (.bool true)], args := [d] }
  | _ => none }
def fnExactArchiveOkRow : OpenClaim := { program := "ytaakhgjlekllgaa", sum := "ee2778970898075839992c23a7f5fce3a9a6dd5c316966f82b45fcfe102f1e5b", func := "loop.example/g00118/laws.FnExactArchiveOk", spec := "fnExactArchiveOk", inPlace := ["internal/abi.NoEscape", "internal/bytealg.MakeNoZero", "slices.overlaps[loop.example/g00118/impl.Entry]"], apart := false }
def FnExactArchiveOkSaid : Prop := fnExactArchiveOkRow.holds Try.pinned (OpenSpec.ofChange fnExactArchiveOkSpec)

/-- ITS FALSE NEIGHBOUR: 'it returns false'. Refute it at one input. -/
def fnExactArchiveOkWrong : ChangeSpec := { name := "fnExactArchiveOk", fn := fun _ => fun
  | [d] => { results := [.lit (.bool false)], args := [d] }
  | _ => none }
def FnExactArchiveOkWrongFalsely : Prop := fnExactArchiveOkRow.holds Try.pinned (OpenSpec.ofChange fnExactArchiveOkWrong)

/- THE SECOND FORM. 'bulk': how many values and letters a reading holds, each counted each time it is reached (what is shared counts as often as it is met; a slice's spare places count too). A statement '..UptoSaid' is the law's where the arguments, and the package variables that the reading takes, are together of bulk at most 1048576: NARROWER than '..Said'. Prove '..Said' where nothing that the law and all that it calls make is longer than what came in: it says more and counts as full. Else prove '..UptoSaid'. A law counts once. -/
mutual
def uptoBulk {H : Type} : DataW H → Nat
  | .lit (.string bytes) => bytes.length + 1
  | .lit _ => 1
  | .nil => 1
  | .ptr d => uptoBulk d + 1
  | .slice elems spare => uptoBulkAll elems + uptoBulkAll spare + 1
  | .agg parts => uptoBulkAll parts + 1
  | .iface _ d => uptoBulk d + 1
  | .map entries => uptoBulkEntries entries + 1
  | .held _ => 1
def uptoBulkAll {H : Type} : List (DataW H) → Nat
  | [] => 0
  | d :: r => uptoBulk d + uptoBulkAll r
def uptoBulkEntries {H : Type} : List (Lit × DataW H) → Nat
  | [] => 0
  | x :: r => uptoBulkEntry x + uptoBulkEntries r
def uptoBulkEntry {H : Type} : Lit × DataW H → Nat
  | (.string bytes, d) => bytes.length + uptoBulk d + 1
  | (_, d) => uptoBulk d + 1
 end
def uptoSmall : (H : Type) → List (DataW H) → Bool := fun _ ds => decide (uptoBulkAll ds ≤ 1048576)
def OpenSpec.upto (s : _root_.Go.ChangeSpec) : _root_.Go.OpenSpec := { _root_.Go.OpenSpec.ofChange s with cond := some uptoSmall }

/-- 'laws.FnRecords', WHERE WHAT IT READS IS OF BULK AT MOST 1048576: true; the input reads as it did. -/
def fnRecordsUptoRow : OpenClaim := { program := "ytaakhgjlekllgaa", sum := "ee2778970898075839992c23a7f5fce3a9a6dd5c316966f82b45fcfe102f1e5b", func := "loop.example/g00118/laws.FnRecords", spec := "fnRecords", apart := false, narrowed := true }
def FnRecordsUptoSaid : Prop := fnRecordsUptoRow.holds Try.pinned (OpenSpec.upto fnRecordsSpec)

/-- 'laws.FnExactRecords', WHERE WHAT IT READS IS OF BULK AT MOST 1048576: true; the input reads as it did. -/
def fnExactRecordsUptoRow : OpenClaim := { program := "ytaakhgjlekllgaa", sum := "ee2778970898075839992c23a7f5fce3a9a6dd5c316966f82b45fcfe102f1e5b", func := "loop.example/g00118/laws.FnExactRecords", spec := "fnExactRecords", apart := false, narrowed := true }
def FnExactRecordsUptoSaid : Prop := fnExactRecordsUptoRow.holds Try.pinned (OpenSpec.upto fnExactRecordsSpec)

/-- 'laws.FnExactIndexOf', WHERE WHAT IT READS IS OF BULK AT MOST 1048576: true; the input reads as it did. -/
def fnExactIndexOfUptoRow : OpenClaim := { program := "ytaakhgjlekllgaa", sum := "ee2778970898075839992c23a7f5fce3a9a6dd5c316966f82b45fcfe102f1e5b", func := "loop.example/g00118/laws.FnExactIndexOf", spec := "fnExactIndexOf", inPlace := ["slices.overlaps[loop.example/g00118/impl.Entry]"], apart := false, narrowed := true }
def FnExactIndexOfUptoSaid : Prop := fnExactIndexOfUptoRow.holds Try.pinned (OpenSpec.upto fnExactIndexOfSpec)

/-- 'laws.FnExactAreaPut', WHERE WHAT IT READS IS OF BULK AT MOST 1048576: true; the input reads as it did. -/
def fnExactAreaPutUptoRow : OpenClaim := { program := "ytaakhgjlekllgaa", sum := "ee2778970898075839992c23a7f5fce3a9a6dd5c316966f82b45fcfe102f1e5b", func := "loop.example/g00118/laws.FnExactAreaPut", spec := "fnExactAreaPut", apart := false, narrowed := true }
def FnExactAreaPutUptoSaid : Prop := fnExactAreaPutUptoRow.holds Try.pinned (OpenSpec.upto fnExactAreaPutSpec)

/-- 'laws.FnIndex', WHERE WHAT IT READS IS OF BULK AT MOST 1048576: true; the input reads as it did. -/
def fnIndexUptoRow : OpenClaim := { program := "ytaakhgjlekllgaa", sum := "ee2778970898075839992c23a7f5fce3a9a6dd5c316966f82b45fcfe102f1e5b", func := "loop.example/g00118/laws.FnIndex", spec := "fnIndex", inPlace := ["slices.overlaps[loop.example/g00118/impl.Entry]"], apart := false, narrowed := true }
def FnIndexUptoSaid : Prop := fnIndexUptoRow.holds Try.pinned (OpenSpec.upto fnIndexSpec)

/-- 'laws.FnExactHeadNow', WHERE WHAT IT READS IS OF BULK AT MOST 1048576: true; the input reads as it did. -/
def fnExactHeadNowUptoRow : OpenClaim := { program := "ytaakhgjlekllgaa", sum := "ee2778970898075839992c23a7f5fce3a9a6dd5c316966f82b45fcfe102f1e5b", func := "loop.example/g00118/laws.FnExactHeadNow", spec := "fnExactHeadNow", inPlace := ["internal/abi.NoEscape", "internal/bytealg.MakeNoZero"], apart := false, narrowed := true }
def FnExactHeadNowUptoSaid : Prop := fnExactHeadNowUptoRow.holds Try.pinned (OpenSpec.upto fnExactHeadNowSpec)

/-- 'laws.FnExactHeadPut', WHERE WHAT IT READS IS OF BULK AT MOST 1048576: true; the input reads as it did. -/
def fnExactHeadPutUptoRow : OpenClaim := { program := "ytaakhgjlekllgaa", sum := "ee2778970898075839992c23a7f5fce3a9a6dd5c316966f82b45fcfe102f1e5b", func := "loop.example/g00118/laws.FnExactHeadPut", spec := "fnExactHeadPut", inPlace := ["internal/abi.NoEscape", "internal/bytealg.MakeNoZero"], apart := false, narrowed := true }
def FnExactHeadPutUptoSaid : Prop := fnExactHeadPutUptoRow.holds Try.pinned (OpenSpec.upto fnExactHeadPutSpec)

/-- 'laws.FnExactArchiveNew', WHERE WHAT IT READS IS OF BULK AT MOST 1048576: true; the input reads as it did. -/
def fnExactArchiveNewUptoRow : OpenClaim := { program := "ytaakhgjlekllgaa", sum := "ee2778970898075839992c23a7f5fce3a9a6dd5c316966f82b45fcfe102f1e5b", func := "loop.example/g00118/laws.FnExactArchiveNew", spec := "fnExactArchiveNew", inPlace := ["internal/abi.NoEscape", "internal/bytealg.MakeNoZero"], unfollowed := true, recurses := true, apart := false, narrowed := true }
def FnExactArchiveNewUptoSaid : Prop := fnExactArchiveNewUptoRow.holds Try.pinned (OpenSpec.upto fnExactArchiveNewSpec)

/-- 'laws.FnHeads', WHERE WHAT IT READS IS OF BULK AT MOST 1048576: true; the input reads as it did. -/
def fnHeadsUptoRow : OpenClaim := { program := "ytaakhgjlekllgaa", sum := "ee2778970898075839992c23a7f5fce3a9a6dd5c316966f82b45fcfe102f1e5b", func := "loop.example/g00118/laws.FnHeads", spec := "fnHeads", inPlace := ["internal/abi.NoEscape", "internal/bytealg.MakeNoZero"], apart := false, narrowed := true }
def FnHeadsUptoSaid : Prop := fnHeadsUptoRow.holds Try.pinned (OpenSpec.upto fnHeadsSpec)

/-- 'laws.FnAreas', WHERE WHAT IT READS IS OF BULK AT MOST 1048576: true; the input reads as it did. -/
def fnAreasUptoRow : OpenClaim := { program := "ytaakhgjlekllgaa", sum := "ee2778970898075839992c23a7f5fce3a9a6dd5c316966f82b45fcfe102f1e5b", func := "loop.example/g00118/laws.FnAreas", spec := "fnAreas", inPlace := ["internal/abi.NoEscape", "internal/bytealg.MakeNoZero"], apart := false, narrowed := true }
def FnAreasUptoSaid : Prop := fnAreasUptoRow.holds Try.pinned (OpenSpec.upto fnAreasSpec)

/-- 'laws.FnExactArchiveOk', WHERE WHAT IT READS IS OF BULK AT MOST 1048576: true; the input reads as it did. -/
def fnExactArchiveOkUptoRow : OpenClaim := { program := "ytaakhgjlekllgaa", sum := "ee2778970898075839992c23a7f5fce3a9a6dd5c316966f82b45fcfe102f1e5b", func := "loop.example/g00118/laws.FnExactArchiveOk", spec := "fnExactArchiveOk", inPlace := ["internal/abi.NoEscape", "internal/bytealg.MakeNoZero", "slices.overlaps[loop.example/g00118/impl.Entry]"], apart := false, narrowed := true }
def FnExactArchiveOkUptoSaid : Prop := fnExactArchiveOkUptoRow.holds Try.pinned (OpenSpec.upto fnExactArchiveOkSpec)

end Rows
end Go.Proofs.Ytaakhgjlekllgaa
