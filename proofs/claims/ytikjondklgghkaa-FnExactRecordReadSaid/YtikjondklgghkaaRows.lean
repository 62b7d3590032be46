/-
  No cell of these rows narrows 'for every input' (looked for: loops, veiled, ifaces, maps, wideKeys, modest, calm, conditions, laid).
  DERIVED. THE GIVEN ROWS OF THIS SEAT. 11 by the template 'for every input the law returns true; each argument reads behind the call as it read before'; 0 by the template 'total and deterministic' (their statements: YtikjondklgghkaaTotals.lean).
  GIVEN WITH THE SEED: the statements are not yours to turn. If you find one false, say at which input.
  Laid BY PROGRAM, IN A SANDBOX (cutbox-rows.mjs): the forced cells as the released guide's own fill.sh prints them over the translation 26ae05b3af627c08… (all of the seat's roots in one cut). By AI agents, Wed Nov 11 2026. No macro, syntax, notation, axiom, sorry.
-/
import Derived.Test.YtikjondklgghkaaChecked
import GoSem.Claim
import GoSem.ClaimJoined
import GoSem.ClaimMapViews
import Derived.JoinedTies
import Derived.KernelRfl
namespace Go.Proofs.Ytikjondklgghkaa
/- THE CELL 'sum', in the pinned program and in every row, IS THE sha256 OF THE DUMP (.gsa) THAT YtikjondklgghkaaProg.lean LOADS. Nothing in Lean hashes anything: it is a label: what it is worth is what the hold of that sum in a sandbox is worth. -/
noncomputable def Try.pinned : Pinned := { name := "ytikjondklgghkaa", sum := "26ae05b3af627c083681ead51bcc1482fccfb084d2b562553a84bda1acd6056d", checked := Try.checked }
namespace Rows
def none {H : Type} : Left H := { results := [], args := [] }

/-- 'laws.FnExactUrlOk': WHATEVER THE INPUT: true; the input reads as it did. -/
def fnExactUrlOkSpec : ChangeSpec := { name := "fnExactUrlOk", fn := fun _ => fun
  | [d] => { results := [.lit (.bool true)], args := [d] }
  | _ => none }
def fnExactUrlOkRow : OpenClaim := { program := "ytikjondklgghkaa", sum := "26ae05b3af627c083681ead51bcc1482fccfb084d2b562553a84bda1acd6056d", func := "loop.example/g00118/laws.FnExactUrlOk", spec := "fnExactUrlOk", apart := false }
def FnExactUrlOkSaid : Prop := fnExactUrlOkRow.holds Try.pinned (OpenSpec.ofChange fnExactUrlOkSpec)

/-- ITS FALSE NEIGHBOUR: 'it returns false'. Refute it at one input. -/
def fnExactUrlOkWrong : ChangeSpec := { name := "fnExactUrlOk", fn := fun _ => fun
  | [d] => { results := [.lit (.bool false)], args := [d] }
  | _ => none }
def FnExactUrlOkWrongFalsely : Prop := fnExactUrlOkRow.holds Try.pinned (OpenSpec.ofChange fnExactUrlOkWrong)

/-- 'laws.FnExactHexText': WHATEVER THE INPUT: true; the input reads as it did. -/
def fnExactHexTextSpec : ChangeSpec := { name := "fnExactHexText", fn := fun _ => fun
  | [d] => { results := [.lit (.bool true)], args := [d] }
  | _ => none }
def fnExactHexTextRow : OpenClaim := { program := "ytikjondklgghkaa", sum := "26ae05b3af627c083681ead51bcc1482fccfb084d2b562553a84bda1acd6056d", func := "loop.example/g00118/laws.FnExactHexText", spec := "fnExactHexText", inPlace := ["internal/abi.NoEscape"], apart := false }
def FnExactHexTextSaid : Prop := fnExactHexTextRow.holds Try.pinned (OpenSpec.ofChange fnExactHexTextSpec)

/-- ITS FALSE NEIGHBOUR: 'it returns false'. Refute it at one input. -/
def fnExactHexTextWrong : ChangeSpec := { name := "fnExactHexText", fn := fun _ => fun
  | [d] => { results := [.lit (.bool false)], args := [d] }
  | _ => none }
def FnExactHexTextWrongFalsely : Prop := fnExactHexTextRow.holds Try.pinned (OpenSpec.ofChange fnExactHexTextWrong)

/-- 'laws.FnExactDeedOk': WHATEVER THE INPUT: true; the input reads as it did. -/
def fnExactDeedOkSpec : ChangeSpec := { name := "fnExactDeedOk", fn := fun _ => fun
  | [d] => { results := [.lit (.bool true)], args := [d] }
  | _ => none }
def fnExactDeedOkRow : OpenClaim := { program := "ytikjondklgghkaa", sum := "26ae05b3af627c083681ead51bcc1482fccfb084d2b562553a84bda1acd6056d", func := "loop.example/g00118/laws.FnExactDeedOk", spec := "fnExactDeedOk", apart := false }
def FnExactDeedOkSaid : Prop := fnExactDeedOkRow.holds Try.pinned (OpenSpec.ofChange fnExactDeedOkSpec)

/-- ITS FALSE NEIGHBOUR: 'it returns false'. Refute it at one input. -/
def fnExactDeedOkWrong : ChangeSpec := { name := "fnExactDeedOk", fn := fun _ => fun
  | [d] => { results := [.lit (.bool false)], args := [d] }
  | _ => none }
def FnExactDeedOkWrongFalsely : Prop := fnExactDeedOkRow.holds Try.pinned (OpenSpec.ofChange fnExactDeedOkWrong)

/-- 'laws.FnExactHexBytes': WHATEVER THE INPUT: true; the input reads as it did. -/
def fnExactHexBytesSpec : ChangeSpec := { name := "fnExactHexBytes", fn := fun _ => fun
  | [d] => { results := [.lit (.bool true)], args := [d] }
  | _ => none }
def fnExactHexBytesRow : OpenClaim := { program := "ytikjondklgghkaa", sum := "26ae05b3af627c083681ead51bcc1482fccfb084d2b562553a84bda1acd6056d", func := "loop.example/g00118/laws.FnExactHexBytes", spec := "fnExactHexBytes", inPlace := ["internal/bytealg.IndexByteString"], apart := false }
def FnExactHexBytesSaid : Prop := fnExactHexBytesRow.holds Try.pinned (OpenSpec.ofChange fnExactHexBytesSpec)

/-- ITS FALSE NEIGHBOUR: 'it returns false'. Refute it at one input. -/
def fnExactHexBytesWrong : ChangeSpec := { name := "fnExactHexBytes", fn := fun _ => fun
  | [d] => { results := [.lit (.bool false)], args := [d] }
  | _ => none }
def FnExactHexBytesWrongFalsely : Prop := fnExactHexBytesRow.holds Try.pinned (OpenSpec.ofChange fnExactHexBytesWrong)

/-- 'laws.FnExactIndexFind': WHATEVER THE INPUT: true; the input reads as it did. -/
def fnExactIndexFindSpec : ChangeSpec := { name := "fnExactIndexFind", fn := fun _ => fun
  | [d1, d2] => { results := [.lit (.bool true)], args := [d1, d2] }
  | _ => none }
def fnExactIndexFindRow : OpenClaim := { program := "ytikjondklgghkaa", sum := "26ae05b3af627c083681ead51bcc1482fccfb084d2b562553a84bda1acd6056d", func := "loop.example/g00118/laws.FnExactIndexFind", spec := "fnExactIndexFind", apart := false }
def FnExactIndexFindSaid : Prop := fnExactIndexFindRow.holds Try.pinned (OpenSpec.ofChange fnExactIndexFindSpec)

/-- ITS FALSE NEIGHBOUR: 'it returns false'. Refute it at one input. -/
def fnExactIndexFindWrong : ChangeSpec := { name := "fnExactIndexFind", fn := fun _ => fun
  | [d1, d2] => { results := [.lit (.bool false)], args := [d1, d2] }
  | _ => none }
def FnExactIndexFindWrongFalsely : Prop := fnExactIndexFindRow.holds Try.pinned (OpenSpec.ofChange fnExactIndexFindWrong)

/-- 'laws.FnExactRecordPack': WHATEVER THE INPUT: true; the input reads as it did. -/
def fnExactRecordPackSpec : ChangeSpec := { name := "fnExactRecordPack", fn := fun _ => fun
  | [d] => { results := [.lit (.bool true)], args := [d] }
  | _ => none }
def fnExactRecordPackRow : OpenClaim := { program := "ytikjondklgghkaa", sum := "26ae05b3af627c083681ead51bcc1482fccfb084d2b562553a84bda1acd6056d", func := "loop.example/g00118/laws.FnExactRecordPack", spec := "fnExactRecordPack", apart := false }
def FnExactRecordPackSaid : Prop := fnExactRecordPackRow.holds Try.pinned (OpenSpec.ofChange fnExactRecordPackSpec)

/-- ITS FALSE NEIGHBOUR: 'it returns false'. Refute it at one input. -/
def fnExactRecordPackWrong : ChangeSpec := { name := "fnExactRecordPack", fn := fun _ => fun
  | [d] => { results := [.lit (.bool false)], args := [d] }
  | _ => none }
def FnExactRecordPackWrongFalsely : Prop := fnExactRecordPackRow.holds Try.pinned (OpenSpec.ofChange fnExactRecordPackWrong)

/-- 'laws.FnExactIndexPack': WHATEVER THE INPUT: true; the input reads as it did. -/
def fnExactIndexPackSpec : ChangeSpec := { name := "fnExactIndexPack", fn := fun _ => fun
  | [d] => { results := [.lit (.bool true)], args := [d] }
  | _ => none }
def fnExactIndexPackRow : OpenClaim := { program := "ytikjondklgghkaa", sum := "26ae05b3af627c083681ead51bcc1482fccfb084d2b562553a84bda1acd6056d", func := "loop.example/g00118/laws.FnExactIndexPack", spec := "fnExactIndexPack", apart := false }
def FnExactIndexPackSaid : Prop := fnExactIndexPackRow.holds Try.pinned (OpenSpec.ofChange fnExactIndexPackSpec)

/-- ITS FALSE NEIGHBOUR: 'it returns false'. Refute it at one input. -/
def fnExactIndexPackWrong : ChangeSpec := { name := "fnExactIndexPack", fn := fun _ => fun
  | [d] => { results := [.lit (.bool false)], args := [d] }
  | _ => none }
def FnExactIndexPackWrongFalsely : Prop := fnExactIndexPackRow.holds Try.pinned (OpenSpec.ofChange fnExactIndexPackWrong)

/-- 'laws.FnExactHeadPack': WHATEVER THE INPUT: true; the input reads as it did. -/
def fnExactHeadPackSpec : ChangeSpec := { name := "fnExactHeadPack", fn := fun _ => fun
  | [d] => { results := [.lit (.bool true)], args := [d] }
  | _ => none }
def fnExactHeadPackRow : OpenClaim := { program := "ytikjondklgghkaa", sum := "26ae05b3af627c083681ead51bcc1482fccfb084d2b562553a84bda1acd6056d", func := "loop.example/g00118/laws.FnExactHeadPack", spec := "fnExactHeadPack", inPlace := ["internal/abi.NoEscape", "internal/bytealg.MakeNoZero"], apart := false }
def FnExactHeadPackSaid : Prop := fnExactHeadPackRow.holds Try.pinned (OpenSpec.ofChange fnExactHeadPackSpec)

/-- ITS FALSE NEIGHBOUR: 'it returns false'. Refute it at one input. -/
def fnExactHeadPackWrong : ChangeSpec := { name := "fnExactHeadPack", fn := fun _ => fun
  | [d] => { results := [.lit (.bool false)], args := [d] }
  | _ => none }
def FnExactHeadPackWrongFalsely : Prop := fnExactHeadPackRow.holds Try.pinned (OpenSpec.ofChange fnExactHeadPackWrong)

/-- 'laws.FnExactRecordRead': WHATEVER THE INPUT: true; the input reads as it did. -/
def fnExactRecordReadSpec : ChangeSpec := { name := "fnExactRecordRead", fn := fun _ => fun
  | [d1, d2] => { results := [.lit (.bool true)], args := [d1, d2] }
  | _ => none }
def fnExactRecordReadRow : OpenClaim := { program := "ytikjondklgghkaa", sum := "26ae05b3af627c083681ead51bcc1482fccfb084d2b562553a84bda1acd6056d", func := "loop.example/g00118/laws.FnExactRecordRead", spec := "fnExactRecordRead", apart := false }
def FnExactRecordReadSaid : Prop := fnExactRecordReadRow.holds Try.pinned (OpenSpec.ofChange fnExactRecordReadSpec)

/-- ITS FALSE NEIGHBOUR: 'it returns false'. Refute it at one input. -/
def fnExactRecordReadWrong : ChangeSpec := { name := "fnExactRecordRead", fn := fun _ => fun
  | [d1, d2] => { results := [.lit (.bool false)], args := [d1, d2] }
  | _ => none }
def FnExactRecordReadWrongFalsely : Prop := fnExactRecordReadRow.holds Try.pinned (OpenSpec.ofChange fnExactRecordReadWrong)

/-- 'laws.FnExactAreaGet': WHATEVER THE INPUT: true; the input reads as it did. -/
def fnExactAreaGetSpec : ChangeSpec := { name := "fnExactAreaGet", fn := fun _ => fun
  | [d1, d2, d3, d4] => { results := [.lit (.bool true)], args := [d1, d2, d3, d4] }
  | _ => none }
def fnExactAreaGetRow : OpenClaim := { program := "ytikjondklgghkaa", sum := "26ae05b3af627c083681ead51bcc1482fccfb084d2b562553a84bda1acd6056d", func := "loop.example/g00118/laws.FnExactAreaGet", spec := "fnExactAreaGet", apart := false }
def FnExactAreaGetSaid : Prop := fnExactAreaGetRow.holds Try.pinned (OpenSpec.ofChange fnExactAreaGetSpec)

/-- ITS FALSE NEIGHBOUR: 'it returns false'. Refute it at one input. -/
def fnExactAreaGetWrong : ChangeSpec := { name := "fnExactAreaGet", fn := fun _ => fun
  | [d1, d2, d3, d4] => { results := [.lit (.bool false)], args := [d1, d2, d3, d4] }
  | _ => none }
def FnExactAreaGetWrongFalsely : Prop := fnExactAreaGetRow.holds Try.pinned (OpenSpec.ofChange fnExactAreaGetWrong)

/-- 'laws.FnExactHeadRead': WHATEVER THE INPUT: true; the input reads as it did. -/
def fnExactHeadReadSpec : ChangeSpec := { name := "fnExactHeadRead", fn := fun _ => fun
  | [d] => { results := [.lit (.bool true)], args := [d] }
  | _ => none }
def fnExactHeadReadRow : OpenClaim := { program := "ytikjondklgghkaa", sum := "26ae05b3af627c083681ead51bcc1482fccfb084d2b562553a84bda1acd6056d", func := "loop.example/g00118/laws.FnExactHeadRead", spec := "fnExactHeadRead", inPlace := ["internal/abi.NoEscape", "internal/bytealg.MakeNoZero"], apart := false }
def FnExactHeadReadSaid : Prop := fnExactHeadReadRow.holds Try.pinned (OpenSpec.ofChange fnExactHeadReadSpec)

/-- ITS FALSE NEIGHBOUR: 'it returns false'. Refute it at one input. -/
def fnExactHeadReadWrong : ChangeSpec := { name := "fnExactHeadRead", fn := fun _ => fun
  | [d] => { results := [.lit (.bool false)], args := [d] }
  | _ => none }
def FnExactHeadReadWrongFalsely : Prop := fnExactHeadReadRow.holds Try.pinned (OpenSpec.ofChange fnExactHeadReadWrong)

/- THE SECOND FORM. 'bulk': how many values and letters a reading holds, each counted each time it is reached (what is shared counts as often as it is met; a slice's spare places count too). A statement '..UptoSaid' is the law's where the arguments, and the package variables that the reading takes, are together of bulk at most 1048576: NARROWER than '..Said'. Prove '..Said' where nothing that the law and all that it calls make is longer than what came in: it says more and counts as full. Else prove '..UptoSaid'. A law counts once. -/
mutual
def uptoBulk {H : Type} : DataW H → Nat
  | .lit (.string bytes) => bytes.length + 1
  | .lit _ => 1
  | .nil => 1
  | .ptr d => uptoBulk d + 1
  | .slice elems spare => uptoBulkAll elems + uptoBulkAll spare + 1
  | .agg parts => uptoBulkAll parts + 1
  | .iface _ d => uptoBulk d + 1
  | .map entries => uptoBulkEntries entries + 1
  | .held _ => 1
def uptoBulkAll {H : Type} : List (DataW H) → Nat
  | [] => 0
  | d :: r => uptoBulk d + uptoBulkAll r
def uptoBulkEntries {H : Type} : List (Lit × DataW H) → Nat
  | [] => 0
  | x :: r => uptoBulkEntry x + uptoBulkEntries r
def uptoBulkEntry {H : Type} : Lit × DataW H → Nat
  | (.string bytes, d) => bytes.length + uptoBulk d + 1
  | (_, d) => uptoBulk d + 1
 end
def uptoSmall : (H : Type) → List (DataW H) → Bool := fun _ ds => decide (uptoBulkAll ds ≤ 1048576)
def OpenSpec.upto (s : _root_.Go.ChangeSpec) : _root_.Go.OpenSpec := { _root_.Go.OpenSpec.ofChange s with cond := some uptoSmall }

/-- 'laws.FnExactUrlOk', WHERE WHAT IT READS IS OF BULK AT MOST 1048576: true; the input reads as it did. -/
def fnExactUrlOkUptoRow : OpenClaim := { program := "ytikjondklgghkaa", sum := "26ae05b3af627c083681ead51bcc1482fccfb084d2b562553a84bda1acd6056d", func := "loop.example/g00118/laws.FnExactUrlOk", spec := "fnExactUrlOk", apart := false, narrowed := true }
def FnExactUrlOkUptoSaid : Prop := fnExactUrlOkUptoRow.holds Try.pinned (OpenSpec.upto fnExactUrlOkSpec)

/-- 'laws.FnExactHexText', WHERE WHAT IT READS IS OF BULK AT MOST 1048576: true; the input reads as it did. -/
def fnExactHexTextUptoRow : OpenClaim := { program := "ytikjondklgghkaa", sum := "26ae05b3af627c083681ead51bcc1482fccfb084d2b562553a84bda1acd6056d", func := "loop.example/g00118/laws.FnExactHexText", spec := "fnExactHexText", inPlace := ["internal/abi.NoEscape"], apart := false, narrowed := true }
def FnExactHexTextUptoSaid : Prop := fnExactHexTextUptoRow.holds Try.pinned (OpenSpec.upto fnExactHexTextSpec)

/-- 'laws.FnExactDeedOk', WHERE WHAT IT READS IS OF BULK AT MOST 1048576: true; the input reads as it did. -/
def fnExactDeedOkUptoRow : OpenClaim := { program := "ytikjondklgghkaa", sum := "26ae05b3af627c083681ead51bcc1482fccfb084d2b562553a84bda1acd6056d", func := "loop.example/g00118/laws.FnExactDeedOk", spec := "fnExactDeedOk", apart := false, narrowed := true }
def FnExactDeedOkUptoSaid : Prop := fnExactDeedOkUptoRow.holds Try.pinned (OpenSpec.upto fnExactDeedOkSpec)

/-- 'laws.FnExactHexBytes', WHERE WHAT IT READS IS OF BULK AT MOST 1048576: true; the input reads as it did. -/
def fnExactHexBytesUptoRow : OpenClaim := { program := "ytikjondklgghkaa", sum := "26ae05b3af627c083681ead51bcc1482fccfb084d2b562553a84bda1acd6056d", func := "loop.example/g00118/laws.FnExactHexBytes", spec := "fnExactHexBytes", inPlace := ["internal/bytealg.IndexByteString"], apart := false, narrowed := true }
def FnExactHexBytesUptoSaid : Prop := fnExactHexBytesUptoRow.holds Try.pinned (OpenSpec.upto fnExactHexBytesSpec)

/-- 'laws.FnExactIndexFind', WHERE WHAT IT READS IS OF BULK AT MOST 1048576: true; the input reads as it did. -/
def fnExactIndexFindUptoRow : OpenClaim := { program := "ytikjondklgghkaa", sum := "26ae05b3af627c083681ead51bcc1482fccfb084d2b562553a84bda1acd6056d", func := "loop.example/g00118/laws.FnExactIndexFind", spec := "fnExactIndexFind", apart := false, narrowed := true }
def FnExactIndexFindUptoSaid : Prop := fnExactIndexFindUptoRow.holds Try.pinned (OpenSpec.upto fnExactIndexFindSpec)

/-- 'laws.FnExactRecordPack', WHERE WHAT IT READS IS OF BULK AT MOST 1048576: true; the input reads as it did. -/
def fnExactRecordPackUptoRow : OpenClaim := { program := "ytikjondklgghkaa", sum := "26ae05b3af627c083681ead51bcc1482fccfb084d2b562553a84bda1acd6056d", func := "loop.example/g00118/laws.FnExactRecordPack", spec := "fnExactRecordPack", apart := false, narrowed := true }
def FnExactRecordPackUptoSaid : Prop := fnExactRecordPackUptoRow.holds Try.pinned (OpenSpec.upto fnExactRecordPackSpec)

/-- 'laws.FnExactIndexPack', WHERE WHAT IT READS IS OF BULK AT MOST 1048576: true; the input reads as it did. -/
def fnExactIndexPackUptoRow : OpenClaim := { program := "ytikjondklgghkaa", sum := "26ae05b3af627c083681ead51bcc1482fccfb084d2b562553a84bda1acd6056d", func := "loop.example/g00118/laws.FnExactIndexPack", spec := "fnExactIndexPack", apart := false, narrowed := true }
def FnExactIndexPackUptoSaid : Prop := fnExactIndexPackUptoRow.holds Try.pinned (OpenSpec.upto fnExactIndexPackSpec)

/-- 'laws.FnExactHeadPack', WHERE WHAT IT READS IS OF BULK AT MOST 1048576: true; the input reads as it did. -/
def fnExactHeadPackUptoRow : OpenClaim := { program := "ytikjondklgghkaa", sum := "26ae05b3af627c083681ead51bcc1482fccfb084d2b562553a84bda1acd6056d", func := "loop.example/g00118/laws.FnExactHeadPack", spec := "fnExactHeadPack", inPlace := ["internal/abi.NoEscape", "internal/bytealg.MakeNoZero"], apart := false, narrowed := true }
def FnExactHeadPackUptoSaid : Prop := fnExactHeadPackUptoRow.holds Try.pinned (OpenSpec.upto fnExactHeadPackSpec)

/-- 'laws.FnExactRecordRead', WHERE WHAT IT READS IS OF BULK AT MOST 1048576: true; the input reads as it did. -/
def fnExactRecordReadUptoRow : OpenClaim := { program := "ytikjondklgghkaa", sum := "26ae05b3af627c083681ead51bcc1482fccfb084d2b562553a84bda1acd6056d", func := "loop.example/g00118/laws.FnExactRecordRead", spec := "fnExactRecordRead", apart := false, narrowed := true }
def FnExactRecordReadUptoSaid : Prop := fnExactRecordReadUptoRow.holds Try.pinned (OpenSpec.upto fnExactRecordReadSpec)

/-- 'laws.FnExactAreaGet', WHERE WHAT IT READS IS OF BULK AT MOST 1048576: true; the input reads as it did. -/
def fnExactAreaGetUptoRow : OpenClaim := { program := "ytikjondklgghkaa", sum := "26ae05b3af627c083681ead51bcc1482fccfb084d2b562553a84bda1acd6056d", func := "loop.example/g00118/laws.FnExactAreaGet", spec := "fnExactAreaGet", apart := false, narrowed := true }
def FnExactAreaGetUptoSaid : Prop := fnExactAreaGetUptoRow.holds Try.pinned (OpenSpec.upto fnExactAreaGetSpec)

/-- 'laws.FnExactHeadRead', WHERE WHAT IT READS IS OF BULK AT MOST 1048576: true; the input reads as it did. -/
def fnExactHeadReadUptoRow : OpenClaim := { program := "ytikjondklgghkaa", sum := "26ae05b3af627c083681ead51bcc1482fccfb084d2b562553a84bda1acd6056d", func := "loop.example/g00118/laws.FnExactHeadRead", spec := "fnExactHeadRead", inPlace := ["internal/abi.NoEscape", "internal/bytealg.MakeNoZero"], apart := false, narrowed := true }
def FnExactHeadReadUptoSaid : Prop := fnExactHeadReadUptoRow.holds Try.pinned (OpenSpec.upto fnExactHeadReadSpec)

end Rows
end Go.Proofs.Ytikjondklgghkaa
