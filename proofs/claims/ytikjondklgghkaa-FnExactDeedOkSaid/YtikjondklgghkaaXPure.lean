/-
Plain facts that the pure proofs of this seat share: texts as lists of bytes, ranges, sums that do not wrap, rounds that suffice.
No condition: lemmas alone.
-/
import Derived.Test.YtikjondklgghkaaWWords
import Derived.Test.YtikjondklgghkaaWMore
import Derived.OpenShut
namespace Go.Proofs.YtikjondklgghkaaX
open Go.RowKit Go.Proofs.YtikjondklgghkaaW.PrintWords Go.Proofs.YtikjondklgghkaaW.PrintMore

theorem toList_length (s : ByteArray) : s.toList.length = s.size := by rw [ByteArray.toList_eq, Array.length_toList]; rfl
theorem toList_nil (s : ByteArray) : s.toList = [] ↔ s.size = 0 := by rw [← toList_length, List.length_eq_zero_iff]
theorem toList_inj {a b : ByteArray} : a.toList = b.toList ↔ a = b := by
  rw [ByteArray.toList_eq, ByteArray.toList_eq]
  constructor
  · intro h
    cases a with | mk a => cases b with | mk b =>
    congr 1
    exact Array.toList_inj.1 h
  · rintro rfl; rfl
theorem wrap_id {x : Int} (h0 : -9223372036854775808 ≤ x) (h1 : x ≤ 9223372036854775807) : wrap64 x = x := by unfold wrap64; omega
theorem wf64 {x : Int} (h : (Lit.int .i64 x).wf = true) : -9223372036854775808 ≤ x ∧ x ≤ 9223372036854775807 := bounds_i64 h
theorem ev_rounds {g : Nat → Option Bool} {K : Nat} (h : g K = some true) : ∃ k, g k = some true := ⟨K, h⟩
theorem bt_range (s : ByteArray) (i : Int) : 0 ≤ bt s i ∧ bt s i ≤ 255 := by
  unfold bt
  split
  · have := (s[i.toNat]).toNat_lt; omega
  · omega
end Go.Proofs.YtikjondklgghkaaX
