/-
Records: program and reference pack the same bytes.
No condition beyond the sizes of the texts.
-/
import Derived.Test.YtikjondklgghkaaPRdx1
import Derived.Test.YtikjondklgghkaaPRdx2
import Derived.Test.YtikjondklgghkaaPRdx4
import Derived.Test.YtikjondklgghkaaPRdx5
import Derived.Test.YtikjondklgghkaaPRdx6
import Derived.Test.YtikjondklgghkaaPRdx0
import Derived.Test.YtikjondklgghkaaXPure
import Derived.Test.YtikjondklgghkaaRdPureNum
namespace Go.Proofs.Ytikjondklgghkaa.Pure
open Go.RowKit Go.Proofs.YtikjondklgghkaaX Go.Proofs.Ytikjondklgghkaa.PRd Go.Proofs.YtikjondklgghkaaW.PrintWords Go.Proofs.YtikjondklgghkaaW.PrintLast

/-- Every byte from i on is one of an address. -/
def urlFrom (s : ByteArray) : Nat → Nat → Bool
  | 0, _ => true
  | d + 1, i => if bt s (i : Int) < 33 then false else if bt s (i : Int) > 126 then false else urlFrom s d (i + 1)
def urlGood (s : ByteArray) : Bool := decide (1 ≤ (s.size : Int) ∧ (s.size : Int) ≤ 60) && urlFrom s s.size 0
theorem url_spec_from (s : ByteArray) (hn : s.size ≤ 140737488355328) : ∀ (d i : Nat), i + d = s.size → Ev (fun k => spec_UrlOk.l0 k s (i : Int)) (urlFrom s d i) := by
  intro d
  induction d with
  | zero => intro i hi; exact Ev.step (fun k => spec_UrlOk.l0.eq_2 (k := k) ..) (Ev.neg (by omega) (Ev.now _))
  | succ d ih =>
    intro i hi
    refine Ev.step (fun k => spec_UrlOk.l0.eq_2 (k := k) ..) (Ev.pos (by omega) (Ev.pos (by omega) ?_))
    unfold urlFrom
    by_cases h1 : bt s (i : Int) < 33
    · rw [if_pos h1]; exact Ev.pos h1 (Ev.now _)
    · rw [if_neg h1]
      refine Ev.neg h1 ?_
      by_cases h2 : bt s (i : Int) > 126
      · rw [if_pos h2]; exact Ev.pos h2 (Ev.now _)
      · rw [if_neg h2, wrap_succ (n := s.size) (by omega) (by omega)]; exact Ev.neg h2 (ih (i + 1) (by omega))
theorem url_impl_from (s : ByteArray) (hn : s.size ≤ 140737488355328) : ∀ (d i : Nat), i + d = s.size → Ev (fun k => impl_UrlOk.l0 k s (i : Int)) (urlFrom s d i && decide (1 ≤ (s.size : Int) ∧ (s.size : Int) ≤ 60)) := by
  intro d
  induction d with
  | zero => intro i hi; exact Ev.step (fun k => impl_UrlOk.l0.eq_2 (k := k) ..) (Ev.neg (by omega) (Ev.known (impl_in ..) (Ev.is (by simp [urlFrom]))))
  | succ d ih =>
    intro i hi
    refine Ev.step (fun k => impl_UrlOk.l0.eq_2 (k := k) ..) (Ev.pos (by omega) (Ev.pos (by omega) ?_))
    unfold urlFrom
    by_cases h1 : bt s (i : Int) < 33
    · rw [if_pos h1]; exact Ev.pos h1 (Ev.now _)
    · rw [if_neg h1]
      refine Ev.neg h1 ?_
      by_cases h2 : bt s (i : Int) > 126
      · rw [if_pos h2]; exact Ev.pos h2 (Ev.now _)
      · rw [if_neg h2, wrap_succ (n := s.size) (by omega) (by omega)]; exact Ev.neg h2 (ih (i + 1) (by omega))
theorem spec_url (s : ByteArray) (hn : s.size ≤ 140737488355328) : Ev (fun k => spec_UrlOk.f k s) (urlGood s) := by
  unfold spec_UrlOk.f urlGood
  refine Ev.known (spec_in ..) ?_
  by_cases h : 1 ≤ (s.size : Int) ∧ (s.size : Int) ≤ 60
  · exact Ev.pos (by simpa using h) (Ev.eq (url_spec_from s hn s.size 0 (by omega)) (by simp [h]))
  · exact Ev.neg (by simpa using h) (Ev.is (by simp [h]))
theorem impl_url (s : ByteArray) (hn : s.size ≤ 140737488355328) : Ev (fun k => impl_UrlOk.f k s) (urlGood s) := by
  unfold impl_UrlOk.f urlGood
  exact Ev.eq (url_impl_from s hn s.size 0 (by omega)) (Bool.and_comm ..)
theorem urlGood_size {s : ByteArray} (h : urlGood s = true) : 1 ≤ s.size ∧ s.size ≤ 60 := by
  unfold urlGood at h
  simp at h
  omega
theorem bytesOf_range (s : ByteArray) : ∀ y ∈ bytesOf s, 0 ≤ y ∧ y ≤ 255 := by
  intro y hy
  unfold bytesOf at hy
  obtain ⟨b, _, rfl⟩ := List.mem_map.1 hy
  have := b.toNat_lt
  omega
def textForm (s : ByteArray) : List Int := numForm s.size ++ bytesOf s
theorem textForm_length (s : ByteArray) : (textForm s).length ≤ s.size + 10 := by
  have := numForm_length s.size
  simp [textForm, bytesOf_length]; omega
theorem textForm_range (s : ByteArray) : ∀ y ∈ textForm s, 0 ≤ y ∧ y ≤ 255 := by
  intro y hy
  rcases List.mem_append.1 hy with h | h
  · exact numForm_range _ y h
  · exact bytesOf_range _ y h
theorem spec_text {s : ByteArray} (hn : s.size ≤ 140737488355000) : Ev (fun k => spec_PutText.f k s) (textForm s) := by
  have := numForm_length s.size
  unfold spec_PutText.f
  refine Ev.bind (spec_num (by omega)) (Ev.known (a := bytesOf s) ?_ (Ev.pos (by rw [bytesOf_length]; omega) (Ev.now _)))
  unfold xconv43.f xBytes
  rw [if_pos (by omega)]
theorem impl_text {s : ByteArray} (acc : List Int) (hn : s.size + acc.length ≤ 140737488355000) : Ev (fun k => impl_putText.f k acc s) (acc ++ textForm s) := by
  have := numForm_length s.size
  unfold impl_putText.f
  refine Ev.bind (impl_num acc (by omega) (by omega)) (Ev.pos (by simp; omega) (Ev.is ?_))
  rw [textForm, List.append_assoc]
def recForm (kind : Nat) (url body : ByteArray) : List Int := numForm kind ++ textForm url ++ (if kind = 1 then textForm body else [])
theorem recForm_length (kind : Nat) (url body : ByteArray) : (recForm kind url body).length ≤ 30 + url.size + body.size := by
  have h1 := numForm_length kind
  have h2 := textForm_length url
  have h3 := textForm_length body
  unfold recForm
  split <;> simp <;> omega
/-- A record that may stand on the disk. -/
def recRight (kind : Int) (url body : ByteArray) : Bool := decide (kind = 1 ∨ kind = 2) && (urlGood url && !(decide (kind = 2) && (body.toList != ([] : List UInt8))))
def recPacked (kind : Int) (url body : ByteArray) : List Int × Bool := if recRight kind url body = true then (recForm kind.toNat url body, true) else ([], false)
theorem recPacked_length (kind : Int) (url body : ByteArray) : (recPacked kind url body).1.length ≤ 30 + url.size + body.size := by
  unfold recPacked
  split
  · exact recForm_length ..
  · simp
theorem spec_rec_j (kind : Int) (url body : ByteArray) (b : Bool) (hk : b = false → kind = 1 ∨ kind = 2) (hn : url.size + body.size ≤ 140737488354000) :
    Ev (fun k => spec_RecordPack.j0 k b kind url body) (if b = true then ([], false) else (recForm kind.toNat url body, true)) := by
  refine Ev.step (fun k => spec_RecordPack.j0.eq_2 (k := k) ..) ?_
  cases b with
  | true => exact Ev.pos rfl (Ev.now _)
  | false =>
    have hk := hk rfl
    have h1 := numForm_length kind.toNat
    have h0 := numForm_length 1
    have h2 := textForm_length url
    have h3 := textForm_length body
    have hs := spec_num (x := kind.toNat) (by omega)
    rw [Int.toNat_of_nonneg (by omega)] at hs
    refine Ev.neg (by simp) (Ev.bind hs (Ev.bind (spec_text (by omega)) (Ev.pos (by omega) (Ev.known rfl ?_))))
    rcases hk with rfl | rfl
    · refine Ev.pos rfl (Ev.bind (spec_text (by omega)) (Ev.pos (by simp; omega) (Ev.is ?_)))
      rfl
    · refine Ev.neg (by omega) (Ev.is ?_)
      simp [recForm]
theorem impl_rec_j (kind : Int) (url body : ByteArray) (b : Bool) (hk : b = false → kind = 1 ∨ kind = 2) (hn : url.size + body.size ≤ 140737488354000) :
    Ev (fun k => impl_RecordPack.j0 k b kind url body) (if b = true then ([], false) else (recForm kind.toNat url body, true)) := by
  refine Ev.step (fun k => impl_RecordPack.j0.eq_2 (k := k) ..) ?_
  cases b with
  | true => exact Ev.pos rfl (Ev.now _)
  | false =>
    have hk := hk rfl
    have h1 := numForm_length kind.toNat
    have h0 := numForm_length 1
    have h2 := textForm_length url
    have h3 := textForm_length body
    have hs := impl_num (x := kind.toNat) [] (by omega) (by simp)
    rw [Int.toNat_of_nonneg (by omega)] at hs
    refine Ev.neg (by simp) (Ev.bind hs (Ev.bind (impl_text _ (by simp; omega)) ?_))
    rcases hk with rfl | rfl
    · refine Ev.pos rfl (Ev.bind (impl_text _ (by simp; omega)) (Ev.is ?_))
      simp [recForm]
    · refine Ev.neg (by omega) (Ev.is ?_)
      simp [recForm]
theorem spec_rec (kind : Int) (url body : ByteArray) (hn : url.size + body.size ≤ 140737488354000) : Ev (fun k => spec_RecordPack.f k kind url body) (recPacked kind url body) := by
  unfold spec_RecordPack.f recPacked recRight
  have hu := spec_url url (by omega)
  by_cases h1 : kind = 1
  · refine Ev.pos h1 (Ev.bind hu ?_)
    cases hg : urlGood url with
    | true =>
      refine Ev.pos rfl (Ev.neg (by omega) (Ev.eq (spec_rec_j kind url body false (fun _ => .inl h1) hn) ?_))
      simp [h1]
    | false =>
      refine Ev.neg (by simp) (Ev.eq (spec_rec_j kind url body true (fun h => by cases h) hn) ?_)
      simp
  · refine Ev.neg h1 ?_
    by_cases h2 : kind = 2
    · refine Ev.pos h2 (Ev.bind hu ?_)
      cases hg : urlGood url with
      | true =>
        refine Ev.pos rfl (Ev.eq (spec_rec_j kind url body (body.toList != ([] : List UInt8)) (fun _ => .inr h2) hn) ?_)
        cases (body.toList != ([] : List UInt8)) <;> simp [h2]
      | false =>
        refine Ev.neg (by simp) (Ev.eq (spec_rec_j kind url body true (fun h => by cases h) hn) ?_)
        simp
    · refine Ev.neg h2 (Ev.eq (spec_rec_j kind url body true (fun h => by cases h) hn) ?_)
      simp [h1, h2]
theorem impl_rec (kind : Int) (url body : ByteArray) (hn : url.size + body.size ≤ 140737488354000) : Ev (fun k => impl_RecordPack.f k kind url body) (recPacked kind url body) := by
  unfold impl_RecordPack.f recPacked recRight
  have hu := impl_url url (by omega)
  refine Ev.known (impl_in ..) ?_
  by_cases h : kind = 1 ∨ kind = 2
  · refine Ev.pos (by simp; omega) (Ev.bind hu ?_)
    cases hg : urlGood url with
    | true =>
      refine Ev.pos rfl ?_
      by_cases h2 : kind = 2
      · refine Ev.pos h2 (Ev.eq (impl_rec_j kind url body (body.toList != ([] : List UInt8)) (fun _ => .inr h2) hn) ?_)
        cases (body.toList != ([] : List UInt8)) <;> simp [h2]
      · refine Ev.neg h2 (Ev.eq (impl_rec_j kind url body false (fun _ => h) hn) ?_)
        simp [show kind = 1 by omega]
    | false =>
      refine Ev.neg (by simp) (Ev.eq (impl_rec_j kind url body true (fun h => by cases h) hn) ?_)
      simp
  · refine Ev.neg (by simp; omega) (Ev.eq (impl_rec_j kind url body true (fun h => by cases h) hn) ?_)
    simp [h]
end Go.Proofs.Ytikjondklgghkaa.Pure
