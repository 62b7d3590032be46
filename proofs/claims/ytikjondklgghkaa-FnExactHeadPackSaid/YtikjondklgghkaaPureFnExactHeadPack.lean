/-
HeadPack: program and reference give the same sector.
No condition beyond the row's own.
-/
import Derived.Test.YtikjondklgghkaaPRecx2
import Derived.Test.YtikjondklgghkaaPRecx4
import Derived.Test.YtikjondklgghkaaPRecx3
import Derived.Test.YtikjondklgghkaaPRecx1
import Derived.Test.YtikjondklgghkaaXPure
import Derived.Test.YtikjondklgghkaaPureNum
import Derived.Test.YtikjondklgghkaaXFnExactHeadPack
import Derived.Lib.Repeat
namespace Go.Proofs.Ytikjondklgghkaa.Pure
open Go.RowKit Go.Proofs.YtikjondklgghkaaX Go.Proofs.Ytikjondklgghkaa.PRec Go.Proofs.YtikjondklgghkaaW.PrintWords Go.Proofs.YtikjondklgghkaaW.PrintLast

def headRight (a b c : Int) : Bool := decide ((1 ≤ a ∧ a ≤ 1000000000) ∧ (0 ≤ b ∧ b ≤ 1) ∧ (0 ≤ c ∧ c ≤ 4096))
theorem spec_right (a b c : Int) : spec_l16Right.f a b c = some (headRight a b c) := by
  unfold spec_l16Right.f headRight
  rw [spec_in, Option.bind_some]
  by_cases h1 : 1 ≤ a ∧ a ≤ 1000000000
  · rw [if_pos (by simpa using h1), spec_in, Option.bind_some]
    by_cases h2 : 0 ≤ b ∧ b ≤ 1
    · rw [if_pos (by simpa using h2), spec_in, Option.bind_some]
      simp [h1, h2]
    · rw [if_neg (by simpa using h2)]; simp [h2]
  · rw [if_neg (by simpa using h1)]; simp [h1]
theorem impl_right (a b c : Int) : impl_headOk.f a b c = some (headRight a b c) := by
  unfold impl_headOk.f headRight impl_isArea.f
  rw [impl_in, Option.bind_some]
  by_cases h1 : 1 ≤ a ∧ a ≤ 1000000000
  · rw [if_pos (by simpa using h1)]
    by_cases hb : b = 0
    · rw [if_pos hb, Option.bind_some, if_pos rfl, impl_in, Option.bind_some]
      simp [h1, hb]
    · rw [if_neg hb, Option.bind_some]
      by_cases hb1 : b = 1
      · rw [if_pos (by simpa using hb1), impl_in, Option.bind_some]
        simp [h1, hb1]
      · rw [if_neg (by simpa using hb1)]
        have : ¬ (0 ≤ b ∧ b ≤ 1) := by omega
        simp [this]
  · rw [if_neg (by simpa using h1)]; simp [h1]
/-- The sector of a head: its three numbers, filled up with zeros. -/
def headBytes (a b c : Int) : List Int := numForm a.toNat ++ numForm b.toNat ++ numForm c.toNat
theorem headBytes_length (a b c : Int) : (headBytes a b c).length ≤ 30 := by
  have h1 := numForm_length a.toNat
  have h2 := numForm_length b.toNat
  have h3 := numForm_length c.toNat
  simp [headBytes]; omega
def headText (a b c : Int) : ByteArray := strOfNums (headBytes a b c ++ List.replicate (64 - (headBytes a b c).length) 0)
theorem pad : ∀ (d : Nat) (acc : List Int), acc.length + d = 64 → Ev (fun k => spec_HeadPack.l0 k acc) (strOfNums (acc ++ List.replicate d 0), true) := by
  intro d
  induction d with
  | zero =>
    intro acc h
    exact Ev.step (fun k => spec_HeadPack.l0.eq_2 (k := k) ..) (Ev.neg (by omega) (Ev.is (by simp)))
  | succ d ih =>
    intro acc h
    refine Ev.step (fun k => spec_HeadPack.l0.eq_2 (k := k) ..) (Ev.pos (by omega) (Ev.pos (by omega) ?_))
    have := ih (acc ++ [0]) (by simp; omega)
    rw [List.append_assoc, List.singleton_append, ← List.replicate_succ] at this
    exact this
theorem spec_head {a b c : Int} (h : headRight a b c = true) : Ev (fun k => spec_HeadPack.f k a b c) (headText a b c, true) := by
  have hr : (1 ≤ a ∧ a ≤ 1000000000) ∧ (0 ≤ b ∧ b ≤ 1) ∧ (0 ≤ c ∧ c ≤ 4096) := by simpa [headRight] using h
  have ha := spec_num (x := a.toNat) (by omega)
  have hb := spec_num (x := b.toNat) (by omega)
  have hc := spec_num (x := c.toNat) (by omega)
  rw [Int.toNat_of_nonneg (by omega)] at ha hb hc
  have h1 := numForm_length a.toNat
  have h2 := numForm_length b.toNat
  have h3 := numForm_length c.toNat
  have hl := headBytes_length a b c
  unfold spec_HeadPack.f
  refine Ev.known (spec_right a b c) (Ev.pos h (Ev.bind ha (Ev.bind hb (Ev.pos (by omega) (Ev.known rfl (Ev.bind hc (Ev.pos (by simp; omega) ?_)))))))
  exact pad (64 - (headBytes a b c).length) (headBytes a b c) (by omega)
theorem strOfNums_append (a b : List Int) : strOfNums a ++ strOfNums b = strOfNums (a ++ b) := by
  apply ByteArray.ext
  simp [strOfNums]
theorem zeros (n : Nat) : (⟨(Lib.repeatL [0] n).toArray⟩ : ByteArray) = strOfNums (List.replicate n 0) := by
  apply ByteArray.ext
  show (Lib.repeatL [0] n).toArray = ((List.replicate n (0 : Int)).map fun n => UInt8.ofNat n.toNat).toArray
  congr 1
  induction n with
  | zero => rfl
  | succ n ih => simp only [Lib.repeatL, ih, List.replicate_succ, List.map_cons]; rfl
theorem impl_head {a b c : Int} (h : headRight a b c = true) : Ev (fun k => impl_HeadPack.f k a b c) (headText a b c, true) := by
  have hr : (1 ≤ a ∧ a ≤ 1000000000) ∧ (0 ≤ b ∧ b ≤ 1) ∧ (0 ≤ c ∧ c ≤ 4096) := by simpa [headRight] using h
  have h1 := numForm_length a.toNat
  have h2 := numForm_length b.toNat
  have h3 := numForm_length c.toNat
  have hl := headBytes_length a b c
  have ha := impl_num (x := a.toNat) [] (by omega) (by simp)
  have hb := impl_num (x := b.toNat) ([] ++ numForm a.toNat) (by omega) (by simp; omega)
  have hc := impl_num (x := c.toNat) ([] ++ numForm a.toNat ++ numForm b.toNat) (by omega) (by simp; omega)
  rw [Int.toNat_of_nonneg (by omega)] at ha hb hc
  rw [show ([] ++ numForm a.toNat ++ numForm b.toNat ++ numForm c.toNat) = headBytes a b c by simp [headBytes]] at hc
  unfold impl_HeadPack.f
  refine Ev.known (impl_right a b c) (Ev.pos h (Ev.bind ha (Ev.bind hb (Ev.bind hc ?_))))
  have hw : wrap64 (64 - ((headBytes a b c).length : Int)) = ((64 - (headBytes a b c).length : Nat) : Int) := by
    rw [wrap_id (by omega) (by omega)]; omega
  have hs : strings_Repeat.f (⟨#[0]⟩ : ByteArray) (wrap64 (64 - ((headBytes a b c).length : Int))) = some (strOfNums (List.replicate (64 - (headBytes a b c).length) 0)) := by
    unfold strings_Repeat.f
    rw [hw, if_pos ⟨by omega, by omega, by rw [show ((⟨#[0]⟩ : ByteArray).size : Int) = 1 from rfl]; omega⟩, Int.toNat_natCast]
    exact congrArg some (zeros _)
  refine Ev.known hs (Ev.pos ?_ (Ev.is ?_))
  · rw [strOfNums_size, strOfNums_size, List.length_replicate]; omega
  · rw [strOfNums_append]; rfl
theorem FnExactHeadPack : laws_FnExactHeadPack.Pure := by
  intro a b c ha hb hc
  refine Ev.rounds (r := true) ?_
  show Ev (fun k => laws_FnExactHeadPack.f k a b c) true
  unfold laws_FnExactHeadPack.f laws_toHead.f
  simp only [Option.bind_some]
  by_cases h : headRight a b c = true
  · exact Ev.bind (spec_head h) (Ev.bind (impl_head h) (Ev.pos rfl (Ev.neg (by simp) (Ev.now _))))
  · have h1 : Ev (fun k => spec_HeadPack.f k a b c) ((⟨#[]⟩ : ByteArray), false) := by
      unfold spec_HeadPack.f
      exact Ev.known (spec_right a b c) (Ev.neg h (Ev.now _))
    have h2 : Ev (fun k => impl_HeadPack.f k a b c) ((⟨#[]⟩ : ByteArray), false) := by
      unfold impl_HeadPack.f
      exact Ev.known (impl_right a b c) (Ev.neg h (Ev.now _))
    exact Ev.bind h1 (Ev.bind h2 (Ev.pos rfl (Ev.neg (by simp) (Ev.now _))))
end Go.Proofs.Ytikjondklgghkaa.Pure
