/-
Disks: what DiskOk says, and what stands in a sector: reference and program alike.
No condition beyond the lengths.
-/
import Derived.Test.YtikjondklgghkaaPDiskx3
import Derived.Test.YtikjondklgghkaaPDiskx6
import Derived.Test.YtikjondklgghkaaPDiskx4
import Derived.Test.YtikjondklgghkaaPDiskx7
import Derived.Test.YtikjondklgghkaaPDiskx2
import Derived.Test.YtikjondklgghkaaPDiskx5
import Derived.Test.YtikjondklgghkaaXPure
namespace Go.Proofs.Ytikjondklgghkaa.Pure
open Go.RowKit Go.Proofs.YtikjondklgghkaaX Go.Proofs.Ytikjondklgghkaa.PDisk Go.Proofs.YtikjondklgghkaaW.PrintWords Go.Proofs.YtikjondklgghkaaW.PrintLast

theorem d_spec_in (a b c : Int) : spec_l1In.f a b c = some (decide (b ≤ a ∧ a ≤ c)) := by
  unfold spec_l1In.f
  by_cases h : a ≥ b
  · rw [if_pos h]; by_cases h2 : a ≤ c
    · simp [h2, show b ≤ a from h]
    · simp [h2]
  · rw [if_neg h]; simp [show ¬ b ≤ a from h]
theorem d_impl_in (a b c : Int) : impl_inRange.f a b c = some (decide (b ≤ a ∧ a ≤ c)) := by
  unfold impl_inRange.f
  by_cases h : a ≥ b
  · rw [if_pos h]; by_cases h2 : a ≤ c
    · simp [h2, show b ≤ a from h]
    · simp [h2]
  · rw [if_neg h]; simp [show ¬ b ≤ a from h]
theorem rdP_get (l : List S136) {i : Nat} (h : i < l.length) : rd_T136 l (i : Int) = l[i] := by simp [rd_T136, List.getD, h]
theorem rdS_get (l : List ByteArray) {i : Nat} (h : i < l.length) : rdOf ByteArray.empty l (i : Int) = l[i] := by simp [rdOf, List.getD, h]
def good64 (s : ByteArray) : Bool := decide ((s.size : Int) = 64)
def goodPut (p : S136) : Bool := decide (0 ≤ p.f0 ∧ p.f0 ≤ 129) && decide ((p.f1.size : Int) = 64)
def diskGood (safe : List ByteArray) (late : List S136) : Bool := (decide (safe.length = 130) && decide (late.length ≤ 200)) && (safe.all good64 && late.all goodPut)
theorem diskGood_safe {safe : List ByteArray} {late : List S136} (h : diskGood safe late = true) : safe.length = 130 ∧ ∀ s ∈ safe, s.size = 64 := by
  simp [diskGood, good64] at h
  exact ⟨h.1.1, fun s hs => by have := h.2.1 s hs; omega⟩
theorem diskGood_late {safe : List ByteArray} {late : List S136} (h : diskGood safe late = true) : late.length ≤ 200 ∧ ∀ p ∈ late, 0 ≤ p.f0 ∧ p.f0 ≤ 129 ∧ p.f1.size = 64 := by
  simp [diskGood, goodPut] at h
  exact ⟨h.1.2, fun p hp => by have := h.2.2 p hp; omega⟩
theorem spec_l1_ (safe : List ByteArray) (late : List S136) (hn : late.length ≤ 140737488355328) : ∀ i, i ≤ late.length → Ev (fun k => spec_DiskOk.l1 k (i : Int) safe late) ((late.drop i).all goodPut) := by
  refine down (L := fun k i => spec_DiskOk.l1 k (i : Int) safe late) (R := fun i => (late.drop i).all goodPut) ?_ ?_
  · exact Ev.step (fun k => spec_DiskOk.l1.eq_2 (k := k) ..) (Ev.neg (by omega) (Ev.is (by simp)))
  · intro i hi ih
    refine Ev.step (fun k => spec_DiskOk.l1.eq_2 (k := k) ..) (Ev.pos (by omega) (Ev.pos (by omega) ?_))
    rw [rdP_get late hi, wrap_succ hi (by omega), List.drop_eq_getElem_cons hi, List.all_cons]
    refine Ev.known (a := decide (0 ≤ late[i].f0 ∧ late[i].f0 ≤ 129)) (by unfold spec_l15Sector.f; rw [d_spec_in]; rfl) ?_
    by_cases c1 : 0 ≤ late[i].f0 ∧ late[i].f0 ≤ 129
    · refine Ev.pos (by simpa using c1) ?_
      by_cases c2 : (late[i].f1.size : Int) = 64
      · exact Ev.pos c2 (Ev.eq ih (by simp [goodPut, c1, c2]))
      · exact Ev.neg c2 (Ev.is (by simp [goodPut, c2]))
    · exact Ev.neg (by simpa using c1) (Ev.is (by simp [goodPut, c1]))
theorem spec_l0_ (safe : List ByteArray) (late : List S136) (hn : late.length ≤ 140737488355328) (hm : safe.length ≤ 140737488355328) : ∀ i, i ≤ safe.length → Ev (fun k => spec_DiskOk.l0 k (i : Int) safe late) ((safe.drop i).all good64 && late.all goodPut) := by
  refine down (L := fun k i => spec_DiskOk.l0 k (i : Int) safe late) (R := fun i => ((safe.drop i).all good64 && late.all goodPut)) ?_ ?_
  · exact Ev.step (fun k => spec_DiskOk.l0.eq_2 (k := k) ..) (Ev.neg (by omega) (Ev.eq (spec_l1_ safe late hn 0 (by omega)) (by simp)))
  · intro i hi ih
    refine Ev.step (fun k => spec_DiskOk.l0.eq_2 (k := k) ..) (Ev.pos (by omega) (Ev.pos (by omega) ?_))
    rw [rdS_get safe hi, wrap_succ hi (by omega), List.drop_eq_getElem_cons hi, List.all_cons]
    by_cases c2 : (safe[i].size : Int) = 64
    · exact Ev.pos c2 (Ev.eq ih (by simp [good64, c2]))
    · exact Ev.neg c2 (Ev.is (by simp [good64, c2]))
theorem spec_diskOk (safe : List ByteArray) (late : List S136) (hn : late.length ≤ 140737488355328) (hm : safe.length ≤ 140737488355328) : Ev (fun k => spec_DiskOk.f k safe late) (diskGood safe late) := by
  unfold spec_DiskOk.f diskGood
  by_cases c1 : (safe.length : Int) = 130
  · refine Ev.pos c1 (Ev.step (fun k => spec_DiskOk.j0.eq_2 (k := k) ..) ?_)
    by_cases c2 : (late.length : Int) > 200
    · exact Ev.pos (by simpa using c2) (Ev.is (by have : ¬ late.length ≤ 200 := by omega
                                                  simp [this]))
    · refine Ev.neg (by simpa using c2) (Ev.eq (spec_l0_ safe late hn hm 0 (by omega)) ?_)
      have h1 : safe.length = 130 := by omega
      have h2 : late.length ≤ 200 := by omega
      simp [h1, h2]
  · refine Ev.neg c1 (Ev.step (fun k => spec_DiskOk.j0.eq_2 (k := k) ..) (Ev.pos rfl (Ev.is ?_)))
    have h1 : ¬ safe.length = 130 := by omega
    simp [h1]
theorem impl_l1_ (safe : List ByteArray) (late : List S136) (hn : late.length ≤ 140737488355328) : ∀ i, i ≤ late.length → Ev (fun k => impl_DiskOk.l1 k late (late.length : Int) (i : Int) safe late) ((late.drop i).all goodPut && (decide (safe.length = 130) && decide (late.length ≤ 200))) := by
  refine down (L := fun k i => impl_DiskOk.l1 k late (late.length : Int) (i : Int) safe late) (R := fun i => ((late.drop i).all goodPut && (decide (safe.length = 130) && decide (late.length ≤ 200)))) ?_ ?_
  · refine Ev.step (fun k => impl_DiskOk.l1.eq_2 (k := k) ..) (Ev.neg (by omega) ?_)
    by_cases c1 : (safe.length : Int) = 130
    · refine Ev.pos c1 (Ev.is ?_)
      have h1 : safe.length = 130 := by omega
      have h2 : ((late.length : Int) ≤ 200) = (late.length ≤ 200) := by simp; omega
      simp only [h2]
      simp [h1]
    · refine Ev.neg c1 (Ev.is ?_)
      have h1 : ¬ safe.length = 130 := by omega
      simp [h1]
  · intro i hi ih
    refine Ev.step (fun k => impl_DiskOk.l1.eq_2 (k := k) ..) (Ev.pos (by omega) (Ev.pos (by omega) (Ev.pos (by omega) ?_)))
    rw [rdP_get late hi, wrap_succ hi (by omega), List.drop_eq_getElem_cons hi, List.all_cons]
    refine Ev.known (a := decide (0 ≤ late[i].f0 ∧ late[i].f0 ≤ 129)) (by unfold impl_isSector.f; rw [d_impl_in]; rfl) ?_
    by_cases c1 : 0 ≤ late[i].f0 ∧ late[i].f0 ≤ 129
    · refine Ev.pos (by simpa using c1) ?_
      by_cases c2 : (late[i].f1.size : Int) = 64
      · exact Ev.pos c2 (Ev.eq ih (by simp [goodPut, c1, c2]))
      · exact Ev.neg c2 (Ev.is (by simp [goodPut, c2]))
    · exact Ev.neg (by simpa using c1) (Ev.is (by simp [goodPut, c1]))
theorem impl_l0_ (safe : List ByteArray) (late : List S136) (hn : late.length ≤ 140737488355328) (hm : safe.length ≤ 140737488355328) : ∀ i, i ≤ safe.length → Ev (fun k => impl_DiskOk.l0 k safe (safe.length : Int) (i : Int) safe late) ((safe.drop i).all good64 && (late.all goodPut && (decide (safe.length = 130) && decide (late.length ≤ 200)))) := by
  refine down (L := fun k i => impl_DiskOk.l0 k safe (safe.length : Int) (i : Int) safe late) (R := fun i => ((safe.drop i).all good64 && (late.all goodPut && (decide (safe.length = 130) && decide (late.length ≤ 200))))) ?_ ?_
  · exact Ev.step (fun k => impl_DiskOk.l0.eq_2 (k := k) ..) (Ev.neg (by omega) (Ev.eq (impl_l1_ safe late hn 0 (by omega)) (by simp)))
  · intro i hi ih
    refine Ev.step (fun k => impl_DiskOk.l0.eq_2 (k := k) ..) (Ev.pos (by omega) (Ev.pos (by omega) (Ev.pos (by omega) ?_)))
    rw [rdS_get safe hi, wrap_succ hi (by omega), List.drop_eq_getElem_cons hi, List.all_cons]
    by_cases c2 : (safe[i].size : Int) = 64
    · exact Ev.pos c2 (Ev.eq ih (by simp [good64, c2]))
    · exact Ev.neg c2 (Ev.is (by simp [good64, c2]))
theorem impl_diskOk (safe : List ByteArray) (late : List S136) (hn : late.length ≤ 140737488355328) (hm : safe.length ≤ 140737488355328) : Ev (fun k => impl_DiskOk.f k safe late) (diskGood safe late) := by
  unfold impl_DiskOk.f diskGood
  refine Ev.eq (impl_l0_ safe late hn hm 0 (by omega)) ?_
  rw [List.drop_zero]
  cases decide (safe.length = 130) <;> cases decide (late.length ≤ 200) <;> cases safe.all good64 <;> cases late.all goodPut <;> rfl
/-- What stands in a sector: the last that was put there of the first n, or what is safe. -/
def secFrom (safe : List ByteArray) (late : List S136) (at_ : Int) : Nat → ByteArray
  | 0 => rdOf ByteArray.empty safe at_
  | n + 1 => if (rd_T136 late (n : Int)).f0 = at_ then (rd_T136 late (n : Int)).f1 else secFrom safe late at_ n
def secOf (safe : List ByteArray) (late : List S136) (at_ : Int) : ByteArray := secFrom safe late at_ late.length
theorem spec_secFrom (safe : List ByteArray) (late : List S136) (at_ : Int) (h0 : 0 ≤ at_) (h1 : at_ < (safe.length : Int)) (hn : late.length ≤ 140737488355328) : ∀ n, n ≤ late.length → Ev (fun k => spec_l15Of.l0 k at_ ((n : Int) - 1) safe late) (secFrom safe late at_ n) := by
  intro n
  induction n with
  | zero => intro _; exact Ev.step (fun k => spec_l15Of.l0.eq_2 (k := k) ..) (Ev.neg (by omega) (Ev.pos h0 (Ev.pos h1 (Ev.now _))))
  | succ n ih =>
    intro hle
    have e : ((n + 1 : Nat) : Int) - 1 = (n : Int) := by omega
    rw [e]
    refine Ev.step (fun k => spec_l15Of.l0.eq_2 (k := k) ..) (Ev.pos (by omega) (Ev.pos (by omega) (Ev.pos (by omega) ?_)))
    unfold secFrom
    by_cases c : (rd_T136 late (n : Int)).f0 = at_
    · rw [if_pos c]; exact Ev.pos c (Ev.now _)
    · rw [if_neg c, wrap_id (x := (n : Int) - 1) (by omega) (by omega)]; exact Ev.neg c (ih (by omega))
theorem impl_secFrom (safe : List ByteArray) (late : List S136) (at_ : Int) (h0 : 0 ≤ at_) (h1 : at_ < (safe.length : Int)) (hn : late.length ≤ 140737488355328) : ∀ n, n ≤ late.length → Ev (fun k => impl_Disk_sector.l0 k at_ ((n : Int) - 1) safe late) (secFrom safe late at_ n) := by
  intro n
  induction n with
  | zero => intro _; exact Ev.step (fun k => impl_Disk_sector.l0.eq_2 (k := k) ..) (Ev.neg (by omega) (Ev.pos h0 (Ev.pos h1 (Ev.now _))))
  | succ n ih =>
    intro hle
    have e : ((n + 1 : Nat) : Int) - 1 = (n : Int) := by omega
    rw [e]
    refine Ev.step (fun k => impl_Disk_sector.l0.eq_2 (k := k) ..) (Ev.pos (by omega) (Ev.pos (by omega) (Ev.pos (by omega) ?_)))
    unfold secFrom
    by_cases c : (rd_T136 late (n : Int)).f0 = at_
    · rw [if_pos c]; exact Ev.pos c (Ev.now _)
    · rw [if_neg c, wrap_id (x := (n : Int) - 1) (by omega) (by omega)]; exact Ev.neg c (ih (by omega))
theorem spec_sec (safe : List ByteArray) (late : List S136) (at_ : Int) (h0 : 0 ≤ at_) (h1 : at_ < (safe.length : Int)) (hn : late.length ≤ 140737488355328) : Ev (fun k => spec_l15Of.f k safe late at_) (secOf safe late at_) := by
  unfold spec_l15Of.f
  rw [wrap_id (x := (late.length : Int) - 1) (by omega) (by omega)]
  exact spec_secFrom safe late at_ h0 h1 hn late.length (by omega)
theorem impl_sec (safe : List ByteArray) (late : List S136) (at_ : Int) (h0 : 0 ≤ at_) (h1 : at_ < (safe.length : Int)) (hn : late.length ≤ 140737488355328) : Ev (fun k => impl_Disk_sector.f k safe late at_) (secOf safe late at_) := by
  unfold impl_Disk_sector.f
  rw [wrap_id (x := (late.length : Int) - 1) (by omega) (by omega)]
  exact impl_secFrom safe late at_ h0 h1 hn late.length (by omega)
theorem secOf_size {safe : List ByteArray} {late : List S136} (h : diskGood safe late = true) {at_ : Int} (h0 : 0 ≤ at_) (h1 : at_ < 130) : (secOf safe late at_).size = 64 := by
  obtain ⟨l1, s1⟩ := diskGood_safe h
  obtain ⟨_, s2⟩ := diskGood_late h
  have key : ∀ n, n ≤ late.length → (secFrom safe late at_ n).size = 64 := by
    intro n
    induction n with
    | zero =>
      intro _
      unfold secFrom
      obtain ⟨i, rfl⟩ := Int.eq_ofNat_of_zero_le h0
      rw [rdS_get safe (by omega)]
      exact s1 _ (List.getElem_mem _)
    | succ n ih =>
      intro hle
      unfold secFrom
      split
      · rw [rdP_get late (by omega)]
        exact (s2 _ (List.getElem_mem _)).2.2
      · exact ih (by omega)
  exact key _ (Nat.le_refl _)
end Go.Proofs.Ytikjondklgghkaa.Pure
