/-
Areas: the bytes that the reference's AreaGet and the program's tell.
No condition beyond the lengths.
-/
import Derived.Test.YtikjondklgghkaaPDiskx4
import Derived.Test.YtikjondklgghkaaPDiskx7
import Derived.Test.YtikjondklgghkaaPDiskx5
import Derived.Test.YtikjondklgghkaaPDiskx3
import Derived.Test.YtikjondklgghkaaXPure
import Derived.Test.YtikjondklgghkaaDkPureDisk
namespace Go.Proofs.Ytikjondklgghkaa.Pure
open Go.RowKit Go.Proofs.YtikjondklgghkaaX Go.Proofs.Ytikjondklgghkaa.PDisk Go.Proofs.YtikjondklgghkaaW.PrintWords Go.Proofs.YtikjondklgghkaaW.PrintLast Go.Proofs.YtikjondklgghkaaW.PrintMore

/-- The byte at a place of an area. -/
def areaByte (safe : List ByteArray) (late : List S136) (area : Nat) (at_ : Nat) : Int := bt (secOf safe late ((2 + 64 * area + at_ / 64 : Nat) : Int)) ((at_ % 64 : Nat) : Int)
def areaBytes (safe : List ByteArray) (late : List S136) (area at_ n : Nat) : List Int := (List.range n).map fun i => areaByte safe late area (at_ + i)
theorem areaBytes_length (safe : List ByteArray) (late : List S136) (area at_ n : Nat) : (areaBytes safe late area at_ n).length = n := by simp [areaBytes]
theorem areaBytes_add (safe : List ByteArray) (late : List S136) (area at_ n m : Nat) : areaBytes safe late area at_ (n + m) = areaBytes safe late area at_ n ++ areaBytes safe late area (at_ + n) m := by
  unfold areaBytes
  rw [List.range_add, List.map_append, List.map_map]
  congr 1
  apply List.map_congr_left
  intro i _
  simp [Nat.add_assoc]
theorem bytes_extract (s : ByteArray) (a n : Nat) (h : a + n ≤ s.size) : bytesOf (s.extract a (a + n)) = (List.range n).map fun i => bt s ((a + i : Nat) : Int) := by
  have e : (s.extract a (a + n)).data = s.data.extract a (a + n) := by simp [ByteArray.data_extract]
  have hz : s.data.size = s.size := rfl
  unfold bytesOf
  rw [e]
  apply List.ext_getElem
  · simp; omega
  · intro i h1 h2
    have hi : i < n := by simpa using h2
    simp only [List.getElem_map, Array.getElem_toList, Array.getElem_extract, List.getElem_range]
    unfold bt
    rw [dif_pos (by rw [Int.toNat_natCast]; omega)]
    rfl
theorem area_first {area : Nat} (h : area ≤ 1) (x : Nat) (hx : x ≤ 4095) : wrap64 ((wrap64 (2 + (wrap64 (64 * (area : Int))))) + (wrap64 (Int.tdiv (x : Int) 64))) = ((2 + 64 * area + x / 64 : Nat) : Int) := by
  rw [Int.tdiv_eq_ediv_of_nonneg (by omega)]
  rw [wrap_id (x := 64 * (area : Int)) (by omega) (by omega), wrap_id (x := 2 + 64 * (area : Int)) (by omega) (by omega), wrap_id (x := (x : Int) / 64) (by omega) (by omega), wrap_id (by omega) (by omega)]
  omega
theorem area_mod (x : Nat) : Int.tmod (x : Int) 64 = ((x % 64 : Nat) : Int) := by rw [Int.tmod_eq_emod_of_nonneg (by omega)]; omega
theorem spec_area {safe : List ByteArray} {late : List S136} (hd : diskGood safe late = true) {area at_ n : Nat} (ha : area ≤ 1) (hf : at_ + n ≤ 4096) : Ev (fun k => spec_l16Get.f k safe late (area : Int) (at_ : Int) (n : Int)) (areaBytes safe late area at_ n) := by
  obtain ⟨l1, _⟩ := diskGood_safe hd
  obtain ⟨l2, _⟩ := diskGood_late hd
  have key : ∀ i, i ≤ n → Ev (fun k => spec_l16Get.l0 k (area : Int) (at_ : Int) (n : Int) (areaBytes safe late area at_ i) (i : Int) safe late) (areaBytes safe late area at_ n) := by
    refine down (L := fun k i => spec_l16Get.l0 k (area : Int) (at_ : Int) (n : Int) (areaBytes safe late area at_ i) (i : Int) safe late) (R := fun _ => areaBytes safe late area at_ n) ?_ ?_
    · exact Ev.step (fun k => spec_l16Get.l0.eq_2 (k := k) ..) (Ev.neg (by omega) (Ev.now _))
    · intro i hi ih
      refine Ev.step (fun k => spec_l16Get.l0.eq_2 (k := k) ..) (Ev.pos (by omega) ?_)
      have hw : Aside0 (wrap64 ((at_ : Int) + (i : Int)) = ((at_ + i : Nat) : Int)) := ⟨by rw [wrap_id (by omega) (by omega)]; omega⟩
      rw [hw.out, area_first ha (at_ + i) (by omega), area_mod, wrap_succ hi (by omega)]
      refine Ev.bind (spec_sec safe late _ (by omega) (by omega) (by omega)) ?_
      have hs := secOf_size hd (at_ := ((2 + 64 * area + (at_ + i) / 64 : Nat) : Int)) (by omega) (by omega)
      refine Ev.pos (by omega) (Ev.pos (by rw [hs]; omega) (Ev.pos (by rw [areaBytes_length]; omega) ?_))
      have e : areaBytes safe late area at_ i ++ [bt (secOf safe late ((2 + 64 * area + (at_ + i) / 64 : Nat) : Int)) (((at_ + i) % 64 : Nat) : Int)] = areaBytes safe late area at_ (i + 1) := by
        rw [areaBytes_add]
        rfl
      rw [e]
      exact ih
  exact key 0 (by omega)
theorem impl_area {safe : List ByteArray} {late : List S136} (hd : diskGood safe late = true) {area at_ n : Nat} (ha : area ≤ 1) (hf : at_ + n ≤ 4096) : Ev (fun k => impl_Disk_area.f k safe late (area : Int) (at_ : Int) (n : Int)) (areaBytes safe late area at_ n) := by
  obtain ⟨l1, _⟩ := diskGood_safe hd
  obtain ⟨l2, _⟩ := diskGood_late hd
  have key : ∀ d c, c ≤ n → n - c ≤ d → Ev (fun k => impl_Disk_area.l0 k (area : Int) ((at_ + c : Nat) : Int) ((n - c : Nat) : Int) (areaBytes safe late area at_ c) safe late) (areaBytes safe late area at_ n) := by
    intro d
    induction d with
    | zero =>
      intro c hc hle
      have : c = n := by omega
      subst this
      exact Ev.step (fun k => impl_Disk_area.l0.eq_2 (k := k) ..) (Ev.neg (by omega) (Ev.now _))
    | succ d ih =>
      intro c hc hle
      by_cases h0 : c = n
      · subst h0
        exact Ev.step (fun k => impl_Disk_area.l0.eq_2 (k := k) ..) (Ev.neg (by omega) (Ev.now _))
      · refine Ev.step (fun k => impl_Disk_area.l0.eq_2 (k := k) ..) (Ev.pos (by omega) (Ev.known rfl ?_))
        rw [area_first ha (at_ + c) (by omega), area_mod]
        have hw : Aside0 (wrap64 (64 - (((at_ + c) % 64 : Nat) : Int)) = ((64 - (at_ + c) % 64 : Nat) : Int)) := ⟨by rw [wrap_id (by omega) (by omega)]; omega⟩
        rw [hw.out]
        obtain ⟨p, hp, hp1, hp2, hp3⟩ : ∃ p : Nat, mn ((n - c : Nat) : Int) ((64 - (at_ + c) % 64 : Nat) : Int) = (p : Int) ∧ 1 ≤ p ∧ p ≤ n - c ∧ p ≤ 64 - (at_ + c) % 64 := by
          unfold mn
          split
          · exact ⟨64 - (at_ + c) % 64, rfl, by omega, by omega, by omega⟩
          · exact ⟨n - c, rfl, by omega, by omega, by omega⟩
        rw [hp]
        have hw2 : Aside0 (wrap64 ((((at_ + c) % 64 : Nat) : Int) + (p : Int)) = (((at_ + c) % 64 + p : Nat) : Int)) := ⟨by rw [wrap_id (by omega) (by omega)]; omega⟩
        have hw3 : Aside0 (wrap64 (((at_ + c : Nat) : Int) + (p : Int)) = ((at_ + (c + p) : Nat) : Int)) := ⟨by rw [wrap_id (by omega) (by omega)]; omega⟩
        have hw4 : Aside0 (wrap64 (((n - c : Nat) : Int) - (p : Int)) = ((n - (c + p) : Nat) : Int)) := ⟨by rw [wrap_id (by omega) (by omega)]; omega⟩
        rw [hw2.out, hw3.out, hw4.out]
        refine Ev.bind (impl_sec safe late _ (by omega) (by omega) (by omega)) ?_
        have hs := secOf_size hd (at_ := ((2 + 64 * area + (at_ + c) / 64 : Nat) : Int)) (by omega) (by omega)
        rw [Int.toNat_natCast, Int.toNat_natCast]
        have hb := bytes_extract (secOf safe late ((2 + 64 * area + (at_ + c) / 64 : Nat) : Int)) ((at_ + c) % 64) p (by rw [hs]; omega)
        have hz : ((secOf safe late ((2 + 64 * area + (at_ + c) / 64 : Nat) : Int)).extract ((at_ + c) % 64) ((at_ + c) % 64 + p)).size = p := by rw [ByteArray.size_extract, hs]; omega
        refine Ev.pos (by omega) (Ev.pos (by omega) (Ev.pos (by rw [hs]; omega) (Ev.pos (by rw [hz, areaBytes_length]; omega) ?_)))
        have e : areaBytes safe late area at_ c ++ bytesOf ((secOf safe late ((2 + 64 * area + (at_ + c) / 64 : Nat) : Int)).extract ((at_ + c) % 64) ((at_ + c) % 64 + p)) = areaBytes safe late area at_ (c + p) := by
          rw [areaBytes_add, hb]
          congr 1
          unfold areaBytes areaByte
          apply List.map_congr_left
          intro i hi
          have hi : i < p := by simpa using hi
          have e1 : (at_ + c + i) / 64 = (at_ + c) / 64 := by omega
          have e2 : (at_ + c + i) % 64 = (at_ + c) % 64 + i := by omega
          rw [e1, e2]
        rw [e]
        exact ih (c + p) (by omega) (by omega)
  have := key n 0 (by omega) (by omega)
  exact this
/-- Do n bytes of an area, from a place on, stand there? -/
def fits (area at_ n : Int) : Bool := decide ((area = 0 ∨ area = 1) ∧ (0 ≤ at_ ∧ at_ ≤ 4096) ∧ (0 ≤ n ∧ n ≤ 4096 - at_))
theorem impl_fits (area at_ n : Int) : impl_fitsArea.f area at_ n = some (fits area at_ n) := by
  unfold impl_fitsArea.f impl_isArea.f fits
  by_cases h0 : area = 0
  · rw [if_pos h0, Option.bind_some, if_pos rfl, d_impl_in, Option.bind_some]
    by_cases h1 : 0 ≤ at_ ∧ at_ ≤ 4096
    · rw [if_pos (by simpa using h1), d_impl_in, Option.bind_some, wrap_id (by omega) (by omega)]
      simp [h0, h1]
    · rw [if_neg (by simpa using h1)]
      simp [h1]
  · rw [if_neg h0, Option.bind_some]
    by_cases h2 : area = 1
    · rw [if_pos (by simpa using h2), d_impl_in, Option.bind_some]
      by_cases h1 : 0 ≤ at_ ∧ at_ ≤ 4096
      · rw [if_pos (by simpa using h1), d_impl_in, Option.bind_some, wrap_id (by omega) (by omega)]
        simp [h2, h1]
      · rw [if_neg (by simpa using h1)]
        simp [h1]
    · rw [if_neg (by simpa using h2)]
      simp [h0, h2]
/-- What AreaGet tells. -/
def areaTold (safe : List ByteArray) (late : List S136) (area at_ n : Int) : List Int × Bool := if diskGood safe late = true ∧ fits area at_ n = true then (areaBytes safe late area.toNat at_.toNat n.toNat, true) else ([], false)
theorem areaTold_length (safe : List ByteArray) (late : List S136) (area at_ n : Int) : (areaTold safe late area at_ n).1.length ≤ 4096 := by
  unfold areaTold
  split
  · rename_i h
    have h := h.2
    simp [fits] at h
    rw [areaBytes_length]
    omega
  · simp
theorem spec_areaGet (safe : List ByteArray) (late : List S136) (area at_ n : Int) (hn : late.length ≤ 140737488355328) (hm : safe.length ≤ 140737488355328) : Ev (fun k => spec_AreaGet.f k safe late area at_ n) (areaTold safe late area at_ n) := by
  unfold spec_AreaGet.f areaTold
  refine Ev.bind (spec_diskOk safe late hn hm) ?_
  by_cases hd : diskGood safe late = true
  · refine Ev.pos hd ?_
    unfold spec_l16Area.f
    have key : ∀ b : Bool, (b = true ↔ (area = 0 ∨ area = 1)) → Ev (fun k => if b = true then ((spec_l1In.f at_ 0 4096).bind fun t133 => (if t133 = true then ((spec_l1In.f n 0 (wrap64 (4096 - at_))).bind fun t134 => (if t134 = true then ((spec_l16Get.f k safe late area at_ n).bind fun t135 => (some (t135, true))) else (some ((([] : List Int)), false)))) else (some ((([] : List Int)), false)))) else (some ((([] : List Int)), false))) (if diskGood safe late = true ∧ fits area at_ n = true then (areaBytes safe late area.toNat at_.toNat n.toNat, true) else ([], false)) := by
      intro b hb
      by_cases h0 : area = 0 ∨ area = 1
      · refine Ev.pos (hb.2 h0) (Ev.known (d_spec_in ..) ?_)
        by_cases h1 : 0 ≤ at_ ∧ at_ ≤ 4096
        · refine Ev.pos (by simpa using h1) (Ev.known (d_spec_in ..) ?_)
          rw [wrap_id (x := 4096 - at_) (by omega) (by omega)]
          by_cases h2 : 0 ≤ n ∧ n ≤ 4096 - at_
          · have hf : fits area at_ n = true := by simp [fits, h0, h1, h2]
            rw [if_pos ⟨hd, hf⟩]
            refine Ev.pos (by simpa using h2) ?_
            have := spec_area hd (area := area.toNat) (at_ := at_.toNat) (n := n.toNat) (by omega) (by omega)
            rw [Int.toNat_of_nonneg (by omega), Int.toNat_of_nonneg (by omega), Int.toNat_of_nonneg (by omega)] at this
            exact Ev.bind this (Ev.now _)
          · have hf : ¬ fits area at_ n = true := by simp [fits, h2]
            rw [if_neg (fun h => hf h.2)]
            exact Ev.neg (by simpa using h2) (Ev.now _)
        · have hf : ¬ fits area at_ n = true := by simp [fits, h1]
          rw [if_neg (fun h => hf h.2)]
          exact Ev.neg (by simpa using h1) (Ev.now _)
      · have hf : ¬ fits area at_ n = true := by simp [fits, h0]
        rw [if_neg (fun h => hf h.2)]
        exact Ev.neg (fun h => h0 (hb.1 h)) (Ev.now _)
    by_cases h0 : area = 0
    · rw [if_pos h0]
      exact Ev.known rfl (key true (by simp [h0]))
    · rw [if_neg h0]
      exact Ev.known rfl (key (area == 1) (by simp [h0]))
  · rw [if_neg (fun h => hd h.1)]
    exact Ev.neg hd (Ev.now _)
theorem impl_areaGet (safe : List ByteArray) (late : List S136) (area at_ n : Int) (hn : late.length ≤ 140737488355328) (hm : safe.length ≤ 140737488355328) : Ev (fun k => impl_AreaGet.f k safe late area at_ n) (areaTold safe late area at_ n) := by
  unfold impl_AreaGet.f areaTold
  refine Ev.known (impl_fits area at_ n) ?_
  by_cases hf : fits area at_ n = true
  · refine Ev.pos hf (Ev.bind (impl_diskOk safe late hn hm) ?_)
    by_cases hd : diskGood safe late = true
    · rw [if_pos ⟨hd, hf⟩]
      have h : (area = 0 ∨ area = 1) ∧ (0 ≤ at_ ∧ at_ ≤ 4096) ∧ (0 ≤ n ∧ n ≤ 4096 - at_) := by simpa [fits] using hf
      have := impl_area hd (area := area.toNat) (at_ := at_.toNat) (n := n.toNat) (by omega) (by omega)
      rw [Int.toNat_of_nonneg (by omega), Int.toNat_of_nonneg (by omega), Int.toNat_of_nonneg (by omega)] at this
      exact Ev.pos hd (Ev.bind this (Ev.now _))
    · rw [if_neg (fun h => hd h.1)]
      exact Ev.neg hd (Ev.now _)
  · rw [if_neg (fun h => hf h.2)]
    exact Ev.neg hf (Ev.now _)
end Go.Proofs.Ytikjondklgghkaa.Pure
