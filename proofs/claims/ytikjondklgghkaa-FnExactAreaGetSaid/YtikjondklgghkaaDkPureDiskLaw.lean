/-
Disks in the laws' own functions: sized, copied, compared, marked.
No condition beyond the lengths.
-/
import Derived.Test.YtikjondklgghkaaPDiskx2
import Derived.Test.YtikjondklgghkaaPDiskx1
import Derived.Test.YtikjondklgghkaaPDiskx5
import Derived.Test.YtikjondklgghkaaPDiskx8
import Derived.Test.YtikjondklgghkaaPDiskx9
import Derived.Test.YtikjondklgghkaaPDiskx10
import Derived.Test.YtikjondklgghkaaXPure
import Derived.Test.YtikjondklgghkaaDkPureDisk
namespace Go.Proofs.Ytikjondklgghkaa.Pure
open Go.RowKit Go.Proofs.YtikjondklgghkaaX Go.Proofs.Ytikjondklgghkaa.PDisk Go.Proofs.YtikjondklgghkaaW.PrintWords Go.Proofs.YtikjondklgghkaaW.PrintLast

def convP (e : S135) : S136 := ⟨e.f0, e.f1⟩
theorem rdP1_get (l : List S135) {i : Nat} (h : i < l.length) : rd_T135 l (i : Int) = l[i] := by simp [rd_T135, List.getD, h]
theorem szStr (l : List ByteArray) (hn : l.length ≤ 140737488355328) : ∀ (d i : Nat) (n : Int), i + d = l.length → ∃ r, Ev (fun k => laws_szStringS.l0 k l n (i : Int)) r := by
  intro d
  induction d with
  | zero =>
    intro i n hi
    exact ⟨_, Ev.step (fun k => laws_szStringS.l0.eq_2 (k := k) ..) (Ev.neg (by omega) (Ev.now _))⟩
  | succ d ih =>
    intro i n hi
    by_cases hz : (wrap64 (n - ((rdOf ByteArray.empty l (i : Int)).size : Int))) < 0
    · exact ⟨_, Ev.step (fun k => laws_szStringS.l0.eq_2 (k := k) ..) (Ev.pos (by omega) (Ev.pos (by omega) (Ev.pos hz (Ev.now _))))⟩
    · obtain ⟨r, hr⟩ := ih (i + 1) (wrap64 (n - ((rdOf ByteArray.empty l (i : Int)).size : Int))) (by omega)
      refine ⟨r, Ev.step (fun k => laws_szStringS.l0.eq_2 (k := k) ..) (Ev.pos (by omega) (Ev.pos (by omega) (Ev.neg hz ?_)))⟩
      rw [wrap_succ (n := l.length) (by omega) (by omega)]
      exact hr
theorem szStrS (l : List ByteArray) (hn : l.length ≤ 140737488355328) (n : Int) : ∃ r, Ev (fun k => laws_szStringS.f k l n) r := by
  by_cases h : wrap64 (n - (l.length : Int)) < 0
  · exact ⟨_, Ev.pos h (Ev.now _)⟩
  · obtain ⟨r, hr⟩ := szStr l hn l.length 0 (wrap64 (n - (l.length : Int))) (by omega)
    exact ⟨r, Ev.neg h hr⟩
theorem szPut1 (e : S135) (n : Int) : ∃ r, laws_szPut.f e.f0 e.f1 n = some r := by
  unfold laws_szPut.f; repeat (first | exact ⟨_, rfl⟩ | split)
theorem szPuts (l : List S135) (hn : l.length ≤ 140737488355328) : ∀ (d i : Nat) (n : Int), i + d = l.length → ∃ r, Ev (fun k => laws_szPutS.l0 k l n (i : Int)) r := by
  intro d
  induction d with
  | zero =>
    intro i n hi
    exact ⟨_, Ev.step (fun k => laws_szPutS.l0.eq_2 (k := k) ..) (Ev.neg (by omega) (Ev.now _))⟩
  | succ d ih =>
    intro i n hi
    obtain ⟨t, ht⟩ := szPut1 (rd_T135 l (i : Int)) n
    by_cases hz : t < 0
    · exact ⟨_, Ev.step (fun k => laws_szPutS.l0.eq_2 (k := k) ..) (Ev.pos (by omega) (Ev.pos (by omega) (Ev.known ht (Ev.pos hz (Ev.now _)))))⟩
    · obtain ⟨r, hr⟩ := ih (i + 1) t (by omega)
      refine ⟨r, Ev.step (fun k => laws_szPutS.l0.eq_2 (k := k) ..) (Ev.pos (by omega) (Ev.pos (by omega) (Ev.known ht (Ev.neg hz ?_))))⟩
      rw [wrap_succ (n := l.length) (by omega) (by omega)]
      exact hr
theorem szPutS (l : List S135) (hn : l.length ≤ 140737488355328) (n : Int) : ∃ r, Ev (fun k => laws_szPutS.f k l n) r := by
  by_cases h : wrap64 (n - (l.length : Int)) < 0
  · exact ⟨_, Ev.pos h (Ev.now _)⟩
  · obtain ⟨r, hr⟩ := szPuts l hn l.length 0 (wrap64 (n - (l.length : Int))) (by omega)
    exact ⟨r, Ev.neg h hr⟩
theorem szDisk (safe : List ByteArray) (late : List S135) (hs : safe.length ≤ 140737488355328) (hl : late.length ≤ 140737488355328) (n : Int) : ∃ r, Ev (fun k => laws_szDisk.f k safe late n) r := by
  obtain ⟨r1, h1⟩ := szStrS safe hs n
  unfold laws_szDisk.f
  by_cases c1 : r1 < 0
  · exact ⟨_, Ev.bind h1 (Ev.pos c1 (Ev.now _))⟩
  · obtain ⟨r2, h2⟩ := szPutS late hl r1
    by_cases c2 : r2 < 0
    · exact ⟨_, Ev.bind h1 (Ev.neg c1 (Ev.bind h2 (Ev.pos c2 (Ev.now _))))⟩
    · exact ⟨_, Ev.bind h1 (Ev.neg c1 (Ev.bind h2 (Ev.neg c2 (Ev.now _))))⟩
theorem toStrS (l : List ByteArray) (hn : l.length ≤ 8796093022208) : Ev (fun k => laws_toStringS.f k l) l := by
  have key : ∀ i, i ≤ l.length → Ev (fun k => laws_toStringS.l0 k l (filled (fun x => x) (⟨#[]⟩ : ByteArray) l i) (i : Int)) l := by
    refine down (L := fun k i => laws_toStringS.l0 k l (filled (fun x => x) (⟨#[]⟩ : ByteArray) l i) (i : Int)) (R := fun _ => l) ?_ ?_
    · refine Ev.step (fun k => laws_toStringS.l0.eq_2 (k := k) ..) (Ev.neg (by omega) (Ev.eq (Ev.now _) ?_))
      rw [filled_all, List.map_id']
    · intro i hi ih
      refine Ev.step (fun k => laws_toStringS.l0.eq_2 (k := k) ..) (Ev.pos (by omega) (Ev.pos (by omega) (Ev.pos (by rw [filled_length _ _ _ (by omega)]; omega) ?_)))
      rw [wrap_succ hi (by omega), rdS_get l hi, filled_step (fun x => x) _ l hi rfl]
      exact ih
  have := key 0 (by omega)
  rw [filled_zero] at this
  exact Ev.pos (by omega) (Ev.pos (by omega) this)
theorem toPutS (l : List S135) (hn : l.length ≤ 8796093022208) : Ev (fun k => laws_toPutS.f k l) (l.map convP) := by
  have key : ∀ i, i ≤ l.length → Ev (fun k => laws_toPutS.l0 k l (filled convP z136 l i) (i : Int)) (l.map convP) := by
    refine down (L := fun k i => laws_toPutS.l0 k l (filled convP z136 l i) (i : Int)) (R := fun _ => l.map convP) ?_ ?_
    · exact Ev.step (fun k => laws_toPutS.l0.eq_2 (k := k) ..) (Ev.neg (by omega) (Ev.eq (Ev.now _) (filled_all ..)))
    · intro i hi ih
      refine Ev.step (fun k => laws_toPutS.l0.eq_2 (k := k) ..) (Ev.pos (by omega) (Ev.pos (by omega) (Ev.known rfl (Ev.pos (by rw [filled_length _ _ _ (by omega)]; omega) ?_))))
      rw [wrap_succ hi (by omega), rdP1_get l hi]
      show Ev (fun n => laws_toPutS.l0 n l (List.set _ _ (convP l[i])) _) _
      rw [filled_step convP z136 l hi rfl]
      exact ih
  have := key 0 (by omega)
  rw [filled_zero] at this
  exact Ev.pos (by omega) (Ev.pos (by omega) this)
theorem toDisk (safe : List ByteArray) (late : List S135) (hs : safe.length ≤ 8796093022208) (hl : late.length ≤ 8796093022208) : Ev (fun k => laws_toDisk.f k safe late) (safe, late.map convP) := by
  unfold laws_toDisk.f
  exact Ev.bind (toStrS safe hs) (Ev.bind (toPutS late hl) (Ev.now _))
theorem eqStrS (l : List ByteArray) (hn : l.length ≤ 140737488355328) : Ev (fun k => laws_eqStringS.f k l l) true := by
  have key : ∀ i, i ≤ l.length → Ev (fun k => laws_eqStringS.l0 k l l (i : Int)) true := by
    refine down (L := fun k i => laws_eqStringS.l0 k l l (i : Int)) (R := fun _ => true) ?_ ?_
    · exact Ev.step (fun k => laws_eqStringS.l0.eq_2 (k := k) ..) (Ev.neg (by omega) (Ev.now _))
    · intro i hi ih
      refine Ev.step (fun k => laws_eqStringS.l0.eq_2 (k := k) ..) (Ev.pos (by omega) (Ev.pos (by omega) (Ev.pos (by omega) (Ev.pos rfl ?_))))
      rw [wrap_succ hi (by omega)]
      exact ih
  exact Ev.pos rfl (key 0 (by omega))
theorem eqPutS (l : List S136) (hn : l.length ≤ 140737488355328) : Ev (fun k => laws_eqPutS.f k l l) true := by
  have key : ∀ i, i ≤ l.length → Ev (fun k => laws_eqPutS.l0 k l l (i : Int)) true := by
    refine down (L := fun k i => laws_eqPutS.l0 k l l (i : Int)) (R := fun _ => true) ?_ ?_
    · exact Ev.step (fun k => laws_eqPutS.l0.eq_2 (k := k) ..) (Ev.neg (by omega) (Ev.now _))
    · intro i hi ih
      refine Ev.step (fun k => laws_eqPutS.l0.eq_2 (k := k) ..) (Ev.pos (by omega) (Ev.pos (by omega) (Ev.pos (by omega) (Ev.known (a := true) (by unfold laws_eqPut.f; simp) (Ev.pos rfl ?_)))))
      rw [wrap_succ hi (by omega)]
      exact ih
  exact Ev.pos rfl (key 0 (by omega))
theorem eqDisk (safe : List ByteArray) (late : List S136) (hs : safe.length ≤ 140737488355328) (hl : late.length ≤ 140737488355328) : Ev (fun k => laws_eqDisk.f k safe late safe late) true := by
  unfold laws_eqDisk.f
  exact Ev.bind (eqStrS safe hs) (Ev.pos rfl (Ev.bind (eqPutS late hl) (Ev.pos rfl (Ev.now _))))
/-- The text of a mark: some text. -/
theorem markTexts : ∀ (d n : Nat) (acc : ByteArray), n < 10 ^ d → d ≤ 19 → acc.size + d ≤ 1000 → n ≤ 9223372036854775807 → ∃ r, Ev (fun k => laws_markText.l0 k (n : Int) acc) r := by
  intro d
  induction d with
  | zero =>
    intro n acc h hd ha hn
    have : n = 0 := by simpa using h
    subst this
    exact ⟨_, Ev.step (fun k => laws_markText.l0.eq_2 (k := k) ..) (Ev.neg (by omega) (Ev.pos (by omega) (Ev.now _)))⟩
  | succ d ih =>
    intro n acc h hd ha hn
    by_cases h0 : 0 < n
    · have hdiv : n / 10 < 10 ^ d := by
        rw [Nat.div_lt_iff_lt_mul (by decide)]
        rwa [Nat.pow_succ] at h
      have e1 : wrap64 (Int.tdiv (n : Int) 10) = ((n / 10 : Nat) : Int) := by
        rw [Int.tdiv_eq_ediv_of_nonneg (by omega), wrap_id (by omega) (by omega)]; omega
      have e2 : ∀ c : Int, (strOfNums [c] ++ acc).size = acc.size + 1 := fun c => by
        rw [ByteArray.size_append, strOfNums_size, List.length_singleton]; omega
      have e3 : ∀ c : Int, (strOfNums [c]).size = 1 := fun c => by rw [strOfNums_size]; rfl
      obtain ⟨r, hr⟩ := ih (n / 10) (strOfNums [(wrap64 (48 + (Int.tmod (n : Int) 10))) % 256] ++ acc) hdiv (by omega) (by rw [e2]; omega) (by omega)
      refine ⟨r, Ev.step (fun k => laws_markText.l0.eq_2 (k := k) ..) (Ev.pos (by omega) (Ev.known rfl (Ev.pos (by rw [e3]; omega) ?_)))⟩
      rw [e1]
      exact hr
    · exact ⟨_, Ev.step (fun k => laws_markText.l0.eq_2 (k := k) ..) (Ev.neg (by omega) (Ev.pos (by omega) (Ev.now _)))⟩
theorem markTextSome (n : Int) (hn : n ≤ 9223372036854775807) : ∃ r, Ev (fun k => laws_markText.f k n) r := by
  unfold laws_markText.f
  by_cases h : n ≤ 0
  · exact ⟨_, Ev.pos h (Ev.now _)⟩
  · obtain ⟨r, hr⟩ := markTexts 19 n.toNat (⟨#[]⟩ : ByteArray) (by omega) (by omega) (by simp [ByteArray.size]) (by omega)
    rw [Int.toNat_of_nonneg (by omega)] at hr
    exact ⟨r, Ev.neg h hr⟩
theorem markStr (n : Nat) (hn : n ≤ 8796093022208) : ∀ (d i m : Nat) (l : List ByteArray), l.length = n → i + d = n → m + d ≤ 140737488355328 →
    ∃ r, Ev (fun k => laws_markStringS.l0 k l (m : Int) (i : Int)) (((m + d : Nat) : Int), r) := by
  intro d
  induction d with
  | zero =>
    intro i m l hl hi hm
    exact ⟨_, Ev.step (fun k => laws_markStringS.l0.eq_2 (k := k) ..) (Ev.neg (by omega) (Ev.now _))⟩
  | succ d ih =>
    intro i m l hl hi hm
    obtain ⟨t1, h1⟩ := markTextSome (m : Int) (by omega)
    obtain ⟨r, hr⟩ := ih (i + 1) (m + 1) (l.set (i : Int).toNat t1) (by simp [hl]) (by omega) (by omega)
    refine ⟨r, Ev.step (fun k => laws_markStringS.l0.eq_2 (k := k) ..) (Ev.pos (by omega) (Ev.bind h1 (Ev.pos (by omega) ?_)))⟩
    rw [wrap_succ (i := i) (n := n) (by omega) (by omega), wrap_succ (i := m) (n := m + 1) (by omega) (by omega), show m + (d + 1) = m + 1 + d by omega]
    exact hr
theorem markPut (n : Nat) (hn : n ≤ 8796093022208) : ∀ (d i m : Nat) (l : List S136), l.length = n → i + d = n → m + 2 * d ≤ 140737488355328 →
    ∃ r, Ev (fun k => laws_markPutS.l0 k l (m : Int) (i : Int)) (((m + 2 * d : Nat) : Int), r) := by
  intro d
  induction d with
  | zero =>
    intro i m l hl hi hm
    exact ⟨_, Ev.step (fun k => laws_markPutS.l0.eq_2 (k := k) ..) (Ev.neg (by omega) (Ev.now _))⟩
  | succ d ih =>
    intro i m l hl hi hm
    obtain ⟨t2, h2⟩ := markTextSome (wrap64 ((m : Int) + 1)) (by rw [wrap_id (by omega) (by omega)]; omega)
    let l2 := (l.set (i : Int).toNat ⟨(m : Int), (rd_T136 l (i : Int)).f1⟩).set (i : Int).toNat ⟨(rd_T136 (l.set (i : Int).toNat ⟨(m : Int), (rd_T136 l (i : Int)).f1⟩) (i : Int)).f0, t2⟩
    obtain ⟨r, hr⟩ := ih (i + 1) (m + 2) l2 (by simp [l2, hl]) (by omega) (by omega)
    refine ⟨r, Ev.step (fun k => laws_markPutS.l0.eq_2 (k := k) ..) (Ev.pos (by omega) (Ev.pos (by omega) (Ev.known rfl (Ev.bind h2 ?_))))⟩
    rw [wrap_succ (i := i) (n := n) (by omega) (by omega)]
    have e : wrap64 ((wrap64 ((m : Int) + 1)) + 1) = ((m + 2 : Nat) : Int) := by rw [wrap_id (x := (m : Int) + 1) (by omega) (by omega), wrap_id (by omega) (by omega)]; omega
    rw [e, show m + 2 * (d + 1) = m + 2 + 2 * d by omega]
    exact hr
theorem markDisk (safe : List ByteArray) (late : List S136) (hs : safe.length ≤ 8796093022208) (hl : late.length ≤ 8796093022208) : ∃ m r1 r2, Ev (fun k => laws_markDisk.f k safe late 1) (m, r1, r2) ∧ 0 ≤ m := by
  obtain ⟨r1, h1⟩ := markStr safe.length hs safe.length 0 1 safe rfl (by omega) (by omega)
  obtain ⟨r2, h2⟩ := markPut late.length hl late.length 0 (1 + safe.length) late rfl (by omega) (by omega)
  have h1 : Ev (fun k => laws_markStringS.f k safe 1) (((1 + safe.length : Nat) : Int), r1) := h1
  have h2 : Ev (fun k => laws_markPutS.f k late ((1 + safe.length : Nat) : Int)) (((1 + safe.length + 2 * late.length : Nat) : Int), r2) := h2
  unfold laws_markDisk.f
  exact ⟨_, r1, r2, Ev.bind h1 (Ev.bind h2 (Ev.now _)), by omega⟩
end Go.Proofs.Ytikjondklgghkaa.Pure
