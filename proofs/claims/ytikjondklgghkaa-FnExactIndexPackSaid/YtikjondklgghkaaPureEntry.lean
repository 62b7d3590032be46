/-
Rows of entries in the laws' own functions: sized, copied, compared, marked.
No condition beyond the lengths.
-/
import Derived.Test.YtikjondklgghkaaPRecx11
import Derived.Test.YtikjondklgghkaaPRecx12
import Derived.Test.YtikjondklgghkaaPRecx14
import Derived.Test.YtikjondklgghkaaPRecx10
import Derived.Test.YtikjondklgghkaaXPure
namespace Go.Proofs.Ytikjondklgghkaa.Pure
open Go.RowKit Go.Proofs.YtikjondklgghkaaX Go.Proofs.Ytikjondklgghkaa.PRec Go.Proofs.YtikjondklgghkaaW.PrintWords Go.Proofs.YtikjondklgghkaaW.PrintLast

def conv (e : S95) : S96 := ⟨e.f0, e.f1⟩
theorem rd96_get (l : List S96) {i : Nat} (h : i < l.length) : rd_T96 l (i : Int) = l[i] := by simp [rd_T96, List.getD, h]
theorem rd95_get (l : List S95) {i : Nat} (h : i < l.length) : rd_T95 l (i : Int) = l[i] := by simp [rd_T95, List.getD, h]
theorem szEnt (e : S95) (n : Int) (hn : n ≤ 1048576) (h0 : 0 ≤ n) (h1 : e.f0.size ≤ 140737488351232) (h2 : e.f1.size ≤ 140737488351232) :
    ∃ r, laws_szEntry.f e.f0 e.f1 n = some r ∧ (¬ r < 0 → r = n - e.f0.size - e.f1.size) ∧ r ≤ n := by
  unfold laws_szEntry.f
  rw [wrap_id (by omega) (by omega), wrap_id (by omega) (by omega)]
  split
  · exact ⟨_, rfl, by omega, by omega⟩
  · split
    · exact ⟨_, rfl, by omega, by omega⟩
    · exact ⟨_, rfl, by omega, by omega⟩
/-- The bytes of the entries from i on. -/
def weight : List S95 → Nat
  | [] => 0
  | e :: l => e.f0.size + e.f1.size + weight l
theorem szEnts (l : List S95) (hn : l.length ≤ 140737488351232) (hs : ∀ x ∈ l, x.f0.size ≤ 140737488351232 ∧ x.f1.size ≤ 140737488351232) : ∀ (d i : Nat) (n : Int), i + d = l.length → 0 ≤ n → n ≤ 1048576 →
    ∃ r, Ev (fun k => laws_szEntryS.l0 k l n (i : Int)) r ∧ (¬ r < 0 → r + weight (l.drop i) = n) := by
  intro d
  induction d with
  | zero =>
    intro i n hi h0 h1
    refine ⟨_, Ev.step (fun k => laws_szEntryS.l0.eq_2 (k := k) ..) (Ev.neg (by omega) (Ev.now _)), fun _ => ?_⟩
    rw [List.drop_eq_nil_of_le (by omega)]
    simp [weight]
  | succ d ih =>
    intro i n hi h0 h1
    have hlt : i < l.length := by omega
    obtain ⟨t, ht, ht1, ht2⟩ := szEnt l[i] n h1 h0 (hs _ (List.getElem_mem hlt)).1 (hs _ (List.getElem_mem hlt)).2
    rw [← rd95_get l hlt] at ht
    by_cases hz : t < 0
    · exact ⟨_, Ev.step (fun k => laws_szEntryS.l0.eq_2 (k := k) ..) (Ev.pos (by omega) (Ev.pos (by omega) (Ev.known ht (Ev.pos hz (Ev.now _))))), by omega⟩
    · obtain ⟨r, hr, hw⟩ := ih (i + 1) t (by omega) (by omega) (by omega)
      refine ⟨r, Ev.step (fun k => laws_szEntryS.l0.eq_2 (k := k) ..) (Ev.pos (by omega) (Ev.pos (by omega) (Ev.known ht (Ev.neg hz ?_)))), ?_⟩
      · rw [wrap_succ (n := l.length) (by omega) (by omega)]
        exact hr
      · intro h
        have := hw h
        have := ht1 hz
        rw [List.drop_eq_getElem_cons hlt, weight]
        omega
theorem szEntS (l : List S95) (hn : l.length ≤ 140737488351232) (hs : ∀ x ∈ l, x.f0.size ≤ 140737488351232 ∧ x.f1.size ≤ 140737488351232) :
    ∃ r, Ev (fun k => laws_szEntryS.f k l 1048576) r ∧ (¬ r < 0 → l.length + weight l ≤ 1048576) := by
  have hw : wrap64 (1048576 - (l.length : Int)) = 1048576 - (l.length : Int) := wrap_id (by omega) (by omega)
  by_cases h : wrap64 (1048576 - (l.length : Int)) < 0
  · exact ⟨_, Ev.pos h (Ev.now _), by omega⟩
  · obtain ⟨r, hr, h2⟩ := szEnts l hn hs l.length 0 (wrap64 (1048576 - (l.length : Int))) (by omega) (by omega) (by omega)
    refine ⟨r, Ev.neg h hr, fun h3 => ?_⟩
    have := h2 h3
    rw [List.drop_zero] at this
    omega
theorem toEnts (l : List S95) (hn : l.length ≤ 8796093022208) : ∀ i, i ≤ l.length → Ev (fun k => laws_toEntryS.l0 k l (filled conv z96 l i) (i : Int)) (l.map conv) := by
  refine down (L := fun k i => laws_toEntryS.l0 k l (filled conv z96 l i) (i : Int)) (R := fun _ => l.map conv) ?_ ?_
  · refine Ev.step (fun k => laws_toEntryS.l0.eq_2 (k := k) ..) ?_
    exact Ev.neg (by omega) (Ev.eq (Ev.now _) (filled_all ..))
  · intro i hi ih
    refine Ev.step (fun k => laws_toEntryS.l0.eq_2 (k := k) ..) ?_
    refine Ev.pos (by omega) (Ev.pos (by omega) (Ev.known rfl (Ev.pos (by rw [filled_length _ _ _ (by omega)]; omega) ?_)))
    rw [wrap_succ hi (by omega), rd95_get l hi]
    show Ev (fun n => laws_toEntryS.l0 n l (List.set _ _ (conv l[i])) _) _
    rw [filled_step conv z96 l hi rfl]
    exact ih
theorem toEntS (l : List S95) (hn : l.length ≤ 8796093022208) : Ev (fun k => laws_toEntryS.f k l) (l.map conv) := by
  refine Ev.pos (by omega) (Ev.pos (by omega) ?_)
  rw [Int.toNat_natCast, ← filled_zero conv]
  exact toEnts l hn 0 (by omega)
theorem eqEnts (l : List S96) (hn : l.length ≤ 140737488351232) : ∀ i, i ≤ l.length → Ev (fun k => laws_eqEntryS.l0 k l l (i : Int)) true := by
  refine down (L := fun k i => laws_eqEntryS.l0 k l l (i : Int)) (R := fun _ => true) ?_ ?_
  · exact Ev.step (fun k => laws_eqEntryS.l0.eq_2 (k := k) ..) (Ev.neg (by omega) (Ev.now _))
  · intro i hi ih
    refine Ev.step (fun k => laws_eqEntryS.l0.eq_2 (k := k) ..) (Ev.pos (by omega) (Ev.pos (by omega) (Ev.pos (by omega) (Ev.known (a := true) (by unfold laws_eqEntry.f; simp) (Ev.pos rfl ?_)))))
    rw [wrap_succ hi (by omega)]
    exact ih
theorem eqEntS (l : List S96) (hn : l.length ≤ 140737488351232) : Ev (fun k => laws_eqEntryS.f k l l) true := Ev.pos rfl (eqEnts l hn 0 (by omega))
/-- The text of a mark: some text. -/
theorem markTexts : ∀ (d n : Nat) (acc : ByteArray), n < 10 ^ d → d ≤ 19 → acc.size + d ≤ 1000 → n ≤ 9223372036854775807 → ∃ r, Ev (fun k => laws_markText.l0 k (n : Int) acc) r := by
  intro d
  induction d with
  | zero =>
    intro n acc h hd ha hn
    have : n = 0 := by simpa using h
    subst this
    exact ⟨_, Ev.step (fun k => laws_markText.l0.eq_2 (k := k) ..) (Ev.neg (by omega) (Ev.pos (by omega) (Ev.now _)))⟩
  | succ d ih =>
    intro n acc h hd ha hn
    by_cases h0 : 0 < n
    · have hdiv : n / 10 < 10 ^ d := by
        rw [Nat.div_lt_iff_lt_mul (by decide)]
        rwa [Nat.pow_succ] at h
      have e1 : wrap64 (Int.tdiv (n : Int) 10) = ((n / 10 : Nat) : Int) := by
        rw [Int.tdiv_eq_ediv_of_nonneg (by omega), wrap_id (by omega) (by omega)]; omega
      have e2 : ∀ c : Int, (strOfNums [c] ++ acc).size = acc.size + 1 := fun c => by
        rw [ByteArray.size_append, strOfNums_size, List.length_singleton]; omega
      have e3 : ∀ c : Int, (strOfNums [c]).size = 1 := fun c => by rw [strOfNums_size]; rfl
      obtain ⟨r, hr⟩ := ih (n / 10) (strOfNums [(wrap64 (48 + (Int.tmod (n : Int) 10))) % 256] ++ acc) hdiv (by omega) (by rw [e2]; omega) (by omega)
      refine ⟨r, Ev.step (fun k => laws_markText.l0.eq_2 (k := k) ..) (Ev.pos (by omega) (Ev.known rfl (Ev.pos (by rw [e3]; omega) ?_)))⟩
      rw [e1]
      exact hr
    · exact ⟨_, Ev.step (fun k => laws_markText.l0.eq_2 (k := k) ..) (Ev.neg (by omega) (Ev.pos (by omega) (Ev.now _)))⟩
theorem markTextSome (n : Int) (hn : n ≤ 9223372036854775807) : ∃ r, Ev (fun k => laws_markText.f k n) r := by
  unfold laws_markText.f
  by_cases h : n ≤ 0
  · exact ⟨_, Ev.pos h (Ev.now _)⟩
  · obtain ⟨r, hr⟩ := markTexts 19 n.toNat (⟨#[]⟩ : ByteArray) (by omega) (by omega) (by simp [ByteArray.size]) (by omega)
    rw [Int.toNat_of_nonneg (by omega)] at hr
    exact ⟨r, Ev.neg h hr⟩
theorem markEnts (n : Nat) (hn : n ≤ 1048576) : ∀ (d i m : Nat) (l : List S96), l.length = n → i + d = n → m + 2 * d ≤ 4194304 →
    ∃ r, Ev (fun k => laws_markEntryS.l0 k l (m : Int) (i : Int)) (((m + 2 * d : Nat) : Int), r) := by
  intro d
  induction d with
  | zero =>
    intro i m l hl hi hm
    exact ⟨_, Ev.step (fun k => laws_markEntryS.l0.eq_2 (k := k) ..) (Ev.neg (by omega) (Ev.now _))⟩
  | succ d ih =>
    intro i m l hl hi hm
    obtain ⟨t1, h1⟩ := markTextSome (m : Int) (by omega)
    obtain ⟨t2, h2⟩ := markTextSome (wrap64 ((m : Int) + 1)) (by rw [wrap_id (by omega) (by omega)]; omega)
    let l2 := (l.set (i : Int).toNat ⟨t1, (rd_T96 l (i : Int)).f1⟩).set (i : Int).toNat ⟨(rd_T96 (l.set (i : Int).toNat ⟨t1, (rd_T96 l (i : Int)).f1⟩) (i : Int)).f0, t2⟩
    obtain ⟨r, hr⟩ := ih (i + 1) (m + 2) l2 (by simp [l2, hl]) (by omega) (by omega)
    refine ⟨r, Ev.step (fun k => laws_markEntryS.l0.eq_2 (k := k) ..) (Ev.pos (by omega) (Ev.bind h1 (Ev.pos (by omega) (Ev.known rfl (Ev.bind h2 ?_)))))⟩
    rw [wrap_succ (i := i) (n := n) (by omega) (by omega)]
    have e : wrap64 ((wrap64 ((m : Int) + 1)) + 1) = ((m + 2 : Nat) : Int) := by rw [wrap_id (x := (m : Int) + 1) (by omega) (by omega), wrap_id (by omega) (by omega)]; omega
    rw [e, show m + 2 * (d + 1) = m + 2 + 2 * d by omega]
    exact hr
theorem markEntS (l : List S96) (hn : l.length ≤ 1048576) : ∃ m r, Ev (fun k => laws_markEntryS.f k l 1) (m, r) ∧ 0 ≤ m := by
  obtain ⟨r, hr⟩ := markEnts l.length hn l.length 0 1 l rfl (by omega) (by omega)
  exact ⟨_, r, hr, by omega⟩
end Go.Proofs.Ytikjondklgghkaa.Pure
