/- The functions that FnExactArchiveUrls reaches, each as a plain function, and the plain law about them: the statement answers true at every input. No condition beyond those that stand in each theorem. -/
import Derived.Test.YtekcpaiphcmfmaaGreatVEArchiveUrls0
set_option linter.unusedVariables false
set_option linter.unusedSimpArgs false
noncomputable section
namespace Go.Proofs.YtekcpaiphcmfmaaGreat.V
open Go Go.RowKit
attribute [local irreducible] wr
theorem headPack_any (a b c : Int) : ∃ t ok, spec_HeadPack ((a, b, c, ()), ()) = some ((), t, ok, ()) ∧ impl_HeadPack ((a, b, c, ()), ()) = some ((), t, ok, ()) := by
  cases h : headRight a b c
  · exact ⟨_, _, spec_head_bad h, impl_head_bad h⟩
  · exact ⟨_, _, spec_head h, impl_head h⟩
theorem getter_bad {l : List Int} (hl : l.length ≤ 140737488355328) (hb : ∀ y ∈ l, 0 ≤ y ∧ y ≤ 255) (a : Int) : impl_getter_num ((l, a, true, ()), ()) = some (((l, a, true, ()), ()), 0, ()) := by
  obtain ⟨r, r1, r2, r3⟩ := getNum l hl hb a
  unfold impl_getter_num impl_getter_num_k
  rw [obind_eq r2]
  rfl
theorem getter_ok {l : List Int} {a : Int} {r : Int × Int × Bool} (h : impl_GetNum (l, a, ()) = numOut r) : impl_getter_num ((l, a, false, ()), ()) = some (((l, if r.2.2 = true then r.2.1 else a, !r.2.2, ()), ()), if r.2.2 = true then r.1 else 0, ()) := by
  unfold impl_getter_num impl_getter_num_k
  rw [obind_eq h]
  cases hr : r.2.2
  · simp only [hr]; rfl
  · simp only [hr]; rfl
theorem headRead (s : ByteArray) (hs : s.size ≤ 140737488355328) : ∃ (h : Hd) (ok : Bool), spec_HeadRead (s, ()) = some ((), (h.1, h.2.1, h.2.2.1, ()), ok, ()) ∧ impl_HeadRead (s, ()) = some ((), (h.1, h.2.1, h.2.2.1, ()), ok, ()) ∧ (ok = true → headRight h.1 h.2.1 h.2.2.1 = true) ∧ (ok = false → h = (0, 0, 0, ())) := by
  have hl : (bytesOf s).length ≤ 140737488355328 := by rw [bytes_length]; exact hs
  have hb := bytes_range s
  obtain ⟨r0, s0, i0, g0⟩ := getNum (bytesOf s) hl hb 0
  obtain ⟨r1, s1, i1, g1⟩ := getNum (bytesOf s) hl hb r0.2.1
  obtain ⟨r2, s2, i2, g2⟩ := getNum (bytesOf s) hl hb r1.2.1
  obtain ⟨t3, ok3, s3, i3⟩ := headPack_any r0.1 r1.1 r2.1
  obtain ⟨t4, ok4, s4, i4⟩ := headPack_any 0 0 0
  have spec_eq : spec_HeadRead (s, ()) = tb (bnot r0.2.2) (some ((), (0, 0, 0, ()), false, ())) (tb (bnot r1.2.2) (some ((), (0, 0, 0, ()), false, ())) (tb (bnot r2.2.2) (some ((), (0, 0, 0, ()), false, ())) (tb (bnot ok3) (some ((), (0, 0, 0, ()), false, ())) (tb (bnot (seq t3 s)) (some ((), (0, 0, 0, ()), false, ())) (some ((), (r0.1, r1.1, r2.1, ()), true, ())))))) := by
    unfold spec_HeadRead spec_HeadRead_k
    simp only
    rw [obind_eq s0]
    simp only
    rw [obind_eq s1]
    simp only
    rw [obind_eq s2]
    simp only
    rw [obind_eq s3]
  rw [spec_eq]
  unfold impl_HeadRead impl_HeadRead_k
  simp only
  rw [obind_eq (getter_ok i0)]
  cases h0 : r0.2.2
  · refine ⟨(0, 0, 0, ()), false, by rw [tb_nf], ?_, (fun h => by cases h), fun _ => rfl⟩
    simp only [Bool.not_false, Bool.false_eq_true, if_false]
    rw [obind_eq (getter_bad hl hb _)]
    simp only
    rw [obind_eq (getter_bad hl hb _)]
    simp only
    rw [obind_eq i4]
    simp only [tb_t]
  simp only [Bool.not_true, if_true]
  rw [obind_eq (getter_ok i1)]
  cases h1 : r1.2.2
  · refine ⟨(0, 0, 0, ()), false, by rw [tb_nt, tb_nf], ?_, (fun h => by cases h), fun _ => rfl⟩
    simp only [Bool.not_false, Bool.false_eq_true, if_false]
    rw [obind_eq (getter_bad hl hb _)]
    simp only
    obtain ⟨t5, ok5, s5, i5⟩ := headPack_any r0.1 0 0
    rw [obind_eq i5]
    simp only [tb_t]
  simp only [Bool.not_true, if_true]
  rw [obind_eq (getter_ok i2)]
  cases h2 : r2.2.2
  · refine ⟨(0, 0, 0, ()), false, by rw [tb_nt, tb_nt, tb_nf], ?_, (fun h => by cases h), fun _ => rfl⟩
    simp only [Bool.not_false, Bool.false_eq_true, if_false]
    obtain ⟨t5, ok5, s5, i5⟩ := headPack_any r0.1 r1.1 0
    rw [obind_eq i5]
    simp only [tb_t]
  simp only [Bool.not_true, if_true]
  rw [obind_eq i3]
  simp only [tb_f, tb_nt]
  cases hok : ok3
  · exact ⟨(0, 0, 0, ()), false, by rw [tb_nf], by rw [tb_nf], (fun h => by cases h), fun _ => rfl⟩
  rw [tb_nt]
  cases hq : seq t3 s
  · exact ⟨(0, 0, 0, ()), false, by rw [tb_nf], by rw [tb_nf], (fun h => by cases h), fun _ => rfl⟩
  rw [tb_nt]
  refine ⟨(r0.1, r1.1, r2.1, ()), true, rfl, rfl, fun _ => ?_, (fun h => by cases h)⟩
  cases hr : headRight r0.1 r1.1 r2.1
  · rw [spec_head_bad hr] at s3
    subst hok
    simp at s3
  · rfl
theorem headNow {d : Dk} (hs : dkSmall d) : ∃ h : Hd, spec_HeadNow ((d.1, d.2.1, ()), ()) = some ((), (h.1, h.2.1, h.2.2.1, ()), ()) ∧ impl_HeadNow ((d.1, d.2.1, ()), ()) = some ((), (h.1, h.2.1, h.2.2.1, ()), ()) ∧ (headRight h.1 h.2.1 h.2.2.1 = true ∨ h = (0, 0, 0, ())) := by
  have l1 := hs.1
  have l2 := hs.2
  unfold spec_HeadNow spec_HeadNow_k impl_HeadNow impl_HeadNow_k
  simp only
  rw [obind_eq (spec_ok d (by omega) (by omega)), obind_eq (impl_ok d (by omega) (by omega))]
  simp only
  cases hd : diskOk d
  · exact ⟨(0, 0, 0, ()), by rw [tb_nf], by rw [tb_nf], .inr rfl⟩
  rw [tb_nt, tb_nt]
  have hl := diskOk_len hd
  have z0 := secF_size (at' := 0) hd (by omega) (by omega)
  have z1 := secF_size (at' := 1) hd (by omega) (by omega)
  obtain ⟨a, ok0, a1, a2, a3, a4⟩ := headRead (secF d 0) (by omega)
  obtain ⟨b, ok1, b1, b2, b3, b4⟩ := headRead (secF d 1) (by omega)
  have ha : ok0 = true → 1 ≤ a.1 := fun h => by have := a3 h; simp only [headRight, decide_eq_true_eq] at this; omega
  have hbb : ok1 = true → 1 ≤ b.1 := fun h => by have := b3 h; simp only [headRight, decide_eq_true_eq] at this; omega
  rw [obind_eq (spec_sec (by omega) (by omega) (by omega))]
  simp only
  rw [obind_eq a1]
  simp only
  rw [obind_eq (spec_sec (by omega) (by omega) (by omega))]
  simp only
  rw [obind_eq b1]
  simp only
  have step : ∀ (n : Nat) (at' : Nat) (best z : Hd) (K : Unit × (((Int × Int × Int × Unit) × (Int × Int × Int × Unit) × Unit) × Unit) → Option (Unit × ((Int × Int × Int × Unit) × Unit))) (c : Hd) (ok : Bool), at' < 2 → impl_HeadRead (secF d (at' : Int), ()) = some ((), (c.1, c.2.1, c.2.2.1, ()), ok, ()) →
      impl_HeadNow_k0 fuel (n + 1) K (((at' : Int), ()), (((d.1, d.2.1, ()), (z.1, z.2.1, z.2.2.1, ()), (best.1, best.2.1, best.2.2.1, ()), ()), ())) = impl_HeadNow_k0 fuel n K ((((at' + 1 : Nat) : Int), ()), (((d.1, d.2.1, ()), (z.1, z.2.1, z.2.2.1, ()), (if ok = true ∧ best.1 < c.1 then (c.1, c.2.1, c.2.2.1, ()) else (best.1, best.2.1, best.2.2.1, ())), ()), ())) := by
    intro n at' best z K c ok h2 hr
    rw [impl_HeadNow_k0]
    simp only
    rw [tb_pos (ilt_t (by omega)), obind_eq (impl_sec (by omega) (by omega) (by omega))]
    simp only
    rw [obind_eq hr, wr_succ (by omega)]
    simp only
    cases ok
    · rw [tb_f]; simp
    · rw [tb_t]
      by_cases hc : best.1 < c.1
      · rw [tb_pos (ilt_t hc), if_pos ⟨rfl, hc⟩]
      · rw [tb_neg (ilt_f (by omega)), if_neg (fun q => hc q.2)]
  obtain ⟨n, hn⟩ : ∃ n, fuel = n + 3 := ⟨fuel - 3, by have := fuel_gt; omega⟩
  have fin : ∀ (K : Unit × (((Int × Int × Int × Unit) × (Int × Int × Int × Unit) × Unit) × Unit) → Option (Unit × ((Int × Int × Int × Unit) × Unit))), impl_HeadNow_k0 fuel fuel K ((((0 : Nat) : Int), ()), (((d.1, d.2.1, ()), (0, 0, 0, ()), (0, 0, 0, ()), ()), ())) = K ((), (((0, 0, 0, ()), (if ok1 = true ∧ a.1 < b.1 then (b.1, b.2.1, b.2.2.1, ()) else (a.1, a.2.1, a.2.2.1, ())), ()), ())) := by
    intro K
    have e : ∀ s, impl_HeadNow_k0 fuel fuel K s = impl_HeadNow_k0 fuel (n + 3) K s := fun s => by rw [← hn]
    have h1 := step (n + 2) 0 (0, 0, 0, ()) (0, 0, 0, ()) K a ok0 (by omega) a2
    have e1 : (if ok0 = true ∧ (0 : Int) < a.1 then (a.1, a.2.1, a.2.2.1, ()) else ((0 : Int), (0 : Int), (0 : Int), ())) = (a.1, a.2.1, a.2.2.1, ()) := by
      cases hq : ok0
      · rw [a4 hq]; simp
      · have := ha hq; rw [if_pos ⟨rfl, by omega⟩]
    have h2 := step (n + 1) 1 a (0, 0, 0, ()) K b ok1 (by omega) b2
    rw [e, h1]
    simp only
    rw [e1, h2, impl_HeadNow_k0]
    simp only
    rw [tb_neg (ilt_f (by omega))]
  have ra : headRight a.1 a.2.1 a.2.2.1 = true ∨ a = (0, 0, 0, ()) := by
    cases hq : ok0
    · exact .inr (a4 hq)
    · exact .inl (a3 hq)
  have rb : headRight b.1 b.2.1 b.2.2.1 = true ∨ b = (0, 0, 0, ()) := by
    cases hq : ok1
    · exact .inr (b4 hq)
    · exact .inl (b3 hq)
  by_cases c : a.1 < b.1
  · refine ⟨b, by rw [tb_pos (ilt_t c)], (fin _).trans ?_, rb⟩
    cases hq : ok1
    · have h0 : 0 ≤ a.1 := by
        cases hp : ok0
        · rw [a4 hp]; simp
        · have := ha hp; omega
      have := b4 hq
      rw [this] at c
      simp at c
      omega
    · rw [if_pos ⟨rfl, c⟩]
  · refine ⟨a, by rw [tb_neg (ilt_f (by omega))], (fin _).trans ?_, ra⟩
    rw [if_neg (fun q => c q.2)]
end Go.Proofs.YtekcpaiphcmfmaaGreat.V
namespace Go.Proofs.YtekcpaiphcmfmaaGreat.V
open Go Go.RowKit
attribute [local irreducible] wr
def TextOk (l : List Int) (a : Int) (r : ByteArray × Int × Bool) : Prop := (r.2.2 = false → r = (⟨#[]⟩, 0, false)) ∧ (r.2.2 = true → 0 ≤ a ∧ a < r.2.1 ∧ r.2.1 ≤ (l.length : Int) ∧ r.1.size ≤ l.length)
abbrev textOut (r : ByteArray × Int × Bool) : Option (Unit × (ByteArray × Int × Bool × Unit)) := some ((), r.1, r.2.1, r.2.2, ())
theorem getText (l : List Int) (hl : l.length ≤ 140737488355328) (hb : ∀ y ∈ l, 0 ≤ y ∧ y ≤ 255) (a : Int) : ∃ r, spec_GetText (l, a, ()) = textOut r ∧ impl_GetText (l, a, ()) = textOut r ∧ TextOk l a r := by
  obtain ⟨⟨n, next, ok⟩, r1, r2, r3, r4⟩ := getNum l hl hb a
  unfold spec_GetText spec_GetText_k impl_GetText impl_GetText_k
  simp only
  rw [obind_eq r1, obind_eq r2]
  simp only
  cases ok with
  | false => exact ⟨(⟨#[]⟩, 0, false), by rw [tb_nf], by rw [tb_nf], fun _ => rfl, fun h => by cases h⟩
  | true =>
    obtain ⟨q1, q2, q3, q4, q5⟩ := r4 rfl
    simp only at q1 q2 q4 q5
    have hw : wr .i64 (((llen l : Nat) : Int) - next) = (l.length : Int) - next := by simp only [llen]; exact wr64 (by omega) (by omega)
    rw [tb_nt, hw]
    by_cases c : (l.length : Int) - next < n
    · exact ⟨(⟨#[]⟩, 0, false), by rw [tb_pos (ilt_t c)], by rw [tb_pos (ilt_t c)], fun _ => rfl, fun h => by cases h⟩
    · have hw2 : wr .i64 (next + n) = next + n := wr64 (by omega) (by omega)
      have hx : tb (ilt ((l.length : Int) - next) n) (some ((), (⟨#[]⟩ : ByteArray), (0 : Int), false, ())) (chk ((0 ≤ next) ∧ ((next ≤ wr .i64 (next + n)) ∧ (wr .i64 (next + n) ≤ (((llen l) : Nat) : Int)))) (some ((), (strOf (lcut l (Int.toNat next) (Int.toNat (wr .i64 (next + n))))), wr .i64 (next + n), true, ())) none) = textOut (strOf (lcut l next.toNat (next + n).toNat), next + n, true) := by
        rw [tb_neg (ilt_f (by omega)), hw2, chk_pos (by simp only [llen]; omega)]
      refine ⟨_, hx, hx, (fun h => by cases h), fun _ => ⟨q3, ?_, ?_, ?_⟩⟩
      · simp only; omega
      · simp only; omega
      · simp only [strOf_size]
        rw [lcut_length _ _ _ (by omega)]; omega
theorem tgetter_bad {l : List Int} (hl : l.length ≤ 140737488355328) (hb : ∀ y ∈ l, 0 ≤ y ∧ y ≤ 255) (a : Int) : impl_getter_text ((l, a, true, ()), ()) = some (((l, a, true, ()), ()), ⟨#[]⟩, ()) := by
  obtain ⟨r, r1, r2, r3⟩ := getText l hl hb a
  unfold impl_getter_text impl_getter_text_k
  rw [obind_eq r2]
  rfl
theorem tgetter_ok {l : List Int} {a : Int} {r : ByteArray × Int × Bool} (h : impl_GetText (l, a, ()) = textOut r) : impl_getter_text ((l, a, false, ()), ()) = some (((l, if r.2.2 = true then r.2.1 else a, !r.2.2, ()), ()), if r.2.2 = true then r.1 else ⟨#[]⟩, ()) := by
  unfold impl_getter_text impl_getter_text_k
  rw [obind_eq h]
  cases hr : r.2.2
  · simp only; rfl
  · simp only; rfl
abbrev Rc : Type := Int × ByteArray × ByteArray × Unit
abbrev rc0 : Rc := (0, ⟨#[]⟩, ⟨#[]⟩, ())
theorem recordRead (l : List Int) (hl : l.length ≤ 70368744170000) (hb : ∀ y ∈ l, 0 ≤ y ∧ y ≤ 255) (a : Int) : ∃ (r : Rc) (nx : Int) (ok : Bool), spec_RecordRead (l, a, ()) = some ((), (r.1, r.2.1, r.2.2.1, ()), nx, ok, ()) ∧ impl_RecordRead (l, a, ()) = some ((), (r.1, r.2.1, r.2.2.1, ()), nx, ok, ()) ∧ (ok = true → 0 ≤ a ∧ a < nx ∧ nx ≤ (l.length : Int)) := by
  have hl' : l.length ≤ 140737488355328 := by omega
  have e0 : (⟨#[]⟩ : ByteArray).size = 0 := rfl
  obtain ⟨⟨n, p0, ok0⟩, s0, i0, -, g0⟩ := getNum l hl' hb a
  have hi0 := getter_ok i0
  unfold spec_RecordRead spec_RecordRead_k impl_RecordRead impl_RecordRead_k
  simp only
  rw [obind_eq s0, obind_eq hi0]
  simp only
  cases ok0 with
  | false =>
    refine ⟨rc0, 0, false, by rw [tb_nf], ?_, fun h => by cases h⟩
    simp only [Bool.not_false, Bool.false_eq_true, if_false]
    rw [obind_eq (tgetter_bad hl' hb _)]
    simp only
    rw [ieq_f (by decide), tb_f, obind_eq (impl_rec _ _ _ (by rw [e0]; omega))]
    simp only
    rw [tb_t]
  | true =>
    obtain ⟨q1, q2, q3, q4, q5⟩ := g0 rfl
    simp only at q1 q2 q4 q5
    obtain ⟨⟨u, p1, ok1⟩, s1, i1, -, g1⟩ := getText l hl' hb p0
    have hi1 := tgetter_ok i1
    simp only [Bool.not_true, if_true]
    rw [tb_nt, obind_eq s1, obind_eq hi1]
    simp only
    cases ok1 with
    | false =>
      refine ⟨rc0, 0, false, by rw [tb_nf], ?_, fun h => by cases h⟩
      simp only [Bool.not_false, Bool.false_eq_true, if_false]
      by_cases hn : n = 1
      · rw [ieq_t hn, tb_t, obind_eq (tgetter_bad hl' hb _)]
        simp only
        rw [obind_eq (impl_rec _ _ _ (by rw [e0]; omega))]
        simp only
        rw [tb_t]
      · rw [ieq_f hn, tb_f, obind_eq (impl_rec _ _ _ (by rw [e0]; omega))]
        simp only
        rw [tb_t]
    | true =>
      obtain ⟨t1, t2, t3, t4⟩ := g1 rfl
      simp only at t2 t3 t4
      simp only [Bool.not_true, if_true]
      rw [tb_nt]
      by_cases hn : n = 1
      · rw [ieq_t hn, tb_t, tb_t]
        obtain ⟨⟨b, p2, ok2⟩, s2, i2, -, g2⟩ := getText l hl' hb p1
        have hi2 := tgetter_ok i2
        rw [obind_eq s2, obind_eq hi2]
        simp only
        cases ok2 with
        | false =>
          refine ⟨rc0, 0, false, by rw [tb_nf], ?_, fun h => by cases h⟩
          simp only [Bool.not_false, Bool.false_eq_true, if_false]
          rw [obind_eq (impl_rec _ _ _ (by rw [e0]; omega))]
          simp only
          rw [tb_t]
        | true =>
          obtain ⟨v1, v2, v3, v4⟩ := g2 rfl
          simp only at v2 v3 v4
          simp only [Bool.not_true, if_true]
          rw [tb_nt, obind_eq (spec_rec _ _ _ (by omega)), obind_eq (impl_rec _ _ _ (by omega))]
          simp only
          rw [tb_f]
          cases hq : (recPacked n u b).2
          · exact ⟨rc0, 0, false, by rw [tb_nf], by rw [tb_nf], fun h => by cases h⟩
          · exact ⟨(n, u, b, ()), p2, true, by rw [tb_nt], by rw [tb_nt], fun _ => ⟨q3, by omega, v3⟩⟩
      · rw [ieq_f hn, tb_f, tb_f, obind_eq (spec_rec _ _ _ (by rw [e0]; omega)), obind_eq (impl_rec _ _ _ (by rw [e0]; omega))]
        simp only
        rw [tb_f]
        cases hq : (recPacked n u ⟨#[]⟩).2
        · exact ⟨rc0, 0, false, by rw [tb_nf], by rw [tb_nf], fun h => by cases h⟩
        · exact ⟨(n, u, ⟨#[]⟩, ()), p1, true, by rw [tb_nt], by rw [tb_nt], fun _ => ⟨q3, by omega, t3⟩⟩
theorem records0 {l : List Int} (hl : l.length ≤ 1000000000) (hb : ∀ y ∈ l, 0 ≤ y ∧ y ≤ 255) : ∀ (d a m m' : Nat) (acc : List Rc), l.length ≤ a + d → a ≤ l.length → acc.length ≤ a → d < m → d < m' →
      ∃ (rs : List Rc) (ok : Bool), spec_Records_k0 fuel m (fun v0 => some ((), v0.2.2.1, true, ())) ((l, (a : Int), ()), (), acc, ()) = some ((), rs, ok, ()) ∧ impl_Records_k0 fuel m' (fun v0 => some ((), v0.2.2.1, true, ())) ((l, (a : Int), ()), (), acc, ()) = some ((), rs, ok, ()) ∧ rs.length ≤ l.length := by
  intro d
  induction d with
  | zero =>
    intro a m m' acc h ha hacc hm hm'
    obtain ⟨m, rfl⟩ : ∃ q, m = q + 1 := ⟨m - 1, by omega⟩
    obtain ⟨m', rfl⟩ : ∃ q, m' = q + 1 := ⟨m' - 1, by omega⟩
    refine ⟨acc, true, ?_, ?_, by omega⟩
    · rw [spec_Records_k0]; simp only; rw [tb_neg (ilt_f (by simp only [llen]; omega))]
    · rw [impl_Records_k0]; simp only; rw [tb_neg (ilt_f (by simp only [llen]; omega))]
  | succ d ih =>
    intro a m m' acc h ha hacc hm hm'
    obtain ⟨m, rfl⟩ : ∃ q, m = q + 1 := ⟨m - 1, by omega⟩
    obtain ⟨m', rfl⟩ : ∃ q, m' = q + 1 := ⟨m' - 1, by omega⟩
    by_cases hal : a = l.length
    · refine ⟨acc, true, ?_, ?_, by omega⟩
      · rw [spec_Records_k0]; simp only; rw [tb_neg (ilt_f (by simp only [llen]; omega))]
      · rw [impl_Records_k0]; simp only; rw [tb_neg (ilt_f (by simp only [llen]; omega))]
    obtain ⟨r, nx, ok, s1, i1, g⟩ := recordRead l (by omega) hb (a : Int)
    have S : ∀ z, tb (bnot ok) (some ((), [], false, ())) (spec_Records_k0 fuel m (fun v0 => some ((), v0.2.2.1, true, ())) ((l, nx, ()), (), acc ++ [(r.1, r.2.1, r.2.2.1, ())], ())) = z → spec_Records_k0 fuel (m + 1) (fun v0 => some ((), v0.2.2.1, true, ())) ((l, (a : Int), ()), (), acc, ()) = z := fun z hz => by
      rw [spec_Records_k0]
      simp only
      rw [tb_pos (ilt_t (by simp only [llen]; omega)), obind_eq s1]
      simp only
      rw [chk_pos (by simp only [plus, llen, List.length_singleton]; omega)]
      exact hz
    have I : ∀ z, tb (bnot ok) (some ((), [], false, ())) (impl_Records_k0 fuel m' (fun v0 => some ((), v0.2.2.1, true, ())) ((l, nx, ()), (), acc ++ [(r.1, r.2.1, r.2.2.1, ())], ())) = z → impl_Records_k0 fuel (m' + 1) (fun v0 => some ((), v0.2.2.1, true, ())) ((l, (a : Int), ()), (), acc, ()) = z := fun z hz => by
      rw [impl_Records_k0]
      simp only
      rw [tb_pos (ilt_t (by simp only [llen]; omega)), obind_eq i1]
      simp only
      rw [chk_pos (by simp only [plus, llen, List.length_singleton]; omega)]
      exact hz
    cases ok with
    | false => exact ⟨[], false, S _ (by rw [tb_nf]), I _ (by rw [tb_nf]), by simp⟩
    | true =>
      obtain ⟨g1, g2, g3⟩ := g rfl
      obtain ⟨b, rfl⟩ := Int.eq_ofNat_of_zero_le (show 0 ≤ nx by omega)
      obtain ⟨rs, ok, h1, h2, h3⟩ := ih b m m' (acc ++ [(r.1, r.2.1, r.2.2.1, ())]) (by omega) (by omega) (by simp; omega) (by omega) (by omega)
      exact ⟨rs, ok, S _ (by rw [tb_nt]; exact h1), I _ (by rw [tb_nt]; exact h2), h3⟩
theorem records {l : List Int} (hl : l.length ≤ 1000000000) (hb : ∀ y ∈ l, 0 ≤ y ∧ y ≤ 255) : ∃ (rs : List Rc) (ok : Bool), spec_Records (l, ()) = some ((), rs, ok, ()) ∧ impl_Records (l, ()) = some ((), rs, ok, ()) ∧ rs.length ≤ l.length := by
  unfold spec_Records spec_Records_k impl_Records impl_Records_k
  exact records0 hl hb l.length 0 fuel fuel [] (by omega) (by omega) (by simp) (by have := fuel_gt; omega) (by have := fuel_gt; omega)
end Go.Proofs.YtekcpaiphcmfmaaGreat.V
namespace Go.Proofs.YtekcpaiphcmfmaaGreat.V
open Go Go.RowKit
attribute [local irreducible] wr
theorem toList_inj {a b : ByteArray} (h : a.toList = b.toList) : a = b := by
  rw [ByteArray.toList_eq, ByteArray.toList_eq] at h
  exact ByteArray.ext (Array.ext' h)
theorem seq_ne {a b : ByteArray} (h : a ≠ b) : seq a b = false := by
  simp only [seq, beq_eq_false_iff_ne, ne_eq]
  exact fun q => h (toList_inj q)
theorem bl_irrefl : ∀ x : List UInt8, Op.bytesLess x x = false
  | [] => rfl
  | a :: x => by
    have := bl_irrefl x
    simp [Op.bytesLess, this]
theorem bl_trans : ∀ x y z : List UInt8, Op.bytesLess x y = true → Op.bytesLess y z = true → Op.bytesLess x z = true
  | _, [], _, h, _ => by simp [Op.bytesLess] at h
  | _, _ :: _, [], _, h => by simp [Op.bytesLess] at h
  | [], _ :: _, _ :: _, _, _ => rfl
  | a :: x, b :: y, c :: z, h, k => by
    have ih := bl_trans x y z
    simp only [Op.bytesLess, Bool.or_eq_true, Bool.and_eq_true, decide_eq_true_eq, beq_iff_eq, UInt8.lt_iff_toNat_lt] at h k ⊢
    rcases h with h | ⟨rfl, h⟩
    · rcases k with k | ⟨rfl, k⟩
      · exact .inl (by omega)
      · exact .inl h
    · rcases k with k | ⟨rfl, k⟩
      · exact .inl k
      · exact .inr ⟨rfl, ih h k⟩
theorem bl_tri : ∀ x y : List UInt8, Op.bytesLess x y = false → x ≠ y → Op.bytesLess y x = true
  | [], [], _, h => absurd rfl h
  | [], _ :: _, h, _ => by simp [Op.bytesLess] at h
  | _ :: _, [], _, _ => rfl
  | a :: x, b :: y, h, k => by
    have ih := bl_tri x y
    simp only [Op.bytesLess, Bool.or_eq_false_iff, decide_eq_false_iff_not, Bool.and_eq_false_iff, beq_eq_false_iff_ne, UInt8.lt_iff_toNat_lt] at h
    simp only [Op.bytesLess, Bool.or_eq_true, Bool.and_eq_true, decide_eq_true_eq, beq_iff_eq, UInt8.lt_iff_toNat_lt]
    by_cases e : a = b
    · subst e
      refine .inr ⟨rfl, ih ?_ (fun e => k (by rw [e]))⟩
      rcases h.2 with h2 | h2
      · exact absurd rfl h2
      · exact h2
    · have : a.toNat ≠ b.toNat := fun h => e (UInt8.toNat_inj.1 h)
      exact .inl (by omega)
def less (a b : ByteArray) : Bool := Op.bytesLess a.toList b.toList
theorem less_irrefl (a : ByteArray) : less a a = false := bl_irrefl _
theorem less_trans {a b c : ByteArray} (h : less a b = true) (k : less b c = true) : less a c = true := bl_trans _ _ _ h k
theorem less_tri {a b : ByteArray} (h : less a b = false) (k : a ≠ b) : less b a = true := bl_tri _ _ h (fun e => k (toList_inj e))
def Asc (l : List Elt) : Prop := l.Pairwise (fun x y => less x.1 y.1 = true)
def updS (u b : ByteArray) : Bool → List Elt → List Elt
  | put, [] => if put = true then [] else [(u, b, ())]
  | put, e :: l => (if put = false ∧ less e.1 u = false then [(u, b, ())] else []) ++ ((if e.1 = u then [] else [e]) ++ updS u b (put || !less e.1 u) l)
theorem updS_length (u b : ByteArray) : ∀ (put : Bool) (l : List Elt), (updS u b put l).length ≤ l.length + (if put = true then 0 else 1)
  | true, [] => by simp [updS]
  | false, [] => by simp [updS]
  | put, e :: l => by
    have h := updS_length u b (put || !less e.1 u) l
    unfold updS
    rw [List.length_append, List.length_append, List.length_cons]
    have h1 : (if e.1 = u then ([] : List Elt) else [e]).length ≤ 1 := by split <;> simp
    cases put with
    | true => simp at h ⊢; omega
    | false =>
      cases hl : less e.1 u with
      | true => simp [hl] at h ⊢; omega
      | false => simp [hl] at h ⊢; omega
theorem updS_none (u b : ByteArray) : ∀ (l : List Elt), (∀ e ∈ l, e.1 ≠ u) → updS u b true l = l
  | [], _ => rfl
  | e :: l, h => by
    have ih := updS_none u b l (fun x hx => h x (List.mem_cons_of_mem _ hx))
    unfold updS
    rw [if_neg (h e (List.mem_cons_self ..))]
    simp [ih]
def atOf (u : ByteArray) (l : List Elt) : Nat := (l.takeWhile (fun e => less e.1 u)).length
def hasOf (u : ByteArray) (l : List Elt) : Bool := match l.dropWhile (fun e => less e.1 u) with | [] => false | e :: _ => seq e.1 u
def updI (keep : Bool) (u b : ByteArray) (l : List Elt) : List Elt :=
  l.takeWhile (fun e => less e.1 u) ++ ((if keep = true then [(u, b, ())] else []) ++ (if hasOf u l = true then (l.dropWhile (fun e => less e.1 u)).tail else l.dropWhile (fun e => less e.1 u)))
theorem upd_same (keep : Bool) (u b : ByteArray) : ∀ (l : List Elt), Asc l → updS u b (!keep) l = updI keep u b l
  | [], _ => by cases keep <;> rfl
  | e :: l, h => by
    have hl := (List.pairwise_cons.1 h).2
    have hd := (List.pairwise_cons.1 h).1
    have ih := upd_same keep u b l hl
    cases hle : less e.1 u with
    | true =>
      have hne : e.1 ≠ u := fun he => by rw [he, less_irrefl] at hle; cases hle
      unfold updS updI hasOf
      rw [List.takeWhile_cons_of_pos (by exact hle), List.dropWhile_cons_of_pos (by exact hle), if_neg hne, hle]
      unfold updI hasOf at ih
      simp only [Bool.not_true, Bool.or_false, ih]
      simp
    | false =>
      have hno : ∀ x ∈ l, x.1 ≠ u := fun x hx he => by
        have := hd x hx
        rw [he, hle] at this
        cases this
      unfold updS updI hasOf
      rw [List.takeWhile_cons_of_neg (by simp [hle]), List.dropWhile_cons_of_neg (by simp [hle]), hle]
      simp only [Bool.not_false, Bool.or_true, updS_none u b l hno]
      by_cases he : e.1 = u
      · subst he
        cases keep <;> simp [seq_self]
      · cases keep <;> simp [he, seq_ne he]
theorem updS_mem (u b : ByteArray) : ∀ (put : Bool) (l : List Elt) (x : Elt), x ∈ updS u b put l → x ∈ l ∨ x = (u, b, ())
  | put, [], x, h => by
    unfold updS at h
    split at h
    · cases h
    · exact .inr (by simpa using h)
  | put, e :: l, x, h => by
    unfold updS at h
    rcases List.mem_append.1 h with h | h
    · split at h
      · exact .inr (by simpa using h)
      · cases h
    · rcases List.mem_append.1 h with h | h
      · split at h
        · cases h
        · exact .inl (by have : x = e := by simpa using h
                         rw [this]; exact List.mem_cons_self ..)
      · rcases updS_mem u b _ l x h with h | h
        · exact .inl (List.mem_cons_of_mem _ h)
        · exact .inr h
theorem upd_asc (u b : ByteArray) : ∀ (put : Bool) (l : List Elt), Asc l → Asc (updS u b put l)
  | put, [], _ => by
    unfold updS
    split
    · exact List.Pairwise.nil
    · exact List.pairwise_singleton _ _
  | put, e :: l, h => by
    have hl := (List.pairwise_cons.1 h).2
    have hd := (List.pairwise_cons.1 h).1
    cases hle : less e.1 u with
    | true =>
      have hne : e.1 ≠ u := fun he => by rw [he, less_irrefl] at hle; cases hle
      have ih := upd_asc u b put l hl
      unfold updS
      rw [if_neg hne, hle]
      simp only [Bool.not_true, Bool.or_false]
      rw [if_neg (by simp)]
      refine List.pairwise_cons.2 ⟨fun x hx => ?_, ih⟩
      rcases updS_mem u b put l x hx with hx | rfl
      · exact hd x hx
      · exact hle
    | false =>
      have hno : ∀ x ∈ l, x.1 ≠ u := fun x hx he => by
        have := hd x hx
        rw [he, hle] at this
        cases this
      have hul : ∀ x ∈ l, less u x.1 = true := fun x hx => by
        by_cases he : e.1 = u
        · rw [← he]; exact hd x hx
        · exact less_trans (less_tri hle he) (hd x hx)
      unfold updS
      rw [hle]
      simp only [Bool.not_false, Bool.or_true, updS_none u b l hno]
      by_cases he : e.1 = u
      · rw [if_pos he, List.nil_append]
        split
        · exact List.pairwise_cons.2 ⟨hul, hl⟩
        · exact hl
      · rw [if_neg he]
        split
        · refine List.pairwise_cons.2 ⟨fun x hx => ?_, h⟩
          rcases List.mem_cons.1 (show x ∈ e :: l from hx) with rfl | hx
          · exact less_tri hle he
          · exact hul x hx
        · exact h
end Go.Proofs.YtekcpaiphcmfmaaGreat.V
namespace Go.Proofs.YtekcpaiphcmfmaaGreat.V
open Go Go.RowKit
attribute [local irreducible] wr
theorem slt_less (a b : ByteArray) : slt a b = less a b := rfl
theorem spec_k2 {K} (recs : List Rc) (out : List Elt) (i : Nat) (rc : Rc) (hi : recs[i]? = some rc) (ho : out.length ≤ 1000000000) : ∀ (d j m : Nat) (acc : List Elt) (put : Bool), j + d = out.length → acc.length ≤ 2 * j + 1 → d < m →
    ∃ (rest : List Elt) (put' : Bool), spec_IndexOf_k2 fuel m K ((recs, (i : Int), put, (j : Int), ()), (), out, acc, ()) = K ((recs, (i : Int), put', ()), (), acc ++ rest, ()) ∧ (rest ++ if put' = true then [] else [(rc.2.1, rc.2.2.1, ())]) = updS rc.2.1 rc.2.2.1 put (out.drop j) ∧ rest.length ≤ 2 * (out.length - j) := by
  intro d
  induction d with
  | zero =>
    intro j m acc put hj ha hm
    obtain ⟨m, rfl⟩ : ∃ q, m = q + 1 := ⟨m - 1, by omega⟩
    refine ⟨[], put, ?_, ?_, by simp⟩
    · rw [spec_IndexOf_k2]
      simp only
      rw [tb_neg (ilt_f (by simp only [llen]; omega)), List.append_nil]
    · rw [List.drop_eq_nil_of_le (by omega)]
      cases put <;> rfl
  | succ d ih =>
    intro j m acc put hj ha hm
    obtain ⟨m, rfl⟩ : ∃ q, m = q + 1 := ⟨m - 1, by omega⟩
    have hlt : j < out.length := by omega
    obtain ⟨e, he⟩ : ∃ e, out[j]? = some e := ⟨out[j], List.getElem?_eq_getElem hlt⟩
    have hdr : out.drop j = e :: out.drop (j + 1) := by
      rw [List.drop_eq_getElem_cons hlt]; congr 1
      have := List.getElem?_eq_getElem hlt
      rw [he] at this
      exact (Option.some.inj this).symm
    have hie : at? recs ((i : Int)).toNat = some rc := at_some hi
    have hje : at? out ((j : Int)).toNat = some e := at_some he
    have tail : ∀ (acc' : List Elt) (put' : Bool), acc'.length ≤ 2 * j + 2 → ∃ (rest : List Elt) (put2 : Bool),
        tb (bnot (seq e.1 rc.2.1)) (chk (plus (llen acc') (llen [(e.1, e.2.1, ())]) ≤ 4398046511104) (spec_IndexOf_k2 fuel m K ((recs, (i : Int), put', ((j + 1 : Nat) : Int), ()), (), out, lapp acc' [(e.1, e.2.1, ())], ())) none) (spec_IndexOf_k2 fuel m K ((recs, (i : Int), put', ((j + 1 : Nat) : Int), ()), (), out, acc', ())) = K ((recs, (i : Int), put2, ()), (), acc' ++ rest, ()) ∧
        (rest ++ if put2 = true then [] else [(rc.2.1, rc.2.2.1, ())]) = (if e.1 = rc.2.1 then [] else [e]) ++ updS rc.2.1 rc.2.2.1 put' (out.drop (j + 1)) ∧ rest.length ≤ 2 * (out.length - (j + 1)) + 1 := by
      intro acc' put' hl
      by_cases h : e.1 = rc.2.1
      · obtain ⟨rest, put2, h1, h2, h3⟩ := ih (j + 1) m acc' put' (by omega) (by omega) (by omega)
        refine ⟨rest, put2, ?_, ?_, by omega⟩
        · rw [h, seq_self, tb_nt]; exact h1
        · rw [if_pos h, List.nil_append]; exact h2
      · obtain ⟨rest, put2, h1, h2, h3⟩ := ih (j + 1) m (acc' ++ [e]) put' (by omega) (by simp; omega) (by omega)
        refine ⟨e :: rest, put2, ?_, ?_, by simp; omega⟩
        · rw [seq_ne h, tb_nf, chk_pos (by simp only [plus, llen, List.length_singleton]; omega)]
          refine Eq.trans h1 ?_
          rw [List.append_assoc]; rfl
        · rw [if_neg h]; simp only [List.cons_append, List.nil_append]; rw [h2]
    have hw : Hid (wr .i64 ((j : Int) + 1) = ((j + 1 : Nat) : Int)) := ⟨wrn (by omega) (by omega)⟩
    cases put with
    | true =>
      obtain ⟨rest, put2, h1, h2, h3⟩ := tail acc true (by omega)
      refine ⟨rest, put2, ?_, ?_, by omega⟩
      · rw [spec_IndexOf_k2]
        simp only
        rw [tb_pos (ilt_t (by simp only [llen]; omega)), tb_nt, chk_pos (by simp only [llen]; omega), obind_eq hje, chk_pos (by omega), obind_eq hie, chk_pos (by simp only [llen]; omega), obind_eq hje, hw.out]
        exact h1
      · rw [h2, hdr]; simp [updS]
    | false =>
      cases hle : slt e.1 rc.2.1 with
      | true =>
        obtain ⟨rest, put2, h1, h2, h3⟩ := tail acc false (by omega)
        refine ⟨rest, put2, ?_, ?_, by omega⟩
        · rw [spec_IndexOf_k2]
          simp only
          rw [tb_pos (ilt_t (by simp only [llen]; omega)), tb_nf, chk_pos (by simp only [llen]; omega), obind_eq hje, chk_pos (by omega), obind_eq hie, hle, tb_nt, chk_pos (by simp only [llen]; omega), obind_eq hje, chk_pos (by omega), obind_eq hie, chk_pos (by simp only [llen]; omega), obind_eq hje, hw.out]
          exact h1
        · rw [h2, hdr]; simp [updS, ← slt_less, hle]
      | false =>
        obtain ⟨rest, put2, h1, h2, h3⟩ := tail (acc ++ [(rc.2.1, rc.2.2.1, ())]) true (by simp; omega)
        refine ⟨(rc.2.1, rc.2.2.1, ()) :: rest, put2, ?_, ?_, by simp; omega⟩
        · rw [spec_IndexOf_k2]
          simp only
          rw [tb_pos (ilt_t (by simp only [llen]; omega)), tb_nf, chk_pos (by simp only [llen]; omega), obind_eq hje, chk_pos (by omega), obind_eq hie, hle, tb_nf, chk_pos (by omega), obind_eq hie, chk_pos (by omega), obind_eq hie, chk_pos (by simp only [plus, llen, List.length_singleton]; omega), chk_pos (by simp only [llen]; omega), obind_eq hje, chk_pos (by omega), obind_eq hie, chk_pos (by simp only [llen]; omega), obind_eq hje, hw.out]
          refine Eq.trans h1 ?_
          rw [List.append_assoc]; rfl
        · simp only [List.cons_append]
          rw [h2, hdr]; simp [updS, ← slt_less, hle]
theorem entryAt0 {K} (out : List Elt) (u : ByteArray) (ho : out.length ≤ 1000000000) : ∀ (d j m : Nat), j + d = out.length → d < m → impl_entryAt_k0 fuel m K ((out, u, (j : Int), ()), (), ()) = K ((out, u, ((j + atOf u (out.drop j) : Nat) : Int), ()), (), ()) := by
  intro d
  induction d with
  | zero =>
    intro j m hj hm
    obtain ⟨m, rfl⟩ : ∃ q, m = q + 1 := ⟨m - 1, by omega⟩
    rw [List.drop_eq_nil_of_le (by omega), impl_entryAt_k0]
    simp only
    rw [tb_neg (ilt_f (by simp only [llen]; omega))]
    rfl
  | succ d ih =>
    intro j m hj hm
    obtain ⟨m, rfl⟩ : ∃ q, m = q + 1 := ⟨m - 1, by omega⟩
    have hlt : j < out.length := by omega
    have he : out[j]? = some out[j] := List.getElem?_eq_getElem hlt
    rw [List.drop_eq_getElem_cons hlt, impl_entryAt_k0]
    simp only
    rw [tb_pos (ilt_t (by simp only [llen]; omega)), chk_pos (by omega), obind_eq (at_some he), wr_succ (by omega)]
    unfold atOf at ih ⊢
    cases hle : less out[j].1 u with
    | true =>
      rw [slt_less, hle, tb_t, ih (j + 1) m (by omega) (by omega), List.takeWhile_cons_of_pos (by exact hle), List.length_cons]
      congr 5; omega
    | false =>
      rw [slt_less, hle, tb_f, List.takeWhile_cons_of_neg (by simp [hle])]
      rfl
theorem entryAt_eq (out : List Elt) (u : ByteArray) (ho : out.length ≤ 1000000000) : impl_entryAt (out, u, ()) = some ((), ((atOf u out : Nat) : Int), hasOf u out, ()) := by
  unfold impl_entryAt impl_entryAt_k
  have := entryAt0 (K := fun v0 => tb (ilt v0.1.2.2.1 (((llen v0.1.1) : Nat) : Int)) (chk (0 ≤ v0.1.2.2.1) (obind (at? v0.1.1 (Int.toNat v0.1.2.2.1)) fun v1 => some ((), v0.1.2.2.1, (seq v1.1 v0.1.2.1), ())) (none)) (some ((), v0.1.2.2.1, false, ()))) out u ho out.length 0 fuel (by omega) (by have := fuel_gt; omega)
  rw [List.drop_zero, Nat.zero_add] at this
  refine Eq.trans this ?_
  simp only
  have hsplit : out.takeWhile (fun e => less e.1 u) ++ out.dropWhile (fun e => less e.1 u) = out := List.takeWhile_append_dropWhile
  have hl : atOf u out = (out.takeWhile (fun e => less e.1 u)).length := rfl
  unfold hasOf
  cases hd : out.dropWhile (fun e => less e.1 u) with
  | nil =>
    rw [hd, List.append_nil] at hsplit
    rw [tb_neg (ilt_f (by simp only [llen]; rw [hl, hsplit]; omega))]
  | cons e l =>
    rw [hd] at hsplit
    have hx : out[atOf u out]? = some e := by
      conv => lhs; lhs; rw [← hsplit]
      rw [hl]; exact get_split _ _ _
    have := lt_of_get hx
    rw [tb_pos (ilt_t (by simp only [llen]; omega)), chk_pos (by omega), obind_eq (at_some hx)]
end Go.Proofs.YtekcpaiphcmfmaaGreat.V
namespace Go.Proofs.YtekcpaiphcmfmaaGreat.V
open Go Go.RowKit
attribute [local irreducible] wr
theorem insert_at (pre rest : List Elt) (x : Elt) (h : (pre ++ rest).length ≤ 1000000000) : slices_Insert_Entry (pre ++ rest, (pre.length : Int), [x], ()) = some ((), pre ++ ([x] ++ rest), ()) := by
  unfold slices_Insert_Entry insertF
  simp only
  rw [if_pos ⟨by omega, by rw [List.length_append]; omega, by omega⟩, Int.toNat_natCast, List.take_left, List.drop_left]
theorem delete_at (pre suf : List Elt) (h : suf ≠ []) : slices_Delete_Entry (pre ++ suf, (pre.length : Int), ((pre.length + 1 : Nat) : Int), ()) = some ((), pre ++ suf.tail, ()) := by
  have hs : 0 < suf.length := List.length_pos_iff.2 h
  unfold slices_Delete_Entry deleteF
  simp only
  rw [if_pos ⟨by omega, by omega, by rw [List.length_append]; omega⟩, Int.toNat_natCast, List.take_left, ← List.drop_drop, List.drop_left, List.drop_one]
theorem impl_step {K : Unit × Unit × List Elt × Unit → Option (Unit × List Elt × Unit)} (recs : List Rc) (out : List Elt) (i m : Nat) (rc : Rc) (hi : recs[i]? = some rc) (hr : recs.length ≤ 1000000000) (ho : out.length ≤ 999999998) :
    impl_IndexOf_k0 fuel (m + 1) K ((recs, (recs.length : Int), (i : Int), ()), (), out, ()) = impl_IndexOf_k0 fuel m K ((recs, (recs.length : Int), ((i + 1 : Nat) : Int), ()), (), updI (ieq rc.1 1) rc.2.1 rc.2.2.1 out, ()) := by
  have hlt := lt_of_get hi
  obtain ⟨pre, hpre⟩ : ∃ pre, pre = out.takeWhile (fun e => less e.1 rc.2.1) := ⟨_, rfl⟩
  obtain ⟨suf, hsuf⟩ : ∃ suf, suf = out.dropWhile (fun e => less e.1 rc.2.1) := ⟨_, rfl⟩
  have hsplit : pre ++ suf = out := by rw [hpre, hsuf]; exact List.takeWhile_append_dropWhile
  have hat := entryAt_eq out rc.2.1 (by omega)
  rw [show atOf rc.2.1 out = pre.length by rw [hpre]; rfl] at hat
  have hol : pre.length + suf.length = out.length := by rw [← hsplit, List.length_append]
  rw [impl_IndexOf_k0]
  simp only
  rw [tb_pos (ilt_t (by omega)), chk_pos (by omega), obind_eq (at_some hi)]
  rw [obind_eq hat]
  simp only
  unfold updI
  rw [← hpre, ← hsuf, wr_succ (i := pre.length) (by omega), wr_succ (i := i) (by omega)]
  cases hh : hasOf rc.2.1 out with
  | true =>
    have hne : suf ≠ [] := fun e => by
      unfold hasOf at hh
      rw [← hsuf, e] at hh
      cases hh
    have hd := delete_at pre suf hne
    rw [hsplit] at hd
    rw [tb_t, obind_eq hd]
    simp only
    cases hk : ieq rc.1 1 with
    | true =>
      rw [tb_t, obind_eq (insert_at pre suf.tail (rc.2.1, rc.2.2.1, ()) (by rw [List.length_append, List.length_tail]; omega))]
      simp
    | false => rw [tb_f]; simp
  | false =>
    rw [tb_f]
    cases hk : ieq rc.1 1 with
    | true =>
      have hin := insert_at pre suf (rc.2.1, rc.2.2.1, ()) (by rw [hsplit]; omega)
      rw [hsplit] at hin
      rw [tb_t, obind_eq hin]
      simp
    | false => rw [tb_f]; simp [hsplit]
theorem spec_step {K : Unit × Unit × List Elt × Unit → Option (Unit × List Elt × Unit)} (recs : List Rc) (out : List Elt) (i m : Nat) (rc : Rc) (hi : recs[i]? = some rc) (hr : recs.length ≤ 1000000000) (ho : out.length ≤ 999999998) :
    spec_IndexOf_k0 fuel (m + 1) K ((recs, (i : Int), ()), (), out, ()) = spec_IndexOf_k0 fuel m K ((recs, ((i + 1 : Nat) : Int), ()), (), updS rc.2.1 rc.2.2.1 (bnot (ieq rc.1 1)) out, ()) := by
  have hlt := lt_of_get hi
  rw [spec_IndexOf_k0]
  simp only
  rw [tb_pos (ilt_t (by simp only [llen]; omega)), chk_pos (by omega), obind_eq (at_some hi)]
  obtain ⟨rest, put', h1, h2, h3⟩ := spec_k2 (K := fun v1 =>
          tb (bnot v1.1.2.2.1)
          (chk (0 ≤ v1.1.2.1) (obind (at? v1.1.1 (Int.toNat v1.1.2.1)) fun v2 =>
              chk (0 ≤ v1.1.2.1) (obind (at? v1.1.1 (Int.toNat v1.1.2.1)) fun v3 =>
                chk ((plus (llen v1.2.2.1) (llen [(v2.2.1, v3.2.2.1, ())])) ≤ 4398046511104) (spec_IndexOf_k0 fuel m K ((v1.1.1, (wr .i64 (v1.1.2.1 + 1)), ()), (), (lapp v1.2.2.1 [(v2.2.1, v3.2.2.1, ())]), ())) (none)) (none)) (none))
          (spec_IndexOf_k0 fuel m K ((v1.1.1, (wr .i64 (v1.1.2.1 + 1)), ()), (), v1.2.2.1, ()))) recs out i rc hi (by omega) out.length 0 fuel [] (bnot (ieq rc.1 1)) (by omega) (by simp) (by have := fuel_gt; omega)
  rw [List.drop_zero] at h2
  refine Eq.trans h1 ?_
  simp only [List.nil_append]
  rw [wr_succ (by omega)]
  cases put' with
  | true =>
    rw [tb_nt, ← h2, if_pos rfl, List.append_nil]
  | false =>
    rw [tb_nf, chk_pos (by omega), obind_eq (at_some hi), chk_pos (by omega), obind_eq (at_some hi), chk_pos (by simp only [plus, llen, List.length_singleton]; omega), ← h2]
    simp only [lapp, Bool.false_eq_true, if_false]
theorem index_both (recs : List Rc) (hn : recs.length ≤ 999999990) : ∀ (d i m m' : Nat) (out : List Elt), i + d = recs.length → out.length ≤ i → Asc out → d < m → d < m' →
    ∃ R : List Elt, spec_IndexOf_k0 fuel m (fun v0 => some ((), v0.2.2.1, ())) ((recs, (i : Int), ()), (), out, ()) = some ((), R, ()) ∧ impl_IndexOf_k0 fuel m' (fun v0 => some ((), v0.2.2.1, ())) ((recs, (recs.length : Int), (i : Int), ()), (), out, ()) = some ((), R, ()) ∧ R.length ≤ recs.length := by
  intro d
  induction d with
  | zero =>
    intro i m m' out hi ho ha hm hm'
    obtain ⟨m, rfl⟩ : ∃ q, m = q + 1 := ⟨m - 1, by omega⟩
    obtain ⟨m', rfl⟩ : ∃ q, m' = q + 1 := ⟨m' - 1, by omega⟩
    refine ⟨out, ?_, ?_, by omega⟩
    · rw [spec_IndexOf_k0]; simp only; rw [tb_neg (ilt_f (by simp only [llen]; omega))]
    · rw [impl_IndexOf_k0]; simp only; rw [tb_neg (ilt_f (by omega))]
  | succ d ih =>
    intro i m m' out hi ho ha hm hm'
    obtain ⟨m, rfl⟩ : ∃ q, m = q + 1 := ⟨m - 1, by omega⟩
    obtain ⟨m', rfl⟩ : ∃ q, m' = q + 1 := ⟨m' - 1, by omega⟩
    have hx : recs[i]? = some recs[i] := List.getElem?_eq_getElem (by omega)
    have hsame := upd_same (ieq recs[i].1 1) recs[i].2.1 recs[i].2.2.1 out ha
    have hasc := upd_asc recs[i].2.1 recs[i].2.2.1 (bnot (ieq recs[i].1 1)) out ha
    have hlen := updS_length recs[i].2.1 recs[i].2.2.1 (bnot (ieq recs[i].1 1)) out
    have hlen2 : (updS recs[i].2.1 recs[i].2.2.1 (bnot (ieq recs[i].1 1)) out).length ≤ i + 1 := by
      have : (if (bnot (ieq recs[i].1 1)) = true then 0 else 1) ≤ 1 := by split <;> omega
      omega
    rw [spec_step recs out i m _ hx (by omega) (by omega), impl_step recs out i m' _ hx (by omega) (by omega), ← hsame]
    exact ih (i + 1) m m' _ (by omega) hlen2 hasc (by omega) (by omega)
theorem indexBoth (recs : List Rc) (hn : recs.length ≤ 999999990) : ∃ R : List Elt, spec_IndexOf (recs, ()) = some ((), R, ()) ∧ impl_IndexOf (recs, ()) = some ((), R, ()) ∧ R.length ≤ recs.length := by
  unfold spec_IndexOf spec_IndexOf_k impl_IndexOf impl_IndexOf_k
  exact index_both recs hn recs.length 0 fuel fuel [] (by omega) (by simp) List.Pairwise.nil (by have := fuel_gt; omega) (by have := fuel_gt; omega)
end Go.Proofs.YtekcpaiphcmfmaaGreat.V
namespace Go.Proofs.YtekcpaiphcmfmaaGreat.V
open Go Go.RowKit
attribute [local irreducible] wr
def areaByte (d : Dk) (area a : Nat) : Int := bt (secF d ((2 + 64 * area + a / 64 : Nat) : Int)) ((a % 64 : Nat) : Int)
def areaBytes (d : Dk) (area a n : Nat) : List Int := (List.range n).map fun i => areaByte d area (a + i)
theorem areaBytes_length (d : Dk) (area a n : Nat) : (areaBytes d area a n).length = n := by simp [areaBytes]
theorem areaBytes_add (d : Dk) (area a n m : Nat) : areaBytes d area a (n + m) = areaBytes d area a n ++ areaBytes d area (a + n) m := by
  unfold areaBytes
  rw [List.range_add, List.map_append, List.map_map]
  congr 1
  apply List.map_congr_left
  intro i _
  simp [Nat.add_assoc]
theorem bytes_scut (s : ByteArray) (a n : Nat) (h : a + n ≤ s.size) : bytesOf (scut s a (a + n)) = (List.range n).map fun i => bt s ((a + i : Nat) : Int) := by
  apply List.ext_getElem?
  intro i
  have e : bytesOf (scut s a (a + n)) = lcut (bytesOf s) a (a + n) := by
    simp only [bytesOf, scut, ByteArray.data_extract, Array.toList_extract, List.extract_eq_take_drop, lcut, List.map_take, List.map_drop, List.drop_take]
  rw [e, lcut_get]
  by_cases hi : i < n
  · rw [if_pos (by omega), bytes_get (by omega)]
    simp [hi]
  · rw [if_neg (by omega), List.getElem?_eq_none (by simp; omega)]
theorem bt_range (s : ByteArray) (i : Int) : 0 ≤ bt s i ∧ bt s i ≤ 255 := by
  unfold bt
  split
  · rename_i h
    have := (s[i.toNat]).toNat_lt
    omega
  · omega
theorem areaBytes_range (d : Dk) (area a n : Nat) : ∀ y ∈ areaBytes d area a n, 0 ≤ y ∧ y ≤ 255 := by
  intro y hy
  simp only [areaBytes, List.mem_map] at hy
  obtain ⟨i, _, rfl⟩ := hy
  exact bt_range _ _
theorem area_sec {area x : Nat} (h : area ≤ 1) (hx : x ≤ 4095) : wr .i64 ((wr .i64 (2 + wr .i64 (64 * (area : Int)))) + wr .i64 (Int.tdiv (x : Int) 64)) = ((2 + 64 * area + x / 64 : Nat) : Int) := by
  rw [Int.tdiv_eq_ediv_of_nonneg (by omega), wrn (x := 64 * (area : Int)) (n := 64 * area) (by omega) (by omega), wrn (x := 2 + ((64 * area : Nat) : Int)) (n := 2 + 64 * area) (by omega) (by omega), wrn (x := (x : Int) / 64) (n := x / 64) (by omega) (by omega)]
  exact wrn (by omega) (by omega)
theorem area_mod (x : Nat) : Int.tmod (x : Int) 64 = ((x % 64 : Nat) : Int) := by rw [Int.tmod_eq_emod_of_nonneg (by omega)]; omega
theorem spec_area {d : Dk} (hd : diskOk d = true) {area a n : Nat} (ha : area ≤ 1) (hf : a + n ≤ 4096) : spec_l16Get ((d.1, d.2.1, ()), (area : Int), (a : Int), (n : Int), ()) = some ((), areaBytes d area a n, ()) := by
  have hl := diskOk_len hd
  have key : ∀ (r i m : Nat), i + r = n → r < m → spec_l16Get_k0 fuel m (fun v0 => some ((), v0.2.2.1, ())) (((area : Int), (a : Int), (n : Int), (i : Int), ()), (((d.1, d.2.1, ()), ()), areaBytes d area a i, ())) = some ((), areaBytes d area a n, ()) := by
    intro r
    induction r with
    | zero =>
      intro i m h hm
      obtain ⟨m, rfl⟩ : ∃ q, m = q + 1 := ⟨m - 1, by omega⟩
      obtain rfl : i = n := by omega
      rw [spec_l16Get_k0]
      simp only
      rw [tb_neg (ilt_f (by omega))]
    | succ r ih =>
      intro i m h hm
      obtain ⟨m, rfl⟩ : ∃ q, m = q + 1 := ⟨m - 1, by omega⟩
      have hw : Hid (wr .i64 ((a : Int) + (i : Int)) = ((a + i : Nat) : Int)) := ⟨wrn (by omega) (by omega)⟩
      have hs := secF_size (at' := ((2 + 64 * area + (a + i) / 64 : Nat) : Int)) hd (by omega) (by omega)
      rw [spec_l16Get_k0]
      simp only [hw.out]
      rw [tb_pos (ilt_t (by omega)), chk_neg (by decide), area_sec ha (by omega), obind_eq (spec_sec (by omega) (by omega) (by omega))]
      simp only [area_mod]
      rw [chk_neg (by decide), chk_pos (by simp only [slen, hs]; omega), chk_pos (by simp only [plus, llen, areaBytes_length, List.length_singleton]; omega), wr_succ (by omega)]
      have e : lapp (areaBytes d area a i) [bt (secF d ((2 + 64 * area + (a + i) / 64 : Nat) : Int)) (((a + i) % 64 : Nat) : Int)] = areaBytes d area a (i + 1) := by
        rw [areaBytes_add]; rfl
      rw [e]
      exact ih (i + 1) m (by omega) (by omega)
  unfold spec_l16Get spec_l16Get_k
  exact key n 0 fuel (by omega) (by have := fuel_gt; omega)
theorem impl_area {d : Dk} (hd : diskOk d = true) {area a n : Nat} (ha : area ≤ 1) (hf : a + n ≤ 4096) : impl_Disk_area ((d.1, d.2.1, ()), (area : Int), (a : Int), (n : Int), ()) = some ((), areaBytes d area a n, ()) := by
  have hl := diskOk_len hd
  have key : ∀ (r c m : Nat), c ≤ n → n - c ≤ r → r < m → impl_Disk_area_k0 fuel m (fun v0 => some ((), v0.2.2.1, ())) (((d.1, d.2.1, ()), (area : Int), ((a + c : Nat) : Int), ((n - c : Nat) : Int), ()), ((), areaBytes d area a c, ())) = some ((), areaBytes d area a n, ()) := by
    intro r
    induction r with
    | zero =>
      intro c m hc h hm
      obtain ⟨m, rfl⟩ : ∃ q, m = q + 1 := ⟨m - 1, by omega⟩
      obtain rfl : c = n := by omega
      rw [impl_Disk_area_k0]
      simp only
      rw [tb_neg (ilt_f (by omega))]
    | succ r ih =>
      intro c m hc h hm
      obtain ⟨m, rfl⟩ : ∃ q, m = q + 1 := ⟨m - 1, by omega⟩
      by_cases h0 : c = n
      · subst h0
        rw [impl_Disk_area_k0]
        simp only
        rw [tb_neg (ilt_f (by omega))]
      obtain ⟨f, hf1⟩ : ∃ f, f = (a + c) % 64 := ⟨_, rfl⟩
      obtain ⟨p, hp⟩ : ∃ p, p = min (n - c) (64 - f) := ⟨_, rfl⟩
      have hw : Hid (wr .i64 (64 - (f : Int)) = ((64 - f : Nat) : Int)) := ⟨wrn (by omega) (by omega)⟩
      have hmn : Hid (mn ((n - c : Nat) : Int) ((64 - f : Nat) : Int) = (p : Int)) := ⟨by rw [mn_nat, hp]⟩
      have hw2 : Hid (wr .i64 ((f : Int) + (p : Int)) = ((f + p : Nat) : Int)) := ⟨wrn (by omega) (by omega)⟩
      have hw3 : Hid (wr .i64 (((a + c : Nat) : Int) + (p : Int)) = ((a + (c + p) : Nat) : Int)) := ⟨wrn (by omega) (by omega)⟩
      have hw4 : Hid (wr .i64 (((n - c : Nat) : Int) - (p : Int)) = ((n - (c + p) : Nat) : Int)) := ⟨wrn (by omega) (by omega)⟩
      have hs := secF_size (at' := ((2 + 64 * area + (a + c) / 64 : Nat) : Int)) hd (by omega) (by omega)
      have hsec := impl_sec (d := d) (at' := ((2 + 64 * area + (a + c) / 64 : Nat) : Int)) (by omega) (by omega) (by omega)
      rw [impl_Disk_area_k0]
      simp only [impl_first, impl_first_k, obind_some, area_mod, ← hf1, hw.out, hmn.out, hw2.out, hw3.out, hw4.out]
      rw [tb_pos (ilt_t (by omega)), chk_neg (by decide), area_sec ha (by omega), chk_neg (by decide), obind_eq hsec]
      simp only [Int.toNat_natCast]
      have hb := bytes_scut (secF d ((2 + 64 * area + (a + c) / 64 : Nat) : Int)) f p (by rw [hs]; omega)
      have hz : llen (bytesOf (scut (secF d ((2 + 64 * area + (a + c) / 64 : Nat) : Int)) f (f + p))) = p := by rw [hb]; simp [llen]
      rw [chk_pos (by simp only [slen, hs]; omega), chk_pos (by rw [hz]; simp only [plus, llen, areaBytes_length]; omega)]
      have e : lapp (areaBytes d area a c) (bytesOf (scut (secF d ((2 + 64 * area + (a + c) / 64 : Nat) : Int)) f (f + p))) = areaBytes d area a (c + p) := by
        rw [areaBytes_add, hb]
        show _ ++ _ = _ ++ _
        congr 1
        unfold areaBytes areaByte
        apply List.map_congr_left
        intro i hi
        have hi : i < p := by simpa using hi
        have e1 : (a + c + i) / 64 = (a + c) / 64 := by omega
        have e2 : (a + c + i) % 64 = f + i := by omega
        rw [e1, e2]
      rw [e]
      exact ih (c + p) m (by omega) (by omega) (by omega)
  unfold impl_Disk_area impl_Disk_area_k
  exact key n 0 fuel (by omega) (by omega) (by have := fuel_gt; omega)
end Go.Proofs.YtekcpaiphcmfmaaGreat.V
namespace Go.Proofs.YtekcpaiphcmfmaaGreat.V
open Go Go.RowKit
attribute [local irreducible] wr
def fitsA' (area at' n : Int) : Bool := decide ((0 ≤ area ∧ area ≤ 1) ∧ (0 ≤ at' ∧ at' ≤ 4096) ∧ (0 ≤ n ∧ n ≤ 4096 - at'))
theorem isArea_eq (x : Int) : (tb (ieq x 0) (some ((), true, ())) (some ((), ieq x 1, ())) : Option (Unit × (Bool × Unit))) = some ((), decide (0 ≤ x ∧ x ≤ 1), ()) := by
  by_cases h : x = 0
  · rw [tb_pos (ieq_t h), decide_eq_true (by omega)]
  · rw [tb_neg (ieq_f h)]
    by_cases h1 : x = 1
    · rw [ieq_t h1, decide_eq_true (by omega)]
    · rw [ieq_f h1, decide_eq_false (by omega)]
theorem impl_isArea' (x : Int) : impl_isArea (x, ()) = some ((), decide (0 ≤ x ∧ x ≤ 1), ()) := isArea_eq x
theorem impl_fits (area at' n : Int) : impl_fitsArea (area, at', n, ()) = some ((), fitsA' area at' n, ()) := by
  simp only [impl_fitsArea, impl_fitsArea_k, impl_isArea', obind_some, impl_in]
  unfold fitsA'
  by_cases h1 : 0 ≤ area ∧ area ≤ 1
  rotate_left
  · rw [tb_neg (decide_eq_false h1), decide_eq_false (fun q => h1 q.1)]
  rw [tb_pos (decide_eq_true h1)]
  by_cases h2 : 0 ≤ at' ∧ at' ≤ 4096
  rotate_left
  · rw [tb_neg (decide_eq_false h2), decide_eq_false (fun q => h2 q.2.1)]
  rw [tb_pos (decide_eq_true h2), wr64 (by omega) (by omega)]
  congr 3
  simp [h1, h2]
end Go.Proofs.YtekcpaiphcmfmaaGreat.V
namespace Go.Proofs.YtekcpaiphcmfmaaGreat.V
open Go Go.RowKit
attribute [local irreducible] wr
def zs : ByteArray := strOf (List.replicate 64 0)
end Go.Proofs.YtekcpaiphcmfmaaGreat.V
namespace Go.Proofs.YtekcpaiphcmfmaaGreat.V
open Go Go.RowKit
attribute [local irreducible] wr
abbrev En : Type := ByteArray × ByteArray × Unit
abbrev Ar : Type := Bool × Dk × Hd × List En × Unit
theorem eqEntry : EqOk (fun (v u : En) => laws_eqEntry ((v.1, v.2.1, ()), (u.1, u.2.1, ()), ())) (fun _ => True) := by
  intro v _
  simp only [laws_eqEntry, laws_eqEntry_k, seq_self, tb_nt]
theorem eqEntryS : EqOk (fun xs ys => laws_eqEntryS (xs, ys, ())) (BL (fun _ => True)) :=
  eqS_ok fuel_gt (fun _ _ => rfl) (k := laws_eqEntryS_k0 fuel) (fun _ _ _ => rfl) eqEntry
theorem eqHead (h : Hd) : laws_eqHead ((h.1, h.2.1, h.2.2.1, ()), (h.1, h.2.1, h.2.2.1, ()), ()) = some ((), true, ()) := by
  simp only [laws_eqHead, laws_eqHead_k, ieq_self, tb_nt]
theorem eqArchive {a : Ar} (h1 : a.2.1.1.length ≤ 140737488351232) (h2 : a.2.1.2.1.length ≤ 140737488351232) (h3 : a.2.2.2.1.length ≤ 140737488351232) :
    laws_eqArchive ((a.1, (a.2.1.1, a.2.1.2.1, ()), (a.2.2.1.1, a.2.2.1.2.1, a.2.2.1.2.2.1, ()), a.2.2.2.1, ()), (a.1, (a.2.1.1, a.2.1.2.1, ()), (a.2.2.1.1, a.2.2.1.2.1, a.2.2.1.2.2.1, ()), a.2.2.2.1, ()), ()) = some ((), true, ()) := by
  have e1 := eqDisk (d := a.2.1) h1 h2
  have e2 : laws_eqEntryS (a.2.2.2.1, a.2.2.2.1, ()) = some ((), true, ()) := eqEntryS a.2.2.2.1 ⟨h3, fun _ _ => trivial⟩
  have e3 := eqHead a.2.2.1
  unfold laws_eqArchive laws_eqArchive_k
  simp only
  rw [beq_self, tb_nt, obind_eq e1]
  simp only
  rw [tb_nt, obind_eq e3]
  simp only
  rw [tb_nt, obind_eq e2]
  rfl
end Go.Proofs.YtekcpaiphcmfmaaGreat.V
namespace Go.Proofs.YtekcpaiphcmfmaaGreat.V
open Go Go.RowKit
attribute [local irreducible] wr
theorem szEntry : SzOk (fun (v : En) s => laws_szEntry ((v.1, v.2.1, ()), s, ())) (fun v => ByteArray.size v.1 ≤ 140737488351232 ∧ ByteArray.size v.2.1 ≤ 140737488351232) (fun v => ByteArray.size v.1 + ByteArray.size v.2.1) := by
  intro v s hB h0 h1
  have hw : wr .i64 (s - ((slen v.1 : Nat) : Int)) = s - (v.1.size : Int) := wr64 (by simp only [slen]; omega) (by simp only [slen]; omega)
  have hw2 : wr .i64 (s - (v.1.size : Int) - ((slen v.2.1 : Nat) : Int)) = s - (v.1.size : Int) - (v.2.1.size : Int) := wr64 (by simp only [slen]; omega) (by simp only [slen]; omega)
  simp only [laws_szEntry, laws_szEntry_k, hw, hw2]
  by_cases h : s - (v.1.size : Int) < 0
  · exact ⟨-1, tb_pos (ilt_t h) _ _, .inl (by omega)⟩
  · rw [tb_neg (ilt_f (by omega))]
    by_cases h2 : s - (v.1.size : Int) - (v.2.1.size : Int) < 0
    · exact ⟨-1, tb_pos (ilt_t h2) _ _, .inl (by omega)⟩
    · exact ⟨_, tb_neg (ilt_f (by omega)) _ _, .inr (by omega)⟩
theorem szEntryS : SzOk (fun xs s => laws_szEntryS (xs, s, ())) (BL (fun v : En => ByteArray.size v.1 ≤ 140737488351232 ∧ ByteArray.size v.2.1 ≤ 140737488351232)) (wL (fun v : En => ByteArray.size v.1 + ByteArray.size v.2.1)) :=
  szS_ok fuel_gt (fun _ _ => rfl) (k := laws_szEntryS_k0 fuel) (fun _ _ _ => rfl) szEntry
theorem toEntryS : ToOk (fun xs => laws_toEntryS (xs, ())) (fun xs => xs.length ≤ 1048576 ∧ ∀ x ∈ xs, True) :=
  toS_ok fuel_gt (by decide) (fun _ => rfl) (k := laws_toEntryS_k0 fuel) (e := fun v : En => laws_toEntry ((v.1, v.2.1, ()), ())) (fun _ _ _ => rfl) (fun _ _ => rfl)
def ArB (a : Ar) : Prop := DkB a.2.1 ∧ BL (fun v : En => ByteArray.size v.1 ≤ 140737488351232 ∧ ByteArray.size v.2.1 ≤ 140737488351232) a.2.2.2.1
def arW (a : Ar) : Nat := dkW a.2.1 + wL (fun v : En => ByteArray.size v.1 + ByteArray.size v.2.1) a.2.2.2.1
theorem szArchive : SzOk (fun (a : Ar) s => laws_szArchive ((a.1, (a.2.1.1, a.2.1.2.1, ()), (a.2.2.1.1, a.2.2.1.2.1, a.2.2.1.2.2.1, ()), a.2.2.2.1, ()), s, ())) ArB arW := by
  intro a s hB h0 h1
  obtain ⟨r, e1, e2⟩ := szDisk a.2.1 s hB.1 h0 h1
  simp only at e1
  unfold laws_szArchive laws_szArchive_k
  simp only
  rw [obind_eq e1]
  simp only
  rcases e2 with e2 | ⟨e2, e3⟩
  · exact ⟨-1, tb_pos (ilt_t e2) _ _, .inl (by omega)⟩
  · rw [tb_neg (ilt_f e2)]
    obtain ⟨r', g1, g2⟩ := szEntryS a.2.2.2.1 r hB.2 e2 (by omega)
    simp only at g1
    rw [obind_eq g1]
    simp only
    rcases g2 with g2 | ⟨g2, g3⟩
    · exact ⟨-1, tb_pos (ilt_t g2) _ _, .inl (by omega)⟩
    · exact ⟨r', tb_neg (ilt_f g2) _ _, .inr ⟨g2, by simp only [arW]; omega⟩⟩
theorem toArchive {a : Ar} (h : arW a ≤ 1048576) : laws_toArchive ((a.1, (a.2.1.1, a.2.1.2.1, ()), (a.2.2.1.1, a.2.2.1.2.1, a.2.2.1.2.2.1, ()), a.2.2.2.1, ()), ()) = some ((), a, ()) := by
  have hd : dkW a.2.1 ≤ 1048576 := by simp only [arW] at h; omega
  have e1 := toDisk hd
  have e2 : laws_toEntryS (a.2.2.2.1, ()) = some ((), a.2.2.2.1, ()) := toEntryS a.2.2.2.1 ⟨by simp only [arW, wL] at h; omega, fun _ _ => trivial⟩
  have e3 : laws_toHead ((a.2.2.1.1, a.2.2.1.2.1, a.2.2.1.2.2.1, ()), ()) = some ((), a.2.2.1, ()) := rfl
  unfold laws_toArchive laws_toArchive_k
  simp only
  rw [obind_eq e1]
  simp only
  rw [obind_eq e3]
  simp only
  rw [obind_eq e2]
theorem bnd_ar {a : Ar} (h : Bnd S30 a) : ArB a := ⟨⟨⟨h.2.1.1.1, h.2.1.1.2⟩, ⟨h.2.1.2.1.1, fun x hx => (h.2.1.2.1.2 x hx).2.1⟩⟩, ⟨h.2.2.2.1.1, fun x hx => ⟨(h.2.2.2.1.2 x hx).1, (h.2.2.2.1.2 x hx).2.1⟩⟩⟩
theorem same0 {a b : List En} (hab : a.length = b.length) (hl : a.length ≤ 1000000000) : ∀ (d i m m' : Nat), i + d = a.length → d < m → d < m' →
    ∃ r : Bool, spec_l18SameList_k0 fuel m (fun v0 => some ((), true, ())) ((a, b, (i : Int), ()), (), ()) = some ((), r, ()) ∧ slices_Equal_Entry_k0 fuel m' (fun v0 => some ((), true, ())) ((a, b, (a.length : Int), (i : Int), ()), (), ()) = some ((), r, ()) := by
  intro d
  induction d with
  | zero =>
    intro i m m' hi hm hm'
    obtain ⟨m, rfl⟩ : ∃ q, m = q + 1 := ⟨m - 1, by omega⟩
    obtain ⟨m', rfl⟩ : ∃ q, m' = q + 1 := ⟨m' - 1, by omega⟩
    refine ⟨true, ?_, ?_⟩
    · rw [spec_l18SameList_k0]; simp only; rw [tb_neg (ilt_f (by simp only [llen]; omega))]
    · rw [slices_Equal_Entry_k0]; simp only; rw [tb_neg (ilt_f (by omega))]
  | succ d ih =>
    intro i m m' hi hm hm'
    obtain ⟨m, rfl⟩ : ∃ q, m = q + 1 := ⟨m - 1, by omega⟩
    obtain ⟨m', rfl⟩ : ∃ q, m' = q + 1 := ⟨m' - 1, by omega⟩
    obtain ⟨x, hx⟩ : ∃ x, a[i]? = some x := ⟨a[i], List.getElem?_eq_getElem (by omega)⟩
    obtain ⟨y, hy⟩ : ∃ y, b[i]? = some y := ⟨b[i], List.getElem?_eq_getElem (by omega)⟩
    obtain ⟨r, h1, h2⟩ := ih (i + 1) m m' (by omega) (by omega) (by omega)
    cases hq : band (seq x.1 y.1) (band (seq x.2.1 y.2.1) true) with
    | false =>
      refine ⟨false, ?_, ?_⟩
      · rw [spec_l18SameList_k0]; simp only; rw [tb_pos (ilt_t (by simp only [llen]; omega)), chk_pos (by omega), obind_eq (at_some hx), chk_pos (by omega), obind_eq (at_some hy), hq, tb_nf]
      · rw [slices_Equal_Entry_k0]; simp only; rw [tb_pos (ilt_t (by omega)), chk_pos (by omega), obind_eq (at_some hx), chk_pos (by omega), obind_eq (at_some hy), hq, tb_nf]
    | true =>
      refine ⟨r, ?_, ?_⟩
      · rw [spec_l18SameList_k0]; simp only; rw [tb_pos (ilt_t (by simp only [llen]; omega)), chk_pos (by omega), obind_eq (at_some hx), chk_pos (by omega), obind_eq (at_some hy), hq, tb_nt, wr_succ (by omega)]; exact h1
      · rw [slices_Equal_Entry_k0]; simp only; rw [tb_pos (ilt_t (by omega)), chk_pos (by omega), obind_eq (at_some hx), chk_pos (by omega), obind_eq (at_some hy), hq, tb_nt, wr_succ (by omega)]; exact h2
theorem sameBoth (a b : List En) (hl : a.length ≤ 1000000000) : ∃ r : Bool, spec_l18SameList (a, b, ()) = some ((), r, ()) ∧ slices_Equal_Entry (a, b, ()) = some ((), r, ()) := by
  unfold spec_l18SameList spec_l18SameList_k slices_Equal_Entry slices_Equal_Entry_k
  simp only
  by_cases h : a.length = b.length
  · rw [ieq_t (by simp only [llen]; omega), tb_nt]
    obtain ⟨r, h1, h2⟩ := same0 h hl a.length 0 fuel fuel (by omega) (by have := fuel_gt; omega) (by have := fuel_gt; omega)
    rw [show ((0 : Nat) : Int) = 0 from rfl] at h1 h2
    rw [show ((llen a : Nat) : Int) = (a.length : Int) from rfl]
    exact ⟨r, h1, h2⟩
  · rw [ieq_f (by simp only [llen]; omega), tb_nf]
    exact ⟨false, rfl, rfl⟩
theorem archiveOk {a : Ar} (hs : dkSmall a.2.1) : ∃ r : Bool, spec_ArchiveOk ((a.1, (a.2.1.1, a.2.1.2.1, ()), (a.2.2.1.1, a.2.2.1.2.1, a.2.2.1.2.2.1, ()), a.2.2.2.1, ()), ()) = some ((), r, ()) ∧ impl_ArchiveOk ((a.1, (a.2.1.1, a.2.1.2.1, ()), (a.2.2.1.1, a.2.2.1.2.1, a.2.2.1.2.2.1, ()), a.2.2.2.1, ()), ()) = some ((), r, ()) := by
  have l1 := hs.1
  have l2 := hs.2
  unfold spec_ArchiveOk spec_ArchiveOk_k impl_ArchiveOk impl_ArchiveOk_k
  simp only
  rw [obind_eq (spec_ok a.2.1 (by omega) (by omega))]
  simp only
  by_cases hlate : 0 < a.2.1.2.1.length
  · refine ⟨false, ?_, ?_⟩
    · cases diskOk a.2.1
      · rw [tb_nf]
      · rw [tb_nt, tb_pos (ilt_t (by simp only [llen]; omega))]
    · rw [tb_pos (ilt_t (by simp only [llen]; omega))]
  rw [ilt_f (show ((llen a.2.1.2.1 : Nat) : Int) ≤ 0 by simp only [llen]; omega), tb_f, tb_f, obind_eq (impl_ok a.2.1 (by omega) (by omega))]
  simp only
  cases hd : diskOk a.2.1
  · exact ⟨false, by rw [tb_nf], by rw [tb_nf]⟩
  rw [tb_nt, tb_nt]
  cases hup : a.1
  · rw [tb_nf, tb_nf]
    cases band (ieq a.2.2.1.1 0) (band (ieq a.2.2.1.2.1 0) (band (ieq a.2.2.1.2.2.1 0) true))
    · exact ⟨false, by rw [tb_f], by rw [tb_f]⟩
    · exact ⟨_, by rw [tb_t], by rw [tb_t]⟩
  rw [tb_nt, tb_nt, obind_eq (spec_right ..), obind_eq (impl_right ..)]
  simp only
  cases hr : headRight a.2.2.1.1 a.2.2.1.2.1 a.2.2.1.2.2.1
  · exact ⟨false, by rw [tb_nf], by rw [tb_nf]⟩
  rw [tb_nt, tb_nt]
  obtain ⟨h, h1, h2, -⟩ := headNow hs
  rw [obind_eq h1, obind_eq h2]
  simp only
  cases hq : band (ieq h.1 a.2.2.1.1) (band (ieq h.2.1 a.2.2.1.2.1) (band (ieq h.2.2.1 a.2.2.1.2.2.1) true))
  · exact ⟨false, by rw [tb_nf], by rw [tb_nf]⟩
  rw [tb_nt, tb_nt]
  simp only [headRight, decide_eq_true_eq] at hr
  obtain ⟨hno, har, hend⟩ := hr
  obtain ⟨area, e1⟩ := Int.eq_ofNat_of_zero_le har.1
  obtain ⟨n, e2⟩ := Int.eq_ofNat_of_zero_le hend.1
  have hsp := spec_area hd (area := area) (a := 0) (n := n) (by omega) (by omega)
  have him := impl_area hd (area := area) (a := 0) (n := n) (by omega) (by omega)
  have hb := areaBytes_range a.2.1 area 0 n
  have hbl : (areaBytes a.2.1 area 0 n).length ≤ 1000000000 := by rw [areaBytes_length]; omega
  obtain ⟨rs, ok, r1, r2, r3⟩ := records hbl hb
  obtain ⟨R, i1, i2, i3⟩ := indexBoth rs (by rw [areaBytes_length] at r3; omega)
  obtain ⟨b, s1, s2⟩ := sameBoth R a.2.2.2.1 (by rw [areaBytes_length] at r3; omega)
  have hbytes : spec_l18Bytes ((a.2.1.1, a.2.1.2.1, ()), (a.2.2.1.1, a.2.2.1.2.1, a.2.2.1.2.2.1, ()), ()) = some ((), areaBytes a.2.1 area 0 n, ()) := by
    unfold spec_l18Bytes spec_l18Bytes_k
    simp only
    rw [e1, e2]
    exact (congrArg (fun z => obind z fun v0 => some ((), v0.2.1, ())) hsp).trans rfl
  have hget : impl_AreaGet ((a.2.1.1, a.2.1.2.1, ()), a.2.2.1.2.1, 0, a.2.2.1.2.2.1, ()) = some ((), areaBytes a.2.1 area 0 n, true, ()) := by
    unfold impl_AreaGet impl_AreaGet_k
    simp only
    rw [obind_eq (impl_fits ..)]
    simp only
    have hf : fitsA' a.2.2.1.2.1 0 a.2.2.1.2.2.1 = true := decide_eq_true ⟨har, by omega, by omega⟩
    rw [hf, tb_nt, obind_eq (impl_ok a.2.1 (by omega) (by omega))]
    simp only
    rw [hd, tb_nt, e1, e2]
    exact (congrArg (fun z => obind z fun v2 => some ((), v2.2.1, true, ())) him).trans rfl
  have hlist : impl_listOf ((a.2.1.1, a.2.1.2.1, ()), (a.2.2.1.1, a.2.2.1.2.1, a.2.2.1.2.2.1, ()), ()) = some ((), R, ok, ()) := by
    unfold impl_listOf impl_listOf_k
    simp only
    rw [obind_eq hget]
    simp only
    rw [tb_nt, obind_eq r2]
    simp only
    rw [obind_eq i2]
  rw [obind_eq hbytes, obind_eq hlist]
  simp only
  rw [obind_eq r1]
  simp only
  cases ok
  · exact ⟨false, by rw [tb_f], by rw [tb_f]⟩
  · rw [tb_t, tb_t, obind_eq i1]
    simp only
    rw [obind_eq s1, obind_eq s2]
    exact ⟨b, rfl, rfl⟩
end Go.Proofs.YtekcpaiphcmfmaaGreat.V
namespace Go.Proofs.YtekcpaiphcmfmaaGreat.V
open Go Go.RowKit
attribute [local irreducible] wr
def mkEn (_ : En) (m : Int) : En × Int := ((mt m, mt (m + 1), ()), m + 2)
theorem mkEn_le (x : En) (m : Int) (_ : True) (_ : 0 ≤ m) (_ : m + ((2 : Nat) : Int) ≤ 1099511627776) : m ≤ (mkEn x m).2 ∧ (mkEn x m).2 ≤ m + ((2 : Nat) : Int) := by
  simp only [mkEn]; omega
theorem markEntryS_step : MarkStep (laws_markEntryS_k0 fuel) mkEn (fun _ => True) (fun _ => 2) := by
  refine ⟨fun n K m i xs h => ?_, fun n K m i xs x hx hl hB h0 h1 => ?_⟩
  · rw [laws_markEntryS_k0]
    simp only
    rw [tb_neg (ilt_f (by simp only [llen]; omega))]
  · have hi := lt_of_get hx
    rw [laws_markEntryS_k0]
    simp only
    rw [tb_pos (ilt_t (by simp only [llen]; omega)), obind_eq (markText h0 (by omega)), chk_pos (by simp only [llen]; omega), obind_eq (at_some hx), wr64 (n := m + 1) (by omega) (by omega), obind_eq (markText (by omega) (by omega)), chk_pos (by simp only [llen, lset, List.length_set]; omega),
      obind_eq (at_some (x := (mt m, x.2)) (by simp [lset, hi])), wr64 (by omega) (by omega), wr_succ (by omega)]
    simp [lset, mkEn, Int.add_assoc]
theorem mkEn_row {l : List En} {m : Int} (h0 : 0 ≤ m) (h1 : m + 2 * l.length ≤ 1099511627776) : m ≤ (marksL mkEn l m).2 ∧ (marksL mkEn l m).2 ≤ m + 2 * l.length := by
  have := marksL_le (B := fun _ => True) (w := fun _ => 2) mkEn_le l m (fun _ _ => trivial) h0 (by rw [sumL_const]; omega)
  rw [sumL_const] at this
  omega
theorem markEntryS {l : List En} {m : Int} (h0 : 0 ≤ m) (hl : l.length ≤ 140737488351232) (h1 : m + 2 * l.length ≤ 1099511627776) : laws_markEntryS (l, m, ()) = some (((marksL mkEn l m).1, ()), (marksL mkEn l m).2, ()) := by
  have := mark_loop markEntryS_step (B := fun _ => True) (w := fun _ => 2) mkEn_le (fun v0 => some ((v0.2.2.1, ()), v0.1.1, ())) l [] m fuel (fun _ _ => trivial) h0 (by rw [sumL_const]; omega) (by simpa using hl) (by have := fuel_gt; omega)
  simpa [laws_markEntryS, laws_markEntryS_k] using this
def mkAr (a : Ar) (m : Int) : Ar × Int := ((a.1, (mkDk a.2.1 m).1, a.2.2.1, (marksL mkEn a.2.2.2.1 (mkDk a.2.1 m).2).1, ()), (marksL mkEn a.2.2.2.1 (mkDk a.2.1 m).2).2)
def arSmall (a : Ar) : Prop := dkSmall a.2.1 ∧ a.2.2.2.1.length ≤ 1048577
theorem mkAr_le {a : Ar} {m : Int} (hs : dkSmall a.2.1) (hl : a.2.2.2.1.length ≤ 1048577) (h0 : 0 ≤ m) (h1 : m ≤ 1000000000) : m ≤ (mkAr a m).2 ∧ (mkAr a m).2 ≤ m + 10000000 := by
  have l1 := hs.1
  have l2 := hs.2
  have a1 := mkDk_le (d := a.2.1) (m := m) h0 (by omega)
  have a2 := mkEn_row (l := a.2.2.2.1) (m := (mkDk a.2.1 m).2) (by omega) (by omega)
  simp only [mkAr]; omega
theorem markArchive {a : Ar} {m : Int} (hs : dkSmall a.2.1) (hl : a.2.2.2.1.length ≤ 1048577) (h0 : 0 ≤ m) (h1 : m ≤ 1000000000) :
    laws_markArchive ((a.1, (a.2.1.1, a.2.1.2.1, ()), (a.2.2.1.1, a.2.2.1.2.1, a.2.2.1.2.2.1, ()), a.2.2.2.1, ()), m, ()) = some ((((), (mkAr a m).1.2.1, ((), (), (), ()), (mkAr a m).1.2.2.2.1, ()), ()), (mkAr a m).2, ()) := by
  have l1 := hs.1
  have l2 := hs.2
  have a1 := mkDk_le (d := a.2.1) (m := m) h0 (by omega)
  unfold laws_markArchive laws_markArchive_k
  simp only
  rw [obind_eq (markDisk (d := a.2.1) (m := m) h0 (by omega) (by omega) (by omega))]
  simp only
  rw [obind_eq (markEntryS (l := a.2.2.2.1) (m := (mkDk a.2.1 m).2) (by omega) (by omega) (by omega))]
  rfl
end Go.Proofs.YtekcpaiphcmfmaaGreat.V
namespace Go.Proofs.YtekcpaiphcmfmaaGreat.V
open Go Go.RowKit
attribute [local irreducible] wr
def codeF (ok up : Bool) : Int := if ok = true then (if up = true then 0 else 2) else 1
theorem upCode {a : Ar} {r : Bool} (h : impl_ArchiveOk ((a.1, (a.2.1.1, a.2.1.2.1, ()), (a.2.2.1.1, a.2.2.1.2.1, a.2.2.1.2.2.1, ()), a.2.2.2.1, ()), ()) = some ((), r, ())) : impl_upCode ((a.1, (a.2.1.1, a.2.1.2.1, ()), (a.2.2.1.1, a.2.2.1.2.1, a.2.2.1.2.2.1, ()), a.2.2.2.1, ()), ()) = some ((), codeF r a.1, ()) := by
  unfold impl_upCode impl_upCode_k
  simp only
  rw [obind_eq h]
  simp only
  cases r
  · rw [tb_nf]; rfl
  · rw [tb_nt]
    cases a.1
    · rw [tb_nf]; rfl
    · rw [tb_nt]; rfl
end Go.Proofs.YtekcpaiphcmfmaaGreat.V
namespace Go.Proofs.YtekcpaiphcmfmaaGreat.V
open Go Go.RowKit
attribute [local irreducible] wr
theorem impl_urls0 {l : List En} (hl : l.length ≤ 1048577) (K : (Unit × (Unit × ((List ByteArray) × Unit))) → Option (Unit × ((List ByteArray) × Int × Unit))) : ∀ (d i m : Nat) (acc : List ByteArray), i + d = l.length → acc.length = i → d < m →
    impl_ArchiveUrls_k0 fuel m K ((l, (l.length : Int), (i : Int), ()), (), acc, ()) = K ((), (), acc ++ (l.drop i).map (fun v => v.1), ()) := by
  intro d
  induction d with
  | zero =>
    intro i m acc hi ha hm
    obtain ⟨m, rfl⟩ : ∃ q, m = q + 1 := ⟨m - 1, by omega⟩
    rw [impl_ArchiveUrls_k0]
    simp only
    rw [tb_neg (ilt_f (by omega)), List.drop_eq_nil_of_le (by omega), List.map_nil, List.append_nil]
  | succ d ih =>
    intro i m acc hi ha hm
    obtain ⟨m, rfl⟩ : ∃ q, m = q + 1 := ⟨m - 1, by omega⟩
    obtain ⟨x, hx⟩ : ∃ x, l[i]? = some x := ⟨l[i], List.getElem?_eq_getElem (by omega)⟩
    have e : l.drop i = x :: l.drop (i + 1) := by
      obtain ⟨hi2, hx2⟩ := List.getElem?_eq_some_iff.1 hx
      rw [List.drop_eq_getElem_cons hi2, hx2]
    rw [impl_ArchiveUrls_k0]
    simp only
    rw [tb_pos (ilt_t (by omega)), chk_pos (by omega), obind_eq (at_some hx), chk_pos (by simp only [plus, llen, List.length_singleton]; omega), wr_succ (by omega)]
    have := ih (i + 1) m (acc ++ [x.1]) (by omega) (by simp [ha]) (by omega)
    rw [e, List.map_cons]
    refine this.trans ?_
    rw [List.append_assoc]; rfl
theorem spec_urls0 {b : Bool} {s : List ByteArray} {p : List Pt} {n1 n2 n3 : Int} {l : List En} (hl : l.length ≤ 1048577) (K : (Unit × (Unit × ((List ByteArray) × Unit))) → Option (Unit × ((List ByteArray) × Int × Unit))) : ∀ (d i m : Nat) (acc : List ByteArray), i + d = l.length → acc.length = i → d < m →
    spec_ArchiveUrls_k1 fuel m K (((i : Int), ()), ((b, s, p, n1, n2, n3, l, ()), ()), acc, ()) = K ((), (), acc ++ (l.drop i).map (fun v => v.1), ()) := by
  intro d
  induction d with
  | zero =>
    intro i m acc hi ha hm
    obtain ⟨m, rfl⟩ : ∃ q, m = q + 1 := ⟨m - 1, by omega⟩
    rw [spec_ArchiveUrls_k1]
    simp only
    rw [tb_neg (ilt_f (by simp only [llen]; omega)), List.drop_eq_nil_of_le (by omega), List.map_nil, List.append_nil]
  | succ d ih =>
    intro i m acc hi ha hm
    obtain ⟨m, rfl⟩ : ∃ q, m = q + 1 := ⟨m - 1, by omega⟩
    obtain ⟨x, hx⟩ : ∃ x, l[i]? = some x := ⟨l[i], List.getElem?_eq_getElem (by omega)⟩
    have e : l.drop i = x :: l.drop (i + 1) := by
      obtain ⟨hi2, hx2⟩ := List.getElem?_eq_some_iff.1 hx
      rw [List.drop_eq_getElem_cons hi2, hx2]
    rw [spec_ArchiveUrls_k1]
    simp only
    rw [tb_pos (ilt_t (by simp only [llen]; omega)), chk_pos (by omega), obind_eq (at_some hx), chk_pos (by simp only [plus, llen, List.length_singleton]; omega), wr_succ (by omega)]
    have := ih (i + 1) m (acc ++ [x.1]) (by omega) (by simp [ha]) (by omega)
    rw [e, List.map_cons]
    refine this.trans ?_
    rw [List.append_assoc]; rfl
theorem urls {a : Ar} (h : arSmall a) : ∃ (r : List ByteArray) (c : Int), spec_ArchiveUrls ((a.1, (a.2.1.1, a.2.1.2.1, ()), (a.2.2.1.1, a.2.2.1.2.1, a.2.2.1.2.2.1, ()), a.2.2.2.1, ()), ()) = some ((), r, c, ()) ∧ impl_ArchiveUrls ((a.1, (a.2.1.1, a.2.1.2.1, ()), (a.2.2.1.1, a.2.2.1.2.1, a.2.2.1.2.2.1, ()), a.2.2.2.1, ()), ()) = some ((), r, c, ()) ∧ r.length ≤ 1048577 := by
  obtain ⟨b, h1, h2⟩ := archiveOk (a := a) h.1
  unfold spec_ArchiveUrls spec_ArchiveUrls_k impl_ArchiveUrls impl_ArchiveUrls_k
  simp only
  rw [obind_eq h1, obind_eq (upCode h2)]
  simp only
  cases b
  · exact ⟨[], 1, by rw [tb_nf], by rw [show codeF false a.1 = 1 from rfl, ieq_f (by omega), tb_nf], by simp⟩
  · rw [tb_nt]
    cases hu : a.1
    · exact ⟨[], 2, by rw [tb_nf], by rw [show codeF true false = 2 from rfl, ieq_f (by omega), tb_nf], by simp⟩
    · rw [tb_nt, show codeF true true = 0 from rfl, ieq_self, tb_nt]
      refine ⟨a.2.2.2.1.map (fun v => v.1), 0, ?_, ?_, by rw [List.length_map]; exact h.2⟩
      · exact spec_urls0 h.2 _ a.2.2.2.1.length 0 fuel [] (by omega) rfl (by have := fuel_gt; have := h.2; omega)
      · exact impl_urls0 h.2 _ a.2.2.2.1.length 0 fuel [] (by omega) rfl (by have := fuel_gt; have := h.2; omega)
theorem eqStrS {l : List ByteArray} (h : l.length ≤ 1048577) : laws_eqStringS (l, l, ()) = some ((), true, ()) := eqStringS l ⟨by omega, fun _ _ => trivial⟩
theorem FnExactArchiveUrls_pure (x0 : Ar) (h0 : Bnd S30 x0) : laws_FnExactArchiveUrls (x0, ()) = some ((), true, ()) := by
  unfold laws_FnExactArchiveUrls laws_FnExactArchiveUrls_k
  simp only
  obtain ⟨s, e1, e2⟩ := szArchive x0 1048576 (bnd_ar h0) (by omega) (by omega)
  simp only at e1
  rw [obind_eq e1]
  simp only
  rcases e2 with e2 | ⟨e2, e3⟩
  · exact tb_pos (ilt_t e2) _ _
  have hw : arW x0 ≤ 1048576 := by omega
  have hs : dkSmall x0.2.1 := dkSmall_of (by simp only [arW] at hw; omega)
  have hl : x0.2.2.2.1.length ≤ 1048577 := by simp only [arW, wL] at hw; omega
  obtain ⟨r, c, f1, f2, g1⟩ := urls (a := x0) ⟨hs, hl⟩
  have t := toArchive hw
  have q := eqArchive (a := x0) (by have := hs.1; omega) (by have := hs.2; omega) (by omega)
  have q2 := eqStrS g1
  have m1 := markArchive (a := x0) (m := 1) hs hl (by omega) (by omega)
  have m2 := markStringS (l := r) (m := 1) (by omega) (by omega) (by omega)
  have l1 := mkAr_le (a := x0) (m := 1) hs hl (by omega) (by omega)
  have l2 := mkStr_row (l := r) (m := 1) (by omega) (by omega)
  have h2 := heldStringS (l := r) (m := 1) (by omega) (by omega) (by omega)
  rw [tb_neg (ilt_f e2), obind_eq t]
  simp only
  rw [obind_eq f1]
  simp only
  rw [obind_eq t]
  simp only
  rw [obind_eq f2]
  simp only
  rw [obind_eq q2]
  simp only
  rw [tb_nt, ieq_self, tb_nt, obind_eq t]
  simp only
  rw [obind_eq q]
  simp only
  rw [tb_nt, obind_eq m1]
  simp only
  rw [tb_neg (ilt_f (by omega)), obind_eq q2]
  simp only
  rw [tb_nt, tb_nt, obind_eq m2]
  simp only
  rw [obind_eq h2]
  simp only
  rw [tb_neg (ilt_f (by omega)), ieq_self, tb_nt, obind_eq t]
  simp only
  rw [obind_eq f2]
  simp only
  rw [obind_eq q2]
  simp only
  rw [tb_nt, ieq_self, tb_nt, obind_eq h2]
  simp only
  rw [tb_neg (ilt_f (by omega)), ieq_self, tb_nt]
end Go.Proofs.YtekcpaiphcmfmaaGreat.V
