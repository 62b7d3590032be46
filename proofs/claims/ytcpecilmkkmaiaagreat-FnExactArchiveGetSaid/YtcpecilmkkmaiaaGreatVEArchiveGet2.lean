/- The functions that FnExactArchiveGet reaches, each as a plain function, and the plain law about them: the statement answers true at every input. No condition beyond those that stand in each theorem. -/
import Derived.Test.YtcpecilmkkmaiaaGreatVEArchiveGet1
set_option linter.unusedVariables false
set_option linter.unusedSimpArgs false
noncomputable section
namespace Go.Proofs.YtcpecilmkkmaiaaGreat.V
open Go Go.RowKit
attribute [local irreducible] wr
attribute [local go_sem] Zg2 Zfc Zaf0 Zafz
abbrev At := ByteArray × ByteArray × Unit
abbrev Nd := Int × ByteArray × List At × ByteArray × Int × List Int × Unit
def Zad4 (x : Int) : Bool := decide (x = 9 ∨ x = 10 ∨ x = 12 ∨ x = 32)
theorem Zum (x : Int) : Znj (x, ()) = some ((), Zad4 x, ()) := by
  unfold Znj Zni Zad4
  by_cases h1 : x = 9
  · simp (disch := omega) only [go_sem]
  by_cases h2 : x = 10
  · simp (disch := omega) only [go_sem]
  by_cases h3 : x = 12
  · simp (disch := omega) only [go_sem]
  by_cases h4 : x = 32 <;> simp (disch := omega) only [go_sem]
theorem Zaj1 (x : Int) : Zsw (x, ()) = some ((), Zad4 x, ()) := Zum x
def Zah7 (x : Int) : Bool := decide ((x = 9 ∨ x = 10 ∨ x = 12 ∨ x = 32) ∨ x = 47 ∨ x = 62 ∨ x = 0 ∨ (65 ≤ x ∧ x ≤ 90))
theorem Zah6 (x : Int) : Zol (x, ()) = some ((), Zah7 x, ()) := by
  unfold Zol Zok Zah7
  simp (disch := omega) only [go_sem, Zaj1, Zad4]
  by_cases h1 : x = 9 ∨ x = 10 ∨ x = 12 ∨ x = 32
  · simp (disch := omega) only [go_sem]
  by_cases h2 : x = 47
  · simp (disch := omega) only [go_sem]
  by_cases h3 : x = 62
  · simp (disch := omega) only [go_sem]
  by_cases h4 : x = 0
  · simp (disch := omega) only [go_sem]
  by_cases h5 : 65 ≤ x ∧ x ≤ 90 <;> simp (disch := omega) only [go_sem]
def Zny (l : List Int) : Bool := l.all fun y => !Zah7 y
def Zac3 (s : ByteArray) : Bool := decide (1 ≤ s.size ∧ s.size ≤ 60) && (decide (97 ≤ bt s 0 ∧ bt s 0 ≤ 122) && (Zmx s && Zny (bytesOf s)))
theorem Zaih {s : ByteArray} (hs : s.size ≤ 140737488355328) : ∀ n i, i ≤ s.size → s.size - i < n → Zdl fuel n (fun v2 => some ((), true, ())) ((s, (i : Int), ()), (), ()) = some ((), Zny ((bytesOf s).drop i), ()) := by
  refine Zfq (L := fun n (i : Nat) => Zdl fuel n (fun v2 => some ((), true, ())) ((s, (i : Int), ()), (), ())) (fun i => i ≤ s.size) (fun i => s.size - i) (fun i => some ((), Zny ((bytesOf s).drop i), ())) (fun n i hi => ?_)
  rw [Zdl]
  by_cases h : i < s.size
  · have hb := Z77 h
    have hr := Zad3 s (i : Int)
    rw [Zbf hb]
    by_cases ho : Zah7 (bt s (i : Int)) = true
    · refine .inl ?_
      simp only [Zny, List.all_cons, ho, Bool.not_true, Bool.false_and]
      have ho := of_decide_eq_true ho
      simp (disch := omega) only [go_sem, Zum, Zad4]
      by_cases h1 : bt s (i : Int) = 9 ∨ bt s (i : Int) = 10 ∨ bt s (i : Int) = 12 ∨ bt s (i : Int) = 32
      · simp (disch := omega) only [go_sem]
      by_cases h2 : bt s (i : Int) = 47
      · simp (disch := omega) only [go_sem]
      by_cases h3 : bt s (i : Int) = 62
      · simp (disch := omega) only [go_sem]
      by_cases h4 : bt s (i : Int) = 0
      · simp (disch := omega) only [go_sem]
      simp (disch := omega) only [go_sem]
    · refine .inr ⟨i + 1, by omega, by omega, ?_, ?_⟩
      · rw [Bool.not_eq_true] at ho
        simp only [Zny, List.all_cons, ho, Bool.not_false, Bool.true_and]
      · have ho := of_decide_eq_false (Bool.not_eq_true _ ▸ ho)
        by_cases h5 : 65 ≤ bt s (i : Int)
        · simp (disch := omega) only [go_sem, Zum, Zad4]
          rfl
        · simp (disch := omega) only [go_sem, Zum, Zad4]
          rfl
  · refine .inl ?_
    rw [List.drop_eq_nil_of_le (by rw [Zdb]; omega)]
    simp (disch := omega) only [go_sem]
    rfl
theorem Zaii {s : ByteArray} (hs : s.size ≤ 140737488355328) : ∀ n i, i ≤ s.size → s.size - i < n → Ze2 fuel n (fun v2 => some ((), true, ())) (((s.size : Int), (i : Int), ()), (), bytesOf s, ()) = some ((), Zny ((bytesOf s).drop i), ()) := by
  refine Zfq (L := fun n (i : Nat) => Ze2 fuel n (fun v2 => some ((), true, ())) (((s.size : Int), (i : Int), ()), (), bytesOf s, ())) (fun i => i ≤ s.size) (fun i => s.size - i) (fun i => some ((), Zny ((bytesOf s).drop i), ())) (fun n i hi => ?_)
  rw [Ze2]
  by_cases h : i < s.size
  · have hb := Z77 h
    have hr := Zad3 s (i : Int)
    rw [Zbf hb]
    simp (disch := omega) only [go_sem, Zdb, hb, Zah6]
    cases ho : Zah7 (bt s (i : Int))
    · refine .inr ⟨i + 1, by omega, by omega, ?_, ?_⟩
      · simp only [Zny, List.all_cons, ho, Bool.not_false, Bool.true_and]
      · simp (disch := omega) only [go_sem]
        rfl
    · refine .inl ?_
      simp only [Zny, List.all_cons, ho, Bool.not_true, Bool.false_and]
      simp (disch := omega) only [go_sem]
  · refine .inl ?_
    rw [List.drop_eq_nil_of_le (by rw [Zdb]; omega)]
    simp (disch := omega) only [go_sem]
    rfl
theorem Zagg (s : ByteArray) : Zmj (s, ()) = some ((), Zac3 s, ()) := by
  unfold Zmj Zpr Zac3
  by_cases h : 1 ≤ s.size ∧ s.size ≤ 60
  · have := Zaih (s := s) (by omega) fuel 0 (by omega) (by have := Zl; omega)
    simp only [List.drop_zero, Int.cast_ofNat_Int] at this
    simp (disch := omega) only [go_sem, this, Bool.true_and]
    cases Zmx s
    · simp only [go_sem, Bool.false_and, Bool.and_false]
    · by_cases h1 : bt s 0 < 97
      · simp (disch := omega) only [go_sem, Bool.false_and]
      by_cases h2 : 122 < bt s 0
      · simp (disch := omega) only [go_sem, Bool.false_and]
      simp (disch := omega) only [go_sem, this, Bool.true_and]
  · simp (disch := omega) only [go_sem, Bool.false_and]
theorem Zagh (s : ByteArray) : Zhj (s, ()) = some ((), Zac3 s, ()) := by
  unfold Zhj Zqp Zac3
  by_cases h : 1 ≤ s.size ∧ s.size ≤ 60
  · have := Zaii (s := s) (by omega) fuel 0 (by omega) (by have := Zl; omega)
    simp only [List.drop_zero, Int.cast_ofNat_Int] at this
    simp (disch := omega) only [go_sem, this, Bool.true_and]
    by_cases h1 : bt s 0 < 97
    · simp (disch := omega) only [go_sem, Bool.false_and]
    by_cases h2 : 122 < bt s 0
    · simp (disch := omega) only [go_sem, Bool.false_and]
    simp (disch := omega) only [go_sem, Bool.true_and]
    cases Zmx s
    · simp only [go_sem, Bool.false_and, Bool.and_false]
    · simp (disch := omega) only [go_sem, Zdb, this, Bool.true_and]
  · simp (disch := omega) only [go_sem, Bool.false_and]
def Zad9 (a : At) : Bool := decide (1 ≤ a.1.size ∧ a.1.size ≤ 60) && (decide (a.2.1.size ≤ 3000) && (Zmx a.1 && Zmx a.2.1))
theorem Zag0 (a : At) : Zq3 (a, ()) = some ((), Zad9 a, ()) := by
  unfold Zq3 Zpk Zad9
  by_cases h : 1 ≤ a.1.size ∧ a.1.size ≤ 60
  · by_cases h2 : a.2.1.size ≤ 3000
    · simp (disch := omega) only [go_sem, Bool.true_and]
      cases Zmx a.1 <;> simp only [go_sem, Bool.true_and, Bool.false_and]
    · simp (disch := omega) only [go_sem, Bool.true_and, Bool.false_and]
  · simp (disch := omega) only [go_sem, Bool.false_and]
theorem Zag1 (a : At) : Zrm (a, ()) = some ((), Zad9 a, ()) := by
  unfold Zrm Zqk Zad9
  by_cases h : 1 ≤ a.1.size ∧ a.1.size ≤ 60
  · by_cases h2 : a.2.1.size ≤ 3000
    · simp (disch := omega) only [go_sem, Bool.true_and]
      cases Zmx a.1 <;> simp only [go_sem, Bool.true_and, Bool.false_and]
    · simp (disch := omega) only [go_sem, Bool.true_and, Bool.false_and]
  · simp (disch := omega) only [go_sem, Bool.false_and]
def fstAt (s : ByteArray) : List At → Nat
  | [] => 0
  | a :: l => if seq a.1 s = true then 0 else fstAt s l + 1
theorem Z0h {s : ByteArray} : ∀ {l : List At} {i : Nat} {a : At}, l[i]? = some a → seq a.1 s = true → fstAt s l ≤ i
  | [], i, a, h, _ => by simp at h
  | b :: l, 0, a, h, hs => by
    have e : b = a := by simpa using h
    unfold fstAt
    rw [e, if_pos hs]; exact Nat.le_refl 0
  | b :: l, i + 1, a, h, hs => by
    have := Z0h (l := l) (i := i) (by simpa using h) hs
    unfold fstAt
    split <;> omega
theorem Zadu {s : ByteArray} : ∀ {l : List At}, fstAt s l < l.length → ∃ a, l[fstAt s l]? = some a ∧ seq a.1 s = true
  | [], h => by simp [fstAt] at h
  | b :: l, h => by
    unfold fstAt at h ⊢
    split
    · rename_i hs; exact ⟨b, by simp, hs⟩
    · rename_i hs
      rw [if_neg hs] at h
      obtain ⟨a, h1, h2⟩ := Zadu (s := s) (l := l) (by simp only [List.length_cons] at h; omega)
      exact ⟨a, by simpa using h1, h2⟩
def attrI (l : List At) (s : ByteArray) : Int := if fstAt s l < l.length then (fstAt s l : Int) else -1
theorem fst_impl0 (l : List At) (s : ByteArray) (hl : l.length ≤ 140737488351000) : ∀ n i, i ≤ l.length ∧ i ≤ fstAt s l → l.length - i < n → Zf fuel n (fun v0 => some ((), (-1), ())) ((l, s, (l.length : Int), (i : Int), ()), (), ()) = some ((), attrI l s, ()) := by
  refine Zfq (L := fun n (i : Nat) => Zf fuel n (fun v0 => some ((), (-1), ())) ((l, s, (l.length : Int), (i : Int), ()), (), ())) (fun i => i ≤ l.length ∧ i ≤ fstAt s l) (fun i => l.length - i) (fun i => some ((), attrI l s, ())) (fun n i hi => ?_)
  rw [Zf]
  by_cases h : i < l.length
  · obtain ⟨a, ha⟩ := Zbj h
    unfold Zqm Zmb
    simp (disch := omega) only [go_sem, ha]
    cases hs : seq a.1 s
    · refine .inr ⟨i + 1, ⟨by omega, ?_⟩, by omega, by simp only [go_sem]; rfl⟩
      rcases Nat.lt_or_ge i (fstAt s l) with q | q
      · omega
      · have e : fstAt s l = i := by omega
        obtain ⟨b, hb1, hb2⟩ := Zadu (s := s) (l := l) (by omega)
        rw [e, ha] at hb1
        obtain rfl := Option.some.inj hb1
        rw [hs] at hb2; cases hb2
    · refine .inl ?_
      have := Z0h ha hs
      simp only [go_sem, attrI]
      rw [show fstAt s l = i by omega, if_pos h]
  · refine .inl ?_
    simp (disch := omega) only [go_sem, attrI, if_neg]
theorem Zag2 (l : List At) (s : ByteArray) (hl : l.length ≤ 140737488351000) : Zrn (l, s, ()) = some ((), attrI l s, ()) := by
  unfold Zrn Zql Zs Zr
  have := fst_impl0 l s hl fuel 0 ⟨by omega, by omega⟩ (by have := Zl; omega)
  simp only [Int.cast_ofNat_Int] at this
  simp only [go_sem, this]
def Zh5 (l : List At) : Nat → Nat → Bool
  | 0, _ => true
  | d + 1, i => match l[i]? with
    | none => true
    | some a => Zad9 a && (decide (fstAt a.1 l = i) && Zh5 l d (i + 1))
def Z4c (l : List At) : Bool := decide (l.length ≤ 20) && Zh5 l l.length 0
theorem Zagz (l : List At) (hl : l.length ≤ 20) : ∀ n i, i ≤ l.length → l.length - i < n → Zd9 fuel n (fun v0 => some ((), true, ())) ((l, l, (l.length : Int), (i : Int), ()), (), ()) = some ((), Zh5 l (l.length - i) i, ()) := by
  refine Zfq (L := fun n (i : Nat) => Zd9 fuel n (fun v0 => some ((), true, ())) ((l, l, (l.length : Int), (i : Int), ()), (), ())) (fun i => i ≤ l.length) (fun i => l.length - i) (fun i => some ((), Zh5 l (l.length - i) i, ())) (fun n i hi => ?_)
  rw [Zd9]
  by_cases h : i < l.length
  · obtain ⟨a, ha⟩ := Zbj h
    have hle := Z0h ha (Zg8 _)
    have e1 : attrI l a.1 = (fstAt a.1 l : Int) := by unfold attrI; rw [if_pos (by omega)]
    obtain ⟨d, hd⟩ : ∃ d, l.length - i = d + 1 := ⟨l.length - i - 1, by omega⟩
    rw [hd, Zh5, ha]
    simp (disch := omega) only [go_sem, ha, Zag2, e1]
    by_cases hq : fstAt a.1 l = i
    · simp (disch := omega) only [go_sem, Zag1, hq, decide_true, Bool.true_and]
      cases Zad9 a
      · simp only [go_sem, Bool.false_and]
        exact .inl trivial
      · refine .inr ⟨i + 1, by omega, by omega, ?_, by simp (disch := omega) only [go_sem]; rfl⟩
        simp only [Bool.true_and]
        rw [show l.length - (i + 1) = d by omega]
    · refine .inl ?_
      simp (disch := omega) only [go_sem, hq, decide_false, Bool.false_and, Bool.and_false]
  · refine .inl ?_
    rw [show l.length - i = 0 by omega, Zh5]
    simp (disch := omega) only [go_sem]
theorem Zad8 (l : List At) : Zfs (l, ()) = some ((), Z4c l, ()) := by
  unfold Zfs Zo1 Z4c
  by_cases h : l.length ≤ 20
  · have := Zagz l h fuel 0 (by omega) (by have := Zl; omega)
    simp only [Int.cast_ofNat_Int, Nat.sub_zero] at this
    simp (disch := omega) only [go_sem, this, Bool.true_and]
  · simp (disch := omega) only [go_sem, Bool.false_and]
theorem Zagx (l : List At) (hl : l.length ≤ 20) {i : Nat} {a : At} (ha : l[i]? = some a) (K) : ∀ n k, k ≤ i ∧ k ≤ fstAt a.1 l → i - k < n → Zd2 fuel n K ((l, (i : Int), (k : Int), ()), (), ()) = if fstAt a.1 l = i then K ((l, (i : Int), ()), (), ()) else some ((), false, ()) := by
  refine Zfq (L := fun n (k : Nat) => Zd2 fuel n K ((l, (i : Int), (k : Int), ()), (), ())) (fun k => k ≤ i ∧ k ≤ fstAt a.1 l) (fun k => i - k) (fun k => if fstAt a.1 l = i then K ((l, (i : Int), ()), (), ()) else some ((), false, ())) (fun n k hk => ?_)
  rw [Zd2]
  have hi := Zt ha
  have hle := Z0h ha (Zg8 _)
  by_cases h : k < i
  · obtain ⟨b, hb⟩ := Zbj (l := l) (i := k) (by omega)
    simp (disch := omega) only [go_sem, ha, hb]
    cases hs : seq b.1 a.1
    · refine .inr ⟨k + 1, ⟨by omega, ?_⟩, by omega, by simp only [go_sem]; rfl⟩
      rcases Nat.lt_or_ge k (fstAt a.1 l) with q | q
      · omega
      · obtain ⟨c, hc1, hc2⟩ := Zadu (s := a.1) (l := l) (by omega)
        rw [show fstAt a.1 l = k by omega, hb] at hc1
        obtain rfl := Option.some.inj hc1
        rw [hs] at hc2; cases hc2
    · refine .inl ?_
      have := Z0h hb hs
      simp only [go_sem]
      rw [if_neg (by omega)]
  · refine .inl ?_
    simp (disch := omega) only [go_sem]
theorem Zagy (l : List At) (hl : l.length ≤ 20) : ∀ n i, i ≤ l.length → l.length - i < n → Zd3 fuel n (fun v0 => some ((), true, ())) ((l, (i : Int), ()), (), ()) = some ((), Zh5 l (l.length - i) i, ()) := by
  refine Zfq (L := fun n (i : Nat) => Zd3 fuel n (fun v0 => some ((), true, ())) ((l, (i : Int), ()), (), ())) (fun i => i ≤ l.length) (fun i => l.length - i) (fun i => some ((), Zh5 l (l.length - i) i, ())) (fun n i hi => ?_)
  rw [Zd3]
  by_cases h : i < l.length
  · obtain ⟨a, ha⟩ := Zbj h
    have hF := Zl
    have hin := fun K => Zagx l hl ha K fuel 0 ⟨by omega, by omega⟩ (by omega)
    simp only [Int.cast_ofNat_Int] at hin
    obtain ⟨d, hd⟩ : ∃ d, l.length - i = d + 1 := ⟨l.length - i - 1, by omega⟩
    rw [hd, Zh5, ha]
    simp (disch := omega) only [go_sem, ha, Zag0]
    cases Zad9 a
    · refine .inl ?_
      simp only [go_sem, Bool.false_and]
    · simp (disch := omega) only [go_sem, hin, Bool.true_and]
      by_cases hq : fstAt a.1 l = i
      · refine .inr ⟨i + 1, by omega, by omega, ?_, by simp (disch := omega) only [go_sem, if_pos]; rfl⟩
        simp only [hq, decide_true, Bool.true_and]
        rw [show l.length - (i + 1) = d by omega]
      · refine .inl ?_
        simp only [hq, decide_false, Bool.false_and, ↓reduceIte]
  · refine .inl ?_
    rw [show l.length - i = 0 by omega, Zh5]
    simp (disch := omega) only [go_sem]
theorem Zad7 (l : List At) : Zjq (l, ()) = some ((), Z4c l, ()) := by
  unfold Zjq Znq Z4c
  by_cases h : l.length ≤ 20
  · have := Zagy l h fuel 0 (by omega) (by have := Zl; omega)
    simp only [Int.cast_ofNat_Int, Nat.sub_zero] at this
    simp (disch := omega) only [go_sem, this, Bool.true_and]
  · simp (disch := omega) only [go_sem, Bool.false_and]
def nodeG (x : Nd) : Bool :=
  if x.1 = 1 then seq x.2.1 ⟨#[]⟩ && (seq x.2.2.2.1 ⟨#[]⟩ && decide (x.2.2.1.length = 0))
  else if x.1 = 2 then seq x.2.2.2.1 ⟨#[]⟩ && (decide (x.2.2.1.length = 0) && (decide (x.2.1.size ≤ 60) && (Zmx x.2.1 && decide (x.2.2.2.2.2.1.length = 0))))
  else if x.1 = 3 then seq x.2.2.2.1 ⟨#[]⟩ && (Zac3 x.2.1 && Z4c x.2.2.1)
  else if x.1 = 4 then seq x.2.1 ⟨#[]⟩ && (decide (x.2.2.1.length = 0) && (!seq x.2.2.2.1 ⟨#[]⟩ && (Zmx x.2.2.2.1 && decide (x.2.2.2.2.2.1.length = 0))))
  else if x.1 = 5 then seq x.2.1 ⟨#[]⟩ && (decide (x.2.2.1.length = 0) && (Zmx x.2.2.2.1 && decide (x.2.2.2.2.2.1.length = 0)))
  else false
attribute [local go_sem] Zagg Zagh Zad7 Zad8
theorem node_spec (x : Nd) : Zq2 (x, ()) = some ((), nodeG x, ()) := by
  unfold Zq2 Zpj nodeG
  by_cases k1 : x.1 = 1
  · cases seq x.2.1 ⟨#[]⟩ <;> cases seq x.2.2.2.1 ⟨#[]⟩ <;> simp (disch := omega) only [go_sem, if_pos, Bool.true_and, Bool.false_and]
    by_cases q : x.2.2.1.length = 0 <;> simp (disch := omega) only [go_sem]
  by_cases k2 : x.1 = 2
  · cases seq x.2.1 ⟨#[]⟩ <;> cases seq x.2.2.2.1 ⟨#[]⟩ <;> simp (disch := omega) only [go_sem, if_pos, if_neg, Bool.true_and, Bool.false_and]
    all_goals by_cases q : x.2.2.1.length = 0 <;> simp (disch := omega) only [go_sem, Bool.true_and, Bool.false_and]
    all_goals by_cases q : x.2.1.size ≤ 60 <;> simp (disch := omega) only [go_sem, Bool.true_and, Bool.false_and]
    all_goals cases Zmx x.2.1 <;> simp (disch := omega) only [go_sem, Bool.true_and, Bool.false_and]
    all_goals by_cases q : x.2.2.2.2.2.1.length = 0 <;> simp (disch := omega) only [go_sem]
  by_cases k3 : x.1 = 3
  · cases seq x.2.1 ⟨#[]⟩ <;> cases seq x.2.2.2.1 ⟨#[]⟩ <;> simp (disch := omega) only [go_sem]
    all_goals cases Zac3 x.2.1 <;> simp only [go_sem]
  by_cases k4 : x.1 = 4
  · cases seq x.2.1 ⟨#[]⟩ <;> cases seq x.2.2.2.1 ⟨#[]⟩ <;> simp (disch := omega) only [go_sem, if_pos, if_neg, Bool.true_and, Bool.false_and, Bool.not_true, Bool.not_false, Bool.and_false]
    all_goals by_cases q : x.2.2.1.length = 0 <;> simp (disch := omega) only [go_sem, Bool.true_and, Bool.false_and]
    all_goals cases Zmx x.2.2.2.1 <;> simp (disch := omega) only [go_sem, Bool.true_and, Bool.false_and]
    all_goals by_cases q : x.2.2.2.2.2.1.length = 0 <;> simp (disch := omega) only [go_sem]
  by_cases k5 : x.1 = 5
  · cases seq x.2.1 ⟨#[]⟩ <;> simp (disch := omega) only [go_sem, if_pos, if_neg, Bool.true_and, Bool.false_and]
    all_goals by_cases q : x.2.2.1.length = 0 <;> simp (disch := omega) only [go_sem, Bool.true_and, Bool.false_and]
    all_goals cases Zmx x.2.2.2.1 <;> simp (disch := omega) only [go_sem, Bool.true_and, Bool.false_and]
    all_goals by_cases q : x.2.2.2.2.2.1.length = 0 <;> simp (disch := omega) only [go_sem]
  cases seq x.2.1 ⟨#[]⟩ <;> simp (disch := omega) only [go_sem, if_neg]
theorem Zadx (s : ByteArray) : Zdt (s, ()) = some ((), decide (s.size ≤ 60) && Zmx s, ()) := by
  unfold Zdt Zkb
  by_cases q : s.size ≤ 60 <;> simp (disch := omega) only [go_sem, Bool.true_and, Bool.false_and]
def nodeA (x : Nd) (at_ : Int) : Bool := decide (x.1 = 1 ↔ at_ = 0) && (nodeG x && (!decide (x.1 = 1) || decide (x.2.2.2.2.1 = -1)))
theorem node_impl (x : Nd) (i : Int) : Zrj (x, i, ()) = some ((), nodeA x i, ()) := by
  unfold Zrj Zqf nodeA nodeG Zhi Zfr
  by_cases h0 : i = 0 <;> by_cases ha : x.2.2.1.length = 0 <;> by_cases hk : x.2.2.2.2.2.1.length = 0
  all_goals by_cases k1 : x.1 = 1
  all_goals simp (disch := omega) only [go_sem]
  all_goals try by_cases k2 : x.1 = 2
  all_goals try simp (disch := omega) only [go_sem, Zadx]
  all_goals try by_cases k3 : x.1 = 3
  all_goals try simp (disch := omega) only [go_sem]
  all_goals try by_cases k4 : x.1 = 4
  all_goals try simp (disch := omega) only [go_sem]
  all_goals try by_cases k5 : x.1 = 5
  all_goals try simp (disch := omega) only [go_sem]
  all_goals try cases seq x.2.1 ⟨#[]⟩ <;> try simp (disch := omega) only [go_sem]
  all_goals try cases seq x.2.2.2.1 ⟨#[]⟩ <;> try simp (disch := omega) only [go_sem]
  all_goals try by_cases q : x.2.2.2.2.1 = -1
  all_goals try simp (disch := omega) only [go_sem]
  all_goals try cases Zmx x.2.1 <;> try simp (disch := omega) only [go_sem]
  all_goals try cases Zac3 x.2.1 <;> try simp (disch := omega) only [go_sem]
  all_goals try cases Z4c x.2.2.1 <;> try simp (disch := omega) only [go_sem]
  all_goals by_cases q2 : x.2.1.size ≤ 60 <;> simp (disch := omega) only [go_sem]
end Go.Proofs.YtcpecilmkkmaiaaGreat.V
namespace Go.Proofs.YtcpecilmkkmaiaaGreat.V
open Go Go.RowKit
attribute [local irreducible] wr
attribute [local go_sem] Zg2 Zfc
abbrev parN (x : Nd) : Int := x.2.2.2.2.1
abbrev kidsN (x : Nd) : List Int := x.2.2.2.2.2.1
def parI (T : List Nd) (i : Int) : Int := if i < 0 then -1 else match T[i.toNat]? with
  | some x => parN x
  | none => -1
def up (T : List Nd) : Nat → Int → Int
  | 0, i => i
  | k + 1, i => up T k (parI T i)
theorem Z8h (T : List Nd) : ∀ a b i, up T (a + b) i = up T b (up T a i)
  | 0, b, i => by rw [Nat.zero_add]; rfl
  | a + 1, b, i => by rw [show a + 1 + b = (a + b) + 1 by omega]; exact Z8h T a b _
theorem parI_neg {T : List Nd} {i : Int} (h : i < 0) : parI T i = -1 := if_pos h
theorem up_neg (T : List Nd) : ∀ k i, i < 0 → up T k i < 0
  | 0, i, h => h
  | k + 1, i, h => up_neg T k _ (by rw [parI_neg h]; decide)
theorem Zfp {T : List Nd} {i : Nat} {x : Nd} (h : T[i]? = some x) : parI T (i : Int) = parN x := by
  unfold parI
  rw [if_neg (by omega), Int.toNat_natCast, h]
structure TreeG (T : List Nd) : Prop where
  len : 1 ≤ T.length ∧ T.length ≤ 500
  node : ∀ (i : Nat) x, T[i]? = some x → nodeG x = true ∧ (x.1 = 1 ↔ i = 0)
  root : ∀ x, T[0]? = some x → parN x = -1
  kid : ∀ (i : Nat) x k, T[i]? = some x → k ∈ kidsN x → 1 ≤ k ∧ k < (T.length : Int) ∧ parI T k = (i : Int)
  nodup : ∀ (i : Nat) x, T[i]? = some x → (kidsN x).Nodup
  par : ∀ (i : Nat) x, T[i]? = some x → parN x = -1 ∨ ∃ (p : Nat) (y : Nd), parN x = (p : Int) ∧ T[p]? = some y ∧ (i : Int) ∈ kidsN y
  ends : ∀ (i : Nat), i < T.length → ∃ k, k ≤ T.length + 1 ∧ up T k (i : Int) < 0
def kidsW (T : List Nd) (i : Nat) : List Int → List Bool → Option (List Bool)
  | [], s => some s
  | k :: ks, s => if 1 ≤ k ∧ k < (T.length : Int) ∧ parI T k = (i : Int) ∧ s[k.toNat]? = some false then kidsW T i ks (s.set k.toNat true) else none
def allW (T : List Nd) : Nat → List Nd → List Bool → Option (List Bool)
  | _, [], s => some s
  | i, x :: l, s => match kidsW T i (kidsN x) s with
    | none => none
    | some s' => allW T (i + 1) l s'
theorem Zj7 (T : List Nd) (i : Nat) : ∀ ks s s', kidsW T i ks s = some s' → s'.length = s.length
  | [], s, s', h => by obtain rfl := Option.some.inj h; rfl
  | k :: ks, s, s', h => by
    unfold kidsW at h
    split at h
    · rw [Zj7 T i ks _ _ h, List.length_set]
    · cases h
theorem Zzx (T : List Nd) (i : Nat) : ∀ ks s s', kidsW T i ks s = some s' → (∀ k ∈ ks, 1 ≤ k ∧ k < (T.length : Int) ∧ parI T k = (i : Int)) ∧ ks.Nodup ∧ (∀ k ∈ ks, s[k.toNat]? = some false) ∧ ∀ j : Nat, s'[j]? = if (j : Int) ∈ ks then some true else s[j]?
  | [], s, s', h => by
    obtain rfl := Option.some.inj h
    exact ⟨by simp, List.nodup_nil, by simp, by simp⟩
  | k :: ks, s, s', h => by
    unfold kidsW at h
    split at h
    · rename_i hk
      obtain ⟨k1, k2, k3, k4⟩ := hk
      obtain ⟨h1, h2, h3, h4⟩ := Zzx T i ks _ _ h
      have hnot : k ∉ ks := fun q => by
        have := h3 k q
        rw [List.getElem?_set_self (Zt k4)] at this
        cases this
      have hlen := Zt k4
      refine ⟨fun q hq => ?_, List.nodup_cons.2 ⟨hnot, h2⟩, fun q hq => ?_, fun j => ?_⟩
      · rcases List.mem_cons.1 hq with rfl | hq
        · exact ⟨k1, k2, k3⟩
        · exact h1 q hq
      · rcases List.mem_cons.1 hq with rfl | hq
        · exact k4
        · have := h3 q hq
          rwa [List.getElem?_set_ne (fun e => by
            have := h1 q hq
            exact hnot (by rwa [show k = q by omega]))] at this
      · rw [h4 j]
        by_cases hj : (j : Int) ∈ ks
        · rw [if_pos hj, if_pos (List.mem_cons_of_mem _ hj)]
        · rw [if_neg hj]
          by_cases he : (j : Int) = k
          · rw [if_pos (List.mem_cons.2 (.inl he)), show j = k.toNat by omega, List.getElem?_set_self hlen]
          · rw [if_neg (fun q => (List.mem_cons.1 q).elim he hj), List.getElem?_set_ne (by omega)]
    · cases h
theorem Zaiw (T : List Nd) (i : Nat) : ∀ ks s, (∀ k ∈ ks, 1 ≤ k ∧ k < (T.length : Int) ∧ parI T k = (i : Int)) → ks.Nodup → (∀ k ∈ ks, s[k.toNat]? = some false) → ∃ s', kidsW T i ks s = some s'
  | [], s, _, _, _ => ⟨s, rfl⟩
  | k :: ks, s, h1, h2, h3 => by
    obtain ⟨n1, n2⟩ := List.nodup_cons.1 h2
    obtain ⟨a, b, c⟩ := h1 k (List.mem_cons_self ..)
    unfold kidsW
    rw [if_pos ⟨a, b, c, h3 k (List.mem_cons_self ..)⟩]
    refine Zaiw T i ks _ (fun q hq => h1 q (List.mem_cons_of_mem _ hq)) n2 (fun q hq => ?_)
    rw [List.getElem?_set_ne (fun e => by
      have := h1 q (List.mem_cons_of_mem _ hq)
      exact n1 (by rwa [show k = q by omega]))]
    exact h3 q (List.mem_cons_of_mem _ hq)
theorem Zrq (T : List Nd) : ∀ l i s s', allW T i l s = some s' → s'.length = s.length ∧ (∀ (d : Nat) x, l[d]? = some x → (∀ k ∈ kidsN x, 1 ≤ k ∧ k < (T.length : Int) ∧ parI T k = ((i + d : Nat) : Int)) ∧ (kidsN x).Nodup) ∧ ∀ j : Nat, s'[j]? = some true ↔ s[j]? = some true ∨ (j < s.length ∧ ∃ (d : Nat) (x : Nd), l[d]? = some x ∧ (j : Int) ∈ kidsN x)
  | [], i, s, s', h => by
    obtain rfl := Option.some.inj h
    exact ⟨rfl, by simp, by simp⟩
  | x :: l, i, s, s', h => by
    unfold allW at h
    split at h
    · cases h
    · rename_i s1 hs1
      obtain ⟨a1, a2, a3⟩ := Zrq T l (i + 1) s1 s' h
      obtain ⟨b1, b2, b3, b4⟩ := Zzx T i _ _ _ hs1
      have bl := Zj7 T i _ _ _ hs1
      refine ⟨by rw [a1, bl], fun d y hd => ?_, fun j => ?_⟩
      · cases d with
        | zero =>
          obtain rfl : x = y := by simpa using hd
          exact ⟨b1, b2⟩
        | succ d =>
          have := a2 d y (by simpa using hd)
          rwa [show i + 1 + d = i + (d + 1) by omega] at this
      · rw [a3 j, b4 j, bl]
        constructor
        · rintro (q | ⟨q, d, y, q1, q2⟩)
          · split at q
            · rename_i hm
              obtain ⟨r1, r2, r3⟩ := b1 _ hm
              have := Zt (b3 _ hm)
              exact .inr ⟨by simpa using this, 0, x, rfl, hm⟩
            · exact .inl q
          · exact .inr ⟨q, d + 1, y, by simpa using q1, q2⟩
        · rintro (q | ⟨q, d, y, q1, q2⟩)
          · refine .inl ?_
            split
            · rfl
            · exact q
          · cases d with
            | zero =>
              obtain rfl : x = y := by simpa using q1
              exact .inl (if_pos q2)
            | succ d => exact .inr ⟨q, d, y, by simpa using q1, q2⟩
theorem allW_of (T : List Nd) : ∀ l i s, (∀ (d : Nat) x, l[d]? = some x → (∀ k ∈ kidsN x, 1 ≤ k ∧ k < (T.length : Int) ∧ parI T k = ((i + d : Nat) : Int)) ∧ (kidsN x).Nodup) → s.length = T.length → (∀ j : Nat, s[j]? = some true → parI T (j : Int) < (i : Int)) → ∃ s', allW T i l s = some s'
  | [], i, s, _, _, _ => ⟨s, rfl⟩
  | x :: l, i, s, h1, h2, h3 => by
    obtain ⟨c1, c2⟩ := h1 0 x rfl
    obtain ⟨s1, hs1⟩ := Zaiw T i (kidsN x) s c1 c2 (fun k hk => by
      obtain ⟨q1, q2, q3⟩ := c1 k hk
      obtain ⟨b, hb⟩ := Zbj (l := s) (i := k.toNat) (by omega)
      cases b
      · exact hb
      · have := h3 _ hb
        rw [show ((k.toNat : Nat) : Int) = k by omega, q3] at this
        omega)
    obtain ⟨b1, b2, b3, b4⟩ := Zzx T i _ _ _ hs1
    have bl := Zj7 T i _ _ _ hs1
    unfold allW
    rw [hs1]
    refine allW_of T l (i + 1) s1 (fun d y hd => by
      have := h1 (d + 1) y (by simpa using hd)
      rwa [show i + (d + 1) = i + 1 + d by omega] at this) (by rw [bl, h2]) (fun j hj => ?_)
    rw [b4 j] at hj
    split at hj
    · rename_i hm
      have := (b1 _ hm).2.2
      omega
    · have := h3 j hj; omega
end Go.Proofs.YtcpecilmkkmaiaaGreat.V
namespace Go.Proofs.YtcpecilmkkmaiaaGreat.V
open Go Go.RowKit
attribute [local irreducible] wr
attribute [local go_sem] Zg2 Zfc
def endsB (T : List Nd) : Nat → Int → Bool
  | 0, i => decide (i < 0)
  | k + 1, i => decide (i < 0) || endsB T k (parI T i)
theorem Zxy (T : List Nd) : ∀ k i, endsB T k i = true ↔ ∃ j, j ≤ k ∧ up T j i < 0
  | 0, i => by
    simp only [endsB, decide_eq_true_eq]
    refine ⟨fun h => ⟨0, Nat.le_refl 0, h⟩, fun ⟨j, h1, h2⟩ => ?_⟩
    obtain rfl : j = 0 := by omega
    exact h2
  | k + 1, i => by
    simp only [endsB, Bool.or_eq_true, decide_eq_true_eq, Zxy T k]
    constructor
    · rintro (h | ⟨j, h1, h2⟩)
      · exact ⟨0, by omega, h⟩
      · exact ⟨j + 1, by omega, h2⟩
    · rintro ⟨j, h1, h2⟩
      cases j with
      | zero => exact .inl h2
      | succ j => exact .inr ⟨j, by omega, h2⟩
theorem kids_spec {T : List Nd} (hT : T.length ≤ 500) {i : Nat} {a : Int} {b : ByteArray} {c : List At} {d : ByteArray} {p : Int} {ks : List Int} (hks : ks.length ≤ 140737488351000) {q : Int × Bool × Int × Bool × Bool × Int × Int × Int × Bool × Bool × Int × Bool × Bool × Bool × Unit} (K) : ∀ n (z : Nat × List Bool), z.1 ≤ ks.length ∧ z.2.length = T.length → ks.length - z.1 < n →
    Zcc fuel n K (((T.length : Int), (i : Int), (z.1 : Int), q), ((T, ()), (a, b, c, d, p, ks, ()), ()), z.2, ()) = match kidsW T i (ks.drop z.1) z.2 with
      | none => some ((), false, ())
      | some s => K (((T.length : Int), (i : Int), q), ((T, ()), (a, b, c, d, p, ks, ()), ()), s, ()) := by
  refine Zfq (L := fun n (z : Nat × List Bool) => Zcc fuel n K (((T.length : Int), (i : Int), (z.1 : Int), q), ((T, ()), (a, b, c, d, p, ks, ()), ()), z.2, ())) (fun z => z.1 ≤ ks.length ∧ z.2.length = T.length) (fun z => ks.length - z.1) (fun z => match kidsW T i (ks.drop z.1) z.2 with
      | none => some ((), false, ())
      | some s => K (((T.length : Int), (i : Int), q), ((T, ()), (a, b, c, d, p, ks, ()), ()), s, ())) (fun n z hz => ?_)
  obtain ⟨j, s⟩ := z
  obtain ⟨z1, z2⟩ := hz
  simp only at z1 z2 ⊢
  rw [Zcc]
  by_cases hj : j < ks.length
  · obtain ⟨k, hk⟩ := Zbj hj
    rw [Zbf hk, kidsW]
    simp (disch := omega) only [go_sem, hk]
    by_cases h1 : 1 ≤ k ∧ k ≤ (T.length : Int) - 1
    · obtain ⟨b, hb⟩ := Zbj (l := s) (i := k.toNat) (by omega)
      obtain ⟨y, hy⟩ := Zbj (l := T) (i := k.toNat) (by omega)
      have hp : parI T k = parN y := by
        have := Zfp hy
        rwa [show ((k.toNat : Nat) : Int) = k by omega] at this
      simp (disch := omega) only [go_sem, hb, hy]
      cases b
      · simp only [go_sem, hp]
        by_cases h2 : parN y = (i : Int)
        · refine .inr ⟨(j + 1, s.set k.toNat true), ⟨by omega, by simpa using z2⟩, by simp only; omega, ?_, ?_⟩
          · simp only
            rw [if_pos ⟨h1.1, by omega, h2⟩]
          · simp (disch := omega) only [go_sem]
            rfl
        · refine .inl ?_
          rw [if_neg (fun h => h2 h.2.2)]
          simp (disch := omega) only [go_sem]
      · refine .inl ?_
        rw [if_neg (fun h => by cases h.2.2.2)]
        simp only [go_sem]
    · refine .inl ?_
      rw [if_neg (fun h => h1 ⟨h.1, by omega⟩)]
      simp (disch := omega) only [go_sem]
  · refine .inl ?_
    rw [List.drop_eq_nil_of_le (by omega), kidsW]
    simp (disch := omega) only [go_sem]
def nodeS (T : List Nd) (i : Nat) (x : Nd) : Bool := nodeG x && (decide (x.1 = 1 ↔ i = 0) && (decide (-1 ≤ parN x ∧ parN x ≤ (T.length : Int) - 1) && (!decide (i = 0) || decide (parN x = -1))))
def Zu7 (T : List Nd) : Nat → List Nd → Bool
  | _, [] => true
  | i, x :: l => nodeS T i x && Zu7 T (i + 1) l
theorem Zaic {T : List Nd} (hT : T.length ≤ 500) (hk : ∀ x ∈ T, (kidsN x).length ≤ 140737488351000) (K) : ∀ n (z : Nat × List Bool), z.1 ≤ T.length ∧ z.2.length = T.length → T.length - z.1 < n →
    Zbw fuel n K (((T.length : Int), (z.1 : Int), ()), ((T, ()), ()), z.2, ()) = if Zu7 T z.1 (T.drop z.1) = true then (match allW T z.1 (T.drop z.1) z.2 with
      | none => some ((), false, ())
      | some s => K (((T.length : Int), ()), ((T, ()), ()), s, ())) else some ((), false, ()) := by
  refine Zfq (L := fun n (z : Nat × List Bool) => Zbw fuel n K (((T.length : Int), (z.1 : Int), ()), ((T, ()), ()), z.2, ())) (fun z => z.1 ≤ T.length ∧ z.2.length = T.length) (fun z => T.length - z.1) (fun z => if Zu7 T z.1 (T.drop z.1) = true then (match allW T z.1 (T.drop z.1) z.2 with
      | none => some ((), false, ())
      | some s => K (((T.length : Int), ()), ((T, ()), ()), s, ())) else some ((), false, ())) (fun n z hz => ?_)
  obtain ⟨i, s⟩ := z
  obtain ⟨z1, z2⟩ := hz
  simp only at z1 z2 ⊢
  rw [Zbw]
  by_cases hi : i < T.length
  · obtain ⟨x, hx⟩ := Zbj hi
    have hF := Zl
    have hkx := hk x (List.mem_of_getElem? hx)
    obtain ⟨a, b, c, d, p, ks, u⟩ := x
    simp only [kidsN] at hkx
    have key := fun (q : Int × Bool × Int × Bool × Bool × Int × Int × Int × Bool × Bool × Int × Bool × Bool × Bool × Unit) K2 => kids_spec (a := a) (b := b) (c := c) (d := d) (p := p) (i := i) (q := q) hT hkx K2 fuel (0, s) ⟨by simp only; omega, z2⟩ (by simp only; omega)
    simp only [List.drop_zero, Int.cast_ofNat_Int] at key
    rw [Zbf hx, Zu7, allW, nodeS]
    simp (disch := omega) only [go_sem, hx, node_spec]
    cases nodeG (a, b, c, d, p, ks, u)
    · simp only [go_sem]
      exact .inl trivial
    · by_cases h1 : (a = 1 ↔ i = 0)
      · have e1 : beq (ieq a 1) (ieq (i : Int) 0) = true := by
          by_cases q : a = 1
          · rw [ieq_t q, ieq_t (by have := h1.1 q; omega)]; rfl
          · rw [ieq_f q, ieq_f (fun e => q (h1.2 (by omega)))]; rfl
        by_cases h2 : -1 ≤ p ∧ p ≤ (T.length : Int) - 1
        · have fin : ∀ q, (Zcc fuel fuel (fun v3 => Zbw fuel n K ((v3.1.1, (wr .i64 (v3.1.2.1 + 1)), ()), ((v3.2.1.1.1, ()), ()), v3.2.2.1, ())) (((T.length : Int), (i : Int), 0, q), ((T, ()), (a, b, c, d, p, ks, ()), ()), s, ()) = (if Zu7 T (i + 1) (T.drop (i + 1)) = true then (match (match kidsW T i ks s with | none => none | some s' => allW T (i + 1) (T.drop (i + 1)) s') with | none => some ((), false, ()) | some s => K (((T.length : Int), ()), ((T, ()), ()), s, ())) else some ((), false, ()))) ∨ ∃ y : Nat × List Bool, (y.1 ≤ T.length ∧ y.2.length = T.length) ∧ T.length - y.1 < T.length - i ∧ (if Zu7 T y.1 (T.drop y.1) = true then (match allW T y.1 (T.drop y.1) y.2 with | none => some ((), false, ()) | some s => K (((T.length : Int), ()), ((T, ()), ()), s, ())) else some ((), false, ())) = (if Zu7 T (i + 1) (T.drop (i + 1)) = true then (match (match kidsW T i ks s with | none => none | some s' => allW T (i + 1) (T.drop (i + 1)) s') with | none => some ((), false, ()) | some s => K (((T.length : Int), ()), ((T, ()), ()), s, ())) else some ((), false, ())) ∧ Zcc fuel fuel (fun v3 => Zbw fuel n K ((v3.1.1, (wr .i64 (v3.1.2.1 + 1)), ()), ((v3.2.1.1.1, ()), ()), v3.2.2.1, ())) (((T.length : Int), (i : Int), 0, q), ((T, ()), (a, b, c, d, p, ks, ()), ()), s, ()) = Zbw fuel n K (((T.length : Int), (y.1 : Int), ()), ((T, ()), ()), y.2, ()) := fun q => by
            rw [key]
            cases hw : kidsW T i ks s with
            | none => refine .inl ?_; simp only; split <;> rfl
            | some s1 =>
              refine .inr ⟨(i + 1, s1), ⟨by simp only; omega, by rw [Zj7 T i _ _ _ hw]; exact z2⟩, by simp only; omega, rfl, ?_⟩
              simp (disch := omega) only [go_sem]
              rfl
          by_cases h3 : i = 0
          · by_cases h4 : p = -1
            · simp (disch := omega) only [go_sem, e1, h1, h2]
              exact fin _
            · refine .inl ?_
              simp (disch := omega) only [go_sem, e1, h1, h2]
          · simp (disch := omega) only [go_sem, e1, h1, h2]
            exact fin _
        · refine .inl ?_
          simp (disch := omega) only [go_sem, e1, h1, h2]
      · have e1 : beq (ieq a 1) (ieq (i : Int) 0) = false := by
          by_cases q : a = 1
          · rw [ieq_t q, ieq_f (fun e => h1 ⟨fun _ => by omega, fun _ => q⟩)]; rfl
          · rw [ieq_f q]
            by_cases r : (i : Int) = 0
            · rw [ieq_t r]; rfl
            · exact absurd ⟨fun h => absurd h q, fun h => absurd (by omega) r⟩ h1
        refine .inl ?_
        simp (disch := omega) only [go_sem, e1, h1]
  · refine .inl ?_
    rw [List.drop_eq_nil_of_le (by omega), Zu7, allW]
    simp (disch := omega) only [go_sem]
def Z6a (T : List Nd) : Prop := ∀ (i : Nat) x, T[i]? = some x → -1 ≤ parN x ∧ parN x < (T.length : Int)
theorem ends_spec {T : List Nd} (hT : T.length ≤ 500) (hp : Z6a T) {i : Int} {s : List Bool} (K) : ∀ n (z : Int × Nat), -1 ≤ z.1 ∧ z.1 < (T.length : Int) ∧ z.2 ≤ T.length + 1 → T.length + 1 - z.2 < n →
    Zew fuel n K (((T.length : Int), i, z.1, (z.2 : Int), ()), ((T, ()), ()), s, ()) = if endsB T (T.length + 1 - z.2) z.1 = true then K (((T.length : Int), i, ()), ((T, ()), ()), s, ()) else some ((), false, ()) := by
  refine Zfq (L := fun n (z : Int × Nat) => Zew fuel n K (((T.length : Int), i, z.1, (z.2 : Int), ()), ((T, ()), ()), s, ())) (fun z => -1 ≤ z.1 ∧ z.1 < (T.length : Int) ∧ z.2 ≤ T.length + 1) (fun z => T.length + 1 - z.2) (fun z => if endsB T (T.length + 1 - z.2) z.1 = true then K (((T.length : Int), i, ()), ((T, ()), ()), s, ()) else some ((), false, ())) (fun n z hz => ?_)
  obtain ⟨u, k⟩ := z
  obtain ⟨z1, z2, z3⟩ := hz
  simp only at z1 z2 z3 ⊢
  rw [Zew]
  by_cases hu : 0 ≤ u
  · by_cases hk : k = T.length + 1
    · refine .inl ?_
      subst hk
      rw [Nat.sub_self, endsB]
      simp (disch := omega) only [go_sem]
    · obtain ⟨x, hx⟩ := Zbj (l := T) (i := u.toNat) (by omega)
      have h1 := hp _ x hx
      have hq : parI T u = parN x := by
        have := Zfp hx
        rwa [show ((u.toNat : Nat) : Int) = u by omega] at this
      refine .inr ⟨(parN x, k + 1), ⟨h1.1, h1.2, by simp only; omega⟩, by simp only; omega, ?_, ?_⟩
      · obtain ⟨d, hd⟩ : ∃ d, T.length + 1 - k = d + 1 := ⟨T.length - k, by omega⟩
        simp only
        rw [hd, endsB, show T.length + 1 - (k + 1) = d by omega, hq, decide_eq_false (by omega), Bool.false_or]
      · simp (disch := omega) only [go_sem, hx]
        rfl
  · refine .inl ?_
    have : endsB T (T.length + 1 - k) u = true := (Zxy ..).2 ⟨0, by omega, by simp only [up]; omega⟩
    simp (disch := omega) only [go_sem, this]
def lastS (T : List Nd) (s : List Bool) : Nat → Nat → Bool
  | 0, _ => true
  | d + 1, i => (decide (s[i]? = some true ↔ 0 ≤ parI T (i : Int)) && endsB T (T.length + 1) (i : Int)) && lastS T s d (i + 1)
theorem last_spec {T : List Nd} (hT : T.length ≤ 500) (hp : Z6a T) {s : List Bool} (hs : s.length = T.length) : ∀ n (i : Nat), i ≤ T.length → T.length - i < n →
    Zex fuel n (fun v2 => some ((), true, ())) (((T.length : Int), (i : Int), ()), ((T, ()), ()), s, ()) = some ((), lastS T s (T.length - i) i, ()) := by
  refine Zfq (L := fun n (i : Nat) => Zex fuel n (fun v2 => some ((), true, ())) (((T.length : Int), (i : Int), ()), ((T, ()), ()), s, ())) (fun i => i ≤ T.length) (fun i => T.length - i) (fun i => some ((), lastS T s (T.length - i) i, ())) (fun n i hi => ?_)
  rw [Zex]
  by_cases h : i < T.length
  · obtain ⟨x, hx⟩ := Zbj h
    obtain ⟨b, hb⟩ := Zbj (l := s) (i := i) (by omega)
    have hF := Zl
    have hq := Zfp hx
    have key := fun K => ends_spec hT hp (i := (i : Int)) (s := s) K fuel ((i : Int), 0) ⟨by simp only; omega, by simp only; omega, by simp only; omega⟩ (by simp only; omega)
    simp only [Int.cast_ofNat_Int, Nat.sub_zero] at key
    obtain ⟨d, hd⟩ : ∃ d, T.length - i = d + 1 := ⟨T.length - i - 1, by omega⟩
    rw [hd, lastS, hb, hq]
    have e1 : beq b (ile 0 (parN x)) = decide (some b = some true ↔ 0 ≤ parN x) := by
      cases b
      · by_cases q : 0 ≤ parN x
        · rw [ile_t q, decide_eq_false (by simp [q])]; rfl
        · rw [ile_f (by omega), decide_eq_true (by simp [q])]; rfl
      · by_cases q : 0 ≤ parN x
        · rw [ile_t q, decide_eq_true (by simp [q])]; rfl
        · rw [ile_f (by omega), decide_eq_false (by simp [q])]; rfl
    simp (disch := omega) only [go_sem, hx, hb, e1, key]
    cases decide (some b = some true ↔ 0 ≤ parN x)
    · refine .inl ?_
      simp only [go_sem]
    · cases endsB T (T.length + 1) (i : Int)
      · refine .inl ?_
        simp only [go_sem]
      · refine .inr ⟨i + 1, by omega, by omega, ?_, ?_⟩
        · simp only [Bool.true_and]
          rw [show T.length - (i + 1) = d by omega]
        · simp (disch := omega) only [go_sem]
          rfl
  · refine .inl ?_
    rw [show T.length - i = 0 by omega, lastS]
    simp (disch := omega) only [go_sem]
theorem Zxs (T : List Nd) (s : List Bool) : ∀ d i, lastS T s d i = true ↔ ∀ j, i ≤ j → j < i + d → ((s[j]? = some true ↔ 0 ≤ parI T (j : Int)) ∧ endsB T (T.length + 1) (j : Int) = true)
  | 0, i => ⟨fun _ j h1 h2 => by omega, fun _ => rfl⟩
  | d + 1, i => by
    simp only [lastS, Bool.and_eq_true, decide_eq_true_eq, Zxs T s d]
    constructor
    · rintro ⟨h1, h2⟩ j h3 h4
      by_cases e : j = i
      · subst e; exact h1
      · exact h2 j (by omega) (by omega)
    · intro h
      exact ⟨h i (Nat.le_refl i) (by omega), fun j h1 h2 => h j (by omega) (by omega)⟩
theorem Zpy (T : List Nd) : ∀ l i, Zu7 T i l = true ↔ ∀ (d : Nat) x, l[d]? = some x → nodeS T (i + d) x = true
  | [], i => by simp [Zu7]
  | y :: l, i => by
    simp only [Zu7, Bool.and_eq_true, Zpy T l]
    constructor
    · rintro ⟨h1, h2⟩ d x hd
      cases d with
      | zero =>
        obtain rfl : y = x := by simpa using hd
        exact h1
      | succ d =>
        have := h2 d x (by simpa using hd)
        rwa [show i + 1 + d = i + (d + 1) by omega] at this
    · intro h
      refine ⟨h 0 y rfl, fun d x hd => ?_⟩
      have := h (d + 1) x (by simpa using hd)
      rwa [show i + (d + 1) = i + 1 + d by omega] at this
theorem Zxr (T : List Nd) (i : Nat) (x : Nd) : nodeS T i x = true ↔ nodeG x = true ∧ (x.1 = 1 ↔ i = 0) ∧ (-1 ≤ parN x ∧ parN x ≤ (T.length : Int) - 1) ∧ (i = 0 → parN x = -1) := by
  simp only [nodeS, Bool.and_eq_true, decide_eq_true_eq, Bool.or_eq_true, Bool.not_eq_true', decide_eq_false_iff_not]
  constructor
  · rintro ⟨h1, h2, h3, h4⟩
    exact ⟨h1, h2, h3, fun q => h4.resolve_left (fun f => f q)⟩
  · rintro ⟨h1, h2, h3, h4⟩
    exact ⟨h1, h2, h3, by by_cases q : i = 0 <;> simp [q]; exact h4 q⟩
def seen0 (T : List Nd) : List Bool := List.replicate T.length false
theorem Zs7 (T : List Nd) : TreeG T ↔ (1 ≤ T.length ∧ T.length ≤ 500) ∧ Zu7 T 0 T = true ∧ ∃ s, allW T 0 T (seen0 T) = some s ∧ lastS T s T.length 0 = true := by
  constructor
  · intro h
    have hp : ∀ (i : Nat) x, T[i]? = some x → -1 ≤ parN x ∧ parN x ≤ (T.length : Int) - 1 := fun i x hx => by
      rcases h.par i x hx with e | ⟨p, y, e, hy, _⟩
      · rw [e]; have := h.len; omega
      · have := Zt hy; omega
    obtain ⟨s, hs⟩ := allW_of T T 0 (seen0 T) (fun d x hd => ⟨fun k hk => by have := h.kid d x k hd hk; rwa [Nat.zero_add], h.nodup d x hd⟩) (by simp [seen0]) (fun j hj => by
      simp only [seen0, List.getElem?_replicate] at hj
      split at hj <;> cases hj)
    refine ⟨h.len, (Zpy T T 0).2 fun d x hd => (Zxr T _ x).2 ?_, s, hs, (Zxs T s T.length 0).2 fun j _ hj => ?_⟩
    · rw [Nat.zero_add]
      exact ⟨(h.node d x hd).1, (h.node d x hd).2, hp d x hd, fun q => by subst q; exact h.root x hd⟩
    · obtain ⟨a1, a2, a3⟩ := Zrq T T 0 (seen0 T) s hs
      obtain ⟨x, hx⟩ := Zbj (l := T) (i := j) (by omega)
      refine ⟨?_, (Zxy ..).2 (h.ends j (by omega))⟩
      rw [a3 j, Zfp hx]
      have h0 : ¬ (seen0 T)[j]? = some true := fun q => by
        simp only [seen0, List.getElem?_replicate] at q
        split at q <;> cases q
      constructor
      · rintro (q | ⟨_, d, y, q1, q2⟩)
        · exact absurd q h0
        · have := (h.kid d y _ q1 q2).2.2
          rw [Zfp hx] at this
          omega
      · intro q
        rcases h.par j x hx with e | ⟨p, y, e, hy, hm⟩
        · omega
        · exact .inr ⟨by simp [seen0]; omega, p, y, hy, hm⟩
  · rintro ⟨h1, h2, s, h3, h4⟩
    have n1 := fun (d : Nat) x (hd : T[d]? = some x) => (Zxr T _ x).1 ((Zpy T T 0).1 h2 d x hd)
    obtain ⟨a1, a2, a3⟩ := Zrq T T 0 (seen0 T) s h3
    have l1 := (Zxs T s T.length 0).1 h4
    refine ⟨h1, fun i x hx => ?_, fun x hx => ?_, fun i x k hx hk => ?_, fun i x hx => (a2 i x hx).2, fun i x hx => ?_, fun i hi => (Zxy ..).1 (l1 i (by omega) (by omega)).2⟩
    · have := n1 i x hx; rw [Nat.zero_add] at this; exact ⟨this.1, this.2.1⟩
    · exact (n1 0 x hx).2.2.2 rfl
    · have := (a2 i x hx).1 k hk; rwa [Nat.zero_add] at this
    · have hi := Zt hx
      have b1 := (l1 i (by omega) (by omega)).1
      rw [a3 i, Zfp hx] at b1
      have b2 := (n1 i x hx).2.2.1
      by_cases q : 0 ≤ parN x
      · rcases b1.2 q with q | ⟨_, d, y, q1, q2⟩
        · simp only [seen0, List.getElem?_replicate] at q
          split at q <;> cases q
        · have := ((a2 d y q1).1 _ q2).2.2
          rw [Zfp hx, Nat.zero_add] at this
          exact .inr ⟨d, y, this, q1, q2⟩
      · exact .inl (by omega)
theorem Z3b (T : List Nd) (hk : ∀ x ∈ T, (kidsN x).length ≤ 140737488351000) : ∃ b, Zmi ((T, ()), ()) = some ((), b, ()) ∧ (b = true ↔ TreeG T) := by
  unfold Zmi Zpp
  by_cases hT : 1 ≤ T.length ∧ T.length ≤ 500
  · have hF := Zl
    have key := fun K => Zaic hT.2 hk K fuel (0, seen0 T) ⟨by simp only; omega, by simp [seen0]⟩ (by simp only; omega)
    simp only [List.drop_zero, Int.cast_ofNat_Int, seen0] at key
    simp (disch := omega) only [go_sem, key]
    cases hn : Zu7 T 0 T
    · refine ⟨false, by simp only [go_sem], ?_⟩
      rw [Zs7, hn]
      simp
    · cases hw : allW T 0 T (List.replicate T.length false) with
      | none =>
        refine ⟨false, by simp only [go_sem], ?_⟩
        rw [Zs7]
        simp [seen0, hw]
      | some s =>
        obtain ⟨a1, a2, a3⟩ := Zrq T T 0 _ s hw
        have hp : Z6a T := fun i x hx => by
          have := (Zxr T _ x).1 ((Zpy T T 0).1 hn i x hx)
          have := this.2.2.1
          omega
        have k2 := last_spec hT.2 hp (s := s) (by rw [a1]; simp) fuel 0 (by omega) (by omega)
        simp only [Int.cast_ofNat_Int, Nat.sub_zero] at k2
        refine ⟨lastS T s T.length 0, by simp only [go_sem, k2], ?_⟩
        rw [Zs7, seen0, hw]
        simp [hn, hT]
  · refine ⟨false, by simp (disch := omega) only [go_sem], ?_⟩
    rw [Zs7]
    simp [hT]
end Go.Proofs.YtcpecilmkkmaiaaGreat.V
namespace Go.Proofs.YtcpecilmkkmaiaaGreat.V
open Go Go.RowKit
attribute [local irreducible] wr
attribute [local go_sem] Zg2 Zfc
def Z60 (T : List Nd) (i : Int) : Bool := decide (0 ≤ i ∧ i ≤ (T.length : Int) - 1)
theorem Zvk (T : List Nd) (hT : T.length ≤ 17592186044416) (i : Int) : Zb3 ((T, ()), i, ()) = some ((), Z60 T i, ()) := by
  unfold Zb3 Zhh Z60
  simp (disch := omega) only [go_sem]
def Zqy (T : List Nd) (i : Int) : Nat → Int → Bool
  | 0, b => Z60 T b
  | r + 1, b => if b = i then true else if Z60 T b = true then Zqy T i r (parI T b) else false
theorem Zag6 {T : List Nd} (hT : T.length ≤ 17592186044416) {i : Int} : ∀ n (z : Int × Nat), z.2 ≤ T.length → T.length - z.2 < n →
    Zbt fuel n (fun v0 => obind (Zb3 (v0.1.1, v0.1.2.1, ())) fun v1 => some ((), v1.2.1, ())) (((T, ()), i, z.1, (T.length : Int), (z.2 : Int), ()), (), ()) = some ((), Zqy T i (T.length - z.2) z.1, ()) := by
  refine Zfq (L := fun n (z : Int × Nat) => Zbt fuel n (fun v0 => obind (Zb3 (v0.1.1, v0.1.2.1, ())) fun v1 => some ((), v1.2.1, ())) (((T, ()), i, z.1, (T.length : Int), (z.2 : Int), ()), (), ())) (fun z => z.2 ≤ T.length) (fun z => T.length - z.2) (fun z => some ((), Zqy T i (T.length - z.2) z.1, ())) (fun n z hz => ?_)
  obtain ⟨b, r⟩ := z
  simp only at hz ⊢
  rw [Zbt]
  by_cases h : r < T.length
  · obtain ⟨d, hd⟩ : ∃ d, T.length - r = d + 1 := ⟨T.length - r - 1, by omega⟩
    rw [hd, Zqy]
    by_cases hb : b = i
    · refine .inl ?_
      simp (disch := omega) only [go_sem]
    · simp (disch := omega) only [go_sem, Zvk]
      cases hn : Z60 T b
      · refine .inl ?_
        simp only [go_sem]
      · have hn' := of_decide_eq_true hn
        obtain ⟨x, hx⟩ := Zbj (l := T) (i := b.toNat) (by omega)
        have hq : parI T b = parN x := by
          have := Zfp hx
          rwa [show ((b.toNat : Nat) : Int) = b by omega] at this
        refine .inr ⟨(parN x, r + 1), by simp only; omega, by simp only; omega, ?_, ?_⟩
        · simp only [go_sem, hq]
          rw [show T.length - (r + 1) = d by omega]
        · simp (disch := omega) only [go_sem, hx]
          rfl
  · refine .inl ?_
    rw [show T.length - r = 0 by omega, Zqy]
    simp (disch := omega) only [go_sem, Zvk]
theorem Zakc {T : List Nd} (hT : T.length ≤ 17592186044416) (i b : Int) : Zfm ((T, ()), i, b, ()) = some ((), Zqy T i T.length b, ()) := by
  unfold Zfm Zgs
  have := Zag6 hT (i := i) fuel (b, 0) (by simp only; omega) (by have := Zl; simp only; omega)
  simp only [Int.cast_ofNat_Int, Nat.sub_zero] at this
  simp only [go_sem, this]
theorem Zj8 (T : List Nd) (i : Int) : Z60 T i = true ↔ 0 ≤ i ∧ i < (T.length : Int) := by
  simp only [Z60, decide_eq_true_eq]; omega
theorem Zts {T : List Nd} (hp : Z6a T) (i : Int) : -1 ≤ parI T i ∧ (parI T i < (T.length : Int) ∨ T.length = 0) := by
  unfold parI
  split
  · omega
  · split
    · rename_i x hx; have := hp _ x hx; omega
    · omega
theorem Zab5 {T : List Nd} (hp : Z6a T) {i : Int} : ∀ r b, -1 ≤ b → b < (T.length : Int) → Zqy T i r b = false → ∃ k, k ≤ r ∧ up T k b < 0
  | 0, b, h1, h2, h => by
    refine ⟨0, Nat.le_refl 0, ?_⟩
    simp only [Zqy] at h
    have := _root_.mt (Zj8 T b).2 (by rw [h]; decide)
    simp only [up]; omega
  | r + 1, b, h1, h2, h => by
    unfold Zqy at h
    split at h
    · cases h
    · split at h
      · rename_i hbn
        have hbn := (Zj8 T b).1 hbn
        have hr := Zts hp b
        obtain ⟨k, k1, k2⟩ := Zab5 hp r (parI T b) hr.1 (by omega) h
        exact ⟨k + 1, by omega, k2⟩
      · rename_i q
        have := _root_.mt (Zj8 T b).2 q
        exact ⟨0, by omega, by simp only [up]; omega⟩
theorem Zabt {T : List Nd} (hp : Z6a T) {i : Int} (hi : 0 ≤ i) : ∀ r b, -1 ≤ b → b < (T.length : Int) → (∃ k, k ≤ r ∧ up T k b < 0) → (∀ k, up T k b < 0 → ∀ j, j < k → up T j b ≠ i) → (∀ k, up T k b = i → ∃ m, up T (k + m) b < 0) → Zqy T i r b = false ∨ ∃ k, up T k b = i
  | 0, b, h1, h2, ⟨k, k1, k2⟩, _, _ => by
    obtain rfl : k = 0 := by omega
    simp only [up] at k2
    refine .inl ?_
    simp only [Zqy]
    exact Bool.eq_false_iff.2 fun q => by have := (Zj8 T b).1 q; omega
  | r + 1, b, h1, h2, ⟨k, k1, k2⟩, h3, h4 => by
    by_cases hb : b = i
    · exact .inr ⟨0, hb⟩
    · by_cases hn : Z60 T b = true
      · have hr := Zts hp b
        have hbn := (Zj8 T b).1 hn
        obtain ⟨k, rfl⟩ : ∃ q, k = q + 1 := ⟨k - 1, by
          cases k with
          | zero => simp only [up] at k2; omega
          | succ k => rfl⟩
        rcases Zabt hp hi r (parI T b) hr.1 (by omega) ⟨k, by omega, k2⟩ (fun k' q j hj => h3 (k' + 1) q (j + 1) (by omega)) (fun k' q => by
          obtain ⟨m, hm⟩ := h4 (k' + 1) q
          exact ⟨m, by rwa [show k' + 1 + m = (k' + m) + 1 by omega] at hm⟩) with q | ⟨k', q⟩
        · refine .inl ?_
          unfold Zqy
          rw [if_neg hb, if_pos hn]; exact q
        · exact .inr ⟨k' + 1, q⟩
      · refine .inl ?_
        unfold Zqy
        rw [if_neg hb, if_neg hn]
theorem up_loop {T : List Nd} {i : Int} (hi : 0 ≤ i) {j : Nat} (hj : 1 ≤ j) (h : up T j i = i) : ∀ k, 0 ≤ up T k i := by
  have many : ∀ c, up T (c * j) i = i := by
    intro c
    induction c with
    | zero => simp [up]
    | succ c ih => rw [Nat.succ_mul, Z8h, ih, h]
  intro k
  by_cases q : 0 ≤ up T k i
  · exact q
  · have h2 := up_neg T (k * j - k) _ (by omega : up T k i < 0)
    have h3 : k ≤ k * j := Nat.le_mul_of_pos_right k (by omega)
    rw [← Z8h, show k + (k * j - k) = k * j by omega, many] at h2
    omega
theorem Zafu {T : List Nd} (hp : Z6a T) {i : Nat} (hi : i < T.length) : Zqy T (i : Int) T.length (parI T (i : Int)) = false ↔ ∃ k, k ≤ T.length + 1 ∧ up T k (i : Int) < 0 := by
  have hr := Zts hp (i : Int)
  constructor
  · intro h
    obtain ⟨k, k1, k2⟩ := Zab5 hp T.length _ hr.1 (by omega) h
    exact ⟨k + 1, by omega, k2⟩
  · rintro ⟨k, k1, k2⟩
    obtain ⟨k, rfl⟩ : ∃ q, k = q + 1 := ⟨k - 1, by
      cases k with
      | zero => simp only [up] at k2; omega
      | succ k => rfl⟩
    have hno : ∀ j, up T (j + 1) (i : Int) ≠ (i : Int) := fun j q => by
      have := up_loop (by omega) (by omega) q (k + 1)
      omega
    rcases Zabt hp (i := (i : Int)) (by omega) T.length _ hr.1 (by omega) ⟨k, by omega, k2⟩ (fun k' _ j _ => hno j) (fun k' q => absurd q (hno k')) with q | ⟨k', q⟩
    · exact q
    · exact absurd q (hno k')
def b2i (b : Bool) : Int := if b = true then 1 else 0
theorem kids_impl {T : List Nd} (hT : T.length ≤ 500) (h0 : parI T 0 = -1) {i : Nat} {ks : List Int} (hks : ks.length ≤ 140737488351000) {q : List Nd × Int × Int × Unit} (K) : ∀ n (z : Nat × List Bool), z.1 ≤ ks.length ∧ z.2.length = T.length → ks.length - z.1 < n →
    Zbr fuel n K (((T, ()), (i : Int), q.1, q.2.1, q.2.2.1, ks, (ks.length : Int), (z.1 : Int), ()), (), z.2.map b2i, ()) = match kidsW T i (ks.drop z.1) z.2 with
      | none => some ((), false, ())
      | some s => K (((T, ()), q.1, q.2.1, q.2.2.1, ()), (), s.map b2i, ()) := by
  refine Zfq (L := fun n (z : Nat × List Bool) => Zbr fuel n K (((T, ()), (i : Int), q.1, q.2.1, q.2.2.1, ks, (ks.length : Int), (z.1 : Int), ()), (), z.2.map b2i, ())) (fun z => z.1 ≤ ks.length ∧ z.2.length = T.length) (fun z => ks.length - z.1) (fun z => match kidsW T i (ks.drop z.1) z.2 with
      | none => some ((), false, ())
      | some s => K (((T, ()), q.1, q.2.1, q.2.2.1, ()), (), s.map b2i, ())) (fun n z hz => ?_)
  obtain ⟨j, s⟩ := z
  obtain ⟨z1, z2⟩ := hz
  simp only at z1 z2 ⊢
  rw [Zbr]
  by_cases hj : j < ks.length
  · obtain ⟨k, hk⟩ := Zbj hj
    rw [Zbf hk, kidsW]
    simp (disch := omega) only [go_sem, hk, Zvk]
    cases hn : Z60 T k
    · refine .inl ?_
      have := _root_.mt (Zj8 T k).2 (by rw [hn]; decide)
      rw [if_neg (fun h => this ⟨by omega, h.2.1⟩)]
      simp only [go_sem]
    · have hk2 := (Zj8 T k).1 hn
      obtain ⟨b, hb⟩ := Zbj (l := s) (i := k.toNat) (by omega)
      obtain ⟨y, hy⟩ := Zbj (l := T) (i := k.toNat) (by omega)
      have hp : parI T k = parN y := by
        have := Zfp hy
        rwa [show ((k.toNat : Nat) : Int) = k by omega] at this
      have hmb : (s.map b2i)[k.toNat]? = some (b2i b) := by rw [List.getElem?_map, hb]; rfl
      simp (disch := omega) only [go_sem, hb, hy, hmb, List.length_map]
      by_cases h2 : parN y = (i : Int)
      · have hk0 : k ≠ 0 := fun e => by rw [e, h0] at hp; omega
        cases b
        · have e0 : b2i false = 0 := rfl
          refine .inr ⟨(j + 1, s.set k.toNat true), ⟨by omega, by simpa using z2⟩, by simp only; omega, ?_, ?_⟩
          · simp only
            rw [if_pos ⟨by omega, by omega, by omega, trivial⟩]
          · simp (disch := omega) only [go_sem, h2, e0]
            have : (s.map b2i).set k.toNat (0 + 1) = (s.set k.toNat true).map b2i := by rw [List.map_set]; rfl
            rw [this]
            rfl
        · have e1 : b2i true = 1 := rfl
          refine .inl ?_
          rw [if_neg (fun h => by cases h.2.2.2)]
          simp (disch := omega) only [go_sem, h2, e1]
      · refine .inl ?_
        rw [if_neg (fun h => h2 (by rw [← hp]; exact h.2.2.1))]
        simp (disch := omega) only [go_sem]
  · refine .inl ?_
    rw [List.drop_eq_nil_of_le (by omega), kidsW]
    simp (disch := omega) only [go_sem]
theorem all_impl {T : List Nd} (hT : T.length ≤ 500) (h0 : parI T 0 = -1) (hk : ∀ x ∈ T, (kidsN x).length ≤ 140737488351000) (K) : ∀ n (z : Nat × List Bool), z.1 ≤ T.length ∧ z.2.length = T.length → T.length - z.1 < n →
    Zbs fuel n K (((T, ()), T, (T.length : Int), (z.1 : Int), ()), (), z.2.map b2i, ()) = match allW T z.1 (T.drop z.1) z.2 with
      | none => some ((), false, ())
      | some s => K (((T, ()), ()), (), s.map b2i, ()) := by
  refine Zfq (L := fun n (z : Nat × List Bool) => Zbs fuel n K (((T, ()), T, (T.length : Int), (z.1 : Int), ()), (), z.2.map b2i, ())) (fun z => z.1 ≤ T.length ∧ z.2.length = T.length) (fun z => T.length - z.1) (fun z => match allW T z.1 (T.drop z.1) z.2 with
      | none => some ((), false, ())
      | some s => K (((T, ()), ()), (), s.map b2i, ())) (fun n z hz => ?_)
  obtain ⟨i, s⟩ := z
  obtain ⟨z1, z2⟩ := hz
  simp only at z1 z2 ⊢
  rw [Zbs]
  by_cases hi : i < T.length
  · obtain ⟨x, hx⟩ := Zbj hi
    have hF := Zl
    have hkx := hk x (List.mem_of_getElem? hx)
    have key := fun K2 => kids_impl (i := i) (q := (T, (T.length : Int), (i : Int), ())) hT h0 hkx K2 fuel (0, s) ⟨by simp only; omega, z2⟩ (by simp only; omega)
    simp only [List.drop_zero, Int.cast_ofNat_Int] at key
    rw [Zbf hx, allW]
    simp (disch := omega) only [go_sem, hx, key]
    cases hw : kidsW T i (kidsN x) s with
    | none => exact .inl rfl
    | some s1 =>
      refine .inr ⟨(i + 1, s1), ⟨by simp only; omega, by rw [Zj7 T i _ _ _ hw]; exact z2⟩, by simp only; omega, rfl, ?_⟩
      simp (disch := omega) only [go_sem]
      rfl
  · refine .inl ?_
    rw [List.drop_eq_nil_of_le (by omega), allW]
    simp (disch := omega) only [go_sem]
def lastI (T : List Nd) (s : List Bool) : Nat → Nat → Bool
  | 0, _ => true
  | d + 1, i => (decide (s[i]? = some true ↔ ¬ parI T (i : Int) = -1) && !Zqy T (i : Int) T.length (parI T (i : Int))) && lastI T s d (i + 1)
theorem last_impl {T : List Nd} (hT : T.length ≤ 500) {s : List Bool} (hs : s.length = T.length) : ∀ n (i : Nat), i ≤ T.length → T.length - i < n →
    Zbq fuel n (fun v1 => some ((), true, ())) (((T, ()), T, (T.length : Int), (i : Int), ()), (), s.map b2i, ()) = some ((), lastI T s (T.length - i) i, ()) := by
  refine Zfq (L := fun n (i : Nat) => Zbq fuel n (fun v1 => some ((), true, ())) (((T, ()), T, (T.length : Int), (i : Int), ()), (), s.map b2i, ())) (fun i => i ≤ T.length) (fun i => T.length - i) (fun i => some ((), lastI T s (T.length - i) i, ())) (fun n i hi => ?_)
  rw [Zbq]
  by_cases h : i < T.length
  · obtain ⟨x, hx⟩ := Zbj h
    obtain ⟨b, hb⟩ := Zbj (l := s) (i := i) (by omega)
    have hmb : (s.map b2i)[i]? = some (b2i b) := by rw [List.getElem?_map, hb]; rfl
    have hq := Zfp hx
    obtain ⟨d, hd⟩ : ∃ d, T.length - i = d + 1 := ⟨T.length - i - 1, by omega⟩
    rw [hd, lastI, hb, hq]
    have e1 : beq (ieq (parN x) (-1)) (ilt 0 (b2i b)) = !decide (some b = some true ↔ ¬ parN x = -1) := by
      cases b
      · by_cases q : parN x = -1
        · rw [ieq_t q, decide_eq_true (by simp [q])]; rfl
        · rw [ieq_f q, decide_eq_false (by simp [q])]; rfl
      · by_cases q : parN x = -1
        · rw [ieq_t q, decide_eq_false (by simp [q])]; rfl
        · rw [ieq_f q, decide_eq_true (by simp [q])]; rfl
    simp (disch := omega) only [go_sem, hx, hmb, e1, List.length_map, Zakc]
    cases decide (some b = some true ↔ ¬ parN x = -1)
    · refine .inl ?_
      simp only [go_sem]
    · cases Zqy T (i : Int) T.length (parN x)
      · refine .inr ⟨i + 1, by omega, by omega, ?_, ?_⟩
        · simp only [Bool.true_and, Bool.not_false]
          rw [show T.length - (i + 1) = d by omega]
        · simp (disch := omega) only [go_sem]
          rfl
      · refine .inl ?_
        simp only [go_sem]
  · refine .inl ?_
    rw [show T.length - i = 0 by omega, lastI]
    simp (disch := omega) only [go_sem]
theorem Z6v (T : List Nd) (s : List Bool) : ∀ d i, lastI T s d i = true ↔ ∀ j, i ≤ j → j < i + d → ((s[j]? = some true ↔ ¬ parI T (j : Int) = -1) ∧ Zqy T (j : Int) T.length (parI T (j : Int)) = false)
  | 0, i => ⟨fun _ j h1 h2 => by omega, fun _ => rfl⟩
  | d + 1, i => by
    simp only [lastI, Bool.and_eq_true, decide_eq_true_eq, Z6v T s d, Bool.not_eq_true']
    constructor
    · rintro ⟨h1, h2⟩ j h3 h4
      by_cases e : j = i
      · subst e; exact h1
      · exact h2 j (by omega) (by omega)
    · intro h
      exact ⟨h i (Nat.le_refl i) (by omega), fun j h1 h2 => h j (by omega) (by omega)⟩
def Z1m : Nat → List Nd → Bool
  | _, [] => true
  | i, x :: l => nodeA x (i : Int) && Z1m (i + 1) l
theorem Zaid {T : List Nd} (hT : T.length ≤ 500) (K) : ∀ n (i : Nat), i ≤ T.length → T.length - i < n →
    Ze1 fuel n K ((T, (T.length : Int), (i : Int), ()), ((T, ()), ()), ()) = if Z1m i (T.drop i) = true then K ((), ((T, ()), ()), ()) else some ((), false, ()) := by
  refine Zfq (L := fun n (i : Nat) => Ze1 fuel n K ((T, (T.length : Int), (i : Int), ()), ((T, ()), ()), ())) (fun i => i ≤ T.length) (fun i => T.length - i) (fun i => if Z1m i (T.drop i) = true then K ((), ((T, ()), ()), ()) else some ((), false, ())) (fun n i hi => ?_)
  rw [Ze1]
  by_cases h : i < T.length
  · obtain ⟨x, hx⟩ := Zbj h
    rw [Zbf hx, Z1m]
    simp (disch := omega) only [go_sem, hx, node_impl]
    cases nodeA x (i : Int)
    · refine .inl ?_
      simp only [go_sem]
    · refine .inr ⟨i + 1, by omega, by omega, by simp only [Bool.true_and], ?_⟩
      simp (disch := omega) only [go_sem]
      rfl
  · refine .inl ?_
    rw [List.drop_eq_nil_of_le (by omega), Z1m]
    simp (disch := omega) only [go_sem]
theorem Ztt : ∀ l i, Z1m i l = true ↔ ∀ (d : Nat) x, l[d]? = some x → nodeA x ((i + d : Nat) : Int) = true
  | [], i => by simp [Z1m]
  | y :: l, i => by
    simp only [Z1m, Bool.and_eq_true, Ztt l]
    constructor
    · rintro ⟨h1, h2⟩ d x hd
      cases d with
      | zero =>
        obtain rfl : y = x := by simpa using hd
        exact h1
      | succ d =>
        have := h2 d x (by simpa using hd)
        rwa [show i + 1 + d = i + (d + 1) by omega] at this
    · intro h
      refine ⟨h 0 y rfl, fun d x hd => ?_⟩
      have := h (d + 1) x (by simpa using hd)
      rwa [show i + (d + 1) = i + 1 + d by omega] at this
theorem Z6c (x : Nd) (i : Nat) : nodeA x (i : Int) = true ↔ nodeG x = true ∧ (x.1 = 1 ↔ i = 0) ∧ (x.1 = 1 → parN x = -1) := by
  simp only [nodeA, Bool.and_eq_true, decide_eq_true_eq, Bool.or_eq_true, Bool.not_eq_true', decide_eq_false_iff_not]
  constructor
  · rintro ⟨h1, h2, h3⟩
    exact ⟨h2, ⟨fun q => by have := h1.1 q; omega, fun q => h1.2 (by omega)⟩, fun q => h3.resolve_left (fun f => f q)⟩
  · rintro ⟨h1, h2, h3⟩
    exact ⟨⟨fun q => by have := h2.1 q; omega, fun q => h2.2 (by omega)⟩, h1, by by_cases q : x.1 = 1 <;> simp [q]; exact h3 q⟩
theorem Zs6 (T : List Nd) : TreeG T ↔ (1 ≤ T.length ∧ T.length ≤ 500) ∧ Z1m 0 T = true ∧ ∃ s, allW T 0 T (seen0 T) = some s ∧ lastI T s T.length 0 = true := by
  constructor
  · intro h
    obtain ⟨h1, h2, s, h3, h4⟩ := (Zs7 T).1 h
    have hp : Z6a T := fun i x hx => by
      have := (Zxr T _ x).1 ((Zpy T T 0).1 h2 i x hx)
      have := this.2.2.1
      omega
    refine ⟨h1, (Ztt T 0).2 fun d x hd => ?_, s, h3, (Z6v T s T.length 0).2 fun j _ hj => ?_⟩
    · rw [Nat.zero_add, Z6c]
      refine ⟨(h.node d x hd).1, (h.node d x hd).2, fun q => ?_⟩
      obtain rfl := (h.node d x hd).2.1 q
      exact h.root x hd
    · have := (Zxs T s T.length 0).1 h4 j (by omega) (by omega)
      have hr := Zts hp (j : Int)
      refine ⟨this.1.trans ⟨fun q => by omega, fun q => by omega⟩, (Zafu hp (by omega)).2 (h.ends j (by omega))⟩
  · rintro ⟨h1, h2, s, h3, h4⟩
    have n1 := fun (d : Nat) x (hd : T[d]? = some x) => (Z6c x _).1 ((Ztt T 0).1 h2 d x hd)
    obtain ⟨a1, a2, a3⟩ := Zrq T T 0 (seen0 T) s h3
    have l1 := (Z6v T s T.length 0).1 h4
    have hpar : ∀ (i : Nat) x, T[i]? = some x → parN x = -1 ∨ ∃ (p : Nat) (y : Nd), parN x = (p : Int) ∧ T[p]? = some y ∧ (i : Int) ∈ kidsN y := fun i x hx => by
      have hi := Zt hx
      have b1 := (l1 i (by omega) (by omega)).1
      rw [a3 i, Zfp hx] at b1
      by_cases q : parN x = -1
      · exact .inl q
      · rcases b1.2 q with q | ⟨_, d, y, q1, q2⟩
        · simp only [seen0, List.getElem?_replicate] at q
          split at q <;> cases q
        · have := ((a2 d y q1).1 _ q2).2.2
          rw [Zfp hx, Nat.zero_add] at this
          exact .inr ⟨d, y, this, q1, q2⟩
    have hp : Z6a T := fun i x hx => by
      rcases hpar i x hx with e | ⟨p, y, e, hy, _⟩
      · rw [e]; omega
      · have := Zt hy; omega
    refine ⟨h1, fun i x hx => ?_, fun x hx => ?_, fun i x k hx hk => ?_, fun i x hx => (a2 i x hx).2, hpar, fun i hi => (Zafu hp hi).1 (l1 i (by omega) (by omega)).2⟩
    · have := n1 i x hx; rw [Nat.zero_add] at this; exact ⟨this.1, this.2.1⟩
    · exact (n1 0 x hx).2.2 ((n1 0 x hx).2.1.2 rfl)
    · have := (a2 i x hx).1 k hk; rwa [Nat.zero_add] at this
theorem Z3c (T : List Nd) (hk : ∀ x ∈ T, (kidsN x).length ≤ 140737488351000) : ∃ b, Zms ((T, ()), ()) = some ((), b, ()) ∧ (b = true ↔ TreeG T) := by
  unfold Zms Zqo
  by_cases hT : 1 ≤ T.length ∧ T.length ≤ 500
  · have hF := Zl
    have key := fun K => Zaid hT.2 K fuel 0 (by omega) (by omega)
    simp only [List.drop_zero, Int.cast_ofNat_Int] at key
    simp (disch := omega) only [go_sem, key]
    cases hn : Z1m 0 T
    · refine ⟨false, by simp only [go_sem], ?_⟩
      rw [Zs6, hn]
      simp
    · have h0 : parI T 0 = -1 := by
        obtain ⟨x, hx⟩ := Zbj (l := T) (i := 0) (by omega)
        have n1 := (Z6c x _).1 ((Ztt T 0).1 hn 0 x hx)
        have := Zfp hx
        rw [Int.cast_ofNat_Int] at this
        rw [this]
        exact n1.2.2 (n1.2.1.2 rfl)
      have k1 := fun K => all_impl hT.2 h0 hk K fuel (0, seen0 T) ⟨by simp only; omega, by simp [seen0]⟩ (by simp only; omega)
      have e0 : (seen0 T).map b2i = List.replicate T.length 0 := by simp [seen0, b2i]
      simp only [List.drop_zero, Int.cast_ofNat_Int, e0] at k1
      unfold Zip Zgr
      simp (disch := omega) only [go_sem, k1]
      cases hw : allW T 0 T (seen0 T) with
      | none =>
        refine ⟨false, by simp only [go_sem], ?_⟩
        rw [Zs6]
        simp [hw]
      | some s =>
        obtain ⟨a1, a2, a3⟩ := Zrq T T 0 _ s hw
        have k2 := last_impl hT.2 (s := s) (by rw [a1]; simp [seen0]) fuel 0 (by omega) (by omega)
        simp only [Int.cast_ofNat_Int, Nat.sub_zero] at k2
        refine ⟨lastI T s T.length 0, by simp only [go_sem, k2], ?_⟩
        rw [Zs6, hw]
        simp [hn, hT]
  · refine ⟨false, by simp (disch := omega) only [go_sem], ?_⟩
    rw [Zs6]
    simp [hT]
theorem Zafy (T : List Nd) (hk : ∀ x ∈ T, (kidsN x).length ≤ 140737488351000) : ∃ b, Zmi ((T, ()), ()) = some ((), b, ()) ∧ Zms ((T, ()), ()) = some ((), b, ()) ∧ (b = true ↔ TreeG T) := by
  obtain ⟨b, h1, h2⟩ := Z3b T hk
  obtain ⟨c, h3, h4⟩ := Z3c T hk
  have : c = b := by
    rw [Bool.eq_iff_iff]
    exact h4.trans h2.symm
  subst this
  exact ⟨c, h1, h3, h4⟩
end Go.Proofs.YtcpecilmkkmaiaaGreat.V
namespace Go.Proofs.YtcpecilmkkmaiaaGreat.V
open Go Go.RowKit
attribute [local irreducible] wr
def kidsI (T : List Nd) (i : Int) : List Int := match T[i.toNat]? with
  | some x => kidsN x
  | none => []
theorem Zoe {T : List Nd} {i : Nat} {x : Nd} (h : T[i]? = some x) : kidsI T (i : Int) = kidsN x := by
  unfold kidsI
  rw [Int.toNat_natCast, h]
def Deep (T : List Nd) : Nat → Int → Prop
  | 0, _ => False
  | d + 1, i => ∀ k ∈ kidsI T i, Deep T d k
def pre (T : List Nd) : Nat → Int → List Int
  | 0, i => [i]
  | d + 1, i => i :: (kidsI T i).flatMap (pre T d)
theorem Ztp {T : List Nd} : ∀ {d i}, Deep T d i → pre T (d + 1) i = pre T d i
  | d + 1, i, h => by
    have key : ∀ ks : List Int, (∀ k ∈ ks, Deep T d k) → ks.flatMap (pre T (d + 1)) = ks.flatMap (pre T d) := by
      intro ks
      induction ks with
      | nil => intro _; rfl
      | cons k ks ih =>
        intro hk
        rw [List.flatMap_cons, List.flatMap_cons, Ztp (hk k (List.mem_cons_self ..)), ih fun q hq => hk q (List.mem_cons_of_mem _ hq)]
    rw [pre, pre, key _ h]
def kpos (g : Int → Nat) : Nat → List Int → List Int
  | _, [] => []
  | o, k :: ks => (o : Int) :: kpos g (o + g k) ks
def flats (f : Nat → Int → Int → List Nd) : Nat → Int → List Int → List Nd
  | _, _, [] => []
  | o, p, k :: ks => f o p k ++ flats f (o + (f o p k).length) p ks
def moved (T : List Nd) (i : Int) (p : Int) (ks : List Int) : Nd := match T[i.toNat]? with
  | some x => (x.1, x.2.1, x.2.2.1, x.2.2.2.1, p, ks, ())
  | none => (0, ⟨#[]⟩, [], ⟨#[]⟩, p, ks, ())
theorem Z6d {T : List Nd} {i : Nat} {x : Nd} (h : T[i]? = some x) (p : Int) (ks : List Int) : moved T (i : Int) p ks = (x.1, x.2.1, x.2.2.1, x.2.2.2.1, p, ks, ()) := by
  unfold moved
  rw [Int.toNat_natCast, h]
def flatT (T : List Nd) : Nat → Nat → Int → Int → List Nd
  | 0, _, _, _ => []
  | d + 1, o, p, i => moved T i p (kpos (fun k => (pre T d k).length) (o + 1) (kidsI T i)) :: flats (flatT T d) (o + 1) (o : Int) (kidsI T i)
theorem Z0j {f : Nat → Int → Int → List Nd} {g : Int → List Int} : ∀ (ks : List Int) (o : Nat) (p : Int), (∀ k ∈ ks, ∀ o p, (f o p k).length = (g k).length) → (flats f o p ks).length = (ks.flatMap g).length
  | [], o, p, _ => rfl
  | k :: ks, o, p, h => by
    rw [flats, List.flatMap_cons, List.length_append, List.length_append, h k (List.mem_cons_self ..), Z0j ks _ p fun q hq => h q (List.mem_cons_of_mem _ hq)]
theorem Z0l {T : List Nd} : ∀ {d i}, Deep T d i → ∀ o p, (flatT T d o p i).length = (pre T d i).length
  | d + 1, i, h, o, p => by
    rw [flatT, pre, List.length_cons, List.length_cons, Z0j (g := pre T d) _ _ _ fun k hk o p => Z0l (h k hk) o p]
theorem Zzt {g g' : Int → Nat} : ∀ (ks : List Int) (o : Nat), (∀ k ∈ ks, g k = g' k) → kpos g o ks = kpos g' o ks
  | [], o, _ => rfl
  | k :: ks, o, h => by rw [kpos, kpos, h k (List.mem_cons_self ..), Zzt ks _ fun q hq => h q (List.mem_cons_of_mem _ hq)]
theorem Zvw {f f' : Nat → Int → Int → List Nd} : ∀ (ks : List Int) (o : Nat) (p : Int), (∀ k ∈ ks, ∀ o p, f o p k = f' o p k) → flats f o p ks = flats f' o p ks
  | [], o, p, _ => rfl
  | k :: ks, o, p, h => by rw [flats, flats, h k (List.mem_cons_self ..), Zvw ks _ p fun q hq => h q (List.mem_cons_of_mem _ hq)]
theorem Z0k {T : List Nd} : ∀ {d i}, Deep T d i → ∀ o p, flatT T (d + 1) o p i = flatT T d o p i
  | d + 1, i, h, o, p => by
    rw [flatT, flatT, Zzt _ _ fun k hk => by rw [Ztp (h k hk)], Zvw _ _ _ fun k hk o p => Z0k (h k hk) o p]
theorem deep_of {T : List Nd} (hT : TreeG T) : ∀ d (i : Int) m, 0 ≤ i → i < (T.length : Int) → 0 ≤ up T m i → T.length + 2 ≤ m + d → Deep T d i
  | 0, i, m, h0, h1, h2, h3 => by
    obtain ⟨k, k1, k2⟩ := hT.ends i.toNat (by omega)
    rw [show ((i.toNat : Nat) : Int) = i by omega] at k2
    have := up_neg T (m - k) _ k2
    rw [← Z8h, show k + (m - k) = m by omega] at this
    omega
  | d + 1, i, m, h0, h1, h2, h3 => fun k hk => by
    obtain ⟨x, hx⟩ := Zbj (l := T) (i := i.toNat) (by omega)
    have e := Zoe hx
    rw [show ((i.toNat : Nat) : Int) = i by omega] at e
    rw [e] at hk
    obtain ⟨k1, k2, k3⟩ := hT.kid _ x k hx hk
    rw [show ((i.toNat : Nat) : Int) = i by omega] at k3
    exact deep_of hT d k (m + 1) (by omega) k2 (by rw [up, k3]; exact h2) (by omega)
theorem TreeG.deep {T : List Nd} (hT : TreeG T) {i : Int} (h0 : 0 ≤ i) (h1 : i < (T.length : Int)) : Deep T (T.length + 2) i := deep_of hT _ i 0 h0 h1 (by simpa [up] using h0) (by omega)
theorem TreeG.deep1 {T : List Nd} (hT : TreeG T) {i k : Int} (h0 : 0 ≤ i) (h1 : i < (T.length : Int)) (hk : k ∈ kidsI T i) : Deep T (T.length + 1) k := hT.deep h0 h1 k hk
theorem TreeG.kidI {T : List Nd} (hT : TreeG T) {i k : Int} (h0 : 0 ≤ i) (h1 : i < (T.length : Int)) (hk : k ∈ kidsI T i) : 1 ≤ k ∧ k < (T.length : Int) ∧ parI T k = i := by
  obtain ⟨x, hx⟩ := Zbj (l := T) (i := i.toNat) (by omega)
  have e := Zoe hx
  rw [show ((i.toNat : Nat) : Int) = i by omega] at e
  rw [e] at hk
  have := hT.kid _ x k hx hk
  rwa [show ((i.toNat : Nat) : Int) = i by omega] at this
theorem TreeG.nodupI {T : List Nd} (hT : TreeG T) {i : Int} (h0 : 0 ≤ i) (h1 : i < (T.length : Int)) : (kidsI T i).Nodup := by
  obtain ⟨x, hx⟩ := Zbj (l := T) (i := i.toNat) (by omega)
  have e := Zoe hx
  rw [show ((i.toNat : Nat) : Int) = i by omega] at e
  rw [e]
  exact hT.nodup _ x hx
def preC (T : List Nd) (i : Int) : List Int := pre T (T.length + 2) i
def flatC (T : List Nd) (o : Nat) (p i : Int) : List Nd := flatT T (T.length + 2) o p i
theorem Ztq {T : List Nd} (hT : TreeG T) {i : Int} (h0 : 0 ≤ i) (h1 : i < (T.length : Int)) : preC T i = i :: (kidsI T i).flatMap (preC T) := by
  unfold preC
  rw [pre]
  congr 1
  have key : ∀ ks : List Int, (∀ k ∈ ks, Deep T (T.length + 1) k) → ks.flatMap (pre T (T.length + 1)) = ks.flatMap (pre T (T.length + 2)) := by
    intro ks
    induction ks with
    | nil => intro _; rfl
    | cons k ks ih =>
      intro hk
      rw [List.flatMap_cons, List.flatMap_cons, Ztp (hk k (List.mem_cons_self ..)), ih fun q hq => hk q (List.mem_cons_of_mem _ hq)]
  exact key _ fun k hk => hT.deep1 h0 h1 hk
theorem Z0n {T : List Nd} (hT : TreeG T) {i : Int} (h0 : 0 ≤ i) (h1 : i < (T.length : Int)) (o : Nat) (p : Int) : flatC T o p i = moved T i p (kpos (fun k => (preC T k).length) (o + 1) (kidsI T i)) :: flats (flatC T) (o + 1) (o : Int) (kidsI T i) := by
  unfold flatC preC
  rw [flatT]
  rw [Zzt _ _ fun k hk => by rw [← Ztp (hT.deep1 h0 h1 hk)], Zvw _ _ _ fun k hk o p => (Z0k (hT.deep1 h0 h1 hk) o p).symm]
theorem Zhn {T : List Nd} (hT : TreeG T) {i : Int} (h0 : 0 ≤ i) (h1 : i < (T.length : Int)) (o : Nat) (p : Int) : (flatC T o p i).length = (preC T i).length := Z0l (hT.deep h0 h1) o p
theorem Zy4 : ∀ (n : Nat) (l : List Int), l.Nodup → (∀ x ∈ l, 0 ≤ x ∧ x < (n : Int)) → l.length ≤ n
  | 0, l, _, h => by
    cases l with
    | nil => simp
    | cons x l => have := h x (List.mem_cons_self ..); omega
  | n + 1, l, hn, h => by
    by_cases hm : (n : Int) ∈ l
    · have h1 := List.length_erase_of_mem hm
      have h2 := Zy4 n (l.erase (n : Int)) (hn.erase _) (fun x hx => by
        have := (hn.mem_erase_iff).1 hx
        have := h x this.2
        omega)
      have := List.length_pos_of_mem hm
      omega
    · have := Zy4 n l hn (fun x hx => by
        have h3 := h x hx
        have : x ≠ (n : Int) := fun e => hm (e ▸ hx)
        omega)
      omega
theorem Z9w {g : Int → List Int} : ∀ ks : List Int, ks.Nodup → (∀ k ∈ ks, (g k).Nodup) → (∀ k ∈ ks, ∀ q ∈ ks, ∀ x, x ∈ g k → x ∈ g q → k = q) → (ks.flatMap g).Nodup
  | [], _, _, _ => by simp
  | k :: ks, hn, h1, h2 => by
    obtain ⟨n1, n2⟩ := List.nodup_cons.1 hn
    rw [List.flatMap_cons, List.nodup_append]
    refine ⟨h1 k (List.mem_cons_self ..), Z9w ks n2 (fun q hq => h1 q (List.mem_cons_of_mem _ hq)) (fun a ha b hb => h2 a (List.mem_cons_of_mem _ ha) b (List.mem_cons_of_mem _ hb)), ?_⟩
    rintro x hx y hy rfl
    obtain ⟨q, hq, hxq⟩ := List.mem_flatMap.1 hy
    have := h2 k (List.mem_cons_self ..) q (List.mem_cons_of_mem _ hq) x hx hxq
    exact n1 (this ▸ hq)
theorem Zacs {T : List Nd} (hT : TreeG T) : ∀ d (i : Int), 0 ≤ i → i < (T.length : Int) → ∀ x ∈ pre T d i, 0 ≤ x ∧ x < (T.length : Int) ∧ ∃ m, up T m x = i
  | 0, i, h0, h1, x, hx => by
    obtain rfl : x = i := by simpa [pre] using hx
    exact ⟨h0, h1, 0, rfl⟩
  | d + 1, i, h0, h1, x, hx => by
    rw [pre] at hx
    rcases List.mem_cons.1 hx with rfl | hx
    · exact ⟨h0, h1, 0, rfl⟩
    · obtain ⟨k, hk, hxk⟩ := List.mem_flatMap.1 hx
      obtain ⟨k1, k2, k3⟩ := hT.kidI h0 h1 hk
      obtain ⟨a, b, m, hm⟩ := Zacs hT d k (by omega) k2 x hxk
      exact ⟨a, b, m + 1, by rw [Z8h, hm]; exact k3⟩
theorem TreeG.noloop {T : List Nd} (hT : TreeG T) {i : Int} (h0 : 0 ≤ i) (h1 : i < (T.length : Int)) {m : Nat} (hm : 1 ≤ m) : up T m i ≠ i := fun h => by
  obtain ⟨k, k1, k2⟩ := hT.ends i.toNat (by omega)
  rw [show ((i.toNat : Nat) : Int) = i by omega] at k2
  have := up_loop h0 hm h k
  omega
theorem Z5x {T : List Nd} (hT : TreeG T) : ∀ d (i : Int), 0 ≤ i → i < (T.length : Int) → (pre T d i).Nodup
  | 0, i, h0, h1 => by simp [pre]
  | d + 1, i, h0, h1 => by
    rw [pre, List.nodup_cons]
    constructor
    · intro hx
      obtain ⟨k, hk, hxk⟩ := List.mem_flatMap.1 hx
      obtain ⟨k1, k2, k3⟩ := hT.kidI h0 h1 hk
      obtain ⟨a, b, m, hm⟩ := Zacs hT d k (by omega) k2 i hxk
      exact hT.noloop h0 h1 (m := m + 1) (by omega) (by rw [Z8h, hm]; exact k3)
    · refine Z9w _ (hT.nodupI h0 h1) (fun k hk => ?_) (fun k hk q hq x hxk hxq => ?_)
      · obtain ⟨k1, k2, k3⟩ := hT.kidI h0 h1 hk
        exact Z5x hT d k (by omega) k2
      · obtain ⟨k1, k2, k3⟩ := hT.kidI h0 h1 hk
        obtain ⟨q1, q2, q3⟩ := hT.kidI h0 h1 hq
        obtain ⟨_, _, m, hm⟩ := Zacs hT d k (by omega) k2 x hxk
        obtain ⟨_, _, m', hm'⟩ := Zacs hT d q (by omega) q2 x hxq
        have aux : ∀ (a b : Int) (m m' : Nat), up T m x = a → up T m' x = b → parI T a = i → parI T b = i → m ≤ m' → a = b := fun a b m m' e1 e2 e3 e4 hle => by
          rcases Nat.lt_or_ge m m' with hlt | hge
          · refine absurd ?_ (hT.noloop h0 h1 (m := m' - m) (by omega))
            have f1 : up T (m' - m) a = b := by rw [← e1, ← Z8h, show m + (m' - m) = m' by omega]; exact e2
            have f2 : up T (m' - m - 1) i = b := by
              rw [← f1, show m' - m = (m' - m - 1) + 1 by omega, up, e3]
              rfl
            have f3 : up T ((m' - m - 1) + 1) i = i := by rw [Z8h, f2]; exact e4
            rwa [show m' - m - 1 + 1 = m' - m by omega] at f3
          · obtain rfl : m = m' := by omega
            exact e1.symm.trans e2
        rcases Nat.le_total m m' with h | h
        · exact aux k q m m' hm hm' k3 q3 h
        · exact (aux q k m' m hm' hm q3 k3 h).symm
theorem Zml {T : List Nd} (hT : TreeG T) {i : Int} (h0 : 0 ≤ i) (h1 : i < (T.length : Int)) : (preC T i).length ≤ T.length :=
  Zy4 _ _ (Z5x hT _ i h0 h1) fun x hx => by have := Zacs hT _ i h0 h1 x hx; exact ⟨this.1, this.2.1⟩
theorem Zxp {T : List Nd} (hT : TreeG T) {i : Int} (h0 : 0 ≤ i) (h1 : i < (T.length : Int)) : (preC T i)[0]? = some i := by rw [Ztq hT h0 h1]; rfl
theorem Zact {T : List Nd} (hT : TreeG T) {i : Int} (h0 : 0 ≤ i) (h1 : i < (T.length : Int)) : 1 ≤ (preC T i).length := by rw [Ztq hT h0 h1]; simp
def mp (T : List Nd) (pl : Int → Int) (x : Int) : Nd := moved T x (if pl x = 0 then -1 else pl (parI T x)) ((kidsI T x).map pl)
theorem mp_flat {T : List Nd} (hT : TreeG T) {pl : Int → Int} : ∀ d (i : Int), Deep T d i → 0 ≤ i → i < (T.length : Int) → ∀ (o : Nat) (p : Int), (∀ (j : Nat) y, (preC T i)[j]? = some y → pl y = (o : Int) + j) → p = (if pl i = 0 then -1 else pl (parI T i)) → (preC T i).map (mp T pl) = flatC T o p i
  | 0, i, hd, _, _, _, _, _, _ => hd.elim
  | d + 1, i, hd, h0, h1, o, p, hpl, hp => by
    have hi : pl i = (o : Int) := by have := hpl 0 i (Zxp hT h0 h1); omega
    have key : ∀ (ks : List Int) (o' : Nat), (∀ k ∈ ks, k ∈ kidsI T i) → 1 ≤ o' → (∀ (j : Nat) y, (ks.flatMap (preC T))[j]? = some y → pl y = (o' : Int) + j) → ks.map pl = kpos (fun k => (preC T k).length) o' ks ∧ (ks.flatMap (preC T)).map (mp T pl) = flats (flatC T) o' (o : Int) ks := by
      intro ks
      induction ks with
      | nil => intro o' _ _ _; exact ⟨rfl, rfl⟩
      | cons k ks ih =>
        intro o' hks ho' hq
        obtain ⟨k1, k2, k3⟩ := hT.kidI h0 h1 (hks k (List.mem_cons_self ..))
        have hpos := Zact hT (by omega : 0 ≤ k) k2
        have hq1 : ∀ (j : Nat) y, (preC T k)[j]? = some y → pl y = (o' : Int) + j := fun j y hj => hq j y (by
          rw [List.flatMap_cons, List.getElem?_append_left (Zt hj)]; exact hj)
        have hk : pl k = (o' : Int) := by have := hq1 0 k (Zxp hT (by omega) k2); omega
        obtain ⟨r1, r2⟩ := ih (o' + (preC T k).length) (fun q hq => hks q (List.mem_cons_of_mem _ hq)) (by omega) (fun j y hj => by
          have := hq ((preC T k).length + j) y (by
            rw [List.flatMap_cons, List.getElem?_append_right (by omega), show (preC T k).length + j - (preC T k).length = j by omega]; exact hj)
          omega)
        constructor
        · rw [List.map_cons, kpos, hk, r1]
        · rw [List.flatMap_cons, List.map_append, flats, Zhn hT (by omega) k2, r2]
          rw [mp_flat hT d k (hd k (hks k (List.mem_cons_self ..))) (by omega) k2 o' (o : Int) hq1 (by rw [hk, k3, hi, if_neg (by omega)])]
    obtain ⟨r1, r2⟩ := key (kidsI T i) (o + 1) (fun _ h => h) (by omega) (fun j y hj => by
      have := hpl (j + 1) y (by rw [Ztq hT h0 h1, List.getElem?_cons_succ]; exact hj)
      omega)
    rw [Z0n hT h0 h1, Ztq hT h0 h1, List.map_cons, r2, mp, r1, ← hp]
end Go.Proofs.YtcpecilmkkmaiaaGreat.V
namespace Go.Proofs.YtcpecilmkkmaiaaGreat.V
open Go Go.RowKit
attribute [local irreducible] wr
attribute [local go_sem] Zg2 Zfc
def Rows (T : List Nd) : Prop := ∀ x ∈ T, x.2.2.1.length ≤ 1000000 ∧ (kidsN x).length ≤ 1000000
theorem Zlg {α : Type} (a : List α) (x : α) (b : List α) : (a ++ x :: b)[a.length]? = some x := by simp
theorem Zkt {α : Type} (a : List α) (x y : α) (b : List α) : (a ++ x :: b).set a.length y = a ++ y :: b := by simp
theorem Z8l {T : List Nd} (hT : TreeG T) (hR : Rows T) : ∀ d (i : Int), Deep T d i → 0 ≤ i → i < (T.length : Int) → ∀ D, d ≤ D → ∀ (p : Int) (out : List Nd), out.length + (preC T i).length ≤ 1000000 →
    Zdk D ((T, ()), i, p, out, ()) = some ((), out ++ flatC T out.length p i, ())
  | 0, i, hd, _, _, _, _, _, _, _ => hd.elim
  | d + 1, i, hd, h0, h1, D, hD, p, out, hl => by
    obtain ⟨D, rfl⟩ : ∃ q, D = q + 1 := ⟨D - 1, by omega⟩
    obtain ⟨x, hx⟩ := Zbj (l := T) (i := i.toNat) (by omega)
    have hki : kidsI T i = kidsN x := by
      have := Zoe hx
      rwa [show ((i.toNat : Nat) : Int) = i by omega] at this
    have hmv : ∀ p ks, moved T i p ks = (x.1, x.2.1, x.2.2.1, x.2.2.2.1, p, ks, ()) := fun p ks => by
      have := Z6d hx p ks
      rwa [show ((i.toNat : Nat) : Int) = i by omega] at this
    obtain ⟨hr1, hr2⟩ := hR x (List.mem_of_getElem? hx)
    have hpre := Ztq hT h0 h1
    rw [hpre, List.length_cons, hki] at hl
    have hF := Zl
    have loop : ∀ (ks : List Int), ks = kidsN x → ∀ (rest : List Int) (j m : Nat) (acc : List Int) (mid : List Nd), ks.drop j = rest → j + rest.length = ks.length → rest.length < m → acc.length + rest.length ≤ 1000000 → out.length + 1 + mid.length + (rest.flatMap (preC T)).length ≤ 1000000 → ∀ K,
        Zes (Zdk D) fuel m K (((out.length : Int), ks, (j : Int), ()), ((T, ()), ()), out ++ ((x.1, x.2.1, x.2.2.1, x.2.2.2.1, p, acc, ()) : Nd) :: mid, ()) = K ((), (), out ++ ((x.1, x.2.1, x.2.2.1, x.2.2.2.1, p, acc ++ kpos (fun k => (preC T k).length) (out.length + 1 + mid.length) rest, ()) : Nd) :: (mid ++ flats (flatC T) (out.length + 1 + mid.length) (out.length : Int) rest), ()) := by
      intro ks hks rest
      have hkl : ks.length ≤ 1000000 := by rw [hks]; exact hr2
      induction rest with
      | nil =>
        intro j m acc mid hj hjl hm ha hb K
        obtain ⟨m, rfl⟩ : ∃ q, m = q + 1 := ⟨m - 1, by omega⟩
        rw [Zes]
        simp only [List.length_nil] at hjl
        simp (disch := omega) only [go_sem, kpos, flats, List.append_nil]
      | cons k rest ih =>
        intro j m acc mid hj hjl hm ha hb K
        obtain ⟨m, rfl⟩ : ∃ q, m = q + 1 := ⟨m - 1, by omega⟩
        simp only [List.length_cons] at hjl hm ha
        have hk : ks[j]? = some k := by
          have := congrArg (·[0]?) hj
          simpa using this
        have hkm : k ∈ kidsI T i := by rw [hki, ← hks]; exact List.mem_of_getElem? hk
        obtain ⟨k1, k2, k3⟩ := hT.kidI h0 h1 hkm
        rw [List.flatMap_cons, List.length_append] at hb
        rw [Zes]
        simp (disch := omega) only [go_sem, hk, Zlg, Zkt]
        have e1 := Z8l hT hR d k (hd k hkm) (by omega) k2 D (by omega) (out.length : Int) (out ++ ((x.1, x.2.1, x.2.2.1, x.2.2.2.1, p, acc ++ [((out.length + (mid.length + 1) : Nat) : Int)], ()) : Nd) :: mid) (by simp only [List.length_append, List.length_cons]; omega)
        rw [e1]
        have e2 := ih (j + 1) m (acc ++ [((out.length + (mid.length + 1) : Nat) : Int)]) (mid ++ flatC T (out.length + (mid.length + 1)) (out.length : Int) k) (by rw [← List.drop_drop, hj]; rfl) (by omega) (by omega) (by simp only [List.length_append, List.length_cons, List.length_nil]; omega) (by rw [List.length_append, Zhn hT (by omega) k2]; omega) K
        simp (disch := omega) only [go_sem, List.append_assoc, List.cons_append]
        refine e2.trans ?_
        have hfl := fun o p => Zhn hT (i := k) (by omega) k2 o p
        rw [kpos, flats, List.length_append, hfl]
        have q1 : out.length + (mid.length + 1) = out.length + 1 + mid.length := by omega
        have q2 : out.length + 1 + (mid.length + (preC T k).length) = out.length + 1 + mid.length + (preC T k).length := by omega
        simp only [List.append_assoc, List.cons_append, List.nil_append, q1, q2, hfl]
    have hn := Z0n hT h0 h1 out.length p
    rw [Zdk, Zph]
    have e3 := loop (kidsN x) rfl (kidsN x) 0 fuel [] [] rfl (by omega) (by omega) (by simp only [List.length_nil]; omega) (by simp only [List.length_nil]; rw [← hki]; rw [← hki] at hl; omega) (fun v1 => some ((), v1.2.2.1, ()))
    simp only [Int.cast_ofNat_Int, List.length_nil, List.nil_append, Nat.add_zero] at e3
    simp (disch := omega) only [go_sem, gt_of hx, e3, List.nil_append]
    rw [hn, hki, hmv]
theorem tidy_spec {T : List Nd} (hT : TreeG T) (hR : Rows T) : Zko ((T, ()), ()) = some ((), (flatC T 0 (-1) 0, ()), ()) := by
  have h1 := hT.len
  have hF := Zl
  unfold Zko Zln Zus
  have := Z8l hT hR (T.length + 2) 0 (hT.deep (by omega) (by omega)) (by omega) (by omega) fuel (by omega) (-1) [] (by have := Zml hT (i := 0) (by omega) (by omega); simp only [List.length_nil]; omega)
  simp only [go_sem, this, List.nil_append]
theorem clone_at {l : List At} (h : l.length ≤ 1000000) : Zim (l, ()) = some ((), l, ()) := by
  show Z75 (.pair .str (.pair .str .unit)) 32 (l, ()) = _
  unfold Z75
  exact if_pos (by show l.length * 32 ≤ _; omega)
theorem clone_int {l : List Int} (h : l.length ≤ 1000000) : slices_Clone_int (l, ()) = some ((), l, ()) := by
  show Z75 (.int .i64) 8 (l, ()) = _
  unfold Z75
  exact if_pos (by show l.length * 8 ≤ _; omega)
theorem push_impl {T : List Nd} {out ks : List Int} (hks : ks.length ≤ 1000000) (K) : ∀ (n : Nat) (m : Nat) (st : List Int), n ≤ ks.length → n < m → st.length + n ≤ 10000000 →
    Zck fuel m K (((T, ()), ks, (n : Int) - 1, ()), (), out, st, ()) = K (((T, ()), ()), (), out, st ++ (ks.take n).reverse, ()) := by
  intro n
  induction n with
  | zero =>
    intro m st h1 h2 h3
    obtain ⟨m, rfl⟩ : ∃ q, m = q + 1 := ⟨m - 1, by omega⟩
    rw [Zck]
    simp (disch := omega) only [go_sem, List.take_zero, List.reverse_nil, List.append_nil]
  | succ n ih =>
    intro m st h1 h2 h3
    obtain ⟨m, rfl⟩ : ∃ q, m = q + 1 := ⟨m - 1, by omega⟩
    obtain ⟨x, hx⟩ := Zbj (l := ks) (i := n) (by omega)
    rw [Zck]
    simp (disch := omega) only [go_sem, gt_of hx]
    have := ih m (st ++ [x]) (by omega) (by omega) (by simp only [List.length_append, List.length_cons, List.length_nil]; omega)
    rw [show ((n + 1 : Nat) : Int) - 1 - 1 = (n : Int) - 1 by omega, this]
    have e : (ks.take (n + 1)).reverse = x :: (ks.take n).reverse := by
      rw [List.take_add_one, hx]
      simp
    rw [e]
    simp only [List.append_assoc, List.cons_append, List.nil_append]
theorem Z0m {g : Int → List Int} : ∀ l : List Int, (∀ x ∈ l, 1 ≤ (g x).length) → l.length ≤ (l.flatMap g).length
  | [], _ => by simp
  | x :: l, h => by
    have := h x (List.mem_cons_self ..)
    have := Z0m l fun y hy => h y (List.mem_cons_of_mem _ hy)
    rw [List.flatMap_cons, List.length_append, List.length_cons]; omega
theorem Zagw {T : List Nd} (hT : TreeG T) (K) : ∀ (n m : Nat) (out st : List Int), (st.reverse.flatMap (preC T)).length = n → (∀ x ∈ st, 0 ≤ x ∧ x < (T.length : Int)) → out.length + n ≤ 1000000 → n < m →
    Zcl fuel m K (((T, ()), ()), (), out, st, ()) = K ((), (), out ++ st.reverse.flatMap (preC T), ()) := by
  intro n
  induction n with
  | zero =>
    intro m out st hn hs ho hm
    obtain ⟨m, rfl⟩ : ∃ q, m = q + 1 := ⟨m - 1, by omega⟩
    have hle := Z0m (g := preC T) st.reverse (fun x hx => by have := hs x (List.mem_reverse.1 hx); exact Zact hT this.1 this.2)
    rw [List.length_reverse] at hle
    obtain rfl : st = [] := List.eq_nil_of_length_eq_zero (by omega)
    rw [Zcl]
    simp (disch := omega) only [go_sem, List.reverse_nil, List.flatMap_nil, List.append_nil]
  | succ n ih =>
    intro m out st hn hs ho hm
    obtain ⟨m, rfl⟩ : ∃ q, m = q + 1 := ⟨m - 1, by omega⟩
    have hle := Z0m (g := preC T) st.reverse (fun x hx => by have := hs x (List.mem_reverse.1 hx); exact Zact hT this.1 this.2)
    rw [List.length_reverse] at hle
    have hF := Zl
    rcases List.eq_nil_or_concat st with rfl | ⟨s0, v, rfl⟩
    · simp at hn
    rw [List.concat_eq_append] at hn hs hle ⊢
    rw [hn] at hle
    obtain ⟨v0, v1⟩ := hs v (by simp)
    obtain ⟨x, hx⟩ := Zbj (l := T) (i := v.toNat) (by omega)
    have hki : kidsI T v = kidsN x := by
      have := Zoe hx
      rwa [show ((v.toNat : Nat) : Int) = v by omega] at this
    have hkl : (kidsN x).length ≤ T.length := by
      rw [← hki]
      exact Zy4 _ _ (hT.nodupI v0 v1) fun k hk => by have := hT.kidI v0 v1 hk; omega
    have hT2 := hT.len
    have hge : (s0 ++ [v])[s0.length]? = some v := by simp
    have hcut : lcut (s0 ++ [v]) 0 s0.length = s0 := by unfold lcut; simp
    simp only [List.length_append, List.length_cons, List.length_nil] at hle
    have hrev : (s0 ++ [v]).reverse.flatMap (preC T) = v :: ((s0 ++ (kidsN x).reverse).reverse.flatMap (preC T)) := by
      simp only [List.reverse_append, List.reverse_cons, List.reverse_nil, List.nil_append, List.cons_append, List.flatMap_cons, List.flatMap_append, List.reverse_reverse, Ztq hT v0 v1, hki]
    rw [hrev, List.length_cons] at hn
    have hp := fun K2 out => push_impl (T := T) (out := out) (ks := kidsN x) (by omega) K2 (kidsN x).length fuel s0 (Nat.le_refl _) (by omega) (by omega)
    rw [List.take_length] at hp
    rw [Zcl, hrev]
    have hkl' : x.2.2.2.2.2.1.length ≤ 500 := by have := hT2.2; exact Nat.le_trans hkl this
    have en : (((s0.length + (0 + 1) : Nat) : Int) - 1).toNat = s0.length := by omega
    simp (disch := omega) only [go_sem, hge, gt_of hx, tn0, en, hcut]
    rw [hp]
    simp only
    rw [ih m _ _ (by omega) (fun y hy => by
      rcases List.mem_append.1 hy with hy | hy
      · exact hs y (List.mem_append_left _ hy)
      · have := hT.kidI v0 v1 (by rw [hki]; exact List.mem_reverse.1 hy)
        omega) (by simp only [List.length_append, List.length_cons, List.length_nil]; omega) (by omega)]
    simp only [List.append_assoc, List.cons_append, List.nil_append]
theorem Zaj4 {T : List Nd} (hT : TreeG T) : Zhz ((T, ()), 0, ()) = some ((), preC T 0, ()) := by
  have h1 := hT.len
  have hF := Zl
  have hl := Zml hT (i := 0) (by omega) (by omega)
  unfold Zhz Ziq
  have := Zagw hT (fun v0 => some ((), v0.2.2.1, ())) _ fuel [] [0] rfl (fun x hx => by
    obtain rfl : x = 0 := by simpa using hx
    omega) (by simpa using (by omega : (preC T 0).length ≤ 1000000)) (by simp; omega)
  simp only [this]
  simp
def plOf (P : List Int) (x : Int) : Int := (P[x.toNat]?).getD 0
theorem Zaf9 {T : List Nd} {ord : List Int} (hn : ord.Nodup) (ho : ord.length ≤ 1000000) (hr : ∀ x ∈ ord, 0 ≤ x ∧ x < (T.length : Int)) (K) : ∀ n (z : Nat × List Int), z.1 ≤ ord.length ∧ z.2.length = T.length ∧ (∀ j y, j < z.1 → ord[j]? = some y → z.2[y.toNat]? = some (j : Int)) → ord.length - z.1 < n →
    ∃ P : List Int, P.length = T.length ∧ (∀ (j : Nat) y, ord[j]? = some y → P[y.toNat]? = some (j : Int)) ∧ Zcx fuel n K (((T, ()), (ord.length : Int), (z.1 : Int), ()), ((), ()), z.2, ord, ()) = K (((T, ()), ()), ((), ()), ord, P, ()) := by
  intro n
  induction n with
  | zero => intro z _ h; omega
  | succ n ih =>
    rintro ⟨i, P⟩ ⟨h1, h2, h3⟩ hm
    simp only at h1 h2 h3 hm ⊢
    by_cases hi : i < ord.length
    · obtain ⟨y, hy⟩ := Zbj hi
      have hyr := hr y (List.mem_of_getElem? hy)
      obtain ⟨b, hb⟩ := Zbj (l := P) (i := y.toNat) (by omega)
      obtain ⟨Q, q1, q2, q3⟩ := ih (i + 1, P.set y.toNat (i : Int)) ⟨by simp only; omega, by simpa using h2, fun j w hj hw => by
        simp only at hj ⊢
        by_cases e : j = i
        · subst e
          rw [hw] at hy
          obtain rfl := Option.some.inj hy
          rw [List.getElem?_set_self (by omega)]
        · have hw2 := hr w (List.mem_of_getElem? hw)
          rw [List.getElem?_set_ne (fun q => by
            have : w = y := by omega
            subst this
            exact e ((List.getElem?_inj (Zt hw) hn).1 (hw.trans hy.symm)))]
          exact h3 j w (by omega) hw⟩ (by simp only; omega)
      refine ⟨Q, q1, q2, ?_⟩
      rw [Zcx]
      simp (disch := omega) only [go_sem, hy, hb]
      exact q3
    · refine ⟨P, h2, fun j w hw => h3 j w (by have := Zt hw; omega) hw, ?_⟩
      rw [Zcx]
      simp (disch := omega) only [go_sem]
theorem mapk_impl {T : List Nd} {P ord : List Int} {out : List Nd} {q : Int × Int × Int × Unit} {nd : Int × ByteArray × ByteArray × Int × Unit} {at_ : List At} (hP : P.length = T.length) (K) : ∀ (rest : List Int) (pre_ : List Int) (m : Nat), (∀ k ∈ rest, 0 ≤ k ∧ k < (T.length : Int)) → pre_.length + rest.length ≤ 1000000 → rest.length < m →
    Zcw fuel m K (((T, ()), q.1, q.2.1, q.2.2.1, ((pre_.length + rest.length : Nat) : Int), (pre_.length : Int), ()), ((), (), nd, ()), P, ord, out, at_, pre_ ++ rest, ()) = K (((T, ()), q.1, q.2.1, q.2.2.1, ()), ((), (), nd, ()), P, ord, out, at_, pre_ ++ rest.map (plOf P), ()) := by
  intro rest
  induction rest with
  | nil =>
    intro pre_ m h1 h2 h3
    obtain ⟨m, rfl⟩ : ∃ q, m = q + 1 := ⟨m - 1, by omega⟩
    rw [Zcw]
    simp (disch := omega) only [go_sem, List.map_nil]
  | cons k rest ih =>
    intro pre_ m h1 h2 h3
    obtain ⟨m, rfl⟩ : ∃ q, m = q + 1 := ⟨m - 1, by omega⟩
    obtain ⟨k1, k2⟩ := h1 k (List.mem_cons_self ..)
    obtain ⟨b, hb⟩ := Zbj (l := P) (i := k.toNat) (by omega)
    have hpl : plOf P k = b := by unfold plOf; rw [hb]; rfl
    simp only [List.length_cons] at h2 h3
    rw [Zcw]
    simp (disch := omega) only [go_sem, Zlg, hb, Zkt]
    have := ih (pre_ ++ [b]) m (fun y hy => h1 y (List.mem_cons_of_mem _ hy)) (by simp only [List.length_append, List.length_cons, List.length_nil]; omega) (by omega)
    simp only [List.length_append, List.length_cons, List.length_nil, List.append_assoc, List.cons_append, List.nil_append] at this
    rw [show pre_.length + (rest.length + 1) = pre_.length + (0 + 1) + rest.length by omega, show ((pre_.length : Int) + 1) = ((pre_.length + (0 + 1) : Nat) : Int) by omega]
    refine this.trans ?_
    rw [List.map_cons, hpl]
theorem Zajz {T : List Nd} (hT : TreeG T) (hR : Rows T) {P ord : List Int} (hP : P.length = T.length) (ho : ord.length ≤ 1000000) (hr : ∀ x ∈ ord, 0 ≤ x ∧ x < (T.length : Int)) (hpl : ∀ (j : Nat) y, ord[j]? = some y → P[y.toNat]? = some (j : Int)) (hpar : ∀ (j : Nat) y, ord[j]? = some y → j ≠ 0 → 0 ≤ parI T y) (K) : ∀ n (z : Nat × List Nd), z.1 ≤ ord.length ∧ z.2.length = z.1 → ord.length - z.1 < n →
    Zbi fuel n K (((T, ()), (ord.length : Int), (z.1 : Int), ()), ((), (), ()), P, ord, z.2, ()) = K ((), ((), (), ()), z.2 ++ (ord.drop z.1).map (mp T (plOf P)), ()) := by
  refine Zfq (L := fun n (z : Nat × List Nd) => Zbi fuel n K (((T, ()), (ord.length : Int), (z.1 : Int), ()), ((), (), ()), P, ord, z.2, ())) (fun z => z.1 ≤ ord.length ∧ z.2.length = z.1) (fun z => ord.length - z.1) (fun z => K ((), ((), (), ()), z.2 ++ (ord.drop z.1).map (mp T (plOf P)), ())) (fun n z hz => ?_)
  obtain ⟨j, out⟩ := z
  obtain ⟨z1, z2⟩ := hz
  simp only at z1 z2 ⊢
  rw [Zbi]
  have hF := Zl
  by_cases hj : j < ord.length
  · obtain ⟨y, hy⟩ := Zbj hj
    obtain ⟨y1, y2⟩ := hr y (List.mem_of_getElem? hy)
    obtain ⟨x, hx⟩ := Zbj (l := T) (i := y.toNat) (by omega)
    obtain ⟨r1, r2⟩ := hR x (List.mem_of_getElem? hx)
    have hki : kidsI T y = kidsN x := by
      have := Zoe hx
      rwa [show ((y.toNat : Nat) : Int) = y by omega] at this
    have hpi : parI T y = parN x := by
      have := Zfp hx
      rwa [show ((y.toNat : Nat) : Int) = y by omega] at this
    have hmv : ∀ p ks, moved T y p ks = (x.1, x.2.1, x.2.2.1, x.2.2.2.1, p, ks, ()) := fun p ks => by
      have := Z6d hx p ks
      rwa [show ((y.toNat : Nat) : Int) = y by omega] at this
    have hpy : plOf P y = (j : Int) := by unfold plOf; rw [hpl j y hy]; rfl
    have hcopy : Zle ((x.1, x.2.1, x.2.2.1, x.2.2.2.1, x.2.2.2.2.1, x.2.2.2.2.2.1, ()), ()) = some ((), x, ()) := by
      unfold Zle Zl9
      simp only [go_sem, clone_at r1, clone_int r2]
    have hk4 := fun K2 q nd at_ => mapk_impl (T := T) (P := P) (ord := ord) (out := out) (q := q) (nd := nd) (at_ := at_) hP K2 (kidsN x) [] fuel (fun k hk => by have := hT.kidI y1 y2 (by rw [hki]; exact hk); omega) (by simpa using r2) (by omega)
    simp only [List.length_nil, Nat.zero_add, List.nil_append, Int.cast_ofNat_Int] at hk4
    have hk5 := fun K2 (a b c : Int) nd at_ => hk4 K2 (a, b, c, ()) nd at_
    simp only at hk5
    simp (disch := omega) only [go_sem, hy, hx, hcopy, hk5]
    by_cases h0 : j = 0
    · refine .inr ⟨(j + 1, out ++ [mp T (plOf P) y]), ⟨by simp only; omega, by simp only [List.length_append, List.length_cons, List.length_nil]; omega⟩, by simp only; omega, ?_, ?_⟩
      · simp only [Zbf hy, List.map_cons, List.append_assoc, List.cons_append, List.nil_append]
      · simp (disch := omega) only [go_sem, mp, hpy, hmv, hki]
        rfl
    · have hp0 := hpar j y hy h0
      rw [hpi] at hp0
      have hp1 : parN x < (T.length : Int) := by
        rcases hT.par _ x hx with e | ⟨p, w, e, hw, _⟩
        · omega
        · have := Zt hw; omega
      have hp0' : 0 ≤ x.2.2.2.2.1 := hp0
      have hp1' : x.2.2.2.2.1 < (T.length : Int) := hp1
      obtain ⟨b, hb⟩ := Zbj (l := P) (i := (parN x).toNat) (by omega)
      have hpl2 : plOf P (parN x) = b := by unfold plOf; rw [hb]; rfl
      refine .inr ⟨(j + 1, out ++ [mp T (plOf P) y]), ⟨by simp only; omega, by simp only [List.length_append, List.length_cons, List.length_nil]; omega⟩, by simp only; omega, ?_, ?_⟩
      · simp only [Zbf hy, List.map_cons, List.append_assoc, List.cons_append, List.nil_append]
      · simp (disch := omega) only [go_sem, mp, hpy, hmv, hki, hpi, hpl2, hb]
        rfl
  · refine .inl ?_
    rw [List.drop_eq_nil_of_le (by omega)]
    simp (disch := omega) only [go_sem, List.map_nil, List.append_nil]
theorem tidy_impl {T : List Nd} (hT : TreeG T) (hR : Rows T) : Zje ((T, ()), ()) = some ((), (flatC T 0 (-1) 0, ()), ()) := by
  have h1 := hT.len
  have hF := Zl
  have hl := Zml hT (i := 0) (by omega) (by omega)
  have hn := Z5x hT (T.length + 2) 0 (by omega) (by omega)
  have hr : ∀ x ∈ preC T 0, 0 ≤ x ∧ x < (T.length : Int) := fun x hx => by
    have := Zacs hT _ 0 (by omega) (by omega) x hx; exact ⟨this.1, this.2.1⟩
  have hpl := fun K => Zaf9 (T := T) (ord := preC T 0) hn (by omega) hr K fuel (0, List.replicate T.length 0) ⟨by simp only; omega, by simp, fun j y hj => by simp only at hj; omega⟩ (by simp only; omega)
  simp only [Int.cast_ofNat_Int] at hpl
  unfold Zje Zkc
  simp (disch := omega) only [go_sem, Zaj4 hT]
  obtain ⟨P, p1, p2, p3⟩ := hpl (fun v1 => Zbi fuel fuel (fun v2 => some ((), (v2.2.2.1, ()), ())) ((v1.1.1, ((v1.2.2.1.length : Nat) : Int), 0, ()), ((), (), ()), v1.2.2.2.1, v1.2.2.1, [], ()))
  rw [p3]
  simp only
  have hb := Zajz hT hR (P := P) (ord := preC T 0) p1 (by omega) hr p2 (fun j y hj h0 => by
    have hm := List.mem_of_getElem? hj
    by_cases e : y = 0
    · subst e
      have := (List.getElem?_inj (Zt hj) hn).1 (hj.trans (Zxp hT (by omega) (by omega)).symm)
      exact absurd this h0
    · obtain ⟨a, b, m, hm⟩ := Zacs hT _ 0 (by omega) (by omega) y hm
      cases m with
      | zero => exact absurd hm e
      | succ m =>
        rcases Int.lt_or_le (parI T y) 0 with q | q
        · have := up_neg T m _ q
          rw [up] at hm
          omega
        · exact q) (fun v2 => some ((), (v2.2.2.1, ()), ())) fuel (0, []) ⟨by simp only; omega, rfl⟩ (by simp only; omega)
  simp only [Int.cast_ofNat_Int, List.drop_zero, List.nil_append] at hb
  rw [hb]
  have hf := mp_flat hT (pl := plOf P) (T.length + 2) 0 (hT.deep (by omega) (by omega)) (by omega) (by omega) 0 (-1) (fun j y hj => by
    unfold plOf
    rw [p2 j y hj]
    simp) (by
    have h0 := Zxp hT (i := 0) (by omega) (by omega)
    have : plOf P 0 = 0 := by unfold plOf; rw [show (0 : Int).toNat = 0 from rfl]; have := p2 0 0 h0; simp only [Int.toNat_zero] at this; rw [this]; rfl
    rw [if_pos this])
  rw [hf]
end Go.Proofs.YtcpecilmkkmaiaaGreat.V
namespace Go.Proofs.YtcpecilmkkmaiaaGreat.V
open Go Go.RowKit
attribute [local irreducible] wr
attribute [local go_sem] Zg2 Zfc
noncomputable def same {α : Type} (a b : α) : Bool := @decide (a = b) (Classical.propDecidable _)
theorem Zg9 {α : Type} {a b : α} : same a b = true ↔ a = b := by unfold same; exact @decide_eq_true_iff _ (Classical.propDecidable _)
theorem Znt {α : Type} (a : α) : same a a = true := Zg9.2 rfl
theorem Z9g {α : Type} {a b : α} (h : a ≠ b) : same a b = false := Bool.eq_false_iff.2 fun q => h (Zg9.1 q)
theorem Zu2 (a b : ByteArray) : seq a b = same a b := by
  by_cases h : a = b
  · rw [h, Zg8, Znt]
  · rw [seq_ne h, Z9g h]
theorem Z7s (a b : Int) : ieq a b = same a b := by
  by_cases h : a = b
  · rw [h, Zo4, Znt]
  · rw [ieq_f h, Z9g h]
theorem Zxm {α β : Type} (a c : α) (b d : β) : same (a, b) (c, d) = (same a c && same b d) := by
  rw [Bool.eq_iff_iff, Bool.and_eq_true, Zg9, Zg9, Zg9, Prod.mk.injEq]
theorem same_cons {α : Type} (a c : α) (b d : List α) : same (a :: b) (c :: d) = (same a c && same b d) := by
  rw [Bool.eq_iff_iff, Bool.and_eq_true, Zg9, Zg9, Zg9, List.cons.injEq]
theorem Z5o (a b : Unit) : same a b = true := Zg9.2 rfl
theorem same_at (a b : At) : band (seq a.1 b.1) (band (seq a.2.1 b.2.1) true) = same a b := by
  obtain ⟨a1, a2, _⟩ := a
  obtain ⟨b1, b2, _⟩ := b
  rw [Zxm, Zxm, Z5o, Zu2, Zu2]; rfl
theorem Zu3 {α : Type} {A B : List α} (h : A.length ≠ B.length) : same A B = false := Z9g fun e => h (congrArg List.length e)
theorem Zq6 {α R : Type} {A B : List α} (hl : A.length = B.length) {L : Nat → Nat → Option R} {good bad : Option R}
    (hend : ∀ n, L (n + 1) A.length = good) (hstep : ∀ n i a b, A[i]? = some a → B[i]? = some b → L (n + 1) i = tb (same a b) (L n (i + 1)) bad) :
    ∀ n i, i ≤ A.length → A.length - i < n → L n i = tb (same (A.drop i) (B.drop i)) good bad := by
  refine Zfq (L := L) (fun i => i ≤ A.length) (fun i => A.length - i) (fun i => tb (same (A.drop i) (B.drop i)) good bad) (fun n i hi => ?_)
  by_cases h : i < A.length
  · obtain ⟨a, ha⟩ := Zbj h
    obtain ⟨b, hb⟩ := Zbj (l := B) (i := i) (by omega)
    rw [Zbf ha, Zbf hb, same_cons, hstep n i a b ha hb]
    cases same a b
    · exact .inl rfl
    · exact .inr ⟨i + 1, by omega, by omega, by rw [Bool.true_and], rfl⟩
  · refine .inl ?_
    obtain rfl : i = A.length := by omega
    rw [hend, List.drop_length, List.drop_eq_nil_of_le (by omega), Znt]; rfl
theorem Zags {A B : List At} (hl : A.length ≤ 1000000) : Zfg (A, B, ()) = some ((), same A B, ()) := by
  unfold Zfg Zgg
  by_cases h : A.length = B.length
  · have := Zq6 h (L := fun n (i : Nat) => Zbn fuel n (fun v0 => some ((), true, ())) ((A, B, (A.length : Int), (i : Int), ()), (), ())) (good := some ((), true, ())) (bad := some ((), false, ())) (fun n => by
      rw [Zbn]
      simp (disch := omega) only [go_sem]) (fun n i a b ha hb => by
      have hi := Zt ha
      rw [Zbn]
      simp (disch := omega) only [go_sem, ha, hb, same_at]
      cases same a b <;> simp (disch := omega) only [go_sem]
      rfl) fuel 0 (by omega) (by have := Zl; omega)
    simp only [Int.cast_ofNat_Int, List.drop_zero] at this
    simp (disch := omega) only [go_sem, this]
    cases same A B <;> simp only [go_sem]
  · simp (disch := omega) only [go_sem, Zu3 h]
theorem Zajp {A B : List Int} (hl : A.length ≤ 1000000) : Zgf (A, B, ()) = some ((), same A B, ()) := by
  unfold Zgf Zg7
  by_cases h : A.length = B.length
  · have := Zq6 h (L := fun n (i : Nat) => Zb5 fuel n (fun v0 => some ((), true, ())) ((A, B, (A.length : Int), (i : Int), ()), (), ())) (good := some ((), true, ())) (bad := some ((), false, ())) (fun n => by
      rw [Zb5]
      simp (disch := omega) only [go_sem]) (fun n i a b ha hb => by
      have hi := Zt ha
      rw [Zb5]
      simp (disch := omega) only [go_sem, ha, hb, Z7s]
      cases same a b <;> simp (disch := omega) only [go_sem]
      rfl) fuel 0 (by omega) (by have := Zl; omega)
    simp only [Int.cast_ofNat_Int, List.drop_zero] at this
    simp (disch := omega) only [go_sem, this]
    cases same A B <;> simp only [go_sem]
  · simp (disch := omega) only [go_sem, Zu3 h]
theorem Z9i {x y : Nd} (h1 : x.2.2.1.length ≤ 1000000) (h2 : x.2.2.2.2.2.1.length ≤ 1000000) : Zk9 (x, y, ()) = some ((), same x y, ()) := by
  obtain ⟨a, b, c, d, p, ks, _⟩ := x
  obtain ⟨a', b', c', d', p', ks', _⟩ := y
  simp only at h1 h2
  unfold Zk9 Zl5
  simp only [go_sem, Zags h1, Zajp h2, Zxm, Z5o, Z7s, Zu2]
  cases same a a' <;> simp only [go_sem]
  cases same b b' <;> simp only [go_sem]
  cases same d d' <;> simp only [go_sem]
  cases same p p' <;> simp only [go_sem]
  cases same c c' <;> simp only [go_sem]
theorem Z9h {A B : List Nd} (hl : A.length ≤ 1000000) (hR : Rows A) : Zk8 ((A, ()), (B, ()), ()) = some ((), same A B, ()) := by
  unfold Zk8 Zl4 Zj Zh
  by_cases h : A.length = B.length
  · have := Zq6 h (L := fun n (i : Nat) => Zb fuel n (fun v0 => some ((), true, ())) ((B, A, (A.length : Int), (i : Int), ()), (), ())) (good := some ((), true, ())) (bad := some ((), false, ())) (fun n => by
      rw [Zb]
      simp (disch := omega) only [go_sem]) (fun n i a b ha hb => by
      have hi := Zt ha
      obtain ⟨r1, r2⟩ := hR a (List.mem_of_getElem? ha)
      have e := Z9i (y := b) r1 r2
      rw [Zb]
      simp (disch := omega) only [go_sem, ha, hb, e]
      cases same a b <;> simp (disch := omega) only [go_sem]
      rfl) fuel 0 (by omega) (by have := Zl; omega)
    simp only [Int.cast_ofNat_Int, List.drop_zero] at this
    simp (disch := omega) only [go_sem, this]
    cases same A B <;> simp only [go_sem]
  · simp (disch := omega) only [go_sem, Zu3 h]
abbrev AlikeQ := ByteArray × ByteArray × Bool × ByteArray × ByteArray × Bool × Int × Int × Bool × List At × Int × List At × Int × Bool × List Int × Int × List Int × Int × Bool × Unit
theorem Zag5 {A B : List Nd} {a a' : Int} {b b' : ByteArray} {c c' : List At} {d d' : ByteArray} {p p' : Int} {ks ks' : List Int} {z : Int} {q : AlikeQ} (hc : c.length = c'.length) (hl : c.length ≤ 1000000) (K) :
    Zc7 fuel fuel K ((z, 0, q), ((A, ()), (B, ()), (a, b, c, d, p, ks, ()), (a', b', c', d', p', ks', ()), ()), ()) = tb (same c c') (K ((z, q), ((A, ()), (B, ()), (a, b, c, d, p, ks, ()), (a', b', c', d', p', ks', ()), ()), ())) (some ((), false, ())) := by
  have := Zq6 hc (L := fun n (i : Nat) => Zc7 fuel n K ((z, (i : Int), q), ((A, ()), (B, ()), (a, b, c, d, p, ks, ()), (a', b', c', d', p', ks', ()), ()), ())) (good := K ((z, q), ((A, ()), (B, ()), (a, b, c, d, p, ks, ()), (a', b', c', d', p', ks', ()), ()), ())) (bad := some ((), false, ())) (fun n => by
      rw [Zc7]
      simp (disch := omega) only [go_sem]) (fun n i x y ha hb => by
      have hi := Zt ha
      rw [Zc7]
      simp (disch := omega) only [go_sem, ha, hb, same_at]
      cases same x y <;> simp (disch := omega) only [go_sem]
      rfl) fuel 0 (by omega) (by have := Zl; omega)
  simpa only [Int.cast_ofNat_Int, List.drop_zero] using this
theorem Zag4 {A B : List Nd} {a a' : Int} {b b' : ByteArray} {c c' : List At} {d d' : ByteArray} {p p' : Int} {ks ks' : List Int} {z : Int} {q : AlikeQ} (hc : ks.length = ks'.length) (hl : ks.length ≤ 1000000) (K) :
    Zc6 fuel fuel K ((z, 0, q), ((A, ()), (B, ()), (a, b, c, d, p, ks, ()), (a', b', c', d', p', ks', ()), ()), ()) = tb (same ks ks') (K ((z, q), ((A, ()), (B, ()), (a, b, c, d, p, ks, ()), (a', b', c', d', p', ks', ()), ()), ())) (some ((), false, ())) := by
  have := Zq6 hc (L := fun n (i : Nat) => Zc6 fuel n K ((z, (i : Int), q), ((A, ()), (B, ()), (a, b, c, d, p, ks, ()), (a', b', c', d', p', ks', ()), ()), ())) (good := K ((z, q), ((A, ()), (B, ()), (a, b, c, d, p, ks, ()), (a', b', c', d', p', ks', ()), ()), ())) (bad := some ((), false, ())) (fun n => by
      rw [Zc6]
      simp (disch := omega) only [go_sem]) (fun n i x y ha hb => by
      have hi := Zt ha
      rw [Zc6]
      simp (disch := omega) only [go_sem, ha, hb, Z7s]
      cases same x y <;> simp (disch := omega) only [go_sem]
      rfl) fuel 0 (by omega) (by have := Zl; omega)
  simpa only [Int.cast_ofNat_Int, List.drop_zero] using this
theorem Zaka {A B : List Nd} (hl : A.length ≤ 1000000) (hR : Rows A) : Zm6 ((A, ()), (B, ()), ()) = some ((), same A B, ()) := by
  unfold Zm6 Zm5
  by_cases h : A.length = B.length
  · have := Zq6 h (L := fun n (i : Nat) => Zd1 fuel n (fun v0 => some ((), true, ())) (((i : Int), ()), ((A, ()), (B, ()), ()), ())) (good := some ((), true, ())) (bad := some ((), false, ())) (fun n => by
      rw [Zd1]
      simp (disch := omega) only [go_sem]) (fun n i x y ha hb => by
      have hi := Zt ha
      obtain ⟨r1, r2⟩ := hR x (List.mem_of_getElem? ha)
      obtain ⟨a, b, c, d, p, ks, _⟩ := x
      obtain ⟨a', b', c', d', p', ks', _⟩ := y
      simp only at r1 r2
      simp only [Zxm, Z5o]
      rw [Zd1]
      simp (disch := omega) only [go_sem, ha, hb, Z7s, Zu2]
      cases same a a' <;> simp only [go_sem]
      cases same b b' <;> simp only [go_sem]
      cases same d d' <;> simp only [go_sem]
      cases same p p' <;> simp only [go_sem]
      by_cases e1 : c.length = c'.length
      · by_cases e2 : ks.length = ks'.length
        · simp (disch := omega) only [go_sem, e1, e2, Znt, Zag5 e1 r1, Zag4 e2 r2]
          cases same c c' <;> simp only [go_sem]
          cases same ks ks' <;> simp (disch := omega) only [go_sem]
          rfl
        · have : same (ks.length : Int) (ks'.length : Int) = false := Z9g (by omega)
          simp (disch := omega) only [go_sem, e1, Znt, this, Zu3 e2]
      · have : same (c.length : Int) (c'.length : Int) = false := Z9g (by omega)
        simp (disch := omega) only [go_sem, this, Zu3 e1]) fuel 0 (by omega) (by have := Zl; omega)
    simp only [Int.cast_ofNat_Int, List.drop_zero] at this
    simp (disch := omega) only [go_sem, this]
    cases same A B <;> simp only [go_sem]
  · simp (disch := omega) only [go_sem, Zu3 h]
end Go.Proofs.YtcpecilmkkmaiaaGreat.V
namespace Go.Proofs.YtcpecilmkkmaiaaGreat.V
open Go Go.RowKit
attribute [local irreducible] wr
attribute [local go_sem] Zg2 Zfc
def fnd (s : ByteArray) : List ByteArray → Nat
  | [] => 0
  | a :: l => if seq a s = true then 0 else fnd s l + 1
theorem Zajh (s : ByteArray) : ∀ l, fnd s l ≤ l.length
  | [] => Nat.le_refl 0
  | a :: l => by
    have := Zajh s l
    unfold fnd
    split <;> simp only [List.length_cons] <;> omega
theorem Zxv {s : ByteArray} : ∀ {l : List ByteArray} {i : Nat}, l[i]? = some s → fnd s l ≤ i
  | [], i, h => by simp at h
  | b :: l, 0, h => by
    have e : b = s := by simpa using h
    unfold fnd
    rw [e, if_pos (Zg8 s)]; exact Nat.le_refl 0
  | b :: l, i + 1, h => by
    have := Zxv (l := l) (i := i) (by simpa using h)
    unfold fnd
    split <;> omega
theorem Zaji {s : ByteArray} : ∀ {l : List ByteArray}, fnd s l < l.length → l[fnd s l]? = some s
  | [], h => by simp [fnd] at h
  | b :: l, h => by
    unfold fnd at h ⊢
    split
    · rename_i hs; rw [Zakj hs]; rfl
    · rename_i hs
      rw [if_neg hs] at h
      have := Zaji (s := s) (l := l) (by simp only [List.length_cons] at h; omega)
      simpa using this
theorem Zajg {s : ByteArray} {l : List ByteArray} : fnd s l < l.length ↔ s ∈ l := by
  constructor
  · intro h; exact List.mem_of_getElem? (Zaji h)
  · intro h
    obtain ⟨i, hi⟩ := List.getElem?_of_mem h
    have := Zxv hi
    have := Zt hi
    omega
def fndI (l : List ByteArray) (s : ByteArray) : Int := if fnd s l < l.length then (fnd s l : Int) else -1
theorem seq_comm (a b : ByteArray) : seq a b = seq b a := by rw [Zu2, Zu2, Bool.eq_iff_iff, Zg9, Zg9]; exact eq_comm
theorem Zxx {l : List ByteArray} (hl : l.length ≤ 1000000000) (s : ByteArray) : Zg5 (l, s, ()) = some ((), fndI l s, ()) := by
  unfold Zg5 Zpg
  have := Zfq (L := fun n (i : Nat) => Zgc fuel n (fun v0 => some ((), (-1), ())) ((l, s, (i : Int), ()), (), ())) (fun i => i ≤ l.length ∧ i ≤ fnd s l) (fun i => l.length - i) (fun i => some ((), fndI l s, ())) (fun n i hi => by
    rw [Zgc]
    by_cases h : i < l.length
    · obtain ⟨a, ha⟩ := Zbj h
      simp (disch := omega) only [go_sem, ha]
      cases hs : seq a s
      · refine .inr ⟨i + 1, ⟨by omega, ?_⟩, by omega, by simp only [go_sem]; rfl⟩
        rcases Nat.lt_or_ge i (fnd s l) with q | q
        · omega
        · have e : fnd s l = i := by omega
          have := Zaji (s := s) (l := l) (by omega)
          rw [e, ha] at this
          rw [Option.some.inj this, Zg8] at hs; cases hs
      · refine .inl ?_
        rw [Zakj hs] at ha
        have := Zxv ha
        have e : fnd s l = i := by omega
        simp (disch := omega) only [go_sem, fndI, e]
    · refine .inl ?_
      simp (disch := omega) only [go_sem, fndI]) fuel 0 ⟨by omega, by omega⟩ (by have := Zl; omega)
  simpa only [Int.cast_ofNat_Int] using this
theorem Zt4 {l : List ByteArray} (hl : l.length ≤ 1000000000) (s : ByteArray) : Zb4 (l, s, ()) = some ((), fndI l s, ()) := by
  unfold Zb4 Ze6
  have := Zfq (L := fun n (i : Nat) => Zb0 fuel n (fun v0 => some ((), (-1), ())) ((l, s, (l.length : Int), (i : Int), ()), (), ())) (fun i => i ≤ l.length ∧ i ≤ fnd s l) (fun i => l.length - i) (fun i => some ((), fndI l s, ())) (fun n i hi => by
    rw [Zb0]
    by_cases h : i < l.length
    · obtain ⟨a, ha⟩ := Zbj h
      simp (disch := omega) only [go_sem, ha]
      rw [seq_comm s a]
      cases hs : seq a s
      · refine .inr ⟨i + 1, ⟨by omega, ?_⟩, by omega, by simp only [go_sem]; rfl⟩
        rcases Nat.lt_or_ge i (fnd s l) with q | q
        · omega
        · have e : fnd s l = i := by omega
          have := Zaji (s := s) (l := l) (by omega)
          rw [e, ha] at this
          rw [Option.some.inj this, Zg8] at hs; cases hs
      · refine .inl ?_
        rw [Zakj hs] at ha
        have := Zxv ha
        have e : fnd s l = i := by omega
        simp (disch := omega) only [go_sem, fndI, e]
    · refine .inl ?_
      simp (disch := omega) only [go_sem, fndI]) fuel 0 ⟨by omega, by omega⟩ (by have := Zl; omega)
  simp only [Int.cast_ofNat_Int] at this
  simp only [go_sem, this]
def addN (l : List ByteArray) (s : ByteArray) : List ByteArray := if fnd s l < l.length then l else l ++ [s]
theorem Zmw (l : List ByteArray) (s : ByteArray) : (addN l s).length ≤ l.length + 1 := by unfold addN; split <;> simp
theorem fndI_ge (l : List ByteArray) (s : ByteArray) : ile 0 (fndI l s) = decide (fnd s l < l.length) := by
  unfold fndI
  split
  · rw [ile_t (by omega), decide_eq_true (by omega)]
  · rw [ile_f (by omega), decide_eq_false (by omega)]
theorem Z5w {l : List ByteArray} (hl : l.length ≤ 1000000000) (s : ByteArray) : Zmg (l, s, ()) = some ((), addN l s, ()) := by
  unfold Zmg Zsd addN
  simp only [go_sem, Zxx hl, fndI_ge]
  by_cases h : fnd s l < l.length <;> simp (disch := omega) only [go_sem, h]
theorem Zaec {l : List ByteArray} (hl : l.length ≤ 1000000000) (s : ByteArray) : Zgp (s, l, ()) = some ((addN l s, ()), ()) := by
  unfold Zgp Zka Zeh Zdo addN
  simp only [go_sem, Zt4 hl, fndI_ge]
  by_cases h : fnd s l < l.length <;> simp (disch := omega) only [go_sem, h]
def Z7 (x : Nd) : List ByteArray := if x.1 = 2 ∨ x.1 = 3 then x.2.1 :: x.2.2.1.map (fun a => a.1) else x.2.2.1.map (fun a => a.1)
def Zc4 (T : List Nd) (acc : List ByteArray) : List ByteArray := T.foldl (fun l x => (Z7 x).foldl addN l) acc
theorem Zfn : ∀ (l acc : List ByteArray), (l.foldl addN acc).length ≤ acc.length + l.length
  | [], acc => by simp
  | s :: l, acc => by
    have := Zfn l (addN acc s)
    have := Zmw acc s
    simp only [List.foldl_cons, List.length_cons]; omega
theorem Z78 {T : List Nd} {i : Int} {a : Int} {b : ByteArray} {c : List At} {d : ByteArray} {p : Int} {ks : List Int} (hc : c.length ≤ 1000000) (K) : ∀ n (z : Nat × List ByteArray), z.1 ≤ c.length ∧ z.2.length + (c.length - z.1) ≤ 100000000 → c.length - z.1 < n →
    Zcf fuel n K ((i, (z.1 : Int), ()), ((T, ()), (a, b, c, d, p, ks, ()), ()), z.2, ()) = K ((i, ()), ((T, ()), ()), ((c.drop z.1).map (fun a => a.1)).foldl addN z.2, ()) := by
  refine Zfq (L := fun n (z : Nat × List ByteArray) => Zcf fuel n K ((i, (z.1 : Int), ()), ((T, ()), (a, b, c, d, p, ks, ()), ()), z.2, ())) (fun z => z.1 ≤ c.length ∧ z.2.length + (c.length - z.1) ≤ 100000000) (fun z => c.length - z.1) (fun z => K ((i, ()), ((T, ()), ()), ((c.drop z.1).map (fun a => a.1)).foldl addN z.2, ())) (fun n z hz => ?_)
  obtain ⟨j, acc⟩ := z
  obtain ⟨z1, z2⟩ := hz
  simp only at z1 z2 ⊢
  rw [Zcf]
  by_cases h : j < c.length
  · obtain ⟨x, hx⟩ := Zbj h
    have := Zmw acc x.1
    refine .inr ⟨(j + 1, addN acc x.1), ⟨by simp only; omega, by simp only; omega⟩, by simp only; omega, ?_, ?_⟩
    · simp only [Zbf hx, List.map_cons, List.foldl_cons]
    · simp (disch := omega) only [go_sem, hx, Z5w (l := acc) (by omega)]
      rfl
  · refine .inl ?_
    rw [List.drop_eq_nil_of_le (by omega)]
    simp (disch := omega) only [go_sem, List.map_nil, List.foldl_nil]
theorem Z79 {T : List Nd} {i n0 : Int} {c : List At} (hc : c.length ≤ 1000000) (K) : ∀ n (z : Nat × List ByteArray), z.1 ≤ c.length ∧ z.2.length + (c.length - z.1) ≤ 100000000 → c.length - z.1 < n →
    Zda fuel n K ((T, n0, i, c, (c.length : Int), (z.1 : Int), ()), ((), ()), z.2, ()) = K ((T, n0, i, ()), ((), ()), ((c.drop z.1).map (fun a => a.1)).foldl addN z.2, ()) := by
  refine Zfq (L := fun n (z : Nat × List ByteArray) => Zda fuel n K ((T, n0, i, c, (c.length : Int), (z.1 : Int), ()), ((), ()), z.2, ())) (fun z => z.1 ≤ c.length ∧ z.2.length + (c.length - z.1) ≤ 100000000) (fun z => c.length - z.1) (fun z => K ((T, n0, i, ()), ((), ()), ((c.drop z.1).map (fun a => a.1)).foldl addN z.2, ())) (fun n z hz => ?_)
  obtain ⟨j, acc⟩ := z
  obtain ⟨z1, z2⟩ := hz
  simp only at z1 z2 ⊢
  rw [Zda]
  by_cases h : j < c.length
  · obtain ⟨x, hx⟩ := Zbj h
    have := Zmw acc x.1
    refine .inr ⟨(j + 1, addN acc x.1), ⟨by simp only; omega, by simp only; omega⟩, by simp only; omega, ?_, ?_⟩
    · simp only [Zbf hx, List.map_cons, List.foldl_cons]
    · simp (disch := omega) only [go_sem, hx, Zaec (l := acc) (by omega)]
      rfl
  · refine .inl ?_
    rw [List.drop_eq_nil_of_le (by omega)]
    simp (disch := omega) only [go_sem, List.map_nil, List.foldl_nil]
def Zo9 (T : List Nd) : Nat := sumL (fun x => x.2.2.1.length + 1) T
theorem Zjv (x : Nd) : (Z7 x).length ≤ x.2.2.1.length + 1 := by unfold Z7; split <;> simp
theorem Zaif {T : List Nd} (hT : T.length ≤ 1000000) (hR : Rows T) (hcap : Zo9 T ≤ 10000000) : Zm1 ((T, ()), ()) = some ((), Zc4 T [], ()) := by
  unfold Zm1 Zm0
  have := Zfq (L := fun n (z : Nat × List ByteArray) => Zc5 fuel n (fun v0 => some ((), v0.2.2.1, ())) (((z.1 : Int), ()), ((T, ()), ()), z.2, ())) (fun z => z.1 ≤ T.length ∧ z.2.length + Zo9 (T.drop z.1) ≤ 10000000) (fun z => T.length - z.1) (fun z => some ((), Zc4 (T.drop z.1) z.2, ())) (fun n z hz => by
    obtain ⟨j, acc⟩ := z
    obtain ⟨z1, z2⟩ := hz
    simp only at z1 z2 ⊢
    rw [Zc5]
    by_cases h : j < T.length
    · obtain ⟨x, hx⟩ := Zbj h
      obtain ⟨r1, r2⟩ := hR x (List.mem_of_getElem? hx)
      rw [Zbf hx] at z2 ⊢
      unfold Zo9 at z2
      rw [sumL] at z2
      have hb := Zfn (Z7 x) acc
      have hc := Zjv x
      refine .inr ⟨(j + 1, (Z7 x).foldl addN acc), ⟨by simp only; omega, by simp only; unfold Zo9; omega⟩, by simp only; omega, by simp only [Zc4, List.foldl_cons], ?_⟩
      obtain ⟨a, b, c, d, p, ks, _⟩ := x
      simp only at r1 r2 z2 hb
      have hF := Zl
      have hadd := Zmw acc b
      have e1 := fun acc' (hacc : acc'.length ≤ acc.length + 1) K => Z78 (T := T) (i := (j : Int)) (a := a) (b := b) (c := c) (d := d) (p := p) (ks := ks) r1 K fuel (0, acc') ⟨by simp only; omega, by simp only; omega⟩ (by simp only; omega)
      simp only [Int.cast_ofNat_Int, List.drop_zero] at e1
      unfold Z7
      simp only
      by_cases k3 : a = 3
      · rw [if_pos (.inr k3)]
        simp (disch := omega) only [go_sem, hx, k3, Z5w (l := acc) (by omega)] at e1 ⊢
        rw [e1 _ (by omega)]
        simp (disch := omega) only [go_sem, List.foldl_cons]
        rfl
      by_cases k2 : a = 2
      · rw [if_pos (.inl k2)]
        simp (disch := omega) only [go_sem, hx, k2, Z5w (l := acc) (by omega)] at e1 ⊢
        rw [e1 _ (by omega)]
        simp (disch := omega) only [go_sem, List.foldl_cons]
        rfl
      · rw [if_neg (by omega)]
        simp (disch := omega) only [go_sem, hx]
        rw [e1 _ (by omega)]
        simp (disch := omega) only [go_sem]
        rfl
    · refine .inl ?_
      rw [List.drop_eq_nil_of_le (by omega)]
      simp (disch := omega) only [go_sem, Zc4, List.foldl_nil]) fuel (0, []) ⟨by simp only; omega, by simpa using hcap⟩ (by have := Zl; simp only; omega)
  simpa only [Int.cast_ofNat_Int, List.drop_zero] using this
theorem Zaig {T : List Nd} (hT : T.length ≤ 1000000) (hR : Rows T) (hcap : Zo9 T ≤ 10000000) : Zoj ((T, ()), ()) = some ((), Zc4 T [], ()) := by
  unfold Zoj Zoi
  have := Zfq (L := fun n (z : Nat × List ByteArray) => Zd6 fuel n (fun v0 => some ((), v0.2.2.1, ())) ((T, (T.length : Int), (z.1 : Int), ()), ((), ()), z.2, ())) (fun z => z.1 ≤ T.length ∧ z.2.length + Zo9 (T.drop z.1) ≤ 10000000) (fun z => T.length - z.1) (fun z => some ((), Zc4 (T.drop z.1) z.2, ())) (fun n z hz => by
    obtain ⟨j, acc⟩ := z
    obtain ⟨z1, z2⟩ := hz
    simp only at z1 z2 ⊢
    rw [Zd6]
    by_cases h : j < T.length
    · obtain ⟨x, hx⟩ := Zbj h
      obtain ⟨r1, r2⟩ := hR x (List.mem_of_getElem? hx)
      rw [Zbf hx] at z2 ⊢
      unfold Zo9 at z2
      rw [sumL] at z2
      have hb := Zfn (Z7 x) acc
      have hc := Zjv x
      refine .inr ⟨(j + 1, (Z7 x).foldl addN acc), ⟨by simp only; omega, by simp only; unfold Zo9; omega⟩, by simp only; omega, by simp only [Zc4, List.foldl_cons], ?_⟩
      obtain ⟨a, b, c, d, p, ks, _⟩ := x
      simp only at r1 r2 z2 hb
      have hF := Zl
      have hadd := Zmw acc b
      have e1 := fun acc' (hacc : acc'.length ≤ acc.length + 1) K => Z79 (T := T) (n0 := (T.length : Int)) (i := (j : Int)) (c := c) r1 K fuel (0, acc') ⟨by simp only; omega, by simp only; omega⟩ (by simp only; omega)
      simp only [Int.cast_ofNat_Int, List.drop_zero] at e1
      unfold Z7 Zca Zby
      simp only
      by_cases k3 : a = 3
      · rw [if_pos (.inr k3)]
        simp (disch := omega) only [go_sem, hx, k3, Zaec (l := acc) (by omega)]
        rw [e1 _ (by omega)]
        simp (disch := omega) only [go_sem, List.foldl_cons]
        rfl
      by_cases k2 : a = 2
      · rw [if_pos (.inl k2)]
        simp (disch := omega) only [go_sem, hx, k2, Zaec (l := acc) (by omega)]
        rw [e1 _ (by omega)]
        simp (disch := omega) only [go_sem, List.foldl_cons]
        rfl
      · rw [if_neg (by omega)]
        simp (disch := omega) only [go_sem, hx]
        rw [e1 _ (by omega)]
        simp (disch := omega) only [go_sem]
        rfl
    · refine .inl ?_
      rw [List.drop_eq_nil_of_le (by omega)]
      simp (disch := omega) only [go_sem, Zc4, List.foldl_nil]) fuel (0, []) ⟨by simp only; omega, by simpa using hcap⟩ (by have := Zl; simp only; omega)
  simp only [Int.cast_ofNat_Int, List.drop_zero] at this
  simp only [go_sem, this]
theorem mem_addN {l : List ByteArray} {s t : ByteArray} : t ∈ addN l s ↔ t ∈ l ∨ t = s := by
  unfold addN
  split
  · rename_i h
    constructor
    · exact .inl
    · rintro (q | q)
      · exact q
      · rw [q]; exact Zajg.1 h
  · simp
theorem Ztv {t : ByteArray} : ∀ (l acc : List ByteArray), t ∈ l.foldl addN acc ↔ t ∈ acc ∨ t ∈ l
  | [], acc => by simp
  | s :: l, acc => by
    rw [List.foldl_cons, Ztv l, mem_addN, List.mem_cons, or_assoc]
theorem Zjx {t : ByteArray} : ∀ (T : List Nd) (acc : List ByteArray), t ∈ Zc4 T acc ↔ t ∈ acc ∨ ∃ x ∈ T, t ∈ Z7 x
  | [], acc => by simp [Zc4]
  | x :: T, acc => by
    have := Zjx (t := t) T ((Z7 x).foldl addN acc)
    unfold Zc4 at this ⊢
    rw [List.foldl_cons, this, Ztv, or_assoc]
    simp
theorem Zkx : ∀ (T : List Nd) (acc : List ByteArray), (Zc4 T acc).length ≤ acc.length + Zo9 T
  | [], acc => by simp [Zc4]
  | x :: T, acc => by
    have h1 := Zkx T ((Z7 x).foldl addN acc)
    have h2 := Zfn (Z7 x) acc
    have h3 := Zjv x
    unfold Zc4 Zo9 at h1 ⊢
    rw [List.foldl_cons, sumL]
    omega
end Go.Proofs.YtcpecilmkkmaiaaGreat.V
namespace Go.Proofs.YtcpecilmkkmaiaaGreat.V
open Go Go.RowKit
attribute [local irreducible] wr
attribute [local go_sem] Zg2 Zfc
structure NodeF (x : Nd) : Prop where
  kind : 1 ≤ x.1 ∧ x.1 ≤ 5
  attrs : x.2.2.1.length ≤ 20
  attr : ∀ a ∈ x.2.2.1, a.1.size ≤ 60 ∧ a.2.1.size ≤ 3000
  name : x.2.1.size ≤ 60
  text : x.2.2.2.1.size ≤ 3000
  noname : x.1 ≠ 2 → x.1 ≠ 3 → x.2.1 = ⟨#[]⟩
  noattr : x.1 ≠ 3 → x.2.2.1 = []
  notext : x.1 ≠ 4 → x.1 ≠ 5 → x.2.2.2.1 = ⟨#[]⟩
  nokids : x.1 ≠ 1 → x.1 ≠ 3 → x.2.2.2.2.2.1 = []
theorem Zakk {s : ByteArray} (h : Zmx s = true) : s.size ≤ 3000 := by
  unfold Zmx utfOk at h
  have := of_decide_eq_true (Bool.and_eq_true_iff.1 h).1
  rwa [Zdb] at this
theorem Zakl {s : ByteArray} (h : Zac3 s = true) : s.size ≤ 60 := by
  unfold Zac3 at h
  exact (of_decide_eq_true (Bool.and_eq_true_iff.1 h).1).2
theorem Zakn {a : At} (h : Zad9 a = true) : a.1.size ≤ 60 ∧ a.2.1.size ≤ 3000 := by
  unfold Zad9 at h
  simp only [Bool.and_eq_true, decide_eq_true_eq] at h
  exact ⟨h.1.2, h.2.1⟩
theorem Zaki (l : List At) : ∀ d i, Zh5 l d i = true → ∀ j a, i ≤ j → j < i + d → l[j]? = some a → Zad9 a = true ∧ fstAt a.1 l = j
  | 0, i, _, j, a, h1, h2, _ => by omega
  | d + 1, i, h, j, a, h1, h2, ha => by
    unfold Zh5 at h
    by_cases e : j = i
    · subst e
      rw [ha] at h
      simp only [Bool.and_eq_true, decide_eq_true_eq] at h
      exact ⟨h.1, h.2.1⟩
    · refine Zaki l d (i + 1) ?_ j a (by omega) (by omega) ha
      obtain ⟨b, hb⟩ := Zbj (l := l) (i := i) (by have := Zt ha; omega)
      rw [hb] at h
      simp only [Bool.and_eq_true] at h
      exact h.2.2
theorem Zakm {l : List At} (h : Z4c l = true) : l.length ≤ 20 ∧ ∀ j a, l[j]? = some a → Zad9 a = true ∧ fstAt a.1 l = j := by
  unfold Z4c at h
  simp only [Bool.and_eq_true, decide_eq_true_eq] at h
  exact ⟨h.1, fun j a ha => Zaki l l.length 0 h.2 j a (by omega) (by have := Zt ha; omega) ha⟩
theorem Zakh : (⟨#[]⟩ : ByteArray).size = 0 := rfl
theorem nodeF0 {x : Nd} (h : nodeG x = true) : NodeF x := by
  obtain ⟨a, b, c, d, p, ks, _⟩ := x
  unfold nodeG at h
  simp only at h
  split at h
  · rename_i k
    simp only [Bool.and_eq_true, decide_eq_true_eq] at h
    obtain ⟨h1, h2, h3⟩ := h
    have e1 := Zakj h1
    have e2 := Zakj h2
    have e3 := List.eq_nil_of_length_eq_zero h3
    subst e1 e2 e3
    exact ⟨by simp only; omega, by simp, by simp, by rw [Zakh]; omega, by rw [Zakh]; omega, fun _ _ => rfl, fun _ => rfl, fun _ _ => rfl, fun q => absurd k q⟩
  split at h
  · rename_i k1 k
    simp only [Bool.and_eq_true, decide_eq_true_eq] at h
    obtain ⟨h1, h2, h3, h4, h5⟩ := h
    have e1 := Zakj h1
    have e2 := List.eq_nil_of_length_eq_zero h2
    have e3 := List.eq_nil_of_length_eq_zero h5
    subst e1 e2 e3
    exact ⟨by simp only; omega, by simp, by simp, h3, by rw [Zakh]; omega, fun q => absurd k q, fun _ => rfl, fun _ _ => rfl, fun _ _ => rfl⟩
  split at h
  · rename_i k1 k2 k
    simp only [Bool.and_eq_true] at h
    obtain ⟨h1, h2, h3⟩ := h
    have e1 := Zakj h1
    subst e1
    obtain ⟨q1, q2⟩ := Zakm h3
    exact ⟨by simp only; omega, q1, fun y hy => by
      obtain ⟨j, hj⟩ := List.getElem?_of_mem hy
      exact Zakn (q2 j y hj).1, Zakl h2, by rw [Zakh]; omega, fun _ q => absurd k q, fun q => absurd k q, fun _ _ => rfl, fun _ q => absurd k q⟩
  split at h
  · rename_i k1 k2 k3 k
    simp only [Bool.and_eq_true, decide_eq_true_eq] at h
    obtain ⟨h1, h2, h3, h4, h5⟩ := h
    have e1 := Zakj h1
    have e2 := List.eq_nil_of_length_eq_zero h2
    have e3 := List.eq_nil_of_length_eq_zero h5
    subst e1 e2 e3
    exact ⟨by simp only; omega, by simp, by simp, by rw [Zakh]; omega, Zakk h4, fun _ _ => rfl, fun _ => rfl, fun q => absurd k q, fun _ _ => rfl⟩
  split at h
  · rename_i k1 k2 k3 k4 k
    simp only [Bool.and_eq_true, decide_eq_true_eq] at h
    obtain ⟨h1, h2, h3, h4⟩ := h
    have e1 := Zakj h1
    have e2 := List.eq_nil_of_length_eq_zero h2
    have e3 := List.eq_nil_of_length_eq_zero h4
    subst e1 e2 e3
    exact ⟨by simp only; omega, by simp, by simp, by rw [Zakh]; omega, Zakk h3, fun _ _ => rfl, fun _ => rfl, fun _ q => absurd k q, fun _ _ => rfl⟩
  · cases h
theorem TreeG.nodeF {T : List Nd} (hT : TreeG T) {x : Nd} (h : x ∈ T) : NodeF x := by
  obtain ⟨i, hi⟩ := List.getElem?_of_mem h
  exact nodeF0 (hT.node i x hi).1
theorem TreeG.kids_length {T : List Nd} (hT : TreeG T) {x : Nd} (h : x ∈ T) : (kidsN x).length ≤ T.length := by
  obtain ⟨i, hi⟩ := List.getElem?_of_mem h
  exact Zy4 _ _ (hT.nodup i x hi) fun k hk => by have := hT.kid i x k hi hk; omega
theorem TreeG.rows {T : List Nd} (hT : TreeG T) : Rows T := fun x hx => by
  have h1 := (hT.nodeF hx).attrs
  have h2 := hT.kids_length hx
  have h3 := hT.len
  exact ⟨by omega, by omega⟩
theorem Zahh {α : Type} {w : α → Nat} {c : Nat} : ∀ l : List α, (∀ x ∈ l, w x ≤ c) → sumL w l ≤ c * l.length
  | [], _ => by simp [sumL]
  | x :: l, h => by
    have h1 := h x (List.mem_cons_self ..)
    have h2 := Zahh l fun y hy => h y (List.mem_cons_of_mem _ hy)
    rw [sumL, List.length_cons, Nat.mul_add, Nat.mul_one]; omega
theorem TreeG.cap {T : List Nd} (hT : TreeG T) : Zo9 T ≤ 10500 := by
  have h3 := hT.len
  have := Zahh (w := fun x : Nd => x.2.2.1.length + 1) (c := 21) T (fun x hx => by have := (hT.nodeF hx).attrs; omega)
  unfold Zo9
  omega
def packA (ns : List ByteArray) (c : List At) : List Int := c.flatMap fun a => Zk (fnd a.1 ns) ++ Zx a.2.1
def packN (ns : List ByteArray) (x : Nd) : List Int :=
  Zk x.1.toNat ++ (Zk x.2.2.2.2.2.1.length ++
    (if x.1 = 2 then Zk (fnd x.2.1 ns) else if x.1 = 3 then Zk (fnd x.2.1 ns) ++ (Zk x.2.2.1.length ++ packA ns x.2.2.1)
      else if x.1 = 4 ∨ x.1 = 5 then Zx x.2.2.2.1 else []))
def packT (T : List Nd) : List Int := Zk (Zc4 T []).length ++ ((Zc4 T []).flatMap Zx ++ (Zk T.length ++ T.flatMap (packN (Zc4 T []))))
theorem Zy3 {ns : List ByteArray} : ∀ c : List At, (∀ a ∈ c, a.1.size ≤ 60 ∧ a.2.1.size ≤ 3000) → (packA ns c).length ≤ 3020 * c.length
  | [], _ => by simp [packA]
  | a :: c, h => by
    have h1 := h a (List.mem_cons_self ..)
    have h2 := Zy3 (ns := ns) c fun y hy => h y (List.mem_cons_of_mem _ hy)
    have h3 := Ze (fnd a.1 ns)
    have h4 := Zah a.2.1
    unfold packA at h2 ⊢
    rw [List.flatMap_cons, List.length_append, List.length_append, List.length_cons]; omega
theorem Zy2 {ns : List ByteArray} {x : Nd} (h : NodeF x) : (packN ns x).length ≤ 70000 := by
  have h1 := Ze x.1.toNat
  have h2 := Ze x.2.2.2.2.2.1.length
  have h3 := Ze (fnd x.2.1 ns)
  have h4 := Ze x.2.2.1.length
  have h5 := Zy3 (ns := ns) x.2.2.1 h.attr
  have h6 := Zah x.2.2.2.1
  have h7 := h.attrs
  have h8 := h.text
  unfold packN
  repeat' split
  all_goals simp only [List.length_append, List.length_nil]; omega
theorem Zvx {α : Type} {g : α → List Int} {c : Nat} : ∀ l : List α, (∀ x ∈ l, (g x).length ≤ c) → (l.flatMap g).length ≤ c * l.length
  | [], _ => by simp
  | x :: l, h => by
    have h1 := h x (List.mem_cons_self ..)
    have h2 := Zvx l fun y hy => h y (List.mem_cons_of_mem _ hy)
    rw [List.flatMap_cons, List.length_append, List.length_cons, Nat.mul_add, Nat.mul_one]; omega
theorem Zvv {ns : List ByteArray} {s : ByteArray} (h : s ∈ ns) : fndI ns s = (fnd s ns : Int) := by unfold fndI; rw [if_pos (Zajg.2 h)]
theorem Zah5 {ns : List ByteArray} (hns : ns.length ≤ 1000000) {c : List At} (hc : c.length ≤ 20) (ha : ∀ a ∈ c, a.1.size ≤ 60 ∧ a.2.1.size ≤ 3000) (hm : ∀ a ∈ c, a.1 ∈ ns) (K) : ∀ n (z : Nat × List Int), z.1 ≤ c.length ∧ z.2.length + 3020 * (c.length - z.1) ≤ 1000000000 → c.length - z.1 < n →
    Zcm fuel n K ((ns, c, (c.length : Int), (z.1 : Int), ()), (), z.2, ()) = K ((), (), z.2 ++ packA ns (c.drop z.1), ()) := by
  refine Zfq (L := fun n (z : Nat × List Int) => Zcm fuel n K ((ns, c, (c.length : Int), (z.1 : Int), ()), (), z.2, ())) (fun z => z.1 ≤ c.length ∧ z.2.length + 3020 * (c.length - z.1) ≤ 1000000000) (fun z => c.length - z.1) (fun z => K ((), (), z.2 ++ packA ns (c.drop z.1), ())) (fun n z hz => ?_)
  obtain ⟨j, acc⟩ := z
  obtain ⟨z1, z2⟩ := hz
  simp only at z1 z2 ⊢
  rw [Zcm]
  by_cases h : j < c.length
  · obtain ⟨x, hx⟩ := Zbj h
    have hmem := List.mem_of_getElem? hx
    obtain ⟨s1, s2⟩ := ha x hmem
    have f1 := Ze (fnd x.1 ns)
    have f2 := Zah x.2.1
    have f3 := Zajh x.1 ns
    refine .inr ⟨(j + 1, acc ++ (Zk (fnd x.1 ns) ++ Zx x.2.1)), ⟨by simp only; omega, by simp only [List.length_append]; omega⟩, by simp only; omega, ?_, ?_⟩
    · simp only [Zbf hx, packA, List.flatMap_cons, List.append_assoc]
    · have e1 := Zhf (x := fnd x.1 ns) acc (by omega) (by omega)
      have e2 := Zri (s := x.2.1) (acc ++ Zk (fnd x.1 ns)) (by rw [List.length_append]; omega)
      simp (disch := omega) only [go_sem, hx, Zt4, Zvv (hm x hmem), e1, e2, List.append_assoc]
      rfl
  · refine .inl ?_
    rw [List.drop_eq_nil_of_le (by omega)]
    simp (disch := omega) only [go_sem, packA, List.flatMap_nil, List.append_nil]
theorem Zah3 {ns : List ByteArray} (hns : ns.length ≤ 1000000) {x : Nd} (hf : NodeF x) (hk : x.2.2.2.2.2.1.length ≤ 1000000) (hm : ∀ t ∈ Z7 x, t ∈ ns) (acc : List Int) (hacc : acc.length ≤ 100000000) : Zlb (acc, x, ns, ()) = some ((), acc ++ packN ns x, ()) := by
  obtain ⟨a, b, c, d, p, ks, _⟩ := x
  have h1 := hf.kind; have h2 := hf.attrs; have h3 := hf.attr; have h4 := hf.name; have h5 := hf.text
  simp only at h1 h2 h3 h4 h5 hk
  obtain ⟨a, rfl⟩ := Int.eq_ofNat_of_zero_le (show 0 ≤ a by omega)
  have hF := Zl
  have l1 := Ze a; have l2 := Ze ks.length; have l3 := Ze (fnd b ns); have l4 := Ze c.length
  have e1 := Zhf (x := a) acc (by omega) (by omega)
  have e2 := Zhf (x := ks.length) (acc ++ Zk a) (by omega) (by rw [List.length_append]; omega)
  have f3 := Zajh b ns
  have e3 := Zhf (x := fnd b ns) (acc ++ Zk a ++ Zk ks.length) (by omega) (by simp only [List.length_append]; omega)
  have e4 := Zhf (x := c.length) (acc ++ Zk a ++ Zk ks.length ++ Zk (fnd b ns)) (by omega) (by simp only [List.length_append]; omega)
  have e5 := Zri (s := d) (acc ++ Zk a ++ Zk ks.length) (by simp only [List.length_append]; omega)
  unfold Zlb Zl6 packN Zca Zby
  simp only [Int.toNat_natCast]
  by_cases k2 : (a : Int) = 2
  · have hb : b ∈ ns := hm b (by unfold Z7; simp only [k2]; simp)
    simp (disch := omega) only [go_sem, e1, e2, Zt4, Zvv hb, e3, List.append_assoc] at e3 ⊢
    simp (disch := omega) only [go_sem, e3]
  by_cases k3 : (a : Int) = 3
  · have hb : b ∈ ns := hm b (by unfold Z7; simp only [k3]; simp)
    have hca : ∀ y ∈ c, y.1 ∈ ns := fun y hy => hm y.1 (by unfold Z7; simp only [k3]; simp; exact .inr ⟨y.2.1, y.2.2, hy⟩)
    have e6 := fun K => Zah5 hns h2 h3 hca K fuel (0, acc ++ Zk a ++ Zk ks.length ++ Zk (fnd b ns) ++ Zk c.length) ⟨by simp only; omega, by simp only [List.length_append]; omega⟩ (by simp only; omega)
    simp only [Int.cast_ofNat_Int, List.drop_zero, List.append_assoc] at e6 e3 e4
    simp (disch := omega) only [go_sem, e1, e2, Zt4, Zvv hb, List.append_assoc, e3, e4, e6]
  by_cases k45 : (a : Int) = 4 ∨ (a : Int) = 5
  · simp only [List.append_assoc] at e5
    rcases k45 with k | k <;> simp (disch := omega) only [go_sem, e1, e2, e5, List.append_assoc]
  · simp (disch := omega) only [go_sem, e1, e2, List.append_assoc, List.append_nil]
theorem Zpe {T : List Nd} (hT : TreeG T) : Zf6 ((T, ()), ()) = if same T (flatC T 0 (-1) 0) = true ∧ (packT T).length ≤ 20000 then some ((), packT T, true, ()) else some ((), [], false, ()) := by
  have hR := hT.rows
  have hl := hT.len
  have hcap := hT.cap
  have hF := Zl
  obtain ⟨b, hb1, hb2⟩ := Z3c T (fun x hx => by have := (hR x hx).2; omega)
  obtain rfl : b = true := hb2.2 hT
  unfold Zf6 Zh1
  simp (disch := omega) only [go_sem, hb1, tidy_impl hT hR, Z9h (by omega : T.length ≤ 1000000) hR]
  cases same T (flatC T 0 (-1) 0)
  · simp only [go_sem]
  simp (disch := omega) only [go_sem, Zaig (by omega : T.length ≤ 1000000) hR (by omega)]
  have hnl := Zkx T []
  simp only [List.length_nil, Nat.zero_add] at hnl
  have hmem : ∀ x ∈ T, ∀ t ∈ Z7 x, t ∈ Zc4 T [] := fun x hx t ht => (Zjx T []).2 (.inr ⟨x, hx, ht⟩)
  have hsz : ∀ t ∈ Zc4 T [], t.size ≤ 60 := fun t ht => by
    rcases (Zjx T []).1 ht with q | ⟨x, hx, q⟩
    · cases q
    · have hf := hT.nodeF hx
      have aux : ∀ t ∈ x.2.2.1.map (fun a => a.1), t.size ≤ 60 := fun t ht => by
        obtain ⟨a, ha, rfl⟩ := List.mem_map.1 ht
        exact (hf.attr a ha).1
      unfold Z7 at q
      split at q
      · rcases List.mem_cons.1 q with rfl | q
        · exact hf.name
        · exact aux t q
      · exact aux t q
  have hP : packT T = Zk (Zc4 T []).length ++ ((Zc4 T []).flatMap Zx ++ (Zk T.length ++ T.flatMap (packN (Zc4 T [])))) := rfl
  generalize Zc4 T [] = ns at *
  have ln := Ze ns.length
  have e1 := Zhf (x := ns.length) [] (by omega) (by simp)
  rw [List.nil_append] at e1
  have lt1 := Ze T.length
  have hn0 := fun K => Zfq (L := fun n (z : Nat × List Int) => Zem fuel n K (((ns.length : Int), (z.1 : Int), ()), ((T, ()), ()), z.2, ns, ())) (fun z => z.1 ≤ ns.length ∧ z.2.length + 70 * (ns.length - z.1) ≤ 10000000) (fun z => ns.length - z.1) (fun z => K ((), ((T, ()), ()), ns, z.2 ++ (ns.drop z.1).flatMap Zx, ())) (fun n z hz => by
    obtain ⟨j, acc⟩ := z
    obtain ⟨z1, z2⟩ := hz
    simp only at z1 z2 ⊢
    rw [Zem]
    by_cases h : j < ns.length
    · obtain ⟨x, hx⟩ := Zbj h
      have hs := hsz x (List.mem_of_getElem? hx)
      have f2 := Zah x
      refine .inr ⟨(j + 1, acc ++ Zx x), ⟨by simp only; omega, by simp only [List.length_append]; omega⟩, by simp only; omega, ?_, ?_⟩
      · simp only [Zbf hx, List.flatMap_cons, List.append_assoc]
      · simp (disch := omega) only [go_sem, hx, Zri (s := x) acc (by omega)]
        rfl
    · refine .inl ?_
      rw [List.drop_eq_nil_of_le (by omega)]
      simp (disch := omega) only [go_sem, List.flatMap_nil, List.append_nil]) fuel (0, Zk ns.length) ⟨by simp only; omega, by simp only; omega⟩ (by simp only; omega)
  have lns := Zvx (g := Zx) (c := 70) ns (fun x hx => by have := hsz x hx; have := Zah x; omega)
  have hn2 := fun (z : List Int) (hz : z.length ≤ 10000000) K => Zfq (L := fun n (z : Nat × List Int) => Zel fuel n K ((T, (T.length : Int), (z.1 : Int), ()), (), ns, z.2, ())) (fun z => z.1 ≤ T.length ∧ z.2.length + 70000 * (T.length - z.1) ≤ 50000000) (fun z => T.length - z.1) (fun z => K ((), (), z.2 ++ (T.drop z.1).flatMap (packN ns), ())) (fun n z hz => by
    obtain ⟨j, acc⟩ := z
    obtain ⟨z1, z2⟩ := hz
    simp only at z1 z2 ⊢
    rw [Zel]
    by_cases h : j < T.length
    · obtain ⟨x, hx⟩ := Zbj h
      have hmx := List.mem_of_getElem? hx
      have hf := hT.nodeF hmx
      have hr := hR x hmx
      have lp := Zy2 (ns := ns) hf
      refine .inr ⟨(j + 1, acc ++ packN ns x), ⟨by simp only; omega, by simp only [List.length_append]; omega⟩, by simp only; omega, ?_, ?_⟩
      · simp only [Zbf hx, List.flatMap_cons, List.append_assoc]
      · have ep := Zah3 (ns := ns) (by omega) hf hr.2 (hmem x hmx) acc (by omega)
        simp (disch := omega) only [go_sem, hx, ep]
        rfl
    · refine .inl ?_
      rw [List.drop_eq_nil_of_le (by omega)]
      simp (disch := omega) only [go_sem, List.flatMap_nil, List.append_nil]) fuel (0, z) ⟨by simp only; omega, by simp only; omega⟩ (by simp only; omega)
  simp only [Int.cast_ofNat_Int, List.drop_zero] at hn0 hn2
  have lbig : (Zk ns.length ++ ns.flatMap Zx ++ Zk T.length).length ≤ 10000000 := by simp only [List.length_append]; omega
  have e3 := Zhf (x := T.length) (Zk ns.length ++ ns.flatMap Zx) (by omega) (by simp only [List.length_append]; omega)
  simp (disch := omega) only [go_sem, e1, hn0, e3, hn2 _ lbig]
  have hPP : Zk ns.length ++ ns.flatMap Zx ++ Zk T.length ++ T.flatMap (packN ns) = packT T := by rw [hP]; simp only [List.append_assoc]
  simp only [List.append_assoc] at hPP ⊢
  rw [hPP]
  have hlen : (Zk ns.length).length + (ns.flatMap Zx).length + (Zk T.length).length + (T.flatMap (packN ns)).length = (packT T).length := by rw [hP]; simp only [List.length_append]; omega
  by_cases h : (packT T).length ≤ 20000
  · simp (disch := omega) only [go_sem]
  · simp (disch := omega) only [go_sem]
theorem Zah4 {T : List Nd} {i : Int} {q0 : List Int} {a : Int} {b : ByteArray} {c : List At} {d : ByteArray} {p : Int} {ks : List Int} {ns : List ByteArray} (hns : ns.length ≤ 1000000) (hc : c.length ≤ 20) (ha : ∀ a ∈ c, a.1.size ≤ 60 ∧ a.2.1.size ≤ 3000) (hm : ∀ a ∈ c, a.1 ∈ ns) (K) : ∀ n (z : Nat × List Int), z.1 ≤ c.length ∧ z.2.length + 3020 * (c.length - z.1) ≤ 1000000000 → c.length - z.1 < n →
    Zdd fuel n K ((i, (z.1 : Int), ()), ((T, ()), (a, b, c, d, p, ks, ()), ()), q0, ns, z.2, ()) = K ((i, ()), ((T, ()), ()), q0, ns, z.2 ++ packA ns (c.drop z.1), ()) := by
  refine Zfq (L := fun n (z : Nat × List Int) => Zdd fuel n K ((i, (z.1 : Int), ()), ((T, ()), (a, b, c, d, p, ks, ()), ()), q0, ns, z.2, ())) (fun z => z.1 ≤ c.length ∧ z.2.length + 3020 * (c.length - z.1) ≤ 1000000000) (fun z => c.length - z.1) (fun z => K ((i, ()), ((T, ()), ()), q0, ns, z.2 ++ packA ns (c.drop z.1), ())) (fun n z hz => ?_)
  obtain ⟨j, acc⟩ := z
  obtain ⟨z1, z2⟩ := hz
  simp only at z1 z2 ⊢
  rw [Zdd]
  by_cases h : j < c.length
  · obtain ⟨x, hx⟩ := Zbj h
    have hmem := List.mem_of_getElem? hx
    obtain ⟨s1, s2⟩ := ha x hmem
    have f1 := Ze (fnd x.1 ns)
    have f2 := Zah x.2.1
    have f3 := Zajh x.1 ns
    refine .inr ⟨(j + 1, acc ++ (Zk (fnd x.1 ns) ++ Zx x.2.1)), ⟨by simp only; omega, by simp only [List.length_append]; omega⟩, by simp only; omega, ?_, ?_⟩
    · simp only [Zbf hx, packA, List.flatMap_cons, List.append_assoc]
    · have e1 := Zg4 (x := fnd x.1 ns) (by omega)
      have e2 := Ztc (s := x.2.1) (by omega)
      simp (disch := omega) only [go_sem, hx, Zxx, Zvv (hm x hmem), e1, e2, List.append_assoc]
      rfl
  · refine .inl ?_
    rw [List.drop_eq_nil_of_le (by omega)]
    simp (disch := omega) only [go_sem, packA, List.flatMap_nil, List.append_nil]
set_option maxHeartbeats 1000000 in
theorem Zpd {T : List Nd} (hT : TreeG T) : Zfz ((T, ()), ()) = if same T (flatC T 0 (-1) 0) = true ∧ (packT T).length ≤ 20000 then some ((), packT T, true, ()) else some ((), [], false, ()) := by
  have hR := hT.rows
  have hl := hT.len
  have hcap := hT.cap
  have hF := Zl
  obtain ⟨b, hb1, hb2⟩ := Z3b T (fun x hx => by have := (hR x hx).2; omega)
  obtain rfl : b = true := hb2.2 hT
  unfold Zfz Zhs
  simp (disch := omega) only [go_sem, hb1, tidy_spec hT hR, Zaka (by omega : T.length ≤ 1000000) hR]
  cases same T (flatC T 0 (-1) 0)
  · simp only [go_sem]
  simp (disch := omega) only [go_sem, Zaif (by omega : T.length ≤ 1000000) hR (by omega)]
  have hnl := Zkx T []
  simp only [List.length_nil, Nat.zero_add] at hnl
  have hmem : ∀ x ∈ T, ∀ t ∈ Z7 x, t ∈ Zc4 T [] := fun x hx t ht => (Zjx T []).2 (.inr ⟨x, hx, ht⟩)
  have hsz : ∀ t ∈ Zc4 T [], t.size ≤ 60 := fun t ht => by
    rcases (Zjx T []).1 ht with q | ⟨x, hx, q⟩
    · cases q
    · have hf := hT.nodeF hx
      have aux : ∀ t ∈ x.2.2.1.map (fun a => a.1), t.size ≤ 60 := fun t ht => by
        obtain ⟨a, ha, rfl⟩ := List.mem_map.1 ht
        exact (hf.attr a ha).1
      unfold Z7 at q
      split at q
      · rcases List.mem_cons.1 q with rfl | q
        · exact hf.name
        · exact aux t q
      · exact aux t q
  have hP : packT T = Zk (Zc4 T []).length ++ ((Zc4 T []).flatMap Zx ++ (Zk T.length ++ T.flatMap (packN (Zc4 T [])))) := rfl
  generalize Zc4 T [] = ns at *
  have ln := Ze ns.length
  have e1 := Zg4 (x := ns.length) (by omega)
  have lt1 := Ze T.length
  have hn0 := fun K => Zfq (L := fun n (z : Nat × List Int) => Zef fuel n K (((z.1 : Int), ()), ((T, ()), ()), [], ns, z.2, ())) (fun z => z.1 ≤ ns.length ∧ z.2.length + 70 * (ns.length - z.1) ≤ 10000000) (fun z => ns.length - z.1) (fun z => K ((), ((T, ()), ()), [], ns, z.2 ++ (ns.drop z.1).flatMap Zx, ())) (fun n z hz => by
    obtain ⟨j, acc⟩ := z
    obtain ⟨z1, z2⟩ := hz
    simp only at z1 z2 ⊢
    rw [Zef]
    by_cases h : j < ns.length
    · obtain ⟨x, hx⟩ := Zbj h
      have hs := hsz x (List.mem_of_getElem? hx)
      have f2 := Zah x
      refine .inr ⟨(j + 1, acc ++ Zx x), ⟨by simp only; omega, by simp only [List.length_append]; omega⟩, by simp only; omega, ?_, ?_⟩
      · simp only [Zbf hx, List.flatMap_cons, List.append_assoc]
      · simp (disch := omega) only [go_sem, hx, Ztc (s := x) (by omega)]
        rfl
    · refine .inl ?_
      rw [List.drop_eq_nil_of_le (by omega)]
      simp (disch := omega) only [go_sem, List.flatMap_nil, List.append_nil]) fuel (0, Zk ns.length) ⟨by simp only; omega, by simp only; omega⟩ (by simp only; omega)
  have lns := Zvx (g := Zx) (c := 70) ns (fun x hx => by have := hsz x hx; have := Zah x; omega)
  have hn2 := fun (z : List Int) (hz : z.length ≤ 10000000) K => Zfq (L := fun n (z : Nat × List Int) => Zbd fuel n K (((z.1 : Int), ()), ((T, ()), ()), [], ns, z.2, ())) (fun z => z.1 ≤ T.length ∧ z.2.length + 70000 * (T.length - z.1) ≤ 50000000) (fun z => T.length - z.1) (fun z => K ((), (), [], z.2 ++ (T.drop z.1).flatMap (packN ns), ())) (fun n z hz => by
    obtain ⟨j, acc⟩ := z
    obtain ⟨z1, z2⟩ := hz
    simp only at z1 z2 ⊢
    rw [Zbd]
    by_cases h : j < T.length
    · obtain ⟨x, hx⟩ := Zbj h
      have hmx := List.mem_of_getElem? hx
      have hf := hT.nodeF hmx
      have hr := (hR x hmx).2
      have hnx := hmem x hmx
      have lp := Zy2 (ns := ns) hf
      refine .inr ⟨(j + 1, acc ++ packN ns x), ⟨by simp only; omega, by simp only [List.length_append]; omega⟩, by simp only; omega, ?_, ?_⟩
      · simp only [Zbf hx, List.flatMap_cons, List.append_assoc]
      · obtain ⟨a, b, c, d, p, ks, _⟩ := x
        have h1 := hf.kind; have h2 := hf.attrs; have h3 := hf.attr; have h4 := hf.name; have h5 := hf.text
        simp only [kidsN] at h1 h2 h3 h4 h5 hr
        obtain ⟨a, rfl⟩ := Int.eq_ofNat_of_zero_le (show 0 ≤ a by omega)
        have l1 := Ze a; have l2 := Ze ks.length; have l3 := Ze (fnd b ns); have l4 := Ze c.length
        have e1 := Zg4 (x := a) (by omega)
        have e2 := Zg4 (x := ks.length) (by omega)
        have f3 := Zajh b ns
        have e3 := Zg4 (x := fnd b ns) (by omega)
        have e4 := Zg4 (x := c.length) (by omega)
        have e5 := Ztc (s := d) (by omega)
        have l5 := Zah d
        unfold packN
        simp only [Int.toNat_natCast]
        by_cases k2 : (a : Int) = 2
        · have hb : b ∈ ns := hnx b (by unfold Z7; simp only [k2]; simp)
          simp (disch := omega) only [go_sem, hx, e1, e2, Zxx, Zvv hb, e3, List.append_assoc]
          rfl
        by_cases k3 : (a : Int) = 3
        · have hb : b ∈ ns := hnx b (by unfold Z7; simp only [k3]; simp)
          have hca : ∀ y ∈ c, y.1 ∈ ns := fun y hy => hnx y.1 (by unfold Z7; simp only [k3]; simp; exact .inr ⟨y.2.1, y.2.2, hy⟩)
          have e6 := fun a b d p ks i K => Zah4 (T := T) (i := i) (q0 := []) (a := a) (b := b) (d := d) (p := p) (ks := ks) (by omega) h2 h3 hca K fuel (0, acc ++ (Zk a.toNat ++ (Zk ks.length ++ (Zk (fnd b ns) ++ Zk c.length)))) ⟨by simp only; omega, by simp only [List.length_append]; have := Ze a.toNat; have := Ze ks.length; have := Ze (fnd b ns); omega⟩ (by simp only; omega)
          simp only [Int.cast_ofNat_Int, List.drop_zero] at e6
          have e7 := fun K => e6 (a : Int) b d p ks (j : Int) K
          simp only [Int.toNat_natCast] at e7
          simp (disch := omega) only [go_sem, hx, e1, e2, Zxx, Zvv hb, List.append_assoc, e3, e4, e7]
          rfl
        by_cases k45 : (a : Int) = 4 ∨ (a : Int) = 5
        · rcases k45 with k | k <;> simp (disch := omega) only [go_sem, hx, e1, e2, e5, List.append_assoc] <;> rfl
        · simp (disch := omega) only [go_sem, hx, e1, e2, List.append_assoc, List.append_nil]
          rfl
    · refine .inl ?_
      rw [List.drop_eq_nil_of_le (by omega)]
      simp (disch := omega) only [go_sem, List.flatMap_nil, List.append_nil]) fuel (0, z) ⟨by simp only; omega, by simp only; omega⟩ (by simp only; omega)
  simp only [Int.cast_ofNat_Int, List.drop_zero] at hn0 hn2
  have lbig : (Zk ns.length ++ (ns.flatMap Zx ++ Zk T.length)).length ≤ 10000000 := by simp only [List.length_append]; omega
  have e3 := Zg4 (x := T.length) (by omega)
  have lb2 : (Zk ns.length).length + (ns.flatMap Zx).length + (Zk T.length).length ≤ 10000000 := by omega
  simp (disch := omega) only [go_sem, e1, hn0, e3, List.append_assoc, hn2 _ lbig]
  have hPP : Zk ns.length ++ (ns.flatMap Zx ++ (Zk T.length ++ T.flatMap (packN ns))) = packT T := hP.symm
  rw [hPP]
  have hlen : (Zk ns.length).length + (ns.flatMap Zx).length + (Zk T.length).length + (T.flatMap (packN ns)).length = (packT T).length := by rw [hP]; simp only [List.length_append]; omega
  by_cases h : (packT T).length ≤ 20000
  · simp (disch := omega) only [go_sem]
  · simp (disch := omega) only [go_sem]
end Go.Proofs.YtcpecilmkkmaiaaGreat.V
namespace Go.Proofs.YtcpecilmkkmaiaaGreat.V
open Go Go.RowKit
attribute [local irreducible] wr
attribute [local go_sem] Zg2 Zfc
def AtP (l : List Int) (a : Nat) (X : List Int) : Prop := ∃ rest, l.drop a = X ++ rest
theorem AtP.split {l : List Int} {a : Nat} {X Y : List Int} (h : AtP l a (X ++ Y)) : AtP l a X ∧ AtP l (a + X.length) Y := by
  obtain ⟨r, hr⟩ := h
  refine ⟨⟨Y ++ r, by rw [hr, List.append_assoc]⟩, r, ?_⟩
  rw [← List.drop_drop, hr, List.append_assoc, List.drop_left]
theorem AtP.le {l : List Int} {a : Nat} {X : List Int} (h : AtP l a X) (h0 : 0 < X.length) : a + X.length ≤ l.length := by
  obtain ⟨r, hr⟩ := h
  have := congrArg List.length hr
  simp only [List.length_drop, List.length_append] at this
  omega
theorem AtP.get {l : List Int} {a : Nat} {X : List Int} (h : AtP l a X) {i : Nat} {x : Int} (hi : X[i]? = some x) : l[a + i]? = some x := by
  obtain ⟨r, hr⟩ := h
  rw [← List.getElem?_drop, hr, List.getElem?_append_left (Zt hi), hi]
theorem Zaib {x : Nat} (hx : x < 2097152) : Zk x = if x < 128 then [(x : Int)] else if x < 16384 then [((x % 128 + 128 : Nat) : Int), ((x / 128 : Nat) : Int)] else [((x % 128 + 128 : Nat) : Int), ((x / 128 % 128 + 128 : Nat) : Int), ((x / 16384 : Nat) : Int)] := by
  unfold Zk
  by_cases h1 : x < 128
  · rw [if_pos h1, numF, if_neg (by omega)]
  by_cases h2 : x < 16384
  · rw [if_neg h1, if_pos h2, numF, if_pos (by omega), numF, if_neg (by omega)]
  · rw [if_neg h1, if_neg h2, numF, if_pos (by omega), numF, if_pos (by omega), numF, if_neg (by omega), Nat.div_div_eq_div_mul]
theorem Z3d {v : Nat} : Int.tmod (v : Int) 128 = ((v % 128 : Nat) : Int) := Z4i v 128 128 (by omega)
theorem Z9u {l : List Int} (hl : l.length ≤ 1000000000) (hb : ∀ y ∈ l, 0 ≤ y ∧ y ≤ 255) {a x : Nat} (hx : x < 2097152) (h : AtP l a (Zk x)) :
    Zas (l, (a : Int), ()) = Zmm ((x : Int), ((a + (Zk x).length : Nat) : Int), true) ∧ Zhl (l, (a : Int), ()) = Zmm ((x : Int), ((a + (Zk x).length : Nat) : Int), true) := by
  have hF := Zl
  have key : Zas (l, (a : Int), ()) = Zmm ((x : Int), ((a + (Zk x).length : Nat) : Int), true) := by
    obtain ⟨m, hm⟩ : ∃ m, fuel = m + 3 := ⟨fuel - 3, by omega⟩
    rw [Zaib hx] at h ⊢
    unfold Zas Zks
    by_cases h1 : x < 128
    · rw [if_pos h1] at h ⊢
      have hle := h.le (by simp)
      have g0 := h.get (i := 0) (x := (x : Int)) rfl
      simp only [List.length_cons, List.length_nil, Nat.add_zero] at hle g0
      simp (disch := omega) only [go_sem]
      rw [hm, Zaf]
      have e0 := Z3d (v := x)
      by_cases h0 : x = 0
      · simp (disch := omega) only [go_sem, gt_of g0, e0]
        simp only [h0]; rfl
      · simp (disch := omega) only [go_sem, gt_of g0, e0, Int.mul_one]
        rw [Nat.mod_eq_of_lt h1, Int.zero_add]
        rfl
    by_cases h2 : x < 16384
    · rw [if_neg h1, if_pos h2] at h ⊢
      have hle := h.le (by simp)
      have g0 := h.get (i := 0) (x := ((x % 128 + 128 : Nat) : Int)) rfl
      have g1 := h.get (i := 1) (x := ((x / 128 : Nat) : Int)) rfl
      simp only [List.length_cons, List.length_nil, Nat.add_zero] at hle g0 g1
      simp (disch := omega) only [go_sem]
      rw [hm, Zaf]
      have e0 := Z3d (v := x % 128 + 128)
      have e1 := Z3d (v := x / 128)
      simp (disch := omega) only [go_sem, gt_of g0, e0, Int.mul_one, Int.zero_add, Int.one_mul]
      rw [Zaf]
      simp (disch := omega) only [go_sem, gt_of g1, e1]
      unfold Zmm
      simp only [Option.some.injEq, Prod.mk.injEq, true_and, and_true]
      omega
    · rw [if_neg h1, if_neg h2] at h ⊢
      have hle := h.le (by simp)
      have g0 := h.get (i := 0) (x := ((x % 128 + 128 : Nat) : Int)) rfl
      have g1 := h.get (i := 1) (x := ((x / 128 % 128 + 128 : Nat) : Int)) rfl
      have g2 := h.get (i := 2) (x := ((x / 16384 : Nat) : Int)) rfl
      simp only [List.length_cons, List.length_nil, Nat.add_zero] at hle g0 g1 g2
      simp (disch := omega) only [go_sem]
      rw [hm, Zaf]
      have e0 := Z3d (v := x % 128 + 128)
      have e1 := Z3d (v := x / 128 % 128 + 128)
      have e2 := Z3d (v := x / 16384)
      simp (disch := omega) only [go_sem, gt_of g0, e0, Int.mul_one, Int.zero_add, Int.one_mul]
      rw [Zaf]
      simp (disch := omega) only [go_sem, gt_of g1, e1]
      rw [Zaf]
      simp (disch := omega) only [go_sem, gt_of g2, e2]
      unfold Zmm
      simp only [Option.some.injEq, Prod.mk.injEq, true_and, and_true]
      omega
  obtain ⟨r, r1, r2, _⟩ := Z7x l (by omega) hb a
  refine ⟨key, ?_⟩
  rw [r2, ← r1, key]
theorem Zaem {l : List Int} (hl : l.length ≤ 1000000000) (hb : ∀ y ∈ l, 0 ≤ y ∧ y ≤ 255) {a : Nat} {s : ByteArray} (hs : s.size < 2097152) (h : AtP l a (Zx s)) :
    Zbm (l, (a : Int), ()) = Zpf (s, ((a + (Zx s).length : Nat) : Int), true) ∧ Zhk (l, (a : Int), ()) = Zpf (s, ((a + (Zx s).length : Nat) : Int), true) := by
  have key : Zbm (l, (a : Int), ()) = Zpf (s, ((a + (Zx s).length : Nat) : Int), true) := by
    unfold Zx at h ⊢
    obtain ⟨h1, h2⟩ := h.split
    have e1 := (Z9u hl hb hs h1).1
    have hp := Zaia 9 s.size
    have hle := h.le (by rw [List.length_append]; unfold Zk; show 0 < (numF (9 + 1) s.size).length + _; omega)
    rw [List.length_append, Zdb] at hle ⊢
    have hcut : lcut l (a + (Zk s.size).length) (a + (Zk s.size).length + s.size) = bytesOf s := by
      obtain ⟨r, hr⟩ := h2
      unfold lcut
      rw [List.drop_take, hr, show a + (Zk s.size).length + s.size - (a + (Zk s.size).length) = (bytesOf s).length by rw [Zdb]; omega, List.take_left]
    unfold Zbm Zi3
    have ecut : lcut l (((a + (Zk s.size).length : Nat) : Int).toNat) (((a + (Zk s.size).length : Nat) : Int) + (s.size : Int)).toNat = bytesOf s := by
      rw [show (((a + (Zk s.size).length : Nat) : Int) + (s.size : Int)).toNat = a + (Zk s.size).length + s.size by omega, Int.toNat_natCast, hcut]
    simp only [Zmm] at e1
    simp (disch := omega) only [go_sem, e1] at ecut ⊢
    rw [ecut, Zaf1]
    unfold Zpf
    simp only [Option.some.injEq, Prod.mk.injEq, true_and, and_true]
    omega
  obtain ⟨r, r1, r2, _⟩ := Z3z l (by omega) hb a
  refine ⟨key, ?_⟩
  rw [r2, ← r1, key]
theorem Z3y {l : List Int} (hl : l.length ≤ 1000000000) (hb : ∀ y ∈ l, 0 ≤ y ∧ y ≤ 255) {a x : Nat} (hx : x < 2097152) (h : AtP l a (Zk x)) :
    Z5 ((l, (a : Int), false, ()), ()) = some (((l, ((a + (Zk x).length : Nat) : Int), false, ()), ()), (x : Int), ()) := by
  rw [Zro (Z9u hl hb hx h).2]; rfl
theorem Zadt {l : List Int} (hl : l.length ≤ 1000000000) (hb : ∀ y ∈ l, 0 ≤ y ∧ y ≤ 255) {a : Nat} {s : ByteArray} (hs : s.size < 2097152) (h : AtP l a (Zx s)) :
    Zv ((l, (a : Int), false, ()), ()) = some (((l, ((a + (Zx s).length : Nat) : Int), false, ()), ()), s, ()) := by
  rw [Zs9 (Zaem hl hb hs h).2]; rfl
theorem Zae6 {l : List Int} (hl : l.length ≤ 1000000000) (hb : ∀ y ∈ l, 0 ≤ y ∧ y ≤ 255) {ns : List ByteArray} (hn : ns.length < 2097152) {a : Nat} {s : ByteArray} (hs : s ∈ ns) (h : AtP l a (Zk (fnd s ns))) :
    Zfu (l, (a : Int), ns, ()) = some ((), s, ((a + (Zk (fnd s ns)).length : Nat) : Int), true, ()) ∧ Zcn ((l, (a : Int), false, ()), ns, ()) = some (((l, ((a + (Zk (fnd s ns)).length : Nat) : Int), false, ()), ()), s, ()) := by
  have h1 := Zajg.2 hs
  have h2 := Zaji h1
  have e1 := (Z9u hl hb (by omega) h).1
  have e2 := Z3y hl hb (by omega) h
  simp only [Zmm] at e1
  constructor
  · unfold Zfu Zkn
    simp (disch := omega) only [go_sem, e1, h2]
  · unfold Zcn Ze0
    simp (disch := omega) only [go_sem, e2, h2]
theorem Zagf (x : Nat) : 1 ≤ (Zk x).length := Zaia 9 x
abbrev NodeQ := Int × ByteArray × ByteArray × Int × Unit
theorem Zab0 {l : List Int} (hl : l.length ≤ 1000000000) (hb : ∀ y ∈ l, 0 ≤ y ∧ y ≤ 255) {ns : List ByteArray} (hn : ns.length < 2097152) {c : List At} (hc : c.length ≤ 20) (ha : ∀ a ∈ c, a.1.size ≤ 60 ∧ a.2.1.size ≤ 3000) (hm : ∀ a ∈ c, a.1 ∈ ns) {q5 : Int} {n1 n2 : NodeQ} (K) : ∀ (rest : List At) (j a m : Nat) (acc : List At), c.drop j = rest → j + rest.length = c.length → acc.length + rest.length ≤ 1000 → rest.length < m → AtP l a (packA ns rest) →
    Zw fuel m K ((l, (a : Int), ns, true, q5, (c.length : Int), (j : Int), ()), (n1, n2, ()), acc, ()) = K ((((a + (packA ns rest).length : Nat) : Int), true, q5, ()), (n1, n2, ()), acc ++ rest, ()) := by
  intro rest
  induction rest with
  | nil =>
    intro j a m acc hj hjl hac hm' h
    obtain ⟨m, rfl⟩ : ∃ q, m = q + 1 := ⟨m - 1, by omega⟩
    simp only [List.length_nil] at hjl
    rw [Zw]
    simp (disch := omega) only [go_sem, packA, List.flatMap_nil, List.append_nil, Nat.add_zero]
  | cons x rest ih =>
    intro j a m acc hj hjl hac hm' h
    obtain ⟨m, rfl⟩ : ∃ q, m = q + 1 := ⟨m - 1, by omega⟩
    simp only [List.length_cons] at hjl hac hm'
    have hx : c[j]? = some x := by
      have := congrArg (·[0]?) hj
      simpa using this
    have hxm := List.mem_of_getElem? hx
    obtain ⟨s1, s2⟩ := ha x hxm
    have hpk : packA ns (x :: rest) = Zk (fnd x.1 ns) ++ (Zx x.2.1 ++ packA ns rest) := by unfold packA; rw [List.flatMap_cons, List.append_assoc]
    rw [hpk] at h ⊢
    obtain ⟨h1, h2⟩ := h.split
    obtain ⟨h2, h3⟩ := h2.split
    have e1 := (Zae6 hl hb hn (hm x hxm) h1).1
    have e2 := (Zaem hl hb (by omega) h2).1
    simp only [Zpf] at e2
    have e3 := ih (j + 1) _ m (acc ++ [x]) (by rw [← List.drop_drop, hj]; rfl) (by omega) (by simp only [List.length_append, List.length_cons, List.length_nil]; omega) (by omega) h3
    rw [Zw]
    simp (disch := omega) only [go_sem, e1, e2]
    rw [show ((j : Int) + 1) = ((j + 1 : Nat) : Int) by omega]
    refine e3.trans ?_
    simp only [List.append_assoc, List.cons_append, List.nil_append, List.length_append, Nat.add_assoc]
theorem Zab1 {l : List Int} (hl : l.length ≤ 1000000000) (hb : ∀ y ∈ l, 0 ≤ y ∧ y ≤ 255) {ns : List ByteArray} (hn : ns.length < 2097152) {c : List At} (hc : c.length ≤ 20) (ha : ∀ a ∈ c, a.1.size ≤ 60 ∧ a.2.1.size ≤ 3000) (hm : ∀ a ∈ c, a.1 ∈ ns) {q5 : Int} {n1 n2 : NodeQ} (K) : ∀ (rest : List At) (j a m : Nat) (acc : List At), c.drop j = rest → j + rest.length = c.length → acc.length + rest.length ≤ 1000 → rest.length < m → AtP l a (packA ns rest) →
    Zab fuel m K ((ns, q5, (c.length : Int), (j : Int), ()), (n1, n2, (l, (a : Int), false, ()), ()), acc, ()) = K ((q5, ()), (n1, n2, (l, ((a + (packA ns rest).length : Nat) : Int), false, ()), ()), acc ++ rest, ()) := by
  intro rest
  induction rest with
  | nil =>
    intro j a m acc hj hjl hac hm' h
    obtain ⟨m, rfl⟩ : ∃ q, m = q + 1 := ⟨m - 1, by omega⟩
    simp only [List.length_nil] at hjl
    rw [Zab]
    simp (disch := omega) only [go_sem, packA, List.flatMap_nil, List.append_nil, Nat.add_zero]
  | cons x rest ih =>
    intro j a m acc hj hjl hac hm' h
    obtain ⟨m, rfl⟩ : ∃ q, m = q + 1 := ⟨m - 1, by omega⟩
    simp only [List.length_cons] at hjl hac hm'
    have hx : c[j]? = some x := by
      have := congrArg (·[0]?) hj
      simpa using this
    have hxm := List.mem_of_getElem? hx
    obtain ⟨s1, s2⟩ := ha x hxm
    have hpk : packA ns (x :: rest) = Zk (fnd x.1 ns) ++ (Zx x.2.1 ++ packA ns rest) := by unfold packA; rw [List.flatMap_cons, List.append_assoc]
    rw [hpk] at h ⊢
    obtain ⟨h1, h2⟩ := h.split
    obtain ⟨h2, h3⟩ := h2.split
    have e1 := (Zae6 hl hb hn (hm x hxm) h1).2
    have e2 := Zadt hl hb (by omega) h2
    have e3 := ih (j + 1) _ m (acc ++ [x]) (by rw [← List.drop_drop, hj]; rfl) (by omega) (by simp only [List.length_append, List.length_cons, List.length_nil]; omega) (by omega) h3
    rw [Zab]
    simp (disch := omega) only [go_sem, e1, e2]
    rw [show ((j : Int) + 1) = ((j + 1 : Nat) : Int) by omega]
    refine e3.trans ?_
    simp only [List.append_assoc, List.cons_append, List.nil_append, List.length_append, Nat.add_assoc]
theorem Zaie {l : List Int} (hl : l.length ≤ 1000000000) (hb : ∀ y ∈ l, 0 ≤ y ∧ y ≤ 255) {ns : List ByteArray} (hn : ns.length < 2097152) {x : Nd} (hf : NodeF x) (hk : x.2.2.2.2.2.1.length < 2097152) (hm : ∀ t ∈ Z7 x, t ∈ ns) {a : Nat} (h : AtP l a (packN ns x)) :
    Zd0 (l, (a : Int), ns, ()) = some ((), (x.1, x.2.1, x.2.2.1, x.2.2.2.1, -1, [], ()), (x.2.2.2.2.2.1.length : Int), ((a + (packN ns x).length : Nat) : Int), true, ()) ∧
    Zag ((l, (a : Int), false, ()), ns, ()) = some (((l, ((a + (packN ns x).length : Nat) : Int), false, ()), ()), (x.1, x.2.1, x.2.2.1, x.2.2.2.1, 0, [], ()), (x.2.2.2.2.2.1.length : Int), ()) := by
  obtain ⟨k, b, c, d, p, ks, _⟩ := x
  have h1 := hf.kind; have h2 := hf.attrs; have h3 := hf.attr; have h4 := hf.name; have h5 := hf.text
  have h6 := hf.noname; have h7 := hf.noattr; have h8 := hf.notext
  simp only at h1 h2 h3 h4 h5 h6 h7 h8 hk
  obtain ⟨k, rfl⟩ := Int.eq_ofNat_of_zero_le (show 0 ≤ k by omega)
  have hF := Zl
  unfold packN at h ⊢
  simp only [Int.toNat_natCast] at h ⊢
  obtain ⟨a1, hx1⟩ := h.split
  clear h
  obtain ⟨a2, h⟩ := hx1.split
  clear hx1
  have e1 := Z9u hl hb (by omega) a1
  have e2 := Z9u hl hb hk a2
  have g1 := Z3y hl hb (by omega) a1
  have g2 := Z3y hl hb hk a2
  simp only [Zmm] at e1 e2
  by_cases k2 : (k : Int) = 2
  · rw [if_pos k2] at h ⊢
    obtain rfl := h7 (by omega)
    obtain rfl := h8 (by omega) (by omega)
    have hbm : b ∈ ns := hm b (by unfold Z7; simp only [k2]; simp)
    have e3 := Zae6 hl hb hn hbm h
    obtain ⟨m, hm'⟩ : ∃ m, fuel = m + 1 := ⟨fuel - 1, by omega⟩
    constructor
    · unfold Zd0 Zdj
      simp (disch := omega) only [go_sem, e1.1, e2.1, e3.1]
      rw [show Zw fuel fuel = Zw fuel (m + 1) from by rw [← hm']]
      rw [Zw]
      simp (disch := omega) only [go_sem]
      simp only [Nat.add_assoc]
    · unfold Zag Za6 Zca Zby
      simp (disch := omega) only [go_sem, g1, g2, e3.2]
      simp only [Nat.add_assoc]
  by_cases k3 : (k : Int) = 3
  · rw [if_neg k2, if_pos k3] at h ⊢
    obtain rfl := h8 (by omega) (by omega)
    have hbm : b ∈ ns := hm b (by unfold Z7; simp only [k3]; simp)
    have hca : ∀ y ∈ c, y.1 ∈ ns := fun y hy => hm y.1 (by unfold Z7; simp only [k3]; simp; exact .inr ⟨y.2.1, y.2.2, hy⟩)
    obtain ⟨a3, hx1⟩ := h.split
    clear h
    obtain ⟨a4, h⟩ := hx1.split
    have e3 := Zae6 hl hb hn hbm a3
    have e4 := Z9u hl hb (by omega) a4
    have g4 := Z3y hl hb (by omega) a4
    simp only [Zmm] at e4
    have e5 := fun q5 n1 n2 K => Zab0 hl hb hn h2 h3 hca (q5 := q5) (n1 := n1) (n2 := n2) K c 0 _ fuel [] rfl (by omega) (by simp only [List.length_nil]; omega) (by omega) h
    have g5 := fun q5 n1 n2 K => Zab1 hl hb hn h2 h3 hca (q5 := q5) (n1 := n1) (n2 := n2) K c 0 _ fuel [] rfl (by omega) (by simp only [List.length_nil]; omega) (by omega) h
    simp only [Int.cast_ofNat_Int, List.nil_append] at e5 g5
    constructor
    · unfold Zd0 Zdj
      simp (disch := omega) only [go_sem, e1.1, e2.1, e3.1, e4.1, e5]
      simp only [Nat.add_assoc]
    · unfold Zag Za6 Zca Zby Zaq Zb7
      simp (disch := omega) only [go_sem, g1, g2, e3.2, g4, g5]
      simp only [Nat.add_assoc]
  by_cases k45 : (k : Int) = 4 ∨ (k : Int) = 5
  · rw [if_neg k2, if_neg k3, if_pos k45] at h ⊢
    obtain rfl := h6 (by omega) (by omega)
    obtain rfl := h7 (by omega)
    have e3 := Zaem hl hb (by omega) h
    have g3 := Zadt hl hb (by omega) h
    simp only [Zpf] at e3
    rcases k45 with q | q
    · constructor
      · unfold Zd0 Zdj
        simp (disch := omega) only [go_sem, e1.1, e2.1, e3.1]
        simp only [Nat.add_assoc]
      · unfold Zag Za6 Zca Zby
        simp (disch := omega) only [go_sem, g1, g2, g3]
        simp only [Nat.add_assoc]
    · constructor
      · unfold Zd0 Zdj
        simp (disch := omega) only [go_sem, e1.1, e2.1, e3.1]
        simp only [Nat.add_assoc]
      · unfold Zag Za6 Zca Zby
        simp (disch := omega) only [go_sem, g1, g2, g3]
        simp only [Nat.add_assoc]
  · rw [if_neg k2, if_neg k3, if_neg k45] at h ⊢
    obtain rfl := h6 (by omega) (by omega)
    obtain rfl := h7 (by omega)
    obtain rfl := h8 (by omega) (by omega)
    constructor
    · unfold Zd0 Zdj
      simp (disch := omega) only [go_sem, e1.1, e2.1]
      simp only [Nat.add_assoc, Nat.add_zero]
    · unfold Zag Za6 Zca Zby
      simp (disch := omega) only [go_sem, g1, g2]
      simp only [Nat.add_assoc, Nat.add_zero]
end Go.Proofs.YtcpecilmkkmaiaaGreat.V
namespace Go.Proofs.YtcpecilmkkmaiaaGreat.V
open Go Go.RowKit
attribute [local irreducible] wr
attribute [local go_sem] Zg2 Zfc
theorem Zac4 {T : List Nd} {i : Int} (h0 : 0 ≤ i) (h1 : i < (T.length : Int)) : ∃ x, x ∈ T ∧ T[i.toNat]? = some x ∧ kidsI T i = kidsN x ∧ parI T i = parN x ∧ ∀ p ks, moved T i p ks = (x.1, x.2.1, x.2.2.1, x.2.2.2.1, p, ks, ()) := by
  obtain ⟨x, hx⟩ := Zbj (l := T) (i := i.toNat) (by omega)
  have e : ((i.toNat : Nat) : Int) = i := by omega
  refine ⟨x, List.mem_of_getElem? hx, hx, ?_, ?_, fun p ks => ?_⟩
  · have := Zoe hx; rwa [e] at this
  · have := Zfp hx; rwa [e] at this
  · have := Z6d hx p ks; rwa [e] at this
theorem Zhe (g : Int → Nat) : ∀ (ks : List Int) (o : Nat), (kpos g o ks).length = ks.length
  | [], _ => rfl
  | k :: ks, o => by rw [kpos, List.length_cons, List.length_cons, Zhe g ks]
theorem NodeF.moved {x : Nd} (h : NodeF x) (p : Int) (g : Int → Nat) (o : Nat) : NodeF (x.1, x.2.1, x.2.2.1, x.2.2.2.1, p, kpos g o (kidsN x), ()) :=
  ⟨h.kind, h.attrs, h.attr, h.name, h.text, h.noname, h.noattr, h.notext, fun h1 h2 => by
    have := h.nokids h1 h2
    show kpos g o (kidsN x) = []
    rw [show kidsN x = [] from this, kpos]⟩
theorem Zaj5 {T : List Nd} (hT : TreeG T) {l : List Int} (hl : l.length ≤ 1000000000) (hb : ∀ y ∈ l, 0 ≤ y ∧ y ≤ 255) {ns : List ByteArray} (hn : ns.length < 2097152) (hm : ∀ x ∈ T, ∀ t ∈ Z7 x, t ∈ ns) : ∀ d (i : Int), Deep T d i → 0 ≤ i → i < (T.length : Int) → ∀ D, d ≤ D → ∀ (p : Int) (out : List Nd) (a : Nat), out.length + (preC T i).length ≤ 500 → AtP l a ((flatC T out.length p i).flatMap (packN ns)) →
    Za9 D (l, (a : Int), p, ns, out, ()) = some ((), out ++ flatC T out.length p i, ((a + ((flatC T out.length p i).flatMap (packN ns)).length : Nat) : Int), true, ())
  | 0, i, hd, _, _, _, _, _, _, _, _, _ => hd.elim
  | d + 1, i, hd, h0, h1, D, hD, p, out, a, hlen, hat => by
    obtain ⟨D, rfl⟩ : ∃ q, D = q + 1 := ⟨D - 1, by omega⟩
    obtain ⟨x, hxm, hx, hki, hpi, hmv⟩ := Zac4 h0 h1
    have hpre := Ztq hT h0 h1
    have hkl := hT.kids_length hxm
    have hTl := hT.len
    rw [hpre, List.length_cons, hki] at hlen
    have hF := Zl
    rw [Z0n hT h0 h1, hmv, hki, List.flatMap_cons] at hat ⊢
    obtain ⟨hat1, hat2⟩ := hat.split
    have hnd := (Zaie hl hb hn ((hT.nodeF hxm).moved p _ _) (by rw [Zhe]; omega) (fun t ht => hm x hxm t ht) hat1).1
    simp only [Zhe] at hnd
    have loop : ∀ (rest : List Int) (j a m : Nat) (acc : List Int) (mid : List Nd), (kidsN x).drop j = rest → j + rest.length = (kidsN x).length → rest.length < m → acc.length + rest.length ≤ 1000000 → out.length + 1 + mid.length + (rest.flatMap (preC T)).length ≤ 500 → AtP l a ((flats (flatC T) (out.length + 1 + mid.length) (out.length : Int) rest).flatMap (packN ns)) → ∀ K,
        Zcg (Za9 D) fuel m K ((l, (a : Int), ns, ((kidsN x).length : Int), (out.length : Int), (j : Int), ()), (), out ++ ((x.1, x.2.1, x.2.2.1, x.2.2.2.1, p, acc, ()) : Nd) :: mid, ()) = K ((((a + ((flats (flatC T) (out.length + 1 + mid.length) (out.length : Int) rest).flatMap (packN ns)).length : Nat) : Int), ()), (), out ++ ((x.1, x.2.1, x.2.2.1, x.2.2.2.1, p, acc ++ kpos (fun k => (preC T k).length) (out.length + 1 + mid.length) rest, ()) : Nd) :: (mid ++ flats (flatC T) (out.length + 1 + mid.length) (out.length : Int) rest), ()) := by
      intro rest
      induction rest with
      | nil =>
        intro j a m acc mid hj hjl hm' ha hb' hat K
        obtain ⟨m, rfl⟩ : ∃ q, m = q + 1 := ⟨m - 1, by omega⟩
        rw [Zcg]
        simp only [List.length_nil] at hjl
        simp (disch := omega) only [go_sem, kpos, flats, List.append_nil, List.flatMap_nil, Nat.add_zero]
      | cons k rest ih =>
        intro j a m acc mid hj hjl hm' ha hb' hat K
        obtain ⟨m, rfl⟩ : ∃ q, m = q + 1 := ⟨m - 1, by omega⟩
        simp only [List.length_cons] at hjl hm' ha
        have hk : (kidsN x)[j]? = some k := by
          have := congrArg (·[0]?) hj
          simpa using this
        have hkm : k ∈ kidsI T i := by rw [hki]; exact List.mem_of_getElem? hk
        obtain ⟨k1, k2, k3⟩ := hT.kidI h0 h1 hkm
        have hfl := fun o p => Zhn hT (i := k) (by omega) k2 o p
        rw [List.flatMap_cons, List.length_append] at hb'
        rw [flats, List.flatMap_append, hfl] at hat
        obtain ⟨hat1, hat2⟩ := hat.split
        rw [Zcg]
        simp (disch := omega) only [go_sem, Zlg, Zkt]
        have q1 : out.length + (mid.length + 1) = out.length + 1 + mid.length := by omega
        have e1 := Zaj5 hT hl hb hn hm d k (hd k hkm) (by omega) k2 D (by omega) (out.length : Int) (out ++ ((x.1, x.2.1, x.2.2.1, x.2.2.2.1, p, acc ++ [((out.length + (mid.length + 1) : Nat) : Int)], ()) : Nd) :: mid) a (by simp only [List.length_append, List.length_cons]; omega) (by simp only [List.length_append, List.length_cons, q1]; exact hat1)
        simp only [List.length_append, List.length_cons, q1] at e1 ⊢
        rw [e1]
        have e2 := ih (j + 1) (a + ((flatC T (out.length + 1 + mid.length) (out.length : Int) k).flatMap (packN ns)).length) m (acc ++ [((out.length + 1 + mid.length : Nat) : Int)]) (mid ++ flatC T (out.length + 1 + mid.length) (out.length : Int) k) (by rw [← List.drop_drop, hj]; rfl) (by omega) (by omega) (by simp only [List.length_append, List.length_cons, List.length_nil]; omega) (by rw [List.length_append, hfl]; omega) (by rw [List.length_append, hfl]; rwa [← Nat.add_assoc]) K
        simp (disch := omega) only [go_sem, List.append_assoc, List.cons_append]
        rw [show ((j : Int) + 1) = ((j + 1 : Nat) : Int) by omega]
        simp only [List.append_assoc, List.cons_append, List.nil_append] at e2
        refine e2.trans ?_
        rw [kpos, flats, List.length_append, hfl, List.flatMap_append, List.length_append]
        have q2 : out.length + 1 + (mid.length + (preC T k).length) = out.length + 1 + mid.length + (preC T k).length := by omega
        simp only [List.append_assoc, List.cons_append, List.nil_append, q2, hfl, Nat.add_assoc]
    rw [Za9, Zi0]
    have e3 := loop (kidsN x) 0 _ fuel [] [] rfl (by omega) (by omega) (by simp only [List.length_nil]; omega) (by simp only [List.length_nil]; omega) (by simpa using hat2) (fun v1 => some ((), v1.2.2.1, v1.1.1, true, ()))
    simp only [Int.cast_ofNat_Int, List.length_nil, List.nil_append, Nat.add_zero] at e3
    simp (disch := omega) only [go_sem, hnd, e3, List.nil_append]
    simp only [List.length_append, Nat.add_assoc]
theorem Zdp {a b : List Int} (ha : ∀ y ∈ a, 0 ≤ y ∧ y ≤ 255) (hb : ∀ y ∈ b, 0 ≤ y ∧ y ≤ 255) : ∀ y ∈ a ++ b, 0 ≤ y ∧ y ≤ 255 := fun y hy => (List.mem_append.1 hy).elim (ha y) (hb y)
theorem Zyu {α : Type} {g : α → List Int} {l : List α} (h : ∀ x ∈ l, ∀ y ∈ g x, 0 ≤ y ∧ y ≤ 255) : ∀ y ∈ l.flatMap g, 0 ≤ y ∧ y ≤ 255 := fun y hy => by
  obtain ⟨x, hx, hy⟩ := List.mem_flatMap.1 hy
  exact h x hx y hy
theorem Zmy (s : ByteArray) : ∀ y ∈ Zx s, 0 ≤ y ∧ y ≤ 255 := Zdp (Zc3 _) (Zmu s)
theorem Zagb (ns : List ByteArray) (x : Nd) : ∀ y ∈ packN ns x, 0 ≤ y ∧ y ≤ 255 := by
  unfold packN
  refine Zdp (Zc3 _) (Zdp (Zc3 _) ?_)
  split
  · exact Zc3 _
  split
  · exact Zdp (Zc3 _) (Zdp (Zc3 _) (Zyu fun a _ => Zdp (Zc3 _) (Zmy _)))
  split
  · exact Zmy _
  · simp
theorem Zq8 (T : List Nd) : ∀ y ∈ packT T, 0 ≤ y ∧ y ≤ 255 :=
  Zdp (Zc3 _) (Zdp (Zyu fun s _ => Zmy s) (Zdp (Zc3 _) (Zyu fun x _ => Zagb _ x)))
theorem Z9x {l : List Int} (hl : l.length ≤ 1000000000) (hb : ∀ y ∈ l, 0 ≤ y ∧ y ≤ 255) {ns : List ByteArray} (hn : ns.length < 2097152) (hsz : ∀ t ∈ ns, t.size ≤ 60) (K) : ∀ (rest : List ByteArray) (j a m : Nat) (acc : List ByteArray), ns.drop j = rest → j + rest.length = ns.length → acc.length + rest.length ≤ 10000000 → rest.length < m → AtP l a (rest.flatMap Zx) →
    Zay fuel m K ((l, (ns.length : Int), (a : Int), true, (j : Int), ()), ((), (), ()), acc, ()) = K ((l, ((a + (rest.flatMap Zx).length : Nat) : Int), true, ()), ((), (), ()), acc ++ rest, ()) := by
  intro rest
  induction rest with
  | nil =>
    intro j a m acc hj hjl hac hm' h
    obtain ⟨m, rfl⟩ : ∃ q, m = q + 1 := ⟨m - 1, by omega⟩
    simp only [List.length_nil] at hjl
    rw [Zay]
    simp (disch := omega) only [go_sem, List.flatMap_nil, List.append_nil, Nat.add_zero]
  | cons x rest ih =>
    intro j a m acc hj hjl hac hm' h
    obtain ⟨m, rfl⟩ : ∃ q, m = q + 1 := ⟨m - 1, by omega⟩
    simp only [List.length_cons] at hjl hac hm'
    have hx : ns[j]? = some x := by
      have := congrArg (·[0]?) hj
      simpa using this
    have s1 := hsz x (List.mem_of_getElem? hx)
    rw [List.flatMap_cons] at h ⊢
    obtain ⟨h1, h2⟩ := h.split
    have e2 := (Zaem hl hb (by omega) h1).1
    simp only [Zpf] at e2
    have e3 := ih (j + 1) _ m (acc ++ [x]) (by rw [← List.drop_drop, hj]; rfl) (by omega) (by simp only [List.length_append, List.length_cons, List.length_nil]; omega) (by omega) h2
    rw [Zay]
    simp (disch := omega) only [go_sem, e2]
    rw [show ((j : Int) + 1) = ((j + 1 : Nat) : Int) by omega]
    refine e3.trans ?_
    simp only [List.append_assoc, List.cons_append, List.nil_append, List.length_append, Nat.add_assoc]
theorem Z9y {l : List Int} (hl : l.length ≤ 1000000000) (hb : ∀ y ∈ l, 0 ≤ y ∧ y ≤ 255) {ns : List ByteArray} (hn : ns.length < 2097152) (hsz : ∀ t ∈ ns, t.size ≤ 60) (K) : ∀ (rest : List ByteArray) (j a m : Nat) (acc : List ByteArray), ns.drop j = rest → j + rest.length = ns.length → acc.length + rest.length ≤ 10000000 → rest.length < m → AtP l a (rest.flatMap Zx) →
    Zbe fuel m K ((l, (ns.length : Int), (j : Int), ()), ((), (l, (a : Int), false, ()), ()), acc, ()) = K ((l, ()), ((), (l, ((a + (rest.flatMap Zx).length : Nat) : Int), false, ()), ()), acc ++ rest, ()) := by
  intro rest
  induction rest with
  | nil =>
    intro j a m acc hj hjl hac hm' h
    obtain ⟨m, rfl⟩ : ∃ q, m = q + 1 := ⟨m - 1, by omega⟩
    simp only [List.length_nil] at hjl
    rw [Zbe]
    simp (disch := omega) only [go_sem, List.flatMap_nil, List.append_nil, Nat.add_zero]
  | cons x rest ih =>
    intro j a m acc hj hjl hac hm' h
    obtain ⟨m, rfl⟩ : ∃ q, m = q + 1 := ⟨m - 1, by omega⟩
    simp only [List.length_cons] at hjl hac hm'
    have hx : ns[j]? = some x := by
      have := congrArg (·[0]?) hj
      simpa using this
    have s1 := hsz x (List.mem_of_getElem? hx)
    rw [List.flatMap_cons] at h ⊢
    obtain ⟨h1, h2⟩ := h.split
    have e2 := Zadt hl hb (by omega) h1
    have e3 := ih (j + 1) _ m (acc ++ [x]) (by rw [← List.drop_drop, hj]; rfl) (by omega) (by simp only [List.length_append, List.length_cons, List.length_nil]; omega) (by omega) h2
    rw [Zbe]
    simp (disch := omega) only [go_sem, e2]
    rw [show ((j : Int) + 1) = ((j + 1 : Nat) : Int) by omega]
    refine e3.trans ?_
    simp only [List.append_assoc, List.cons_append, List.nil_append, List.length_append, Nat.add_assoc]
theorem Z3n {T : List Nd} (hT : TreeG T) : (Zc4 T []).length ≤ 10500 ∧ (∀ x ∈ T, ∀ t ∈ Z7 x, t ∈ Zc4 T []) ∧ ∀ t ∈ Zc4 T [], t.size ≤ 60 := by
  have hnl := Zkx T []
  have hcap := hT.cap
  refine ⟨by simp only [List.length_nil] at hnl; omega, fun x hx t ht => (Zjx T []).2 (.inr ⟨x, hx, ht⟩), fun t ht => ?_⟩
  rcases (Zjx T []).1 ht with q | ⟨x, hx, q⟩
  · cases q
  · have hf := hT.nodeF hx
    have aux : ∀ t ∈ x.2.2.1.map (fun a => a.1), t.size ≤ 60 := fun t ht => by
      obtain ⟨a, ha, rfl⟩ := List.mem_map.1 ht
      exact (hf.attr a ha).1
    unfold Z7 at q
    split at q
    · rcases List.mem_cons.1 q with rfl | q
      · exact hf.name
      · exact aux t q
    · exact aux t q
theorem at_self (l : List Int) : AtP l 0 l := ⟨[], by simp⟩
theorem back_spec {T : List Nd} (hT : TreeG T) (hs : T = flatC T 0 (-1) 0) (h20 : (packT T).length ≤ 20000) : Zee (packT T, ()) = some ((), (T, ()), true, ()) := by
  have hb := Zq8 T
  have hpk := Zpd hT
  rw [← hs, Znt, if_pos ⟨rfl, h20⟩] at hpk
  obtain ⟨n1, n2, n3⟩ := Z3n hT
  have hl := hT.len
  have hF := Zl
  have hP : packT T = Zk (Zc4 T []).length ++ ((Zc4 T []).flatMap Zx ++ (Zk T.length ++ T.flatMap (packN (Zc4 T [])))) := rfl
  have ha := at_self (packT T)
  generalize packT T = l at *
  rw [hP] at ha
  obtain ⟨a1, ha⟩ := ha.split
  obtain ⟨a2, hb2⟩ := ha.split
  obtain ⟨a3, a4⟩ := hb2.split
  rw [← hP] at a1 a2 a3 a4
  clear ha hb2
  have e1 := (Z9u (by omega) hb (by omega) a1).1
  have e2 := fun K => Z9x (by omega) hb (by omega) n3 K (Zc4 T []) 0 _ fuel [] rfl (by omega) (by simp only [List.length_nil]; omega) (by omega) a2
  have e3 := (Z9u (by omega) hb (by omega) a3).1
  have hlen := Zml hT (i := 0) (by omega) (by omega)
  have e4 := Zaj5 hT (l := l) (by omega) hb (ns := Zc4 T []) (by omega) n2 (T.length + 2) 0 (hT.deep (by omega) (by omega)) (by omega) (by omega) fuel (by omega) (-1) [] _ (by simp only [List.length_nil]; omega) (by rw [List.length_nil, ← hs]; exact a4)
  rw [List.length_nil, ← hs] at e4
  simp only [Zmm, Int.cast_ofNat_Int, Nat.zero_add, List.nil_append] at e1 e2 e3 e4
  unfold Zee Zhr Zm3
  simp (disch := omega) only [go_sem, e1, e2, e3, e4, hpk]
abbrev Stk := List (Int × Int × Unit)
theorem step_root {l : List Int} {ns : List ByteArray} {n : Int} {a a' : Nat} {k : Int} {b : ByteArray} {c : List At} {d : ByteArray} {cnt : Nat} (hnd : Zag ((l, (a : Int), false, ()), ns, ()) = some (((l, (a' : Int), false, ()), ()), (k, b, c, d, 0, [], ()), (cnt : Int), ())) (hn : 0 < n) (hn2 : n ≤ 1000) (m : Nat) (K) :
    Zc fuel (m + 1) K ((ns, n, 0, ()), ((), (), (l, (a : Int), false, ()), ()), [], [], ()) = Zc fuel m K ((ns, n, 1, ()), ((), (), (l, (a' : Int), false, ()), ()), (if 0 < cnt then [(0, (cnt : Int), ())] else []), [(k, b, c, d, -1, [], ())], ()) := by
  rw [Zc]
  by_cases h : 0 < cnt
  · simp (disch := omega) only [go_sem, hnd, List.nil_append]
    rfl
  · simp (disch := omega) only [go_sem, hnd, List.nil_append]
    rfl
theorem step_kid {l : List Int} {ns : List ByteArray} {n : Int} {a a' : Nat} {k : Int} {b : ByteArray} {c : List At} {d : ByteArray} {cnt : Nat} (hnd : Zag ((l, (a : Int), false, ()), ns, ()) = some (((l, (a' : Int), false, ()), ()), (k, b, c, d, 0, [], ()), (cnt : Int), ())) {S : Stk} {p left : Nat} {out : List Nd} {y : Nd} (hy : out[p]? = some y) (hyk : y.2.2.2.2.2.1.length ≤ 1000000) (hn : (out.length : Int) < n) (hn2 : n ≤ 1000) (hS : S.length ≤ 1000000) (hleft : 1 ≤ left) (hl2 : left ≤ 1000000) (m : Nat) (K) :
    Zc fuel (m + 1) K ((ns, n, (out.length : Int), ()), ((), (), (l, (a : Int), false, ()), ()), S ++ [((p : Int), (left : Int), ())], out, ()) = Zc fuel m K ((ns, n, ((out.length + 1 : Nat) : Int), ()), ((), (), (l, (a' : Int), false, ()), ()), (if left = 1 then S else S ++ [((p : Int), ((left - 1 : Nat) : Int), ())]) ++ (if 0 < cnt then [((out.length : Int), (cnt : Int), ())] else []), out.set p (y.1, y.2.1, y.2.2.1, y.2.2.2.1, y.2.2.2.2.1, y.2.2.2.2.2.1 ++ [(out.length : Int)], ()) ++ [(k, b, c, d, (p : Int), [], ())], ()) := by
  have hp := Zt hy
  have en : (((S.length + (0 + 1) : Nat) : Int) - 1).toNat = S.length := by omega
  have hcut : ∀ z : Int × Int × Unit, lcut (S ++ [z]) 0 S.length = S := fun z => by unfold lcut; simp
  rw [Zc]
  by_cases h1 : left = 1
  · subst h1
    by_cases h : 0 < cnt
    · simp (disch := omega) only [go_sem, hnd, en, Zlg, Zkt, hy, tn0, hcut]
      rfl
    · simp (disch := omega) only [go_sem, hnd, en, Zlg, Zkt, hy, tn0, hcut, List.append_nil]
      rfl
  · have e1 : ((left : Int) - 1) = ((left - 1 : Nat) : Int) := by omega
    by_cases h : 0 < cnt
    · simp (disch := omega) only [go_sem, hnd, en, Zlg, Zkt, hy, tn0, hcut]
      rw [e1]
      rfl
    · simp (disch := omega) only [go_sem, hnd, en, Zlg, Zkt, hy, tn0, hcut, List.append_nil]
      rw [e1]
      rfl
end Go.Proofs.YtcpecilmkkmaiaaGreat.V
namespace Go.Proofs.YtcpecilmkkmaiaaGreat.V
open Go Go.RowKit
attribute [local irreducible] wr
attribute [local go_sem] Zg2 Zfc
def popS (S : Stk) (p : Int) (left : Nat) : Stk := if left = 1 then S else S ++ [(p, ((left - 1 : Nat) : Int), ())]
def stk (S : Stk) (o : Int) (n : Nat) : Stk := if n = 0 then S else S ++ [(o, (n : Int), ())]
def Zakb (y : Nd) (o : Int) : Nd := (y.1, y.2.1, y.2.2.1, y.2.2.2.1, y.2.2.2.2.1, y.2.2.2.2.2.1 ++ [o], ())
theorem Zaiv {T : List Nd} (hT : TreeG T) {l : List Int} {ns : List ByteArray} {n : Int} {i : Int} (h0 : 0 ≤ i) (h1 : i < (T.length : Int)) {o : Nat} {x : Nd} {p : Int} {pre_ : List Nd} (hpre : pre_.length = o) {S1 : Stk} {cc : Nat} (K)
    (block : ∀ k ∈ kidsI T i, ∀ (out : List Nd) (a m : Nat) (S : Stk) (q left : Nat) (y : Nd), out[q]? = some y → y.2.2.2.2.2.1.length ≤ 1000 → out.length + (preC T k).length ≤ 500 → (out.length + (preC T k).length : Int) ≤ n → S.length ≤ cc → 1 ≤ left → left ≤ 1000 → AtP l a ((flatC T out.length (q : Int) k).flatMap (packN ns)) →
      Zc fuel (m + (preC T k).length) K ((ns, n, (out.length : Int), ()), ((), (), (l, (a : Int), false, ()), ()), S ++ [((q : Int), (left : Int), ())], out, ()) = Zc fuel m K ((ns, n, ((out.length + (preC T k).length : Nat) : Int), ()), ((), (), (l, ((a + ((flatC T out.length (q : Int) k).flatMap (packN ns)).length : Nat) : Int), false, ()), ()), popS S (q : Int) left, out.set q (Zakb y (out.length : Int)) ++ flatC T out.length (q : Int) k, ())) :
    ∀ (rest : List Int) (a m : Nat) (acc : List Int) (mid : List Nd), (∀ k ∈ rest, k ∈ kidsI T i) → acc.length + rest.length ≤ 1000 → o + 1 + mid.length + (rest.flatMap (preC T)).length ≤ 500 → (o + 1 + mid.length + (rest.flatMap (preC T)).length : Int) ≤ n → S1.length ≤ cc → AtP l a ((flats (flatC T) (o + 1 + mid.length) (o : Int) rest).flatMap (packN ns)) →
      Zc fuel (m + (rest.flatMap (preC T)).length) K ((ns, n, ((o + 1 + mid.length : Nat) : Int), ()), ((), (), (l, (a : Int), false, ()), ()), stk S1 (o : Int) rest.length, pre_ ++ ((x.1, x.2.1, x.2.2.1, x.2.2.2.1, p, acc, ()) : Nd) :: mid, ()) = Zc fuel m K ((ns, n, ((o + 1 + mid.length + (rest.flatMap (preC T)).length : Nat) : Int), ()), ((), (), (l, ((a + ((flats (flatC T) (o + 1 + mid.length) (o : Int) rest).flatMap (packN ns)).length : Nat) : Int), false, ()), ()), S1, pre_ ++ ((x.1, x.2.1, x.2.2.1, x.2.2.2.1, p, acc ++ kpos (fun k => (preC T k).length) (o + 1 + mid.length) rest, ()) : Nd) :: (mid ++ flats (flatC T) (o + 1 + mid.length) (o : Int) rest), ()) := by
  intro rest
  induction rest with
  | nil =>
    intro a m acc mid hr hac hb hbn hS hat
    simp only [List.flatMap_nil, List.length_nil, Nat.add_zero, stk, flats, kpos, List.append_nil, ↓reduceIte]
  | cons k rest ih =>
    intro a m acc mid hr hac hb hbn hS hat
    have hkm := hr k (List.mem_cons_self ..)
    obtain ⟨k1, k2, k3⟩ := hT.kidI h0 h1 hkm
    have hfl := fun o p => Zhn hT (i := k) (by omega) k2 o p
    rw [List.flatMap_cons, List.length_append] at hb hbn
    rw [flats, List.flatMap_append, hfl] at hat
    obtain ⟨hat1, hat2⟩ := hat.split
    simp only [List.length_cons] at hac
    have q0 : (pre_ ++ ((x.1, x.2.1, x.2.2.1, x.2.2.2.1, p, acc, ()) : Nd) :: mid).length = o + 1 + mid.length := by simp only [List.length_append, List.length_cons]; omega
    have hgm : (pre_ ++ ((x.1, x.2.1, x.2.2.1, x.2.2.2.1, p, acc, ()) : Nd) :: mid)[o]? = some (x.1, x.2.1, x.2.2.1, x.2.2.2.1, p, acc, ()) := by rw [← hpre]; exact Zlg ..
    have e1 := block k hkm (pre_ ++ ((x.1, x.2.1, x.2.2.1, x.2.2.2.1, p, acc, ()) : Nd) :: mid) a (m + (rest.flatMap (preC T)).length) S1 o (rest.length + 1) (x.1, x.2.1, x.2.2.1, x.2.2.2.1, p, acc, ()) hgm (by simp only; omega) (by rw [q0]; omega) (by rw [q0]; omega) hS (by omega) (by omega) (by rw [q0]; exact hat1)
    rw [q0] at e1
    have e2 := ih (a + ((flatC T (o + 1 + mid.length) (o : Int) k).flatMap (packN ns)).length) m (acc ++ [((o + 1 + mid.length : Nat) : Int)]) (mid ++ flatC T (o + 1 + mid.length) (o : Int) k) (fun q hq => hr q (List.mem_cons_of_mem _ hq)) (by simp only [List.length_append, List.length_cons, List.length_nil]; omega) (by rw [List.length_append, hfl]; omega) (by rw [List.length_append, hfl]; omega) hS (by rw [List.length_append, hfl]; rwa [← Nat.add_assoc])
    have es : stk S1 (o : Int) (k :: rest).length = S1 ++ [((o : Int), ((rest.length + 1 : Nat) : Int), ())] := by unfold stk; rw [List.length_cons, if_neg (by omega)]
    have ep : popS S1 (o : Int) (rest.length + 1) = stk S1 (o : Int) rest.length := by
      unfold popS stk
      by_cases q : rest.length = 0
      · rw [if_pos (by omega), if_pos q]
      · rw [if_neg (by omega), if_neg q, Nat.add_sub_cancel]
    have eset : (pre_ ++ ((x.1, x.2.1, x.2.2.1, x.2.2.2.1, p, acc, ()) : Nd) :: mid).set o (Zakb (x.1, x.2.1, x.2.2.1, x.2.2.2.1, p, acc, ()) ((o + 1 + mid.length : Nat) : Int)) = pre_ ++ ((x.1, x.2.1, x.2.2.1, x.2.2.2.1, p, acc ++ [((o + 1 + mid.length : Nat) : Int)], ()) : Nd) :: mid := by
      rw [← hpre, Zkt]; rfl
    rw [eset, ep] at e1
    rw [es, List.flatMap_cons, List.length_append]
    rw [show m + ((preC T k).length + (rest.flatMap (preC T)).length) = m + (rest.flatMap (preC T)).length + (preC T k).length by omega]
    rw [e1]
    have q2 : o + 1 + (mid.length + (preC T k).length) = o + 1 + mid.length + (preC T k).length := by omega
    rw [List.length_append, hfl, q2] at e2
    simp only [List.append_assoc, List.cons_append] at e1 e2 ⊢
    refine e2.trans ?_
    rw [kpos, flats, List.flatMap_append, List.length_append]
    simp only [List.append_assoc, List.cons_append, List.nil_append, hfl, Nat.add_assoc]
theorem Zaj0 {T : List Nd} (hT : TreeG T) {l : List Int} (hl : l.length ≤ 1000000000) (hb : ∀ y ∈ l, 0 ≤ y ∧ y ≤ 255) {ns : List ByteArray} (hn : ns.length < 2097152) (hm : ∀ x ∈ T, ∀ t ∈ Z7 x, t ∈ ns) {n : Int} (hn2 : n ≤ 1000) (K) : ∀ d (i : Int), Deep T d i → 0 ≤ i → i < (T.length : Int) → ∀ (out : List Nd) (a m : Nat) (S : Stk) (q left : Nat) (y : Nd), out[q]? = some y → y.2.2.2.2.2.1.length ≤ 1000 → out.length + (preC T i).length ≤ 500 → (out.length + (preC T i).length : Int) ≤ n → S.length + d ≤ 1000 → 1 ≤ left → left ≤ 1000 → AtP l a ((flatC T out.length (q : Int) i).flatMap (packN ns)) →
      Zc fuel (m + (preC T i).length) K ((ns, n, (out.length : Int), ()), ((), (), (l, (a : Int), false, ()), ()), S ++ [((q : Int), (left : Int), ())], out, ()) = Zc fuel m K ((ns, n, ((out.length + (preC T i).length : Nat) : Int), ()), ((), (), (l, ((a + ((flatC T out.length (q : Int) i).flatMap (packN ns)).length : Nat) : Int), false, ()), ()), popS S (q : Int) left, out.set q (Zakb y (out.length : Int)) ++ flatC T out.length (q : Int) i, ())
  | 0, i, hd, _, _, _, _, _, _, _, _, _, _, _, _, _, _, _, _, _ => hd.elim
  | d + 1, i, hd, h0, h1, out, a, m, S, q, left, y, hy, hyk, hlen, hlenn, hS, hl1, hl2, hat => by
    obtain ⟨x, hxm, hx, hki, hpi, hmv⟩ := Zac4 h0 h1
    have hpre := Ztq hT h0 h1
    have hkl := hT.kids_length hxm
    have hTl := hT.len
    rw [hpre, List.length_cons, hki] at hlen hlenn ⊢
    rw [Z0n hT h0 h1, hmv, hki, List.flatMap_cons] at hat ⊢
    obtain ⟨hat1, hat2⟩ := hat.split
    have hnd := (Zaie hl hb hn ((hT.nodeF hxm).moved (q : Int) _ _) (by rw [Zhe]; omega) (fun t ht => hm x hxm t ht) hat1).2
    simp only [Zhe] at hnd
    have hq := Zt hy
    rw [show m + ((List.flatMap (preC T) (kidsN x)).length + 1) = (m + (List.flatMap (preC T) (kidsN x)).length) + 1 by omega]
    rw [step_kid hnd hy (by omega) (by omega) hn2 (by omega) hl1 (by omega)]
    have hset : (out.set q (Zakb y (out.length : Int))).length = out.length := by rw [List.length_set]
    have e1 := Zaiv hT (l := l) (ns := ns) (n := n) h0 h1 (o := out.length) (x := x) (p := (q : Int)) (pre_ := out.set q (Zakb y (out.length : Int))) hset (S1 := popS S (q : Int) left) (cc := 1000 - d) K (fun k hk out a m S q left y z1 z2 z3 z4 z5 z6 z7 z8 => Zaj0 hT hl hb hn hm hn2 K d k (hd k hk) (by have := hT.kidI h0 h1 hk; omega) (hT.kidI h0 h1 hk).2.1 out a m S q left y z1 z2 z3 z4 (by omega) z6 z7 z8) (kidsN x) (a + (packN ns (x.1, x.2.1, x.2.2.1, x.2.2.2.1, (q : Int), kpos (fun k => (preC T k).length) (out.length + 1) (kidsN x), ())).length) m [] [] (fun k hk => by rw [hki]; exact hk) (by simp only [List.length_nil]; omega) (by simp only [List.length_nil]; omega) (by simp only [List.length_nil]; omega) (by unfold popS; split <;> (try simp only [List.length_append, List.length_cons, List.length_nil]) <;> omega) (by simpa using hat2)
    simp only [List.length_nil, Nat.add_zero, List.nil_append] at e1
    have es : (if left = 1 then S else S ++ [((q : Int), ((left - 1 : Nat) : Int), ())]) ++ (if 0 < (kidsN x).length then [((out.length : Int), ((kidsN x).length : Int), ())] else []) = stk (popS S (q : Int) left) (out.length : Int) (kidsN x).length := by
      unfold stk popS
      by_cases c : (kidsN x).length = 0
      · rw [if_neg (by omega : ¬ 0 < (kidsN x).length), if_pos c, List.append_nil]
      · rw [if_pos (by omega : 0 < (kidsN x).length), if_neg c]
    rw [es]
    refine e1.trans ?_
    simp only [List.length_append, Nat.add_assoc, Nat.add_comm 1]
theorem nodes_at {T : List Nd} (hT : TreeG T) {l : List Int} (hl : l.length ≤ 1000000000) (hb : ∀ y ∈ l, 0 ≤ y ∧ y ≤ 255) {ns : List ByteArray} (hn : ns.length < 2097152) (hm : ∀ x ∈ T, ∀ t ∈ Z7 x, t ∈ ns) {a : Nat} (K) (hat : AtP l a ((flatC T 0 (-1) 0).flatMap (packN ns))) :
    Zc fuel fuel K ((ns, ((preC T 0).length : Int), 0, ()), ((), (), (l, (a : Int), false, ()), ()), [], [], ()) = K ((), ((), (), (l, ((a + ((flatC T 0 (-1) 0).flatMap (packN ns)).length : Nat) : Int), false, ()), ()), flatC T 0 (-1) 0, ()) := by
  have hTl := hT.len
  have hF := Zl
  have h0 : (0 : Int) ≤ 0 := by omega
  have h1 : (0 : Int) < (T.length : Int) := by omega
  obtain ⟨x, hxm, hx, hki, hpi, hmv⟩ := Zac4 h0 h1
  have hpre := Ztq hT h0 h1
  have hkl := hT.kids_length hxm
  have hlen := Zml hT h0 h1
  rw [hpre, List.length_cons, hki] at hlen ⊢
  rw [Z0n hT h0 h1, hmv, hki, List.flatMap_cons] at hat ⊢
  obtain ⟨hat1, hat2⟩ := hat.split
  have hnd := (Zaie hl hb hn ((hT.nodeF hxm).moved (-1) _ _) (by rw [Zhe]; omega) (fun t ht => hm x hxm t ht) hat1).2
  simp only [Zhe] at hnd
  obtain ⟨m, hm'⟩ : ∃ m, fuel = m + 1 + (List.flatMap (preC T) (kidsN x)).length + 1 := ⟨fuel - 1 - (List.flatMap (preC T) (kidsN x)).length - 1, by omega⟩
  have e0 := step_root hnd (n := (((List.flatMap (preC T) (kidsN x)).length + 1 : Nat) : Int)) (by omega) (by omega) (m + 1 + (List.flatMap (preC T) (kidsN x)).length) K
  have es : (if 0 < (kidsN x).length then [((0 : Int), ((kidsN x).length : Int), ())] else []) = stk [] 0 (kidsN x).length := by
    unfold stk
    by_cases c : (kidsN x).length = 0
    · rw [if_neg (by omega), if_pos c]
    · rw [if_pos (by omega), if_neg c]; rfl
  rw [es] at e0
  have e1 := Zaiv hT (l := l) (ns := ns) (n := (((List.flatMap (preC T) (kidsN x)).length + 1 : Nat) : Int)) h0 h1 (o := 0) (x := x) (p := -1) (pre_ := []) rfl (S1 := []) (cc := 1000 - (T.length + 1)) K (fun k hk out a m S q left y z1 z2 z3 z4 z5 z6 z7 z8 => Zaj0 hT hl hb hn hm (by omega) K (T.length + 1) k (hT.deep1 h0 h1 hk) (by have := hT.kidI h0 h1 hk; omega) (hT.kidI h0 h1 hk).2.1 out a m S q left y z1 z2 z3 z4 (by omega) z6 z7 z8) (kidsN x) (a + (packN ns (x.1, x.2.1, x.2.2.1, x.2.2.2.1, -1, kpos (fun k => (preC T k).length) (0 + 1) (kidsN x), ())).length) (m + 1) [] [] (fun k hk => by rw [hki]; exact hk) (by simp only [List.length_nil]; omega) (by simp only [List.length_nil]; omega) (by simp only [List.length_nil]; omega) (by simp only [List.length_nil]; omega) (by simpa using hat2)
  simp only [List.length_nil, Nat.add_zero, Nat.zero_add, List.nil_append, Int.cast_ofNat_Int] at e0 e1 ⊢
  have ef : Zc fuel fuel K ((ns, (((List.flatMap (preC T) (kidsN x)).length + 1 : Nat) : Int), 0, ()), ((), (), (l, (a : Int), false, ()), ()), [], [], ()) = Zc fuel (m + 1 + (List.flatMap (preC T) (kidsN x)).length + 1) K ((ns, (((List.flatMap (preC T) (kidsN x)).length + 1 : Nat) : Int), 0, ()), ((), (), (l, (a : Int), false, ()), ()), [], [], ()) := by rw [← hm']
  rw [ef, e0, e1, Zc]
  simp (disch := omega) only [go_sem]
  simp only [Nat.add_assoc, Nat.add_comm 1]
theorem back_impl {T : List Nd} (hT : TreeG T) (hs : T = flatC T 0 (-1) 0) (h20 : (packT T).length ≤ 20000) : Zek (packT T, ()) = some ((), (T, ()), true, ()) := by
  have hb := Zq8 T
  have hpk := Zpe hT
  rw [← hs, Znt, if_pos ⟨rfl, h20⟩] at hpk
  obtain ⟨n1, n2, n3⟩ := Z3n hT
  have hl := hT.len
  have hF := Zl
  have hP : packT T = Zk (Zc4 T []).length ++ ((Zc4 T []).flatMap Zx ++ (Zk T.length ++ T.flatMap (packN (Zc4 T [])))) := rfl
  have hnn : (Zc4 T []).length ≤ (packT T).length := by
    have : ∀ l : List ByteArray, l.length ≤ (l.flatMap Zx).length := fun l => by
      induction l with
      | nil => simp
      | cons s l ih =>
        have := Zagf s.size
        rw [List.flatMap_cons, List.length_append, List.length_cons]
        unfold Zx at *
        rw [List.length_append]; omega
    have := this (Zc4 T [])
    rw [hP]; simp only [List.length_append]; omega
  have ha := at_self (packT T)
  have hTl : (preC T 0).length = T.length := by
    have := Zhn hT (i := 0) (by omega) (by omega) 0 (-1)
    rw [← hs] at this; exact this.symm
  generalize packT T = l at *
  rw [hP] at ha
  obtain ⟨a1, ha⟩ := ha.split
  obtain ⟨a2, hb2⟩ := ha.split
  obtain ⟨a3, a4⟩ := hb2.split
  rw [← hP] at a1 a2 a3 a4
  clear ha hb2
  have e1 := Z3y (by omega) hb (by omega) a1
  have e2 := fun K => Z9y (by omega) hb (by omega) n3 K (Zc4 T []) 0 _ fuel [] rfl (by omega) (by simp only [List.length_nil]; omega) (by omega) a2
  have e3 := Z3y (by omega) hb (by omega) a3
  have e4 := fun K => nodes_at hT (l := l) (by omega) hb (ns := Zc4 T []) (by omega) n2 K (by rw [← hs]; exact a4)
  rw [← hs, hTl] at e4
  simp only [Int.cast_ofNat_Int, Nat.zero_add, List.nil_append] at e1 e2 e3 e4
  unfold Zek Zh0 Zaq Zb7 Zfl Zec Zaq Zb7 Zf9 Zf8
  simp (disch := omega) only [go_sem, e1, e2, e3, e4, hpk]
end Go.Proofs.YtcpecilmkkmaiaaGreat.V
namespace Go.Proofs.YtcpecilmkkmaiaaGreat.V
open Go Go.RowKit
attribute [local irreducible] wr
attribute [local go_sem] Zg2 Zfc
structure Bts (l : List Int) : Prop where
  len : l.length ≤ 20000
  rng : ∀ y ∈ l, 0 ≤ y ∧ y ≤ 255
theorem Zux {l : List Int} (h : Bts l) (a : Int) : ∃ (v a' : Int) (ok : Bool), Zas (l, a, ()) = some ((), v, a', ok, ()) ∧ 0 ≤ v ∧ v ≤ 9223372036854775807 ∧ (ok = true → 0 ≤ a ∧ a < a' ∧ a' ≤ (l.length : Int)) ∧ 0 ≤ a' := by
  obtain ⟨⟨v, a', ok⟩, r1, _, r3, r4⟩ := Z7x l (by have := h.len; omega) h.rng a
  cases ok with
  | false =>
    have := r3 rfl
    simp only [Prod.mk.injEq] at this
    exact ⟨v, a', false, r1, by omega, by omega, (fun q => by cases q), by omega⟩
  | true =>
    obtain ⟨q1, q2, q3, q4, q5⟩ := r4 rfl
    simp only at q4
    exact ⟨v, a', true, r1, q1, q2, fun _ => ⟨q3, q4, q5⟩, by omega⟩
theorem Z4k {l : List Int} (h : Bts l) (a : Int) : ∃ (s : ByteArray) (a' : Int) (ok : Bool), Zbm (l, a, ()) = some ((), s, a', ok, ()) ∧ (ok = true → 0 ≤ a ∧ a < a' ∧ a' ≤ (l.length : Int)) := by
  obtain ⟨⟨s, a', ok⟩, r1, _, r3, r4⟩ := Z3z l (by have := h.len; omega) h.rng a
  refine ⟨s, a', ok, r1, fun q => ?_⟩
  obtain ⟨q1, q2, q3, _⟩ := r4 q
  exact ⟨q1, q2, q3⟩
theorem Zaeo {l : List Int} (h : Bts l) (ns : List ByteArray) (a : Int) : ∃ (s : ByteArray) (a' : Int) (ok : Bool), Zfu (l, a, ns, ()) = some ((), s, a', ok, ()) ∧ (ok = true → 0 ≤ a ∧ a < a' ∧ a' ≤ (l.length : Int)) ∧ 0 ≤ a' := by
  obtain ⟨v, a', ok, r1, r2, r3, r4, r5⟩ := Zux h a
  unfold Zfu Zkn
  cases ok with
  | false => exact ⟨⟨#[]⟩, 0, false, by simp only [go_sem, r1], (fun q => by cases q), by omega⟩
  | true =>
    by_cases c : (ns.length : Int) ≤ v
    · exact ⟨⟨#[]⟩, 0, false, by simp (disch := omega) only [go_sem, r1], (fun q => by cases q), by omega⟩
    · obtain ⟨x, hx⟩ := Zbj (l := ns) (i := v.toNat) (by omega)
      exact ⟨x, a', true, by simp (disch := omega) only [go_sem, r1, hx], r4, r5⟩
theorem Zaho {l : List Int} (h : Bts l) (ns : List ByteArray) {q5 many : Int} {n1 n2 : NodeQ} (hmany : many ≤ 9223372036854775807) (K) : ∀ (M : Nat) (a : Int) (ok : Bool) (j : Nat) (m : Nat) (acc : List At), (ok = true → 2 ≤ M ∧ (l.length : Int) + 2 ≤ a + M) → (ok = false → 1 ≤ M) → j + M ≤ 1000000 → acc.length + M ≤ 1000000 → M < m →
    ∃ (a' : Int) (ok' : Bool) (acc' : List At), Zw fuel m K ((l, a, ns, ok, q5, many, (j : Int), ()), (n1, n2, ()), acc, ()) = K ((a', ok', q5, ()), (n1, n2, ()), acc', ()) ∧ acc'.length ≤ acc.length + M ∧ (ok' = true → ok = true ∧ a ≤ a') := by
  intro M
  induction M with
  | zero =>
    intro a ok j m acc h1 h2 h3 h4 hm
    cases ok with
    | false => have := h2 rfl; omega
    | true => have := h1 rfl; omega
  | succ M ih =>
    intro a ok j m acc h1 h2 h3 h4 hm
    obtain ⟨m, rfl⟩ : ∃ q, m = q + 1 := ⟨m - 1, by omega⟩
    rw [Zw]
    by_cases hj : (j : Int) < many
    · cases ok with
      | false => exact ⟨a, false, acc, by simp (disch := omega) only [go_sem], by omega, fun q => by cases q⟩
      | true =>
        have h1 := h1 rfl
        obtain ⟨s, a1, ok1, e1, e2, _⟩ := Zaeo h ns a
        cases ok1 with
        | false =>
          obtain ⟨a', ok', acc', r1, r2, r3⟩ := ih a1 false (j + 1) m (acc ++ [(s, ⟨#[]⟩, ())]) (fun q => by cases q) (fun _ => by omega) (by omega) (by simp only [List.length_append, List.length_cons, List.length_nil]; omega) (by omega)
          refine ⟨a', ok', acc', ?_, by simp only [List.length_append, List.length_cons, List.length_nil] at r2; omega, fun q => by have := (r3 q).1; cases this⟩
          simp (disch := omega) only [go_sem, e1]
          exact r1
        | true =>
          obtain ⟨e3, e4, e5⟩ := e2 rfl
          obtain ⟨t, a2, ok2, e6, e7⟩ := Z4k h a1
          obtain ⟨a', ok', acc', r1, r2, r3⟩ := ih a2 ok2 (j + 1) m (acc ++ [(s, t, ())]) (fun q => by have := e7 q; omega) (fun _ => by omega) (by omega) (by simp only [List.length_append, List.length_cons, List.length_nil]; omega) (by omega)
          refine ⟨a', ok', acc', ?_, by simp only [List.length_append, List.length_cons, List.length_nil] at r2; omega, fun q => ⟨rfl, by have := r3 q; have := e7 this.1; omega⟩⟩
          simp (disch := omega) only [go_sem, e1, e6]
          exact r1
    · exact ⟨a, ok, acc, by simp (disch := omega) only [go_sem], by omega, fun q => ⟨q, Int.le_refl _⟩⟩
theorem sattrs0 {l : List Int} (h : Bts l) (ns : List ByteArray) {q5 many : Int} {n1 n2 : NodeQ} (hmany : many ≤ 9223372036854775807) (K) (a : Int) (ha : 0 ≤ a) (ok : Bool) :
    ∃ (a' : Int) (ok' : Bool) (acc' : List At), Zw fuel fuel K ((l, a, ns, ok, q5, many, 0, ()), (n1, n2, ()), [], ()) = K ((a', ok', q5, ()), (n1, n2, ()), acc', ()) ∧ acc'.length ≤ 30000 ∧ (ok' = true → ok = true ∧ a ≤ a') := by
  have hF := Zl
  have hl := h.len
  have := Zaho h ns (q5 := q5) (n1 := n1) (n2 := n2) hmany K 20002 a ok 0 fuel [] (fun _ => by omega) (fun _ => by omega) (by omega) (by simp only [List.length_nil]; omega) (by omega)
  simp only [Int.cast_ofNat_Int, List.length_nil] at this
  obtain ⟨a', ok', acc', r1, r2, r3⟩ := this
  exact ⟨a', ok', acc', r1, by omega, r3⟩
theorem snode_tot {l : List Int} (h : Bts l) (ns : List ByteArray) (a : Int) : ∃ (k : Int) (b : ByteArray) (c : List At) (d : ByteArray) (kids a' : Int) (ok : Bool), Zd0 (l, a, ns, ()) = some ((), (k, b, c, d, -1, [], ()), kids, a', ok, ()) ∧ c.length ≤ 30000 ∧ 0 ≤ kids ∧ kids ≤ 9223372036854775807 := by
  obtain ⟨v, a1, ok1, e1, e2, e3, e4, _⟩ := Zux h a
  obtain ⟨v2, a2, ok2, f1, f2, f3, f4, _⟩ := Zux h a1
  unfold Zd0 Zdj
  cases ok1 with
  | false => exact ⟨v, ⟨#[]⟩, [], ⟨#[]⟩, 0, 0, false, by simp only [go_sem, e1, f1], by simp, by omega, by omega⟩
  | true =>
    cases ok2 with
    | false => exact ⟨v, ⟨#[]⟩, [], ⟨#[]⟩, 0, 0, false, by simp only [go_sem, e1, f1], by simp, by omega, by omega⟩
    | true =>
      obtain ⟨g1, g2, g3⟩ := f4 rfl
      obtain ⟨s, a3, ok3, p1, p2, p3⟩ := Zaeo h ns a2
      obtain ⟨t, a4, ok4, t1, t2⟩ := Z4k h a2
      obtain ⟨v3, a5, ok5, u1, u2, u3, u4, u5⟩ := Zux h a3
      have run := fun many hm a ha ok => sattrs0 h ns (q5 := v2) (many := many) (n1 := (0, ⟨#[]⟩, ⟨#[]⟩, 0, ())) (n2 := (v, s, ⟨#[]⟩, -1, ())) hm (fun v6 => some ((), (v6.2.1.2.1.1, v6.2.1.2.1.2.1, v6.2.2.1, v6.2.1.2.1.2.2.1, v6.2.1.2.1.2.2.2.1, ([] : List Int), ()), v6.1.2.2.1, v6.1.1, v6.1.2.1, ())) a ha ok
      by_cases k2 : v = 2
      · obtain ⟨a', ok', acc', r1, r2, r3⟩ := run 0 (by omega) a3 p3 ok3
        refine ⟨v, s, acc', ⟨#[]⟩, v2, a', ok', ?_, r2, f2, f3⟩
        cases ok3 <;> simp (disch := omega) only [go_sem, e1, f1, p1, r1]
      by_cases k3 : v = 3
      · cases ok3 with
        | false =>
          obtain ⟨a', ok', acc', r1, r2, r3⟩ := run 0 (by omega) a3 p3 false
          exact ⟨v, s, acc', ⟨#[]⟩, v2, a', ok', by simp (disch := omega) only [go_sem, e1, f1, p1, r1], r2, f2, f3⟩
        | true =>
          obtain ⟨a', ok', acc', r1, r2, r3⟩ := run v3 u3 a5 u5 ok5
          exact ⟨v, s, acc', ⟨#[]⟩, v2, a', ok', by simp (disch := omega) only [go_sem, e1, f1, p1, u1, r1], r2, f2, f3⟩
      by_cases k4 : v = 4
      · exact ⟨v, ⟨#[]⟩, [], t, v2, a4, ok4, by simp (disch := omega) only [go_sem, e1, f1, t1], by simp, f2, f3⟩
      by_cases k5 : v = 5
      · exact ⟨v, ⟨#[]⟩, [], t, v2, a4, ok4, by simp (disch := omega) only [go_sem, e1, f1, t1], by simp, f2, f3⟩
      · exact ⟨v, ⟨#[]⟩, [], ⟨#[]⟩, v2, a2, true, by simp (disch := omega) only [go_sem, e1, f1], by simp, f2, f3⟩
theorem Z9f {l : List Int} (h : Bts l) (ns : List ByteArray) : ∀ (D : Nat) (a p : Int) (out : List Nd), 500 - out.length < D → out.length ≤ 500 →
    ∃ (new : List Nd) (a' : Int) (ok : Bool), Za9 D (l, a, p, ns, out, ()) = some ((), out ++ new, a', ok, ()) ∧ Rows new ∧ (out ++ new).length ≤ 500 ∧ (ok = true → 1 ≤ new.length)
  | 0, a, p, out, hD, _ => by omega
  | D + 1, a, p, out, hD, hl => by
    obtain ⟨k, b, c, d, kids, a1, ok, e1, e2, e3, e4⟩ := snode_tot h ns a
    have hF := Zl
    have R0 : Rows [] := fun x hx => by cases hx
    rw [Za9, Zi0]
    cases ok with
    | false => exact ⟨[], 0, false, by simp only [go_sem, e1, List.append_nil], R0, by simpa using hl, fun q => by cases q⟩
    | true =>
      by_cases hf : out.length = 500
      · exact ⟨[], 0, false, by simp (disch := omega) only [go_sem, e1, List.append_nil], R0, by simpa using hl, fun q => by cases q⟩
      · have loop : ∀ (M : Nat) (j : Nat) (a : Int) (m : Nat) (acc : List Int) (mid : List Nd), 501 ≤ out.length + 1 + mid.length + M → acc.length = j → j ≤ mid.length → Rows mid → M < m → out.length + 1 + mid.length ≤ 500 →
            ∃ (acc' : List Int) (mid' : List Nd) (a' : Int) (ok : Bool), Zcg (Za9 D) fuel m (fun v1 => some ((), v1.2.2.1, v1.1.1, true, ())) ((l, a, ns, kids, (out.length : Int), (j : Int), ()), (), out ++ ((k, b, c, d, p, acc, ()) : Nd) :: mid, ()) = some ((), out ++ ((k, b, c, d, p, acc', ()) : Nd) :: mid', a', ok, ()) ∧ acc'.length ≤ 501 ∧ Rows mid' ∧ out.length + 1 + mid'.length ≤ 500 := by
          intro M
          induction M with
          | zero => intro j a m acc mid h1 h2 h3 h4 h5 h6; omega
          | succ M ih =>
            intro j a m acc mid h1 h2 h3 h4 h5 h6
            obtain ⟨m, rfl⟩ : ∃ q, m = q + 1 := ⟨m - 1, by omega⟩
            rw [Zcg]
            by_cases hj : (j : Int) < kids
            · obtain ⟨new, a2, ok2, f1, f2, f3, f4⟩ := Z9f h ns D a (out.length : Int) (out ++ ((k, b, c, d, p, acc ++ [((out.length + (mid.length + 1) : Nat) : Int)], ()) : Nd) :: mid) (by simp only [List.length_append, List.length_cons]; omega) (by simp only [List.length_append, List.length_cons]; omega)
              simp only [List.length_append, List.length_cons] at f3
              simp only [List.append_assoc, List.cons_append] at f1
              have hR : Rows (mid ++ new) := fun x hx => (List.mem_append.1 hx).elim (h4 x) (f2 x)
              cases ok2 with
              | false =>
                refine ⟨acc ++ [((out.length + (mid.length + 1) : Nat) : Int)], mid ++ new, 0, false, ?_, by simp only [List.length_append, List.length_cons, List.length_nil]; omega, hR, by simp only [List.length_append]; omega⟩
                simp (disch := omega) only [go_sem, Zlg, Zkt, f1]
              | true =>
                have := f4 rfl
                obtain ⟨acc', mid', a', ok', g1, g2, g3, g4⟩ := ih (j + 1) a2 m (acc ++ [((out.length + (mid.length + 1) : Nat) : Int)]) (mid ++ new) (by simp only [List.length_append]; omega) (by simp only [List.length_append, List.length_cons, List.length_nil]; omega) (by simp only [List.length_append]; omega) hR (by omega) (by simp only [List.length_append]; omega)
                refine ⟨acc', mid', a', ok', ?_, g2, g3, g4⟩
                simp (disch := omega) only [go_sem, Zlg, Zkt, f1]
                exact g1
            · exact ⟨acc, mid, a, true, by simp (disch := omega) only [go_sem], by omega, h4, h6⟩
        obtain ⟨acc', mid', a', ok', g1, g2, g3, g4⟩ := loop (500 - out.length) 0 a1 fuel [] [] (by simp only [List.length_nil]; omega) rfl (by omega) R0 (by omega) (by simp only [List.length_nil]; omega)
        simp only [Int.cast_ofNat_Int] at g1
        refine ⟨(k, b, c, d, p, acc', ()) :: mid', a', ok', ?_, fun x hx => ?_, by simp only [List.length_append, List.length_cons]; omega, fun _ => by simp only [List.length_cons]; omega⟩
        · simp (disch := omega) only [go_sem, e1, g1]
        · rcases List.mem_cons.1 hx with rfl | hx
          · exact ⟨by simp only; omega, by simp only [kidsN]; omega⟩
          · exact g3 x hx
end Go.Proofs.YtcpecilmkkmaiaaGreat.V
namespace Go.Proofs.YtcpecilmkkmaiaaGreat.V
open Go Go.RowKit
attribute [local irreducible] wr
attribute [local go_sem] Zg2 Zfc
structure Good (T : List Nd) : Prop where
  tree : TreeG T
  tidy : T = flatC T 0 (-1) 0
  small : (packT T).length ≤ 20000
theorem Zah2 {T : List Nd} (hR : Rows T) : ∃ (p : List Int) (ok : Bool), Zfz ((T, ()), ()) = some ((), p, ok, ()) ∧ Zf6 ((T, ()), ()) = some ((), p, ok, ()) ∧ (ok = true ↔ Good T) ∧ (ok = true → p = packT T) := by
  obtain ⟨b, h1, h2, h3⟩ := Zafy T (fun x hx => by have := (hR x hx).2; omega)
  cases b with
  | false =>
    refine ⟨[], false, ?_, ?_, ⟨(fun q => by cases q), (fun q => by have := h3.2 q.tree; cases this)⟩, (fun q => by cases q)⟩
    · unfold Zfz Zhs
      simp only [go_sem, h1]
    · unfold Zf6 Zh1
      simp only [go_sem, h2]
  | true =>
    have hT := h3.1 rfl
    by_cases c : same T (flatC T 0 (-1) 0) = true ∧ (packT T).length ≤ 20000
    · exact ⟨packT T, true, by rw [Zpd hT, if_pos c], by rw [Zpe hT, if_pos c], ⟨fun _ => ⟨hT, Zg9.1 c.1, c.2⟩, fun _ => rfl⟩, fun _ => rfl⟩
    · exact ⟨[], false, by rw [Zpd hT, if_neg c], by rw [Zpe hT, if_neg c], ⟨(fun q => by cases q), fun q => absurd ⟨Zg9.2 q.tidy, q.small⟩ c⟩, (fun q => by cases q)⟩
theorem Zahl {l : List Int} (h : Bts l) {many : Int} (hmany : many ≤ 9223372036854775807) : ∀ (M : Nat) (a : Int) (ok : Bool) (j : Nat) (m : Nat) (acc : List ByteArray), (ok = true → 2 ≤ M ∧ (l.length : Int) + 2 ≤ a + M) → (ok = false → 1 ≤ M) → j + M ≤ 1000000 → acc.length + M ≤ 1000000 → M < m →
    ∃ (a' : Int) (ok' : Bool) (acc' : List ByteArray), ∀ K, Zay fuel m K ((l, many, a, ok, (j : Int), ()), ((), (), ()), acc, ()) = K ((l, a', ok', ()), ((), (), ()), acc', ()) := by
  intro M
  induction M with
  | zero =>
    intro a ok j m acc h1 h2 h3 h4 hm
    cases ok with
    | false => have := h2 rfl; omega
    | true => have := h1 rfl; omega
  | succ M ih =>
    intro a ok j m acc h1 h2 h3 h4 hm
    obtain ⟨m, rfl⟩ : ∃ q, m = q + 1 := ⟨m - 1, by omega⟩
    by_cases hj : (j : Int) < many
    · cases ok with
      | false => exact ⟨a, false, acc, fun K => by rw [Zay]; simp (disch := omega) only [go_sem]⟩
      | true =>
        have h1 := h1 rfl
        obtain ⟨s, a1, ok1, e1, e2⟩ := Z4k h a
        obtain ⟨a', ok', acc', r1⟩ := ih a1 ok1 (j + 1) m (acc ++ [s]) (fun q => by have := e2 q; omega) (fun _ => by omega) (by omega) (by simp only [List.length_append, List.length_cons, List.length_nil]; omega) (by omega)
        refine ⟨a', ok', acc', fun K => ?_⟩
        rw [Zay]
        simp (disch := omega) only [go_sem, e1]
        exact r1 K
    · exact ⟨a, ok, acc, fun K => by rw [Zay]; simp (disch := omega) only [go_sem]⟩
theorem Z9n {l : List Int} (hb : ∀ y ∈ l, 0 ≤ y ∧ y ≤ 255) : ∃ (t : List Nd) (ok : Bool), Zee (l, ()) = some ((), (t, ()), ok, ()) ∧ (ok = true → Good t ∧ packT t = l) ∧ (ok = false → t = []) := by
  unfold Zee Zhr
  have hF := Zl
  have none_ : ∀ X : Option (Unit × ((List Nd × Unit) × Bool × Unit)), X = some ((), ([], ()), false, ()) → ∃ (t : List Nd) (ok : Bool), X = some ((), (t, ()), ok, ()) ∧ (ok = true → Good t ∧ packT t = l) ∧ (ok = false → t = []) := fun X e => ⟨[], false, e, (fun q => by cases q), fun _ => rfl⟩
  by_cases hl : l.length ≤ 20000
  · have h : Bts l := ⟨hl, hb⟩
    obtain ⟨v, a1, ok1, e1, e2, e3, e4, e5⟩ := Zux h 0
    obtain ⟨a2, ok2, ns, r1⟩ := Zahl h (many := v) e3 20002 a1 ok1 0 fuel [] (fun _ => by omega) (fun _ => by omega) (by omega) (by simp) (by omega)
    simp only [Int.cast_ofNat_Int] at r1
    cases ok2 with
    | false => exact none_ _ (by simp (disch := omega) only [go_sem, e1, r1])
    | true =>
      obtain ⟨v2, a3, ok3, f1, f2, f3, f4, f5⟩ := Zux h a2
      cases ok3 with
      | false => exact none_ _ (by simp (disch := omega) only [go_sem, e1, r1, f1])
      | true =>
        obtain ⟨T, a4, ok4, g1, g2, g3, g4⟩ := Z9f h ns fuel a3 (-1) [] (by simp only [List.length_nil]; omega) (by simp)
        rw [List.nil_append] at g1 g3
        obtain ⟨p, ok5, p1, p2, p3, p4⟩ := Zah2 g2
        unfold Zm3
        cases ok4 with
        | false => exact none_ _ (by simp (disch := omega) only [go_sem, e1, r1, f1, g1])
        | true =>
          cases ok5 with
          | false => exact none_ _ (by simp (disch := omega) only [go_sem, e1, r1, f1, g1, p1])
          | true =>
            have hg := p3.1 rfl
            obtain rfl := p4 rfl
            have hq := Ztn (Zq8 T) hb
            by_cases c : packT T = l
            · exact ⟨T, true, by simp (disch := omega) only [go_sem, e1, r1, f1, g1, p1, hq, c], fun _ => ⟨hg, c⟩, (fun q => by cases q)⟩
            · exact none_ _ (by simp (disch := omega) only [go_sem, e1, r1, f1, g1, p1, hq, c])
  · exact none_ _ (by simp (disch := omega) only [go_sem])
theorem Z7w {l : List Int} (h : Bts l) (a : Int) (bad : Bool) : ∃ (a' : Int) (bad' : Bool) (v : Int), Z5 ((l, a, bad, ()), ()) = some (((l, a', bad', ()), ()), v, ()) ∧ 0 ≤ v ∧ v ≤ 9223372036854775807 := by
  have hl := h.len
  cases bad with
  | true => exact ⟨a, true, 0, Zui (by omega) h.rng a, by omega, by omega⟩
  | false =>
    obtain ⟨⟨v, a', ok⟩, _, r2, r3, r4⟩ := Z7x l (by omega) h.rng a
    have := Zro r2
    cases ok with
    | false => exact ⟨a, true, 0, this, by omega, by omega⟩
    | true => have q := r4 rfl; exact ⟨a', false, v, this, q.1, q.2.1⟩
theorem Z7v {l : List Int} (h : Bts l) (a : Int) (bad : Bool) : ∃ (a' : Int) (bad' : Bool) (s : ByteArray), Zv ((l, a, bad, ()), ()) = some (((l, a', bad', ()), ()), s, ()) := by
  have hl := h.len
  cases bad with
  | true => exact ⟨a, true, _, Zur (by omega) h.rng a⟩
  | false =>
    obtain ⟨⟨s, a', ok⟩, _, r2, r3, r4⟩ := Z3z l (by omega) h.rng a
    have := Zs9 r2
    cases ok with
    | false => exact ⟨a, true, _, this⟩
    | true => exact ⟨a', false, s, this⟩
theorem Z0g {l : List Int} (h : Bts l) (a : Int) (bad : Bool) (most : Int) (hm : 0 ≤ most) : ∃ (a' : Int) (bad' : Bool) (v : Int), Zaq ((l, a, bad, ()), most, ()) = some (((l, a', bad', ()), ()), v, ()) ∧ 0 ≤ v ∧ v ≤ most := by
  obtain ⟨a', bad', v, e1, e2, e3⟩ := Z7w h a bad
  unfold Zaq Zb7
  by_cases c : most < v
  · exact ⟨a', true, 0, by simp (disch := omega) only [go_sem, e1], by omega, hm⟩
  · exact ⟨a', bad', v, by simp (disch := omega) only [go_sem, e1], e2, by omega⟩
theorem Zafi {l : List Int} (h : Bts l) (ns : List ByteArray) (a : Int) (bad : Bool) : ∃ (a' : Int) (bad' : Bool) (s : ByteArray), Zcn ((l, a, bad, ()), ns, ()) = some (((l, a', bad', ()), ()), s, ()) := by
  obtain ⟨a', bad', v, e1, e2, e3⟩ := Z7w h a bad
  unfold Zcn Ze0
  cases bad' with
  | true => exact ⟨a', true, ⟨#[]⟩, by simp only [go_sem, e1]⟩
  | false =>
    by_cases c : (ns.length : Int) ≤ v
    · exact ⟨a', true, ⟨#[]⟩, by simp (disch := omega) only [go_sem, e1]⟩
    · obtain ⟨x, hx⟩ := Zbj (l := ns) (i := v.toNat) (by omega)
      exact ⟨a', false, x, by simp (disch := omega) only [go_sem, e1, hx]⟩
theorem Zajb {l : List Int} (h : Bts l) (ns : List ByteArray) {q5 : Int} {n1 n2 : NodeQ} {c : Nat} (hc : c ≤ 20) (K) : ∀ (M : Nat) (a : Int) (bad : Bool) (j m : Nat) (acc : List At), j + M = c → acc.length = j → M < m →
    ∃ (a' : Int) (bad' : Bool) (acc' : List At), Zab fuel m K ((ns, q5, (c : Int), (j : Int), ()), (n1, n2, (l, a, bad, ()), ()), acc, ()) = K ((q5, ()), (n1, n2, (l, a', bad', ()), ()), acc', ()) ∧ acc'.length = c := by
  intro M
  induction M with
  | zero =>
    intro a bad j m acc h1 h2 hm
    obtain ⟨m, rfl⟩ : ∃ q, m = q + 1 := ⟨m - 1, by omega⟩
    exact ⟨a, bad, acc, by rw [Zab]; simp (disch := omega) only [go_sem], by omega⟩
  | succ M ih =>
    intro a bad j m acc h1 h2 hm
    obtain ⟨m, rfl⟩ : ∃ q, m = q + 1 := ⟨m - 1, by omega⟩
    obtain ⟨a1, bad1, s, e1⟩ := Zafi h ns a bad
    obtain ⟨a2, bad2, t, e2⟩ := Z7v h a1 bad1
    obtain ⟨a', bad', acc', r1, r2⟩ := ih a2 bad2 (j + 1) m (acc ++ [(s, t, ())]) (by omega) (by simp only [List.length_append, List.length_cons, List.length_nil]; omega) (by omega)
    refine ⟨a', bad', acc', ?_, r2⟩
    rw [Zab]
    simp (disch := omega) only [go_sem, e1, e2]
    exact r1
theorem gnode_tot {l : List Int} (h : Bts l) (ns : List ByteArray) (a : Int) (bad : Bool) : ∃ (a' : Int) (bad' : Bool) (k : Int) (b : ByteArray) (c : List At) (d : ByteArray) (cnt : Int), Zag ((l, a, bad, ()), ns, ()) = some (((l, a', bad', ()), ()), (k, b, c, d, 0, [], ()), cnt, ()) ∧ c.length ≤ 20 ∧ 0 ≤ cnt ∧ cnt ≤ 9223372036854775807 := by
  obtain ⟨a1, bad1, v, e1, e2, e3⟩ := Z7w h a bad
  obtain ⟨a2, bad2, v2, f1, f2, f3⟩ := Z7w h a1 bad1
  obtain ⟨a3, bad3, s, g1⟩ := Zafi h ns a2 bad2
  obtain ⟨a4, bad4, t, t1⟩ := Z7v h a2 bad2
  obtain ⟨a5, bad5, v3, u1, u2, u3⟩ := Z0g h a3 bad3 20 (by omega)
  obtain ⟨n3, rfl⟩ := Int.eq_ofNat_of_zero_le u2
  have hF := Zl
  obtain ⟨a6, bad6, c6, w1, w2⟩ := Zajb h ns (q5 := v2) (n1 := (0, ⟨#[]⟩, ⟨#[]⟩, 0, ())) (n2 := (v, s, ⟨#[]⟩, 0, ())) (c := n3) (by omega) (fun v5 => some (((v5.2.1.2.2.1.1, v5.2.1.2.2.1.2.1, v5.2.1.2.2.1.2.2.1, ()), ()), (v5.2.1.2.1.1, v5.2.1.2.1.2.1, v5.2.2.1, v5.2.1.2.1.2.2.1, v5.2.1.2.1.2.2.2.1, ([] : List Int), ()), v5.1.1, ())) n3 a5 bad5 0 fuel [] (by omega) rfl (by omega)
  simp only [Int.cast_ofNat_Int] at w1
  unfold Zag Za6 Zca Zby
  by_cases k2 : v = 2
  · exact ⟨a3, bad3, v, s, [], ⟨#[]⟩, v2, by simp (disch := omega) only [go_sem, e1, f1, g1], by simp, f2, f3⟩
  by_cases k3 : v = 3
  · exact ⟨a6, bad6, v, s, c6, ⟨#[]⟩, v2, by simp (disch := omega) only [go_sem, e1, f1, g1, u1, w1], by omega, f2, f3⟩
  by_cases k4 : v = 4
  · exact ⟨a4, bad4, v, ⟨#[]⟩, [], t, v2, by simp (disch := omega) only [go_sem, e1, f1, t1], by simp, f2, f3⟩
  by_cases k5 : v = 5
  · exact ⟨a4, bad4, v, ⟨#[]⟩, [], t, v2, by simp (disch := omega) only [go_sem, e1, f1, t1], by simp, f2, f3⟩
  · exact ⟨a2, bad2, v, ⟨#[]⟩, [], ⟨#[]⟩, v2, by simp (disch := omega) only [go_sem, e1, f1], by simp, f2, f3⟩
theorem Zai8 {l : List Int} (h : Bts l) (ns : List ByteArray) {n : Nat} (hn : n ≤ 500) : ∀ (M : Nat) (a : Int) (bad : Bool) (j m : Nat) (S : Stk) (out : List Nd), j + M = n → out.length = j → S.length ≤ j → (∀ z ∈ S, (0 ≤ z.1 ∧ z.1 < (j : Int)) ∧ 1 ≤ z.2.1 ∧ z.2.1 ≤ 9223372036854775807) → (∀ x ∈ out, x.2.2.1.length ≤ 20 ∧ x.2.2.2.2.2.1.length ≤ j) → M < m →
    ∃ (a' : Int) (bad' : Bool) (out' : List Nd), (∀ K, Zc fuel m K ((ns, (n : Int), (j : Int), ()), ((), (), (l, a, bad, ()), ()), S, out, ()) = K ((), ((), (), (l, a', bad', ()), ()), out', ())) ∧ Rows out' := by
  intro M
  induction M with
  | zero =>
    intro a bad j m S out h1 h2 h3 h4 h5 hm
    obtain ⟨m, rfl⟩ : ∃ q, m = q + 1 := ⟨m - 1, by omega⟩
    exact ⟨a, bad, out, fun K => by rw [Zc]; simp (disch := omega) only [go_sem], fun x hx => by have := h5 x hx; exact ⟨by omega, by show x.2.2.2.2.2.1.length ≤ _; omega⟩⟩
  | succ M ih =>
    intro a bad j m S out h1 h2 h3 h4 h5 hm
    obtain ⟨m, rfl⟩ : ∃ q, m = q + 1 := ⟨m - 1, by omega⟩
    obtain ⟨a1, bad1, k, b, c, d, cnt, e1, e2, e3, e4⟩ := gnode_tot h ns a bad
    rcases List.eq_nil_or_concat S with rfl | ⟨S0, z, rfl⟩
    · have hout : ∀ x ∈ out ++ [((k, b, c, d, -1, [], ()) : Nd)], x.2.2.1.length ≤ 20 ∧ x.2.2.2.2.2.1.length ≤ j + 1 := fun x hx => by
        rcases List.mem_append.1 hx with q | q
        · have := h5 x q; omega
        · obtain rfl : x = _ := by simpa using q
          exact ⟨e2, by simp⟩
      by_cases hc : 0 < cnt
      · obtain ⟨a', bad', out', r1, r2⟩ := ih a1 bad1 (j + 1) m [((j : Int), cnt, ())] (out ++ [(k, b, c, d, -1, [], ())]) (by omega) (by simp only [List.length_append, List.length_cons, List.length_nil]; omega) (by simp only [List.length_cons, List.length_nil]; omega) (fun z hz => by
          obtain rfl : z = _ := by simpa using hz
          exact ⟨by simp only; omega, by simp only; omega⟩) hout (by omega)
        refine ⟨a', bad', out', fun K => ?_, r2⟩
        rw [Zc]
        simp (disch := omega) only [go_sem, e1, List.nil_append]
        exact r1 K
      · obtain ⟨a', bad', out', r1, r2⟩ := ih a1 bad1 (j + 1) m [] (out ++ [(k, b, c, d, -1, [], ())]) (by omega) (by simp only [List.length_append, List.length_cons, List.length_nil]; omega) (by simp) (fun z hz => by cases hz) hout (by omega)
        refine ⟨a', bad', out', fun K => ?_, r2⟩
        rw [Zc]
        simp (disch := omega) only [go_sem, e1, List.nil_append]
        exact r1 K
    · rw [List.concat_eq_append] at h3 h4 ⊢
      obtain ⟨p, left, _⟩ := z
      obtain ⟨⟨p0, p1⟩, l0, l1⟩ := h4 (p, left, ()) (by simp)
      simp only at p0 p1 l0 l1
      simp only [List.length_append, List.length_cons, List.length_nil] at h3
      obtain ⟨y, hy⟩ := Zbj (l := out) (i := p.toNat) (by omega)
      obtain ⟨y1, y2⟩ := h5 y (List.mem_of_getElem? hy)
      have en : (((S0.length + (0 + 1) : Nat) : Int) - 1).toNat = S0.length := by omega
      have hcut : ∀ z : Int × Int × Unit, lcut (S0 ++ [z]) 0 S0.length = S0 := fun z => by unfold lcut; simp
      have hS0 : ∀ z ∈ S0, (0 ≤ z.1 ∧ z.1 < ((j + 1 : Nat) : Int)) ∧ 1 ≤ z.2.1 ∧ z.2.1 ≤ 9223372036854775807 := fun z hz => by
        have := h4 z (List.mem_append_left _ hz)
        omega
      have hout : ∀ x ∈ out.set p.toNat (y.1, y.2.1, y.2.2.1, y.2.2.2.1, y.2.2.2.2.1, y.2.2.2.2.2.1 ++ [(j : Int)], ()) ++ [((k, b, c, d, p, [], ()) : Nd)], x.2.2.1.length ≤ 20 ∧ x.2.2.2.2.2.1.length ≤ j + 1 := fun x hx => by
        rcases List.mem_append.1 hx with q | q
        · rcases List.mem_or_eq_of_mem_set q with q | rfl
          · have := h5 x q; omega
          · exact ⟨y1, by simp only [List.length_append, List.length_cons, List.length_nil]; omega⟩
        · obtain rfl : x = _ := by simpa using q
          exact ⟨e2, by simp⟩
      have hlen : (out.set p.toNat (y.1, y.2.1, y.2.2.1, y.2.2.2.1, y.2.2.2.2.1, y.2.2.2.2.2.1 ++ [(j : Int)], ()) ++ [((k, b, c, d, p, [], ()) : Nd)]).length = j + 1 := by simp only [List.length_append, List.length_cons, List.length_nil, List.length_set]; omega
      have eNew : ∀ z ∈ [((j : Int), cnt, ())], 0 < cnt → (0 ≤ z.1 ∧ z.1 < ((j + 1 : Nat) : Int)) ∧ 1 ≤ z.2.1 ∧ z.2.1 ≤ 9223372036854775807 := fun z hz hc => by
        obtain rfl : z = _ := by simpa using hz
        exact ⟨by simp only; omega, by simp only; omega⟩
      by_cases hone : left = 1
      · by_cases hc : 0 < cnt
        · obtain ⟨a', bad', out', r1, r2⟩ := ih a1 bad1 (j + 1) m (S0 ++ [((j : Int), cnt, ())]) _ (by omega) hlen (by simp only [List.length_append, List.length_cons, List.length_nil]; omega) (fun z hz => (List.mem_append.1 hz).elim (hS0 z) (fun q => eNew z q hc)) hout (by omega)
          refine ⟨a', bad', out', fun K => ?_, r2⟩
          rw [Zc]
          simp (disch := omega) only [go_sem, e1, en, Zlg, Zkt, hy, tn0, hcut]
          exact r1 K
        · obtain ⟨a', bad', out', r1, r2⟩ := ih a1 bad1 (j + 1) m S0 _ (by omega) hlen (by omega) hS0 hout (by omega)
          refine ⟨a', bad', out', fun K => ?_, r2⟩
          rw [Zc]
          simp (disch := omega) only [go_sem, e1, en, Zlg, Zkt, hy, tn0, hcut]
          exact r1 K
      · have hS1 : ∀ z ∈ S0 ++ [(p, left - 1, ())], (0 ≤ z.1 ∧ z.1 < ((j + 1 : Nat) : Int)) ∧ 1 ≤ z.2.1 ∧ z.2.1 ≤ 9223372036854775807 := fun z hz => by
          rcases List.mem_append.1 hz with q | q
          · exact hS0 z q
          · obtain rfl : z = _ := by simpa using q
            exact ⟨by simp only; omega, by simp only; omega⟩
        by_cases hc : 0 < cnt
        · obtain ⟨a', bad', out', r1, r2⟩ := ih a1 bad1 (j + 1) m (S0 ++ [(p, left - 1, ())] ++ [((j : Int), cnt, ())]) _ (by omega) hlen (by simp only [List.length_append, List.length_cons, List.length_nil]; omega) (fun z hz => (List.mem_append.1 hz).elim (hS1 z) (fun q => eNew z q hc)) hout (by omega)
          refine ⟨a', bad', out', fun K => ?_, r2⟩
          rw [Zc]
          simp (disch := omega) only [go_sem, e1, en, Zlg, Zkt, hy, tn0, hcut]
          exact r1 K
        · obtain ⟨a', bad', out', r1, r2⟩ := ih a1 bad1 (j + 1) m (S0 ++ [(p, left - 1, ())]) _ (by omega) hlen (by simp only [List.length_append, List.length_cons, List.length_nil]; omega) hS1 hout (by omega)
          refine ⟨a', bad', out', fun K => ?_, r2⟩
          rw [Zc]
          simp (disch := omega) only [go_sem, e1, en, Zlg, Zkt, hy, tn0, hcut]
          exact r1 K
theorem Zai9 {l : List Int} (h : Bts l) {c : Nat} (hc : c ≤ 20000) : ∀ (M : Nat) (a : Int) (bad : Bool) (j m : Nat) (acc : List ByteArray), j + M = c → acc.length = j → M < m →
    ∃ (a' : Int) (bad' : Bool) (acc' : List ByteArray), ∀ K, Zbe fuel m K ((l, (c : Int), (j : Int), ()), ((), (l, a, bad, ()), ()), acc, ()) = K ((l, ()), ((), (l, a', bad', ()), ()), acc', ()) := by
  intro M
  induction M with
  | zero =>
    intro a bad j m acc h1 h2 hm
    obtain ⟨m, rfl⟩ : ∃ q, m = q + 1 := ⟨m - 1, by omega⟩
    exact ⟨a, bad, acc, fun K => by rw [Zbe]; simp (disch := omega) only [go_sem]⟩
  | succ M ih =>
    intro a bad j m acc h1 h2 hm
    obtain ⟨m, rfl⟩ : ∃ q, m = q + 1 := ⟨m - 1, by omega⟩
    obtain ⟨a1, bad1, s, e1⟩ := Z7v h a bad
    obtain ⟨a', bad', acc', r1⟩ := ih a1 bad1 (j + 1) m (acc ++ [s]) (by omega) (by simp only [List.length_append, List.length_cons, List.length_nil]; omega) (by omega)
    refine ⟨a', bad', acc', fun K => ?_⟩
    rw [Zbe]
    simp (disch := omega) only [go_sem, e1]
    exact r1 K
theorem Z9o {l : List Int} (hb : ∀ y ∈ l, 0 ≤ y ∧ y ≤ 255) : ∃ (t : List Nd) (ok : Bool), Zek (l, ()) = some ((), (t, ()), ok, ()) ∧ (ok = true → Good t ∧ packT t = l) ∧ (ok = false → t = []) := by
  unfold Zek Zh0 Zfl Zec Zf9 Zf8
  have hF := Zl
  have none_ : ∀ X : Option (Unit × ((List Nd × Unit) × Bool × Unit)), X = some ((), ([], ()), false, ()) → ∃ (t : List Nd) (ok : Bool), X = some ((), (t, ()), ok, ()) ∧ (ok = true → Good t ∧ packT t = l) ∧ (ok = false → t = []) := fun X e => ⟨[], false, e, (fun q => by cases q), fun _ => rfl⟩
  by_cases hl : l.length ≤ 20000
  · have h : Bts l := ⟨hl, hb⟩
    obtain ⟨a1, bad1, v, e1, e2, e3⟩ := Z0g h 0 false (l.length : Int) (by omega)
    obtain ⟨c, rfl⟩ := Int.eq_ofNat_of_zero_le e2
    obtain ⟨a2, bad2, ns, r1⟩ := Zai9 h (c := c) (by omega) c a1 bad1 0 fuel [] (by omega) rfl (by omega)
    simp only [Int.cast_ofNat_Int] at r1
    obtain ⟨a3, bad3, v2, f1, f2, f3⟩ := Z0g h a2 bad2 500 (by omega)
    obtain ⟨n, rfl⟩ := Int.eq_ofNat_of_zero_le f2
    obtain ⟨a4, bad4, T, g1, g2⟩ := Zai8 h ns (n := n) (by omega) n a3 bad3 0 fuel [] [] (by omega) rfl (by simp) (fun z hz => by cases hz) (fun z hz => by cases hz) (by omega)
    simp only [Int.cast_ofNat_Int] at g1
    obtain ⟨p, ok5, p1, p2, p3, p4⟩ := Zah2 g2
    cases bad4 with
    | true => exact none_ _ (by simp (disch := omega) only [go_sem, e1, r1, f1, g1, p2])
    | false =>
      cases ok5 with
      | false => exact none_ _ (by simp (disch := omega) only [go_sem, e1, r1, f1, g1, p2])
      | true =>
        have hg := p3.1 rfl
        obtain rfl := p4 rfl
        have hq := Ztn (Zq8 T) hb
        by_cases c : packT T = l
        · exact ⟨T, true, by simp (disch := omega) only [go_sem, e1, r1, f1, g1, p2, hq, c], fun _ => ⟨hg, c⟩, fun q => by cases q⟩
        · exact none_ _ (by simp (disch := omega) only [go_sem, e1, r1, f1, g1, p2, hq, c])
  · exact none_ _ (by simp (disch := omega) only [go_sem])
theorem Z8j {l : List Int} (hb : ∀ y ∈ l, 0 ≤ y ∧ y ≤ 255) : ∃ (t : List Nd) (ok : Bool), Zee (l, ()) = some ((), (t, ()), ok, ()) ∧ Zek (l, ()) = some ((), (t, ()), ok, ()) ∧ (ok = true → Good t) ∧ (ok = false → t = []) := by
  obtain ⟨t, ok, e1, e2, e3⟩ := Z9n hb
  obtain ⟨t', ok', f1, f2, f3⟩ := Z9o hb
  cases ok with
  | true =>
    obtain ⟨g1, g2⟩ := e2 rfl
    have := back_impl g1.tree g1.tidy g1.small
    rw [g2] at this
    exact ⟨t, true, e1, this, fun _ => g1, fun q => by cases q⟩
  | false =>
    obtain rfl := e3 rfl
    cases ok' with
    | true =>
      obtain ⟨g1, g2⟩ := f2 rfl
      have := back_spec g1.tree g1.tidy g1.small
      rw [g2, e1] at this
      simp at this
    | false =>
      obtain rfl := f3 rfl
      exact ⟨[], false, e1, f1, (fun q => by cases q), fun _ => rfl⟩
end Go.Proofs.YtcpecilmkkmaiaaGreat.V
namespace Go.Proofs.YtcpecilmkkmaiaaGreat.V
open Go Go.RowKit
attribute [local irreducible] wr
theorem Zagt : EqOk (fun xs ys => Zsq (xs, ys, ())) (BL (fun _ => True)) := by
  refine Zagq (by have := Zl; omega) (e := fun (x y : At) => Zrg (x, y, ())) (fun xs ys => rfl) (fun n K x => rfl) (fun v _ => ?_)
  unfold Zrg Zqb
  simp only [go_sem]
theorem Zajq : EqOk (fun xs ys => Zvi (xs, ys, ())) (BL (fun _ => True)) := by
  refine Zagq (by have := Zl; omega) (e := fun (x y : Int) => some ((), ieq x y, ())) (fun xs ys => rfl) (fun n K x => rfl) (fun v _ => ?_)
  simp only [go_sem]
def NdB (x : Nd) : Prop := x.2.2.1.length ≤ 100000 ∧ x.2.2.2.2.2.1.length ≤ 100000
theorem Zajo : EqOk (fun (x y : Nd) => Zmo (x, y, ())) NdB := by
  intro x hx
  have h1 := Zagt x.2.2.1 ⟨by have := hx.1; omega, fun _ _ => trivial⟩
  have h2 := Zajq x.2.2.2.2.2.1 ⟨by have := hx.2; omega, fun _ _ => trivial⟩
  simp only at h1 h2 ⊢
  unfold Zmo Zp8
  simp only [go_sem, h1, h2]
theorem Zagr : EqOk (fun xs ys => Zsp (xs, ys, ())) (BL NdB) :=
  Zagq (by have := Zl; omega) (e := fun (x y : Nd) => Zmo (x, y, ())) (fun xs ys => rfl) (fun n K x => rfl) Zajo
def TrB (T : List Nd) : Prop := T.length ≤ 500 ∧ ∀ x ∈ T, x.2.2.1.length ≤ 20 ∧ x.2.2.2.2.2.1.length ≤ 500
theorem Good.trb {T : List Nd} (h : Good T) : TrB T := ⟨h.tree.len.2, fun x hx => ⟨(h.tree.nodeF hx).attrs, Nat.le_trans (h.tree.kids_length hx) h.tree.len.2⟩⟩
theorem Zael : TrB [] := ⟨by simp, fun x hx => by cases hx⟩
theorem TrB.bl {T : List Nd} (h : TrB T) : BL NdB T := ⟨by have := h.1; omega, fun x hx => by have := h.2 x hx; exact ⟨by omega, by omega⟩⟩
theorem Zajm {T : List Nd} (h : TrB T) : Zjl ((T, ()), (T, ()), ()) = some ((), true, ()) := by
  have := Zagr T h.bl
  simp only at this
  unfold Zjl Zp6
  simp only [go_sem, this]
def Zia (_ : At) (m : Int) : At × Int := ((mt m, mt (m + 1), ()), m + 2)
def mkInt (_ : Int) (m : Int) : Int × Int := (m, m + 1)
def Zu8 (x : Nd) (m : Int) : Nd × Int :=
  ((m, mt (m + 1), (Zan Zia x.2.2.1 (m + 2)).1, mt (Zan Zia x.2.2.1 (m + 2)).2, (Zan Zia x.2.2.1 (m + 2)).2 + 1, (Zan mkInt x.2.2.2.2.2.1 ((Zan Zia x.2.2.1 (m + 2)).2 + 2)).1, ()), (Zan mkInt x.2.2.2.2.2.1 ((Zan Zia x.2.2.1 (m + 2)).2 + 2)).2)
theorem Z6f (x : At) (m : Int) (_ : True) (_ : 0 ≤ m) (_ : m + ((2 : Nat) : Int) ≤ 1099511627776) : m ≤ (Zia x m).2 ∧ (Zia x m).2 ≤ m + ((2 : Nat) : Int) := by
  simp only [Zia]; omega
theorem Zac5 (x : Int) (m : Int) (_ : True) (_ : 0 ≤ m) (_ : m + ((1 : Nat) : Int) ≤ 1099511627776) : m ≤ (mkInt x m).2 ∧ (mkInt x m).2 ≤ m + ((1 : Nat) : Int) := by
  simp only [mkInt]; omega
theorem Zad6 {l : List At} {m : Int} (h0 : 0 ≤ m) (h1 : m + 2 * l.length ≤ 1099511627776) : m ≤ (Zan Zia l m).2 ∧ (Zan Zia l m).2 ≤ m + 2 * l.length := by
  have := Znz Z6f l m (fun _ _ => trivial) h0 (by rw [Zbl]; omega)
  rw [Zbl] at this; omega
theorem ints_le {l : List Int} {m : Int} (h0 : 0 ≤ m) (h1 : m + l.length ≤ 1099511627776) : m ≤ (Zan mkInt l m).2 ∧ (Zan mkInt l m).2 ≤ m + l.length := by
  have := Znz Zac5 l m (fun _ _ => trivial) h0 (by rw [Zbl]; omega)
  rw [Zbl] at this; omega
theorem Z6i : Zs0 (Zcs fuel) Zia (fun _ => True) (fun _ => 2) := by
  refine ⟨fun n K m i xs hi => ?_, fun n K m i xs x hx hl _ h0 h1 => ?_⟩
  · rw [Zcs]
    simp (disch := omega) only [go_sem]
  · have hi := Zt hx
    rw [Zcs]
    simp (disch := omega) only [go_sem, hx, Zpz, List.getElem?_set_self, List.set_set]
    simp only [Zia, Int.add_assoc]
    rfl
theorem Z91 : Zs0 (Zdh fuel) mkInt (fun _ => True) (fun _ => 1) := by
  refine ⟨fun n K m i xs hi => ?_, fun n K m i xs x hx hl _ h0 h1 => ?_⟩
  · rw [Zdh]
    simp (disch := omega) only [go_sem]
  · have hi := Zt hx
    rw [Zdh]
    simp (disch := omega) only [go_sem, hx]
    simp only [mkInt]
    rfl
theorem Z92 {l : List At} {m : Int} (h0 : 0 ≤ m) (hl : l.length ≤ 1000000) (h1 : m + 2 * l.length ≤ 1099511627776) : Zi9 (l, m, ()) = some (((Zan Zia l m).1, ()), (Zan Zia l m).2, ()) := by
  unfold Zi9 Zj2
  have := Zn0 Z6i Z6f (fun v0 => some ((v0.2.2.1, ()), v0.1.1, ())) l [] m fuel (fun _ _ => trivial) h0 (by rw [Zbl]; omega) (by simp only [List.nil_append]; omega) (by have := Zl; omega)
  simpa using this
theorem Zac7 {l : List Int} {m : Int} (h0 : 0 ≤ m) (hl : l.length ≤ 1000000) (h1 : m + l.length ≤ 1099511627776) : Zk2 (l, m, ()) = some (((Zan mkInt l m).1, ()), (Zan mkInt l m).2, ()) := by
  unfold Zk2 Zlx
  have := Zn0 Z91 Zac5 (fun v0 => some ((v0.2.2.1, ()), v0.1.1, ())) l [] m fuel (fun _ _ => trivial) h0 (by rw [Zbl]; omega) (by simp only [List.nil_append]; omega) (by have := Zl; omega)
  simpa using this
def ndW (x : Nd) : Nat := 4 + 2 * x.2.2.1.length + x.2.2.2.2.2.1.length
theorem Z6e (x : Nd) (m : Int) (_ : NdB x) (h0 : 0 ≤ m) (h1 : m + ndW x ≤ 1099511627776) : m ≤ (Zu8 x m).2 ∧ (Zu8 x m).2 ≤ m + ndW x := by
  unfold ndW at *
  have e1 := Zad6 (l := x.2.2.1) (m := m + 2) (by omega) (by omega)
  have e2 := ints_le (l := x.2.2.2.2.2.1) (m := (Zan Zia x.2.2.1 (m + 2)).2 + 2) (by omega) (by omega)
  simp only [Zu8]
  omega
theorem Z6h : Zs0 (Zcr fuel) Zu8 NdB ndW := by
  refine ⟨fun n K m i xs hi => ?_, fun n K m i xs x hx hl hB h0 h1 => ?_⟩
  · rw [Zcr]
    simp (disch := omega) only [go_sem]
  · have hi := Zt hx
    obtain ⟨b1, b2⟩ := hB
    unfold ndW at h1
    have a1 := Zad6 (l := x.2.2.1) (m := m + 2) (by omega) (by omega)
    have e1 := Z92 (l := x.2.2.1) (m := m + 2) (by omega) (by omega) (by omega)
    have e2 := Zac7 (l := x.2.2.2.2.2.1) (m := (Zan Zia x.2.2.1 (m + 2)).2 + 2) (by omega) (by omega) (by omega)
    have q1 : m + 1 + 1 = m + 2 := by omega
    have q2 : (Zan Zia x.2.2.1 (m + 2)).2 + 1 + 1 = (Zan Zia x.2.2.1 (m + 2)).2 + 2 := by omega
    rw [Zcr]
    simp (disch := omega) only [go_sem, hx, Zpz, List.getElem?_set_self, List.set_set, q1, q2, e1, e2]
    simp only [Zu8]
    rfl
theorem TrB.sum {T : List Nd} (h : TrB T) : sumL ndW T ≤ 300000 := by
  have h1 := h.1
  have := Zahh (w := ndW) (c := 544) T (fun x hx => by have := h.2 x hx; unfold ndW; omega)
  have : 544 * T.length ≤ 544 * 500 := Nat.mul_le_mul_left _ h1
  omega
theorem Zac6 {T : List Nd} (h : TrB T) : Zk0 ((T, ()), 1, ()) = some ((((Zan Zu8 T 1).1, ()), ()), (Zan Zu8 T 1).2, ()) := by
  have hs := h.sum
  have h1 := h.1
  unfold Zk0 Zlu Zn6 Zj1
  have := Zn0 Z6h Z6e (fun v0 => some ((v0.2.2.1, ()), v0.1.1, ())) T [] 1 fuel (fun x hx => h.bl.2 x hx) (by omega) (by omega) (by simp only [List.nil_append]; omega) (by have := Zl; omega)
  simp only [List.nil_append, List.length_nil, Int.cast_ofNat_Int] at this
  simp only [go_sem, this]
theorem Z3o {T : List Nd} (h : TrB T) : 1 ≤ (Zan Zu8 T 1).2 ∧ (Zan Zu8 T 1).2 ≤ 300001 := by
  have hs := h.sum
  have := Znz Z6e T 1 (fun x hx => h.bl.2 x hx) (by omega) (by omega)
  omega
theorem Z7u : Z8d (Zcu fuel) Zia (fun _ => True) (fun _ => 2) := by
  refine ⟨fun n K m i xs hi => ?_, fun n K m i xs x hx hl _ h0 h1 => ?_⟩
  · rw [Zcu]
    simp (disch := omega) only [go_sem]
  · have hi := Zt hx
    rw [Zcu]
    simp only [Zia] at hx ⊢
    simp (disch := omega) only [go_sem, hx, Zpz]
    simp only [Int.add_assoc]
    rfl
theorem Zabm : Z8d (Zdi fuel) mkInt (fun _ => True) (fun _ => 1) := by
  refine ⟨fun n K m i xs hi => ?_, fun n K m i xs x hx hl _ h0 h1 => ?_⟩
  · rw [Zdi]
    simp (disch := omega) only [go_sem]
  · have hi := Zt hx
    rw [Zdi]
    simp only [mkInt] at hx ⊢
    simp (disch := omega) only [go_sem, hx]
    rfl
theorem Zabn {l : List At} {m : Int} (h0 : 0 ≤ m) (hl : l.length ≤ 1000000) (h1 : m + 2 * l.length ≤ 1099511627776) : Zja ((Zan Zia l m).1, m, ()) = some ((), (Zan Zia l m).2, ()) := by
  unfold Zja Zj4
  have := Zxt Z7u Z6f (fun v0 => some ((), v0.1.1, ())) l [] m fuel (fun _ _ => trivial) h0 (by rw [Zbl]; omega) (by simp only [List.nil_append]; omega) (by have := Zl; omega)
  simpa using this
theorem Zads {l : List Int} {m : Int} (h0 : 0 ≤ m) (hl : l.length ≤ 1000000) (h1 : m + l.length ≤ 1099511627776) : Zk4 ((Zan mkInt l m).1, m, ()) = some ((), (Zan mkInt l m).2, ()) := by
  unfold Zk4 Zl0
  have := Zxt Zabm Zac5 (fun v0 => some ((), v0.1.1, ())) l [] m fuel (fun _ _ => trivial) h0 (by rw [Zbl]; omega) (by simp only [List.nil_append]; omega) (by have := Zl; omega)
  simpa using this
theorem Z7t : Z8d (Zct fuel) Zu8 NdB ndW := by
  refine ⟨fun n K m i xs hi => ?_, fun n K m i xs x hx hl hB h0 h1 => ?_⟩
  · rw [Zct]
    simp (disch := omega) only [go_sem]
  · have hi := Zt hx
    obtain ⟨b1, b2⟩ := hB
    unfold ndW at h1
    have a1 := Zad6 (l := x.2.2.1) (m := m + 2) (by omega) (by omega)
    have a2 := ints_le (l := x.2.2.2.2.2.1) (m := (Zan Zia x.2.2.1 (m + 2)).2 + 2) (by omega) (by omega)
    have e1 := Zabn (l := x.2.2.1) (m := m + 2) (by omega) (by omega) (by omega)
    have e2 := Zads (l := x.2.2.2.2.2.1) (m := (Zan Zia x.2.2.1 (m + 2)).2 + 2) (by omega) (by omega) (by omega)
    have q1 : m + 1 + 1 = m + 2 := by omega
    have q2 : (Zan Zia x.2.2.1 (m + 2)).2 + 1 + 1 = (Zan Zia x.2.2.1 (m + 2)).2 + 2 := by omega
    rw [Zct]
    simp only [Zu8] at hx ⊢
    simp (disch := omega) only [go_sem, hx, Zpz, q1, q2, e1, e2]
    rfl
theorem Zadr {T : List Nd} (h : TrB T) : Zib (((Zan Zu8 T 1).1, ()), 1, ()) = some ((), (Zan Zu8 T 1).2, ()) := by
  have hs := h.sum
  have h1 := h.1
  have hle := Z3o h
  unfold Zib Zlz Zn7 Zj3
  have := Zxt Z7t Z6e (fun v0 => some ((), v0.1.1, ())) T [] 1 fuel (fun x hx => h.bl.2 x hx) (by omega) (by omega) (by simp only [List.nil_append]; omega) (by have := Zl; omega)
  simp only [List.nil_append, List.length_nil, Int.cast_ofNat_Int] at this
  simp (disch := omega) only [go_sem, this]
end Go.Proofs.YtcpecilmkkmaiaaGreat.V
namespace Go.Proofs.YtcpecilmkkmaiaaGreat.V
open Go Go.RowKit
attribute [local irreducible] wr
theorem get_both {a : Ar} (h : arSmall a) (u : ByteArray) : ∃ (t : List Nd) (c : Int), Zhv ((a.1, (a.2.1.1, a.2.1.2.1, ()), (a.2.2.1.1, a.2.2.1.2.1, a.2.2.1.2.2.1, ()), a.2.2.2.1, ()), u, ()) = some ((), (t, ()), c, ()) ∧ Zfe ((a.1, (a.2.1.1, a.2.1.2.1, ()), (a.2.2.1.1, a.2.2.1.2.1, a.2.2.1.2.2.1, ()), a.2.2.2.1, ()), u, ()) = some ((), (t, ()), c, ()) ∧ TrB t := by
  obtain ⟨b, o1, o2⟩ := archiveOk h.1
  have u2 := upCode o2
  unfold Zhv Zil Zfe Zit
  cases b
  · exact ⟨[], 1, by simp only [go_sem, o1], by simp (disch := omega) only [go_sem, u2, show codeF false a.1 = 1 from rfl], Zael⟩
  · cases hu : a.1
    · rw [hu] at o1 o2 u2
      exact ⟨[], 2, by simp only [go_sem, o1], by simp (disch := omega) only [go_sem, u2, show codeF true false = 2 from rfl], Zael⟩
    · rw [hu] at o1 o2 u2
      have f1 := spec_find (u := u) h.2
      have f2 := impl_find (u := u) h.2
      have e0 : codeF true true = 0 := rfl
      cases hf : (findF u a.2.2.2.1).2
      · exact ⟨[], 6, by simp only [go_sem, o1, f1, hf], by simp (disch := omega) only [go_sem, u2, e0, f2, hf], Zael⟩
      · obtain ⟨t, ok, r1, r2, r3, r4⟩ := Z8j (Zmu (findF u a.2.2.2.1).1)
        cases ok
        · exact ⟨[], 1, by simp only [go_sem, o1, f1, hf, r1], by simp (disch := omega) only [go_sem, u2, e0, f2, hf, r2], Zael⟩
        · exact ⟨t, 0, by simp only [go_sem, o1, f1, hf, r1], by simp (disch := omega) only [go_sem, u2, e0, f2, hf, r2], (r3 rfl).trb⟩
theorem Zq0 (x0 : Ar) (x1 : ByteArray) (h0 : Bnd S30 x0) (h1 : Bnd .str x1) : Zej (x0, x1, ()) = some ((), true, ()) := by
  unfold Zej Zdr
  by_cases hu : 1048576 < x1.size
  · simp (disch := omega) only [go_sem]
  obtain ⟨s, e1, e2⟩ := szArchive x0 1048576 (bnd_ar h0) (by omega) (by omega)
  simp only at e1
  rcases e2 with e2 | ⟨e2, e3⟩
  · simp (disch := omega) only [go_sem, e1]
  have hw : arW x0 ≤ 1048576 := by omega
  have hs : Z0o x0.2.1 := Zaju (by simp only [arW] at hw; omega)
  have hl : x0.2.2.2.1.length ≤ 1048577 := by simp only [arW, wL] at hw; omega
  obtain ⟨t, c, f1, f2, g1⟩ := get_both (a := x0) ⟨hs, hl⟩ x1
  have ta := toArchive hw
  have q := eqArchive (a := x0) (by have := hs.1; omega) (by have := hs.2; omega) (by omega)
  have q2 := Zajm g1
  have m1 := Zagj (a := x0) (m := 1) hs hl (by omega) (by omega)
  have m2 := Zac6 g1
  have l1 := mkAr_le (a := x0) (m := 1) hs hl (by omega) (by omega)
  have l2 := Z3o g1
  have h2 := Zadr g1
  simp (disch := omega) only [go_sem, e1, ta, f1, f2, q, q2, m1, m2, h2]
end Go.Proofs.YtcpecilmkkmaiaaGreat.V
