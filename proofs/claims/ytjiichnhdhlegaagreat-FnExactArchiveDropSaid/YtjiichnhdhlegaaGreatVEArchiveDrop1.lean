/- The functions that FnExactArchiveDrop reaches, each as a plain function, and the plain law about them: the statement answers true at every input. No condition beyond those that stand in each theorem. -/
import Derived.Test.YtjiichnhdhlegaaGreatVEArchiveDrop0
set_option linter.unusedVariables false
set_option linter.unusedSimpArgs false
noncomputable section
namespace Go.Proofs.YtjiichnhdhlegaaGreat.V
open Go Go.RowKit
attribute [local irreducible] wr
def urlFrom (s : ByteArray) : Nat → Nat → Bool
  | 0, _ => true
  | d + 1, i => if bt s (i : Int) < 33 then false else if 126 < bt s (i : Int) then false else urlFrom s d (i + 1)
def urlGood (s : ByteArray) : Bool := decide (1 ≤ (s.size : Int) ∧ (s.size : Int) ≤ 60) && urlFrom s s.size 0
theorem url_spec0 {K} (s : ByteArray) (hn : s.size ≤ 140737488355328) : ∀ (d i m : Nat), i + d = s.size → d < m → spec_UrlOk_k0 fuel m K ((s, (i : Int), ()), (), ()) = if urlFrom s d i = true then K ((), (), ()) else some ((), false, ())
  | 0, i, m, h, hm => by
    obtain ⟨m, rfl⟩ : ∃ q, m = q + 1 := ⟨m - 1, by omega⟩
    rw [spec_UrlOk_k0]
    simp only
    rw [tb_neg (ilt_f (by simp only [slen]; omega)), urlFrom, if_pos rfl]
  | d + 1, i, m, h, hm => by
    obtain ⟨m, rfl⟩ : ∃ q, m = q + 1 := ⟨m - 1, by omega⟩
    rw [spec_UrlOk_k0, urlFrom]
    simp only
    rw [tb_pos (ilt_t (by simp only [slen]; omega)), chk_pos (by simp only [slen]; omega)]
    by_cases h1 : bt s (i : Int) < 33
    · rw [tb_pos (ilt_t h1), if_pos h1, if_neg (by decide)]
    · rw [tb_neg (ilt_f (by omega)), if_neg h1, chk_pos (by simp only [slen]; omega)]
      by_cases h2 : 126 < bt s (i : Int)
      · rw [tb_pos (ilt_t h2), if_pos h2, if_neg (by decide)]
      · rw [tb_neg (ilt_f (by omega)), if_neg h2, wr_succ (by omega)]
        exact url_spec0 s hn d (i + 1) m (by omega) (by omega)
theorem url_impl0 {K} (s : ByteArray) (hn : s.size ≤ 140737488355328) : ∀ (d i m : Nat), i + d = s.size → d < m → impl_UrlOk_k0 fuel m K ((s, (i : Int), ()), (), ()) = if urlFrom s d i = true then K ((s, ()), (), ()) else some ((), false, ())
  | 0, i, m, h, hm => by
    obtain ⟨m, rfl⟩ : ∃ q, m = q + 1 := ⟨m - 1, by omega⟩
    rw [impl_UrlOk_k0]
    simp only
    rw [tb_neg (ilt_f (by simp only [slen]; omega)), urlFrom, if_pos rfl]
  | d + 1, i, m, h, hm => by
    obtain ⟨m, rfl⟩ : ∃ q, m = q + 1 := ⟨m - 1, by omega⟩
    rw [impl_UrlOk_k0, urlFrom]
    simp only
    rw [tb_pos (ilt_t (by simp only [slen]; omega)), chk_pos (by simp only [slen]; omega)]
    by_cases h1 : bt s (i : Int) < 33
    · rw [tb_pos (ilt_t h1), if_pos h1, if_neg (by decide)]
    · rw [tb_neg (ilt_f (by omega)), if_neg h1, chk_pos (by simp only [slen]; omega)]
      by_cases h2 : 126 < bt s (i : Int)
      · rw [tb_pos (ilt_t h2), if_pos h2, if_neg (by decide)]
      · rw [tb_neg (ilt_f (by omega)), if_neg h2, wr_succ (by omega)]
        exact url_impl0 s hn d (i + 1) m (by omega) (by omega)
theorem spec_url (s : ByteArray) (hn : s.size ≤ 140737488351232) : spec_UrlOk (s, ()) = some ((), urlGood s, ()) := by
  unfold spec_UrlOk spec_UrlOk_k urlGood
  simp only
  rw [show ((slen s : Nat) : Int) = (s.size : Int) from rfl, obind_eq (spec_in ..)]
  simp only
  by_cases h : 1 ≤ (s.size : Int) ∧ (s.size : Int) ≤ 60
  · rw [decide_eq_true h, tb_nt]
    refine (url_spec0 s (by omega) s.size 0 fuel (by omega) (by have := fuel_gt; omega)).trans ?_
    cases urlFrom s s.size 0 <;> rfl
  · rw [decide_eq_false h, tb_nf]; rfl
theorem impl_url (s : ByteArray) (hn : s.size ≤ 140737488351232) : impl_UrlOk (s, ()) = some ((), urlGood s, ()) := by
  unfold impl_UrlOk impl_UrlOk_k urlGood
  refine (url_impl0 s (by omega) s.size 0 fuel (by omega) (by have := fuel_gt; omega)).trans ?_
  simp only
  cases urlFrom s s.size 0
  · simp
  · rw [if_pos rfl, obind_eq (impl_in ..), Bool.and_true]
    rfl
def textForm (s : ByteArray) : List Int := numForm s.size ++ bytesOf s
theorem textForm_length (s : ByteArray) : (textForm s).length ≤ s.size + 10 := by
  have := numForm_length s.size
  simp [textForm, bytes_length]; omega
theorem spec_text {s : ByteArray} (hn : s.size ≤ 140737488355000) : spec_PutText (s, ()) = some ((), textForm s, ()) := by
  have := numForm_length s.size
  have h : spec_PutNum (((slen s : Nat) : Int), ()) = some ((), numForm s.size, ()) := spec_num (x := s.size) (by omega)
  unfold spec_PutText spec_PutText_k
  simp only
  rw [obind_eq h]
  simp only
  rw [chk_pos (by simp only [plus, llen, bytes_length]; omega)]
  rfl
theorem impl_text {s : ByteArray} (acc : List Int) (hn : s.size + acc.length ≤ 140737488355000) : impl_putText (acc, s, ()) = some ((), acc ++ textForm s, ()) := by
  have := numForm_length s.size
  have h : impl_putNum (acc, ((slen s : Nat) : Int), ()) = some ((), acc ++ numForm s.size, ()) := impl_num (x := s.size) acc (by omega) (by omega)
  unfold impl_putText impl_putText_k
  simp only
  rw [obind_eq h]
  simp only
  rw [chk_pos (by simp only [plus, llen, List.length_append, bytes_length]; omega)]
  simp only [textForm, lapp, List.append_assoc]
def recForm (kind : Nat) (url body : ByteArray) : List Int := numForm kind ++ textForm url ++ (if kind = 1 then textForm body else [])
def recRight (kind : Int) (url body : ByteArray) : Bool := decide (kind = 1 ∨ kind = 2) && (urlGood url && !(decide (kind = 2) && !(seq body ⟨#[]⟩)))
def recPacked (kind : Int) (url body : ByteArray) : List Int × Bool := if recRight kind url body = true then (recForm kind.toNat url body, true) else ([], false)
theorem spec_rec (kind : Int) (url body : ByteArray) (hn : url.size + body.size ≤ 140737488350000) : spec_RecordPack ((kind, url, body, ()), ()) = some ((), (recPacked kind url body).1, (recPacked kind url body).2, ()) := by
  have hu := spec_url url (by omega)
  have t1 := spec_text (s := url) (by omega)
  have t2 := spec_text (s := body) (by omega)
  have l1 := numForm_length 1
  have l2 := numForm_length 2
  have l3 := textForm_length url
  have l4 := textForm_length body
  have n1 : spec_PutNum (1, ()) = some ((), numForm 1, ()) := spec_num (x := 1) (by omega)
  have n2 : spec_PutNum (2, ()) = some ((), numForm 2, ()) := spec_num (x := 2) (by omega)
  unfold spec_RecordPack spec_RecordPack_k recPacked recRight
  simp only
  by_cases h1 : kind = 1
  · subst h1
    rw [ieq_self, tb_nt, obind_eq hu]
    simp only
    cases hg : urlGood url
    · rw [tb_nf]; simp
    · rw [tb_nt, ieq_f (by decide), tb_f, obind_eq n1]
      simp only
      rw [obind_eq t1]
      simp only
      rw [chk_pos (by simp only [plus, llen]; omega), tb_t, obind_eq t2]
      simp only
      rw [chk_pos (by simp only [plus, llen, lapp, List.length_append]; omega)]
      simp [recForm, lapp]
  · rw [ieq_f h1, tb_nf]
    by_cases h2 : kind = 2
    · subst h2
      rw [ieq_self, tb_nt, obind_eq hu]
      simp only
      cases hg : urlGood url
      · rw [tb_nf]; simp
      · rw [tb_nt, tb_t]
        cases hq : seq body ⟨#[]⟩
        · rw [tb_nf]; simp
        · rw [tb_nt, obind_eq n2]
          simp only
          rw [obind_eq t1]
          simp only
          rw [chk_pos (by simp only [plus, llen]; omega), tb_f]
          simp [recForm, lapp]
    · rw [ieq_f h2, tb_nf]; simp [h1, h2]
theorem impl_rec (kind : Int) (url body : ByteArray) (hn : url.size + body.size ≤ 140737488350000) : impl_RecordPack ((kind, url, body, ()), ()) = some ((), (recPacked kind url body).1, (recPacked kind url body).2, ()) := by
  have hu := impl_url url (by omega)
  have l1 := numForm_length 1
  have l2 := numForm_length 2
  have l3 := textForm_length url
  have l4 := textForm_length body
  have n1 : impl_putNum ([], 1, ()) = some ((), [] ++ numForm 1, ()) := impl_num (x := 1) [] (by omega) (by simp)
  have n2 : impl_putNum ([], 2, ()) = some ((), [] ++ numForm 2, ()) := impl_num (x := 2) [] (by omega) (by simp)
  unfold impl_RecordPack impl_RecordPack_k recPacked recRight
  simp only
  rw [obind_eq (impl_in ..)]
  simp only
  by_cases h1 : kind = 1
  · subst h1
    rw [decide_eq_true (by omega), tb_nt, obind_eq hu]
    simp only
    cases hg : urlGood url
    · rw [tb_nf]; simp
    · rw [tb_nt, ieq_f (by decide), tb_f, obind_eq n1]
      simp only
      rw [obind_eq (impl_text _ (by simp; omega))]
      simp only
      rw [ieq_self, tb_t, obind_eq (impl_text _ (by simp; omega))]
      simp [recForm]
  · by_cases h2 : kind = 2
    · subst h2
      rw [decide_eq_true (by omega), tb_nt, obind_eq hu]
      simp only
      cases hg : urlGood url
      · rw [tb_nf]; simp
      · rw [tb_nt, ieq_self, tb_t]
        cases hq : seq body ⟨#[]⟩
        · rw [tb_nf]; simp
        · rw [tb_nt, obind_eq n2]
          simp only
          rw [obind_eq (impl_text _ (by simp; omega))]
          simp only
          rw [ieq_f (by decide), tb_f]
          simp [recForm]
    · rw [decide_eq_false (by omega), tb_nf]; simp [h1, h2]
end Go.Proofs.YtjiichnhdhlegaaGreat.V
namespace Go.Proofs.YtjiichnhdhlegaaGreat.V
open Go Go.RowKit
abbrev Hd := Int × Int × Int × Unit
def headRight (a b c : Int) : Bool := decide ((1 ≤ a ∧ a ≤ 1000000000) ∧ (0 ≤ b ∧ b ≤ 1) ∧ (0 ≤ c ∧ c ≤ 4096))
theorem spec_right (a b c : Int) : spec_l16Right ((a, b, c, ()), ()) = some ((), headRight a b c, ()) := by
  simp only [spec_l16Right, spec_l16Right_k, spec_in, obind_some]
  by_cases h1 : 1 ≤ a ∧ a ≤ 1000000000
  · rw [tb_pos (by simpa using h1)]
    by_cases h2 : 0 ≤ b ∧ b ≤ 1
    · rw [tb_pos (by simpa using h2)]; simp [headRight, h1, h2]
    · rw [tb_neg (by simpa using h2)]; simp [headRight, h2]
  · rw [tb_neg (by simpa using h1)]; simp [headRight, h1]
theorem impl_right (a b c : Int) : impl_headOk ((a, b, c, ()), ()) = some ((), headRight a b c, ()) := by
  simp only [impl_headOk, impl_headOk_k, impl_isArea, impl_isArea_k, impl_in, obind_some]
  by_cases h1 : 1 ≤ a ∧ a ≤ 1000000000
  · rw [tb_pos (by simpa using h1)]
    by_cases hb : b = 0
    · rw [tb_pos (ieq_t hb), obind_some, tb_t]; simp [headRight, h1, hb]
    · rw [tb_neg (ieq_f hb), obind_some]
      by_cases hb1 : b = 1
      · rw [ieq_t hb1, tb_t]; simp [headRight, h1, hb1]
      · rw [ieq_f hb1, tb_f]
        have : ¬ (0 ≤ b ∧ b ≤ 1) := by omega
        simp [headRight, this]
  · rw [tb_neg (by simpa using h1)]; simp [headRight, h1]
def headBytes (a b c : Int) : List Int := numForm a.toNat ++ numForm b.toNat ++ numForm c.toNat
theorem headBytes_length (a b c : Int) : (headBytes a b c).length ≤ 30 := by
  have h1 := numForm_length a.toNat
  have h2 := numForm_length b.toNat
  have h3 := numForm_length c.toNat
  simp [headBytes]; omega
def headText (a b c : Int) : ByteArray := strOf (headBytes a b c ++ List.replicate (64 - (headBytes a b c).length) 0)
theorem pad {K : Unit × Unit × List Int × Unit → Option (Unit × ByteArray × Bool × Unit)} : ∀ (d : Nat) (acc : List Int) (m : Nat), acc.length + d = 64 → d < m → spec_HeadPack_k0 fuel m K ((), (), acc, ()) = K ((), (), acc ++ List.replicate d 0, ()) := by
  intro d
  induction d with
  | zero =>
    intro acc m h hm
    obtain ⟨m, rfl⟩ : ∃ k, m = k + 1 := ⟨m - 1, by omega⟩
    rw [spec_HeadPack_k0]
    simp only
    rw [tb_neg (ilt_f (by simp only [llen]; omega))]
    simp
  | succ d ih =>
    intro acc m h hm
    obtain ⟨m, rfl⟩ : ∃ k, m = k + 1 := ⟨m - 1, by omega⟩
    rw [spec_HeadPack_k0]
    simp only
    rw [tb_pos (ilt_t (by simp only [llen]; omega)), chk_pos (by simp [plus, llen]; omega)]
    have := ih (acc ++ [0]) m (by simp; omega) (by omega)
    rw [List.append_assoc, List.singleton_append, ← List.replicate_succ] at this
    exact this
theorem spec_head {a b c : Int} (h : headRight a b c = true) : spec_HeadPack ((a, b, c, ()), ()) = some ((), headText a b c, true, ()) := by
  have hr : (1 ≤ a ∧ a ≤ 1000000000) ∧ (0 ≤ b ∧ b ≤ 1) ∧ (0 ≤ c ∧ c ≤ 4096) := by simpa [headRight] using h
  have ha := spec_num (x := a.toNat) (by omega)
  have hb := spec_num (x := b.toNat) (by omega)
  have hc := spec_num (x := c.toNat) (by omega)
  rw [Int.toNat_of_nonneg (by omega)] at ha hb hc
  have h1 := numForm_length a.toNat
  have h2 := numForm_length b.toNat
  have h3 := numForm_length c.toNat
  have hl := headBytes_length a b c
  simp only [spec_HeadPack, spec_HeadPack_k, spec_right, obind_some, h, tb_nt, ha, hb, hc]
  rw [chk_pos (by simp only [plus, llen]; omega), chk_pos (by simp only [plus, llen, lapp, List.length_append]; omega)]
  exact pad (64 - (headBytes a b c).length) (headBytes a b c) fuel (by omega) (by unfold fuel; omega)
theorem spec_head_bad {a b c : Int} (h : headRight a b c = false) : spec_HeadPack ((a, b, c, ()), ()) = some ((), ⟨#[]⟩, false, ()) := by
  simp only [spec_HeadPack, spec_HeadPack_k, spec_right, obind_some, h, tb_nf]
theorem zeros (n : Nat) : (⟨(Lib.repeatL [0] n).toArray⟩ : ByteArray) = strOf (List.replicate n 0) := by
  apply ByteArray.ext
  show (Lib.repeatL [0] n).toArray = ((List.replicate n (0 : Int)).map fun n => UInt8.ofNat n.toNat).toArray
  congr 1
  induction n with
  | zero => rfl
  | succ n ih => simp only [Lib.repeatL, ih, List.replicate_succ, List.map_cons]; rfl
theorem repeat0 {n : Nat} (h : n ≤ 140737488355328) : strings_Repeat ((⟨#[0]⟩ : ByteArray), (n : Int), ()) = some ((), strOf (List.replicate n 0), ()) := by
  show repeatF _ = _
  unfold repeatF
  rw [if_pos ⟨by show (0 : Int) ≤ (n : Int); omega, by show (n : Int) ≤ 9223372036854775807; omega, by show ((1 : Nat) : Int) * (n : Int) ≤ _; omega⟩]
  rw [show (((⟨#[0]⟩ : ByteArray), (n : Int), ()) : ByteArray × Int × Unit).2.1.toNat = n by simp]
  exact congrArg (fun x => some ((), x, ())) (zeros n)
theorem impl_head {a b c : Int} (h : headRight a b c = true) : impl_HeadPack ((a, b, c, ()), ()) = some ((), headText a b c, true, ()) := by
  have hr : (1 ≤ a ∧ a ≤ 1000000000) ∧ (0 ≤ b ∧ b ≤ 1) ∧ (0 ≤ c ∧ c ≤ 4096) := by simpa [headRight] using h
  have h1 := numForm_length a.toNat
  have h2 := numForm_length b.toNat
  have h3 := numForm_length c.toNat
  have hl := headBytes_length a b c
  have ha := impl_num (x := a.toNat) [] (by omega) (by simp)
  have hb := impl_num (x := b.toNat) ([] ++ numForm a.toNat) (by omega) (by simp; omega)
  have hc := impl_num (x := c.toNat) ([] ++ numForm a.toNat ++ numForm b.toNat) (by omega) (by simp; omega)
  rw [Int.toNat_of_nonneg (by omega)] at ha hb hc
  rw [show ([] ++ numForm a.toNat ++ numForm b.toNat ++ numForm c.toNat) = headBytes a b c by simp [headBytes]] at hc
  have hw : wr .i64 (64 - ((headBytes a b c).length : Int)) = ((64 - (headBytes a b c).length : Nat) : Int) := by
    rw [wr64 (by omega) (by omega)]; omega
  simp only [impl_HeadPack, impl_HeadPack_k, impl_right, obind_some, h, tb_nt, ha, hb, hc]
  simp only [llen, hw]
  rw [obind_eq (repeat0 (by omega))]
  simp only
  rw [chk_pos (by simp only [plus, slen, slim, strOf_size, List.length_replicate]; omega)]
  simp only [sapp, strOf_append]
  rfl
theorem impl_head_bad {a b c : Int} (h : headRight a b c = false) : impl_HeadPack ((a, b, c, ()), ()) = some ((), ⟨#[]⟩, false, ()) := by
  simp only [impl_HeadPack, impl_HeadPack_k, impl_right, obind_some, h, tb_nf]
def secOk (v : ByteArray) : Bool := ieq ((slen v : Nat) : Int) 64
def putOk (v : Pt) : Bool := decide (0 ≤ v.1 ∧ v.1 ≤ 129) && ieq ((slen v.2.1 : Nat) : Int) 64
def diskOk (d : Dk) : Bool := ieq ((llen d.1 : Nat) : Int) 130 && (ile ((llen d.2.1 : Nat) : Int) 200 && (d.1.all secOk && d.2.1.all putOk))
theorem spec_sector (x : Int) : spec_l15Sector (x, ()) = some ((), decide (0 ≤ x ∧ x ≤ 129), ()) := by
  simp only [spec_l15Sector, spec_l15Sector_k, spec_in, obind_some]
theorem impl_sector (x : Int) : impl_isSector (x, ()) = some ((), decide (0 ≤ x ∧ x ≤ 129), ()) := by
  simp only [impl_isSector, impl_isSector_k, impl_in, obind_some]
theorem spec_ok0 {K} (d : Dk) (hl : d.1.length ≤ 140737488351232) : spec_DiskOk_k0 fuel fuel K ((0, ()), ((d.1, d.2.1, ()), ()), ()) = if d.1.all secOk = true then K ((), ((d.1, d.2.1, ()), ()), ()) else some ((), false, ()) := by
  refine all_loop (k := fun n s => spec_DiskOk_k0 fuel n K s) (fun i => (((i : Int), ()), ((d.1, d.2.1, ()), ()), ())) _ _ secOk d.1 (fun n => ?_) (fun n i x hx => ?_) d.1 [] fuel rfl (by have := fuel_gt; omega)
  · rw [spec_DiskOk_k0]
    simp only
    rw [tb_neg (ilt_f (by simp only [llen]; omega))]
  · have hi := lt_of_get hx
    rw [spec_DiskOk_k0]
    simp only
    rw [tb_pos (ilt_t (by simp only [llen]; omega)), chk_pos (by omega), obind_eq (at_some hx), wr_succ (by omega)]
    show tb (bnot (secOk x)) _ _ = _
    cases secOk x <;> rfl
theorem spec_ok2 {K} (d : Dk) (hl : d.2.1.length ≤ 140737488351232) : spec_DiskOk_k2 fuel fuel K ((0, ()), ((d.1, d.2.1, ()), ()), ()) = if d.2.1.all putOk = true then K ((), (), ()) else some ((), false, ()) := by
  refine all_loop (k := fun n s => spec_DiskOk_k2 fuel n K s) (fun i => (((i : Int), ()), ((d.1, d.2.1, ()), ()), ())) _ _ putOk d.2.1 (fun n => ?_) (fun n i x hx => ?_) d.2.1 [] fuel rfl (by have := fuel_gt; omega)
  · rw [spec_DiskOk_k2]
    simp only
    rw [tb_neg (ilt_f (by simp only [llen]; omega))]
  · have hi := lt_of_get hx
    rw [spec_DiskOk_k2]
    simp only
    rw [tb_pos (ilt_t (by simp only [llen]; omega)), chk_pos (by omega), obind_eq (at_some hx), obind_eq (spec_sector _), chk_pos (by omega), obind_eq (at_some hx), wr_succ (by omega)]
    rw [show putOk x = (decide (0 ≤ x.1 ∧ x.1 ≤ 129) && ieq ((slen x.2.1 : Nat) : Int) 64) from rfl]
    simp only
    cases decide (0 ≤ x.1 ∧ x.1 ≤ 129)
    · rfl
    · rw [tb_nt]
      cases ieq ((slen x.2.1 : Nat) : Int) 64 <;> rfl
theorem spec_ok (d : Dk) (hl : d.1.length ≤ 140737488351232) (hl' : d.2.1.length ≤ 140737488351232) : spec_DiskOk ((d.1, d.2.1, ()), ()) = some ((), diskOk d, ()) := by
  simp only [spec_DiskOk, spec_DiskOk_k, diskOk]
  cases ieq ((llen d.1 : Nat) : Int) 130
  · rfl
  rw [tb_nt]
  by_cases h2 : (d.2.1.length : Int) ≤ 200
  rotate_left
  · rw [tb_pos (ilt_t (by simp only [llen]; omega)), ile_f (by simp only [llen]; omega)]; rfl
  rw [tb_neg (ilt_f (by simp only [llen]; omega)), ile_t (by simp only [llen]; omega), spec_ok0 d hl]
  cases d.1.all secOk
  · rfl
  rw [if_pos rfl, spec_ok2 d hl']
  cases d.2.1.all putOk <;> rfl
theorem impl_ok0 {K} (d : Dk) (hl : d.1.length ≤ 140737488351232) : impl_DiskOk_k0 fuel fuel K ((d.1, ((llen d.1 : Nat) : Int), 0, ()), ((d.1, d.2.1, ()), ()), ()) = if d.1.all secOk = true then K ((), ((d.1, d.2.1, ()), ()), ()) else some ((), false, ()) := by
  refine all_loop (k := fun n s => impl_DiskOk_k0 fuel n K s) (fun i => ((d.1, ((llen d.1 : Nat) : Int), (i : Int), ()), ((d.1, d.2.1, ()), ()), ())) _ _ secOk d.1 (fun n => ?_) (fun n i x hx => ?_) d.1 [] fuel rfl (by have := fuel_gt; omega)
  · rw [impl_DiskOk_k0]
    simp only
    rw [tb_neg (ilt_f (by simp only [llen]; omega))]
  · have hi := lt_of_get hx
    rw [impl_DiskOk_k0]
    simp only
    rw [tb_pos (ilt_t (by simp only [llen]; omega)), chk_pos (by omega), obind_eq (at_some hx), wr_succ (by omega)]
    show tb (bnot (secOk x)) _ _ = _
    cases secOk x <;> rfl
theorem impl_ok2 {K} (d : Dk) (hl : d.2.1.length ≤ 140737488351232) : impl_DiskOk_k2 fuel fuel K ((d.2.1, ((llen d.2.1 : Nat) : Int), 0, ()), ((d.1, d.2.1, ()), ()), ()) = if d.2.1.all putOk = true then K ((), ((d.1, d.2.1, ()), ()), ()) else some ((), false, ()) := by
  refine all_loop (k := fun n s => impl_DiskOk_k2 fuel n K s) (fun i => ((d.2.1, ((llen d.2.1 : Nat) : Int), (i : Int), ()), ((d.1, d.2.1, ()), ()), ())) _ _ putOk d.2.1 (fun n => ?_) (fun n i x hx => ?_) d.2.1 [] fuel rfl (by have := fuel_gt; omega)
  · rw [impl_DiskOk_k2]
    simp only
    rw [tb_neg (ilt_f (by simp only [llen]; omega))]
  · have hi := lt_of_get hx
    rw [impl_DiskOk_k2]
    simp only
    rw [tb_pos (ilt_t (by simp only [llen]; omega)), chk_pos (by omega), obind_eq (at_some hx), obind_eq (impl_sector _), wr_succ (by omega)]
    rw [show putOk x = (decide (0 ≤ x.1 ∧ x.1 ≤ 129) && ieq ((slen x.2.1 : Nat) : Int) 64) from rfl]
    simp only
    cases decide (0 ≤ x.1 ∧ x.1 ≤ 129)
    · rfl
    · rw [tb_nt]
      cases ieq ((slen x.2.1 : Nat) : Int) 64 <;> rfl
theorem impl_ok (d : Dk) (hl : d.1.length ≤ 140737488351232) (hl' : d.2.1.length ≤ 140737488351232) : impl_DiskOk ((d.1, d.2.1, ()), ()) = some ((), diskOk d, ()) := by
  simp only [impl_DiskOk, impl_DiskOk_k, diskOk]
  rw [impl_ok0 d hl]
  cases d.1.all secOk
  · simp
  rw [if_pos rfl]
  simp only
  rw [impl_ok2 d hl']
  cases d.2.1.all putOk
  · simp
  rw [if_pos rfl]
  cases ieq ((llen d.1 : Nat) : Int) 130
  · rfl
  · rw [tb_t]; simp
end Go.Proofs.YtjiichnhdhlegaaGreat.V
namespace Go.Proofs.YtjiichnhdhlegaaGreat.V
open Go Go.RowKit
def dkSmall (d : Dk) : Prop := d.1.length ≤ 1048576 ∧ d.2.1.length ≤ 1048576
theorem dkSmall_of {d : Dk} (h : dkW d ≤ 1048576) : dkSmall d := by simp only [dkW, wL] at h; exact ⟨by omega, by omega⟩
theorem spec_copy {d : Dk} (h : dkSmall d) : spec_l15Copy ((d.1, d.2.1, ()), ()) = some ((), d, ()) := by
  simp only [spec_l15Copy, spec_l15Copy_k]
  rw [chk_pos (by simp only [plus, llen]; have := h.1; omega), chk_pos (by simp only [plus, llen]; have := h.2; omega)]
  rfl
theorem clone_str {l : List ByteArray} (h : l.length ≤ 1048576) : slices_Clone_string (l, ()) = some ((), l, ()) := by
  show cloneF .str 16 (l, ()) = _
  unfold cloneF
  exact if_pos (by show l.length * 16 ≤ _; omega)
theorem clone_put {l : List Pt} (h : l.length ≤ 1048576) : slices_Clone_Put (l, ()) = some ((), l, ()) := by
  show cloneF (.pair (.int .i64) (.pair .str .unit)) 24 (l, ()) = _
  unfold cloneF
  exact if_pos (by show l.length * 24 ≤ _; omega)
theorem impl_copy {d : Dk} (h : dkSmall d) : impl_copyDisk ((d.1, d.2.1, ()), ()) = some ((), d, ()) := by
  simp only [impl_copyDisk, impl_copyDisk_k, clone_str h.1, clone_put h.2, obind_some]
def putF (d : Dk) (at' : Int) (t : ByteArray) : Dk × Bool :=
  if 0 ≤ at' ∧ at' ≤ 129 ∧ t.size = 64 ∧ d.2.1.length < 200 then ((d.1, d.2.1 ++ [(at', t, ())], ()), true) else (d, false)
theorem spec_put {d : Dk} {at' : Int} {t : ByteArray} (hs : dkSmall d) (hd : diskOk d = true) : spec_DiskPut ((d.1, d.2.1, ()), at', t, ()) = some ((), (putF d at' t).1, (putF d at' t).2, ()) := by
  have hn : d.2.1.length ≤ 200 := by
    simp only [diskOk, Bool.and_eq_true] at hd
    have : ((d.2.1.length : Nat) : Int) ≤ 200 := of_decide_eq_true hd.2.1
    omega
  simp only [spec_DiskPut, spec_DiskPut_k, spec_ok d (by have := hs.1; omega) (by have := hs.2; omega), obind_some, hd, tb_nt, spec_copy hs, spec_sector]
  unfold putF
  by_cases h1 : 0 ≤ at' ∧ at' ≤ 129
  rotate_left
  · rw [tb_pos (by simp [bnot, h1]), if_neg (fun q => h1 ⟨q.1, q.2.1⟩)]
  rw [tb_neg (by simp [bnot, h1])]
  by_cases h2 : t.size = 64
  rotate_left
  · rw [ieq_f (by simp only [slen]; omega), tb_nf, if_neg (fun q => h2 q.2.2.1)]
  rw [ieq_t (by simp only [slen]; omega), tb_nt]
  by_cases h3 : d.2.1.length < 200
  rotate_left
  · rw [tb_pos (ieq_t (by simp only [llen]; omega)), if_neg (fun q => h3 q.2.2.2)]
  rw [tb_neg (ieq_f (by simp only [llen]; omega)), chk_pos (by simp [plus, llen]; omega), if_pos ⟨h1.1, h1.2, h2, h3⟩]
  rfl
theorem impl_put {d : Dk} {at' : Int} {t : ByteArray} (hs : dkSmall d) : impl_Disk_put ((d.1, d.2.1, ()), at', t, ()) = some (((putF d at' t).1, ()), (putF d at' t).2, ()) := by
  simp only [impl_Disk_put, impl_Disk_put_k, obind_some, impl_sector]
  unfold putF
  by_cases h1 : 0 ≤ at' ∧ at' ≤ 129
  rotate_left
  · rw [tb_pos (by simp [bnot, h1]), if_neg (fun q => h1 ⟨q.1, q.2.1⟩)]
  rw [tb_neg (by simp [bnot, h1])]
  by_cases h2 : t.size = 64
  rotate_left
  · rw [ieq_f (by simp only [slen]; omega), tb_nf, if_neg (fun q => h2 q.2.2.1)]
  rw [ieq_t (by simp only [slen]; omega), tb_nt]
  by_cases h3 : d.2.1.length < 200
  rotate_left
  · rw [tb_pos (ile_t (by simp only [llen]; omega)), if_neg (fun q => h3 q.2.2.2)]
  rw [tb_neg (ile_f (by simp only [llen]; omega)), chk_pos (by have := hs.2; simp [plus, llen]; omega), if_pos ⟨h1.1, h1.2, h2, h3⟩]
  rfl
def headPutF (d : Dk) (h : Hd) : Dk × Bool :=
  if diskOk d = true then (if headRight h.1 h.2.1 h.2.2.1 = true then putF d (Int.tmod h.1 2) (headText h.1 h.2.1 h.2.2.1) else (d, false)) else (([], [], ()), false)
theorem spec_headPut {d : Dk} {h : Hd} (hs : dkSmall d) : spec_HeadPut ((d.1, d.2.1, ()), (h.1, h.2.1, h.2.2.1, ()), ()) = some ((), (headPutF d h).1, (headPutF d h).2, ()) := by
  simp only [spec_HeadPut, spec_HeadPut_k, spec_ok d (by have := hs.1; omega) (by have := hs.2; omega), obind_some]
  unfold headPutF
  cases hd : diskOk d
  · rfl
  rw [tb_nt, if_pos rfl]
  cases hr : headRight h.1 h.2.1 h.2.2.1
  · rw [spec_head_bad hr, obind_some]
    simp only [tb_nf, spec_copy hs, obind_some]
    rfl
  · rw [spec_head hr, obind_some]
    simp only [tb_nt]
    rw [chk_neg (by decide), spec_put hs hd, obind_some]
    rfl
theorem impl_headPut {d : Dk} {h : Hd} (hs : dkSmall d) : impl_HeadPut ((d.1, d.2.1, ()), (h.1, h.2.1, h.2.2.1, ()), ()) = some ((), (headPutF d h).1, (headPutF d h).2, ()) := by
  simp only [impl_HeadPut, impl_HeadPut_k, impl_ok d (by have := hs.1; omega) (by have := hs.2; omega), obind_some]
  unfold headPutF
  cases hd : diskOk d
  · rfl
  rw [tb_nt, if_pos rfl, impl_copy hs, obind_some]
  simp only [impl_Disk_putHead, impl_Disk_putHead_k]
  cases hr : headRight h.1 h.2.1 h.2.2.1
  · rw [impl_head_bad hr, obind_some]
    simp only [tb_f, obind_some]
    rfl
  · rw [impl_head hr, obind_some]
    simp only [tb_t]
    rw [chk_neg (by decide), impl_put hs, obind_some, obind_some]
    rfl
end Go.Proofs.YtjiichnhdhlegaaGreat.V
namespace Go.Proofs.YtjiichnhdhlegaaGreat.V
open Go Go.RowKit
attribute [local irreducible] wr
def secF (d : Dk) (at' : Int) : ByteArray := match d.2.1.reverse.find? (fun p => ieq p.1 at') with | some p => p.2.1 | none => (d.1[at'.toNat]?).getD ⟨#[]⟩
theorem find_step {d : Dk} {at' : Int} {n : Nat} {x : Pt} (h : d.2.1[n]? = some x) : (d.2.1.take (n + 1)).reverse.find? (fun p => ieq p.1 at') = if ieq x.1 at' = true then some x else (d.2.1.take n).reverse.find? (fun p => ieq p.1 at') := by
  have : d.2.1.take (n + 1) = d.2.1.take n ++ [x] := by
    rw [List.take_add_one, h]; rfl
  rw [this, List.reverse_append]
  simp only [List.reverse_singleton, List.cons_append, List.nil_append, List.find?_cons]
  cases ieq x.1 at' <;> rfl
theorem spec_sec0 {K} {d : Dk} {at' : Int} (hl : d.2.1.length ≤ 140737488351232) : ∀ (n m : Nat), n ≤ d.2.1.length → n < m → spec_l15Of_k0 fuel m K ((at', (n : Int) - 1, ()), ((d.1, d.2.1, ()), ()), ()) = match (d.2.1.take n).reverse.find? (fun p => ieq p.1 at') with | some p => some ((), p.2.1, ()) | none => K ((at', ()), ((d.1, d.2.1, ()), ()), ())
  | 0, m, h, hm => by
    obtain ⟨m, rfl⟩ : ∃ k, m = k + 1 := ⟨m - 1, by omega⟩
    rw [spec_l15Of_k0]
    rw [tb_neg (ile_f (by simp))]
    rfl
  | n + 1, m, h, hm => by
    obtain ⟨m, rfl⟩ : ∃ k, m = k + 1 := ⟨m - 1, by omega⟩
    have e : ((n + 1 : Nat) : Int) - 1 = (n : Int) := by omega
    have hx : d.2.1[n]? = some d.2.1[n] := List.getElem?_eq_getElem (by omega)
    rw [spec_l15Of_k0, e, find_step hx]
    simp only
    rw [tb_pos (ile_t (by omega)), chk_pos (by omega), obind_eq (at_some hx), chk_pos (by omega), obind_eq (at_some hx), wr64 (by omega) (by omega)]
    cases hq : ieq d.2.1[n].1 at'
    · rw [tb_f, spec_sec0 hl n m (by omega) (by omega)]; simp
    · rw [tb_t]; rfl
theorem impl_sec0 {K} {d : Dk} {at' : Int} (hl : d.2.1.length ≤ 140737488351232) : ∀ (n m : Nat), n ≤ d.2.1.length → n < m → impl_Disk_sector_k0 fuel m K ((d, at', (n : Int) - 1, ()), (), ()) = match (d.2.1.take n).reverse.find? (fun p => ieq p.1 at') with | some p => some ((), p.2.1, ()) | none => K ((d, at', ()), (), ())
  | 0, m, h, hm => by
    obtain ⟨m, rfl⟩ : ∃ k, m = k + 1 := ⟨m - 1, by omega⟩
    rw [impl_Disk_sector_k0]
    rw [tb_neg (ile_f (by simp))]
    rfl
  | n + 1, m, h, hm => by
    obtain ⟨m, rfl⟩ : ∃ k, m = k + 1 := ⟨m - 1, by omega⟩
    have e : ((n + 1 : Nat) : Int) - 1 = (n : Int) := by omega
    have hx : d.2.1[n]? = some d.2.1[n] := List.getElem?_eq_getElem (by omega)
    rw [impl_Disk_sector_k0, e, find_step hx]
    simp only
    rw [tb_pos (ile_t (by omega)), chk_pos (by omega), obind_eq (at_some hx), chk_pos (by omega), obind_eq (at_some hx), wr64 (by omega) (by omega)]
    cases hq : ieq d.2.1[n].1 at'
    · rw [tb_f, impl_sec0 hl n m (by omega) (by omega)]; simp
    · rw [tb_t]; rfl
theorem get_nat {d : Dk} {at' : Int} (h0 : 0 ≤ at') (h1 : at' < d.1.length) : at? d.1 at'.toNat = some ((d.1[at'.toNat]?).getD ⟨#[]⟩) := by
  have : d.1[at'.toNat]? = some d.1[at'.toNat] := List.getElem?_eq_getElem (by omega)
  simp only [at?, this, Option.getD_some]
theorem spec_sec {d : Dk} {at' : Int} (hl : d.2.1.length ≤ 140737488351232) (h0 : 0 ≤ at') (h1 : at' < d.1.length) : spec_l15Of ((d.1, d.2.1, ()), at', ()) = some ((), secF d at', ()) := by
  simp only [spec_l15Of, spec_l15Of_k]
  rw [wr64 (by simp only [llen]; omega) (by simp only [llen]; omega), show ((llen d.2.1 : Nat) : Int) = ((d.2.1.length : Nat) : Int) from rfl, spec_sec0 hl d.2.1.length fuel (Nat.le_refl _) (by have := fuel_gt; omega), List.take_length]
  unfold secF
  cases d.2.1.reverse.find? (fun p => ieq p.1 at') with
  | some p => rfl
  | none =>
    simp only
    rw [chk_pos h0, obind_eq (get_nat h0 h1)]
theorem impl_sec {d : Dk} {at' : Int} (hl : d.2.1.length ≤ 140737488351232) (h0 : 0 ≤ at') (h1 : at' < d.1.length) : impl_Disk_sector ((d.1, d.2.1, ()), at', ()) = some ((), secF d at', ()) := by
  simp only [impl_Disk_sector, impl_Disk_sector_k]
  rw [wr64 (by simp only [llen]; omega) (by simp only [llen]; omega), show ((llen d.2.1 : Nat) : Int) = ((d.2.1.length : Nat) : Int) from rfl]
  have := impl_sec0 (K := fun v0 => chk (0 ≤ v0.1.2.1) (obind (at? v0.1.1.1 (Int.toNat v0.1.2.1)) fun v1 => some ((), v1, ())) (none)) (d := d) (at' := at') hl d.2.1.length fuel (Nat.le_refl _) (by have := fuel_gt; omega)
  rw [List.take_length] at this
  refine Eq.trans this ?_
  unfold secF
  cases d.2.1.reverse.find? (fun p => ieq p.1 at') with
  | some p => rfl
  | none =>
    simp only
    rw [chk_pos h0, obind_eq (get_nat h0 h1)]
theorem diskOk_len {d : Dk} (h : diskOk d = true) : d.1.length = 130 ∧ d.2.1.length ≤ 200 := by
  simp only [diskOk, Bool.and_eq_true] at h
  have h1 : ((d.1.length : Nat) : Int) = 130 := by simpa [ieq, llen] using h.1
  have h2 : ((d.2.1.length : Nat) : Int) ≤ 200 := of_decide_eq_true h.2.1
  omega
theorem diskOk_small {d : Dk} (h : diskOk d = true) : dkSmall d := by
  have := diskOk_len h
  exact ⟨by omega, by omega⟩
theorem secF_size {d : Dk} {at' : Int} (h : diskOk d = true) (h0 : 0 ≤ at') (h1 : at' ≤ 129) : (secF d at').size = 64 := by
  have hl := diskOk_len h
  simp only [diskOk, Bool.and_eq_true, List.all_eq_true] at h
  unfold secF
  split
  · rename_i p hp
    have hm := List.mem_of_find?_eq_some hp
    have := h.2.2.2 p (List.mem_reverse.1 hm)
    simp only [putOk, Bool.and_eq_true] at this
    have h2 : ((p.2.1.size : Nat) : Int) = 64 := by simpa [ieq, slen] using this.2
    omega
  · have hx : d.1[at'.toNat]? = some d.1[at'.toNat] := List.getElem?_eq_getElem (by omega)
    rw [hx, Option.getD_some]
    have := h.2.2.1 _ (List.getElem_mem (l := d.1) (n := at'.toNat) (by omega))
    have h2 : ((d.1[at'.toNat].size : Nat) : Int) = 64 := by simpa [ieq, slen, secOk] using this
    omega
theorem putF_ok {d : Dk} {at' : Int} {t : ByteArray} (h : diskOk d = true) : diskOk (putF d at' t).1 = true := by
  unfold putF
  split
  · rename_i hc
    simp only [diskOk, Bool.and_eq_true] at h ⊢
    refine ⟨h.1, ile_t (by simp only [llen, List.length_append, List.length_cons, List.length_nil]; omega), h.2.2.1, ?_⟩
    rw [List.all_append, h.2.2.2]
    simp only [List.all_cons, List.all_nil, Bool.and_true, Bool.true_and, putOk, Bool.and_eq_true, decide_eq_true_eq]
    exact ⟨⟨hc.1, hc.2.1⟩, ieq_t (by simp only [slen]; omega)⟩
  · exact h
def secText (old : ByteArray) (k a : Nat) (b : List Int) : List Int := (List.range 64).map fun i => if a ≤ 64 * k + i ∧ 64 * k + i < a + b.length then b.getD (64 * k + i - a) 0 else bt old (i : Int)
theorem secText_length (old : ByteArray) (k a : Nat) (b : List Int) : (secText old k a b).length = 64 := by simp [secText]
def skipB (k a : Nat) (b : List Int) : Bool := decide (64 * k + 64 ≤ a) || (decide (a + b.length ≤ 64 * k) || decide (b.length = 0))
def areaF (area a : Nat) (b : List Int) : Nat → Dk → Option Dk
  | 0, d => some d
  | r + 1, d => if skipB (63 - r) a b = true then areaF area a b r d else
    if (putF d ((2 + 64 * area + (63 - r) : Nat) : Int) (strOf (secText (secF d ((2 + 64 * area + (63 - r) : Nat) : Int)) (63 - r) a b))).2 = true then areaF area a b r (putF d ((2 + 64 * area + (63 - r) : Nat) : Int) (strOf (secText (secF d ((2 + 64 * area + (63 - r) : Nat) : Int)) (63 - r) a b))).1 else none
theorem areaF_done {area a : Nat} {b : List Int} : ∀ {r : Nat} {d : Dk}, r ≤ 64 → b.length = 0 ∨ a + b.length ≤ 64 * (64 - r) → areaF area a b r d = some d
  | 0, d, _, _ => rfl
  | r + 1, d, hr, h => by
    have hs : skipB (63 - r) a b = true := by
      rcases h with h | h
      · unfold skipB; rw [decide_eq_true h]; simp
      · unfold skipB; rw [decide_eq_true (show a + b.length ≤ 64 * (63 - r) by omega)]; simp
    rw [areaF, if_pos hs]
    exact areaF_done (by omega) (by omega)
theorem areaF_ok {area a : Nat} {b : List Int} : ∀ {r : Nat} {d e : Dk}, diskOk d = true → areaF area a b r d = some e → diskOk e = true
  | 0, d, e, hd, h => by cases h; exact hd
  | r + 1, d, e, hd, h => by
    rw [areaF] at h
    split at h
    · exact areaF_ok hd h
    · split at h
      · exact areaF_ok (putF_ok hd) h
      · cases h
def secPart (old : ByteArray) (k a : Nat) (b : List Int) (j : Nat) : List Int := (List.range 64).map fun i => if i < j ∧ a ≤ 64 * k + i ∧ 64 * k + i < a + b.length then b.getD (64 * k + i - a) 0 else bt old (i : Int)
theorem secPart_length (old : ByteArray) (k a : Nat) (b : List Int) (j : Nat) : (secPart old k a b j).length = 64 := by simp [secPart]
theorem secPart_get {old : ByteArray} {k a : Nat} {b : List Int} {j i : Nat} (h : i < 64) : (secPart old k a b j)[i]? = some (if i < j ∧ a ≤ 64 * k + i ∧ 64 * k + i < a + b.length then b.getD (64 * k + i - a) 0 else bt old (i : Int)) := by
  simp [secPart, h]
theorem secPart_step_in {old : ByteArray} {k a : Nat} {b : List Int} {j : Nat} (h : j < 64) (h1 : a ≤ 64 * k + j) (h2 : 64 * k + j < a + b.length) : lset (secPart old k a b j) j (b.getD (64 * k + j - a) 0) = secPart old k a b (j + 1) := by
  apply List.ext_getElem?
  intro i
  by_cases hi : i < 64
  · simp only [lset, List.getElem?_set, secPart_length, secPart_get hi]
    by_cases e : j = i
    · subst e
      rw [if_pos rfl, if_pos h, if_pos ⟨by omega, h1, h2⟩]
    · rw [if_neg e]
      by_cases c : i < j ∧ a ≤ 64 * k + i ∧ 64 * k + i < a + b.length
      · rw [if_pos c, if_pos ⟨by omega, c.2⟩]
      · rw [if_neg c, if_neg (by omega)]
  · rw [List.getElem?_eq_none (by simp [lset, secPart_length]; omega), List.getElem?_eq_none (by simp [secPart_length]; omega)]
theorem secPart_step_out {old : ByteArray} {k a : Nat} {b : List Int} {j : Nat} (h : ¬ (a ≤ 64 * k + j ∧ 64 * k + j < a + b.length)) : secPart old k a b j = secPart old k a b (j + 1) := by
  unfold secPart
  apply List.map_congr_left
  intro i hi
  by_cases e : j = i
  · subst e
    rw [if_neg (fun q => h q.2), if_neg (fun q => h q.2)]
  · by_cases c : i < j ∧ a ≤ 64 * k + i ∧ 64 * k + i < a + b.length
    · rw [if_pos c, if_pos ⟨by omega, c.2⟩]
    · rw [if_neg c, if_neg (by omega)]
theorem secPart_zero {old : ByteArray} (h : old.size = 64) (k a : Nat) (b : List Int) : secPart old k a b 0 = bytesOf old := by
  apply List.ext_getElem?
  intro i
  by_cases hi : i < 64
  · rw [secPart_get hi, bytes_get (by omega), if_neg (by omega)]
  · rw [List.getElem?_eq_none (by simp [secPart_length]; omega), List.getElem?_eq_none (by rw [bytes_length]; omega)]
theorem secPart_all (old : ByteArray) (k a : Nat) (b : List Int) : secPart old k a b 64 = secText old k a b := by
  unfold secPart secText
  apply List.map_congr_left
  intro i hi
  have hi : i < 64 := by simpa using hi
  by_cases c : a ≤ 64 * k + i ∧ 64 * k + i < a + b.length
  · rw [if_pos ⟨hi, c⟩, if_pos c]
  · rw [if_neg (fun q => c q.2), if_neg c]
theorem spec_lay {K} {old : ByteArray} {k a area : Nat} {b : List Int} {z1 z2 z3 z4 z5 z6 z7 z8 z9 x0} {p q p' q'} (hk : k ≤ 64) (hab : a + b.length ≤ 4096) : ∀ (d j m : Nat), j + d = 64 → d < m →
      spec_AreaPut_k2 fuel m K (((area : Int), (a : Int), b, (k : Int), ((64 * k : Nat) : Int), z1, (j : Int), z2, z3, z4, z5, z6, z7, z8, z9, x0, ()), ((), (), (), ()), secPart old k a b j, p, q, p', q', ())
      = K (((area : Int), (a : Int), b, (k : Int), z1, z2, z3, z4, z5, z6, z7, z8, z9, x0, ()), ((), (), (), ()), secText old k a b, p, q, p', q', ())
  | 0, j, m, h, hm => by
    obtain ⟨m, rfl⟩ : ∃ k, m = k + 1 := ⟨m - 1, by omega⟩
    obtain rfl : j = 64 := by omega
    rw [spec_AreaPut_k2, secPart_all]
    simp only
    rw [tb_neg (ilt_f (by omega))]
  | d + 1, j, m, h, hm => by
    obtain ⟨m, rfl⟩ : ∃ k, m = k + 1 := ⟨m - 1, by omega⟩
    have hw : Hid (wr .i64 (((64 * k : Nat) : Int) + (j : Int)) = ((64 * k + j : Nat) : Int)) := ⟨wrn (by omega) (by omega)⟩
    have hw2 : Hid (wr .i64 ((a : Int) + ((llen b : Nat) : Int)) = ((a + b.length : Nat) : Int)) := ⟨wrn (by simp only [llen]; omega) (by omega)⟩
    have hw3 : Hid (wr .i64 ((j : Int) + 1) = ((j + 1 : Nat) : Int)) := ⟨wrn (by omega) (by omega)⟩
    rw [spec_AreaPut_k2]
    simp only [hw.out, hw2.out, hw3.out]
    rw [tb_pos (ilt_t (by omega))]
    have ih := spec_lay (K := K) (old := old) (area := area) (z1 := z1) (z2 := z2) (z3 := z3) (z4 := z4) (z5 := z5) (z6 := z6) (z7 := z7) (z8 := z8) (z9 := z9) (x0 := x0) (p := p) (q := q) (p' := p') (q' := q') hk hab d (j + 1) m (by omega) (by omega)
    by_cases h1 : a ≤ 64 * k + j
    · rw [tb_pos (ile_t (by omega))]
      by_cases h2 : 64 * k + j < a + b.length
      · have e : Hid (wr .i64 (((64 * k + j : Nat) : Int) - (a : Int)) = ((64 * k + j - a : Nat) : Int)) := ⟨wrn (by omega) (by omega)⟩
        have hx : b[64 * k + j - a]? = some (b.getD (64 * k + j - a) 0) := by rw [List.getD_eq_getElem?_getD, List.getElem?_eq_getElem (by omega)]; rfl
        have hy : (secPart old k a b j)[j]? = some _ := secPart_get (by omega)
        rw [tb_pos (ilt_t (by omega)), e.out, chk_pos (by omega), obind_eq (at_some hx), chk_pos ⟨by omega, by simp only [llen, secPart_length]; omega⟩, obind_eq (at_some hy), Int.toNat_natCast, secPart_step_in (by omega) h1 h2]
        exact ih
      · rw [tb_neg (ilt_f (by omega)), secPart_step_out (by omega)]
        exact ih
    · rw [tb_neg (ile_f (by omega)), secPart_step_out (by omega)]
      exact ih
theorem spec_area0 {K} {area a : Nat} {b : List Int} {p q} (ha : area ≤ 1) (hab : a + b.length ≤ 4096) : ∀ (r m : Nat) (d : Dk), r ≤ 64 → r < m → diskOk d = true →
      spec_AreaPut_k0 fuel m K (((area : Int), (a : Int), b, ((64 - r : Nat) : Int), ()), ((), (), (), ()), p, q, d.1, d.2.1, ()) = match areaF area a b r d with | some e => K ((), ((), (), ()), e.1, e.2.1, ()) | none => some ((), (p, q, ()), false, ())
  | 0, m, d, hr, hm, hd => by
    obtain ⟨m, rfl⟩ : ∃ k, m = k + 1 := ⟨m - 1, by omega⟩
    rw [spec_AreaPut_k0]
    simp only
    rw [tb_neg (ilt_f (by omega))]
    rfl
  | r + 1, m, d, hr, hm, hd => by
    obtain ⟨m, rfl⟩ : ∃ k, m = k + 1 := ⟨m - 1, by omega⟩
    have hk : 64 - (r + 1) = 63 - r := by omega
    have hk1 : 64 - r = 63 - r + 1 := by omega
    obtain ⟨k, hkk⟩ : ∃ k, k = 63 - r := ⟨_, rfl⟩
    have hl := diskOk_len hd
    have hw1 : Hid (wr .i64 ((k : Int) * 64) = ((64 * k : Nat) : Int)) := ⟨wrn (by omega) (by omega)⟩
    have hw2 : Hid (wr .i64 (((64 * k : Nat) : Int) + 64) = ((64 * k + 64 : Nat) : Int)) := ⟨wrn (by omega) (by omega)⟩
    have hw3 : Hid (wr .i64 ((a : Int) + ((llen b : Nat) : Int)) = ((a + b.length : Nat) : Int)) := ⟨wrn (by simp only [llen]; omega) (by omega)⟩
    have hw4 : Hid (wr .i64 ((k : Int) + 1) = ((k + 1 : Nat) : Int)) := ⟨wrn (by omega) (by omega)⟩
    have hw5 : Hid (wr .i64 (64 * (area : Int)) = ((64 * area : Nat) : Int)) := ⟨wrn (by omega) (by omega)⟩
    have hw6 : Hid (wr .i64 (2 + ((64 * area : Nat) : Int)) = ((2 + 64 * area : Nat) : Int)) := ⟨wrn (by omega) (by omega)⟩
    have hw7 : Hid (wr .i64 (((2 + 64 * area : Nat) : Int) + (k : Int)) = ((2 + 64 * area + k : Nat) : Int)) := ⟨wrn (by omega) (by omega)⟩
    rw [spec_AreaPut_k0, areaF, hk, ← hkk]
    simp only [hw1.out, hw2.out, hw3.out, hw4.out, hw5.out, hw6.out, hw7.out]
    have ih := fun d hd => spec_area0 (K := K) (p := p) (q := q) ha hab r m d (by omega) (by omega) hd
    rw [hk1, ← hkk] at ih
    rw [tb_pos (ilt_t (by omega))]
    by_cases h1 : 64 * k + 64 ≤ a
    · rw [tb_pos (ile_t (by omega)), if_pos (by simp [skipB, h1])]
      exact ih d hd
    rw [tb_neg (ile_f (by omega))]
    by_cases h2 : a + b.length ≤ 64 * k
    · rw [tb_pos (ile_t (by omega)), if_pos (by simp [skipB, h2])]
      exact ih d hd
    rw [tb_neg (ile_f (by omega))]
    by_cases h3 : b.length = 0
    · rw [tb_pos (ieq_t (by simp only [llen]; omega)), if_pos (by simp [skipB, h3])]
      exact ih d hd
    have h3' : b ≠ [] := fun e => h3 (by rw [e]; rfl)
    rw [tb_neg (ieq_f (by simp only [llen]; omega)), if_neg (by simp [skipB, h1, h2, h3']), obind_eq (spec_sec (by omega) (by omega) (by omega))]
    have hsz := secF_size (at' := ((2 + 64 * area + k : Nat) : Int)) hd (by omega) (by omega)
    rw [← secPart_zero hsz k a b]
    refine (spec_lay (z1 := _) (z2 := _) (by omega) hab 64 0 fuel (by omega) (by unfold fuel; omega)).trans ?_
    simp only
    rw [obind_eq (spec_put (diskOk_small hd) hd)]
    simp only
    have hok := putF_ok (at' := ((2 + 64 * area + k : Nat) : Int)) (t := strOf (secText (secF d ((2 + 64 * area + k : Nat) : Int)) k a b)) hd
    cases hp : (putF d ((2 + 64 * area + k : Nat) : Int) (strOf (secText (secF d ((2 + 64 * area + k : Nat) : Int)) k a b))).2
    · rw [tb_nf]; rfl
    · rw [tb_nt, hw4.out, if_pos rfl]
      exact ih _ hok
theorem lcut_len {α : Type} (l : List α) (a b : Nat) : (lcut l a b).length = min b l.length - a := by simp only [lcut, List.length_drop, List.length_take]
theorem scut_size (s : ByteArray) (a b : Nat) : (scut s a b).size = min b s.size - a := by rw [scut_bytes, strOf_size, lcut_len, bytes_length]
theorem secText_get {old : ByteArray} {k a : Nat} {b : List Int} {i : Nat} (h : i < 64) : (secText old k a b)[i]? = some (if a ≤ 64 * k + i ∧ 64 * k + i < a + b.length then b.getD (64 * k + i - a) 0 else bt old (i : Int)) := by
  simp [secText, h]
theorem impl_secText {old : ByteArray} (hs : old.size = 64) {k a x n : Nat} {b c : List Int} (h1 : 64 * k ≤ x) (h2 : x < 64 * k + 64) (h3 : x = max a (64 * k)) (hc : c = b.drop (x - a)) (hn : n = min c.length (64 - (x - 64 * k))) (hp : 0 < n) :
    sapp (sapp (scut old 0 (x - 64 * k)) (strOf (lcut c 0 n))) (scut old (x - 64 * k + n) 64) = strOf (secText old k a b) := by
  have hcl : c.length = b.length - (x - a) := by rw [hc, List.length_drop]
  simp only [sapp, scut_bytes, strOf_append]
  congr 1
  have l1 : (lcut (bytesOf old) 0 (x - 64 * k)).length = x - 64 * k := by rw [lcut_len, bytes_length]; omega
  have l2 : (lcut c 0 n).length = n := by rw [lcut_len]; omega
  have l3 : (lcut (bytesOf old) (x - 64 * k + n) 64).length = 64 - (x - 64 * k + n) := by rw [lcut_len, bytes_length]; omega
  apply List.ext_getElem?
  intro i
  by_cases hi : i < 64
  · rw [secText_get hi]
    by_cases c1 : i < x - 64 * k
    · rw [List.getElem?_append_left (by rw [List.length_append, l1]; omega), List.getElem?_append_left (by rw [l1]; omega), lcut_get, if_pos (by omega), Nat.zero_add, bytes_get (by omega), if_neg (by omega)]
    by_cases c2 : i < x - 64 * k + n
    · rw [List.getElem?_append_left (by rw [List.length_append, l1, l2]; omega), List.getElem?_append_right (by rw [l1]; omega), l1, lcut_get, if_pos (by omega), if_pos (by omega), hc, List.getElem?_drop, List.getD_eq_getElem?_getD, Nat.zero_add, show x - a + (i - (x - 64 * k)) = 64 * k + i - a by omega, List.getElem?_eq_getElem (by omega)]
      rfl
    · rw [List.getElem?_append_right (by rw [List.length_append, l1, l2]; omega), List.length_append, l1, l2, lcut_get, if_pos (by omega), show x - 64 * k + n + (i - (x - 64 * k + n)) = i by omega, bytes_get (by omega), if_neg (by omega)]
  · rw [List.getElem?_eq_none (by rw [List.length_append, List.length_append, l1, l2, l3]; omega), List.getElem?_eq_none (by rw [secText_length]; omega)]
theorem impl_area_end {K} {area x : Int} {d : Dk} {m : Nat} (hm : 0 < m) : impl_Disk_putArea_k0 fuel m K ((area, x, [], ()), ((), ()), d.1, d.2.1, ()) = K ((), ((), ()), d.1, d.2.1, ()) := by
  obtain ⟨m, rfl⟩ : ∃ k, m = k + 1 := ⟨m - 1, by omega⟩
  rw [impl_Disk_putArea_k0]
  simp only
  rw [tb_neg (ilt_f (by simp [llen]))]
theorem impl_area0 {K} {area a : Nat} {b : List Int} (ha : area ≤ 1) (hab : a + b.length ≤ 4096) : ∀ (r m : Nat) (d : Dk) (x : Nat) (c : List Int), r ≤ 64 → r + 1 < m → diskOk d = true → x ≤ 4096 → ((c = [] ∧ (b.length = 0 ∨ a + b.length ≤ 64 * (64 - r))) ∨ (x = max a (64 * (64 - r)) ∧ c = b.drop (x - a))) →
      match areaF area a b r d with
      | some e => impl_Disk_putArea_k0 fuel m K (((area : Int), (x : Int), c, ()), ((), ()), d.1, d.2.1, ()) = K ((), ((), ()), e.1, e.2.1, ())
      | none => ∃ e : Dk, impl_Disk_putArea_k0 fuel m K (((area : Int), (x : Int), c, ()), ((), ()), d.1, d.2.1, ()) = some (((e.1, e.2.1, ()), ()), false, ())
  | 0, m, d, x, c, hr, hm, hd, hx, hc => by
    have : c = [] := by
      rcases hc with h | ⟨h, rfl⟩
      · exact h.1
      · rw [List.drop_eq_nil_of_le (by omega)]
    subst this
    exact impl_area_end (by omega)
  | r + 1, m, d, x, c, hr, hm, hd, hx, hc => by
    obtain ⟨k, hkk⟩ : ∃ k, k = 63 - r := ⟨_, rfl⟩
    have hk : 64 - (r + 1) = k := by omega
    have hk1 : 64 - r = k + 1 := by omega
    rw [hk] at hc
    have ih := fun d x c => impl_area0 (K := K) ha hab r (m - 1) d x c (by omega) (by omega)
    rw [hk1] at ih
    have hdone : c = [] → (b.length = 0 ∨ a + b.length ≤ 64 * k) → (match areaF area a b (r + 1) d with
      | some e => impl_Disk_putArea_k0 fuel m K (((area : Int), (x : Int), c, ()), ((), ()), d.1, d.2.1, ()) = K ((), ((), ()), e.1, e.2.1, ())
      | none => ∃ e : Dk, impl_Disk_putArea_k0 fuel m K (((area : Int), (x : Int), c, ()), ((), ()), d.1, d.2.1, ()) = some (((e.1, e.2.1, ()), ()), false, ())) := by
      intro h1 h2
      rw [areaF_done (by omega) (by rw [hk]; exact h2), h1]
      exact impl_area_end (by omega)
    rcases hc with ⟨h1, h2⟩ | ⟨hx1, hc⟩
    · exact hdone h1 h2
    by_cases c2 : a + b.length ≤ 64 * k
    · exact hdone (by rw [hc, List.drop_eq_nil_of_le (by omega)]) (.inr c2)
    by_cases c3 : b.length = 0
    · exact hdone (by rw [hc, List.eq_nil_of_length_eq_zero c3, List.drop_nil]) (.inl c3)
    have c3' : b ≠ [] := fun e => c3 (by rw [e]; rfl)
    by_cases c1 : 64 * k + 64 ≤ a
    · rw [areaF, ← hkk, if_pos (by simp [skipB, c1])]
      have := impl_area0 (K := K) ha hab r m d x c (by omega) (by omega) hd hx (.inr ⟨by rw [hk1]; omega, hc⟩)
      exact this
    rw [areaF, ← hkk, if_neg (by simp [skipB, c1, c2, c3'])]
    obtain ⟨m, rfl⟩ : ∃ k, m = k + 1 := ⟨m - 1, by omega⟩
    have hl := diskOk_len hd
    have hcl : c.length = b.length - (x - a) := by rw [hc, List.length_drop]
    obtain ⟨n, hn⟩ : ∃ n, n = min c.length (64 - (x - 64 * k)) := ⟨_, rfl⟩
    have q1 : Hid (Int.tmod (x : Int) 64 = ((x - 64 * k : Nat) : Int)) := ⟨by rw [Int.tmod_eq_emod_of_nonneg (by omega)]; omega⟩
    have q2 : Hid (Int.tdiv (x : Int) 64 = (k : Int)) := ⟨by rw [Int.tdiv_eq_ediv_of_nonneg (by omega)]; omega⟩
    have q3 : Hid (wr .i64 (k : Int) = (k : Int)) := ⟨wrn rfl (by omega)⟩
    have q4 : Hid (wr .i64 (64 * (area : Int)) = ((64 * area : Nat) : Int)) := ⟨wrn (by omega) (by omega)⟩
    have q5 : Hid (wr .i64 (2 + ((64 * area : Nat) : Int)) = ((2 + 64 * area : Nat) : Int)) := ⟨wrn (by omega) (by omega)⟩
    have q6 : Hid (wr .i64 (((2 + 64 * area : Nat) : Int) + (k : Int)) = ((2 + 64 * area + k : Nat) : Int)) := ⟨wrn (by omega) (by omega)⟩
    have q7 : Hid (wr .i64 (64 - ((x - 64 * k : Nat) : Int)) = ((64 - (x - 64 * k) : Nat) : Int)) := ⟨wrn (by omega) (by omega)⟩
    have q8 : Hid (mn ((llen c : Nat) : Int) ((64 - (x - 64 * k) : Nat) : Int) = (n : Int)) := ⟨by rw [mn_nat, hn]; rfl⟩
    have q9 : Hid (wr .i64 (((x - 64 * k : Nat) : Int) + (n : Int)) = ((x - 64 * k + n : Nat) : Int)) := ⟨wrn (by omega) (by omega)⟩
    have q10 : Hid (wr .i64 ((x : Int) + (n : Int)) = ((x + n : Nat) : Int)) := ⟨wrn (by omega) (by omega)⟩
    have hsz := secF_size (at' := ((2 + 64 * area + k : Nat) : Int)) hd (by omega) (by omega)
    have ht := impl_secText hsz (k := k) (by omega) (by omega) hx1 hc hn (by omega)
    have e64 : ((slen (secF d ((2 + 64 * area + k : Nat) : Int)) : Nat) : Int) = 64 := by simp only [slen, hsz]; rfl
    rw [impl_Disk_putArea_k0]
    simp only [impl_first, impl_first_k, obind_some, q1.out, q2.out, q3.out, q4.out, q5.out, q6.out, q7.out, q8.out, q9.out, q10.out]
    rw [tb_pos (ilt_t (by simp only [llen]; omega)), chk_neg (by decide), obind_eq (impl_sec (by omega) (by omega) (by omega))]
    simp only [e64, Int.toNat_natCast]
    rw [chk_neg (by decide), chk_pos (by omega), chk_pos (by simp only [llen]; omega), chk_pos (by simp only [plus, slen, scut_size, strOf_size, lcut_len, slim]; omega), chk_pos (by omega), chk_pos (by simp only [plus, slen, sapp, ByteArray.size_append, scut_size, strOf_size, lcut_len, slim]; omega), show (0 : Int).toNat = 0 from rfl, show (64 : Int).toNat = 64 from rfl, ht, obind_eq (impl_put (diskOk_small hd))]
    simp only
    have hok := putF_ok (at' := ((2 + 64 * area + k : Nat) : Int)) (t := strOf (secText (secF d ((2 + 64 * area + k : Nat) : Int)) k a b)) hd
    cases hp : (putF d ((2 + 64 * area + k : Nat) : Int) (strOf (secText (secF d ((2 + 64 * area + k : Nat) : Int)) k a b))).2
    · rw [tb_nf]
      simp only [Bool.false_eq_true, if_false]
      exact ⟨_, rfl⟩
    · rw [tb_nt, if_pos rfl, chk_pos (by simp only [llen]; omega)]
      rw [show lcut c n (llen c) = c.drop n by simp only [lcut, llen, List.take_length]]
      refine ih _ (x + n) (c.drop n) hok (by omega) ?_
      by_cases hq : n = c.length
      · exact .inl ⟨by rw [hq, List.drop_length], by omega⟩
      · exact .inr ⟨by omega, by rw [hc, List.drop_drop]; congr 1; omega⟩
end Go.Proofs.YtjiichnhdhlegaaGreat.V
namespace Go.Proofs.YtjiichnhdhlegaaGreat.V
open Go Go.RowKit
attribute [local irreducible] wr
theorem headPack_any (a b c : Int) : ∃ t ok, spec_HeadPack ((a, b, c, ()), ()) = some ((), t, ok, ()) ∧ impl_HeadPack ((a, b, c, ()), ()) = some ((), t, ok, ()) := by
  cases h : headRight a b c
  · exact ⟨_, _, spec_head_bad h, impl_head_bad h⟩
  · exact ⟨_, _, spec_head h, impl_head h⟩
theorem getter_bad {l : List Int} (hl : l.length ≤ 140737488355328) (hb : ∀ y ∈ l, 0 ≤ y ∧ y ≤ 255) (a : Int) : impl_getter_num ((l, a, true, ()), ()) = some (((l, a, true, ()), ()), 0, ()) := by
  obtain ⟨r, r1, r2, r3⟩ := getNum l hl hb a
  unfold impl_getter_num impl_getter_num_k
  rw [obind_eq r2]
  rfl
theorem getter_ok {l : List Int} {a : Int} {r : Int × Int × Bool} (h : impl_GetNum (l, a, ()) = numOut r) : impl_getter_num ((l, a, false, ()), ()) = some (((l, if r.2.2 = true then r.2.1 else a, !r.2.2, ()), ()), if r.2.2 = true then r.1 else 0, ()) := by
  unfold impl_getter_num impl_getter_num_k
  rw [obind_eq h]
  cases hr : r.2.2
  · simp only [hr]; rfl
  · simp only [hr]; rfl
theorem headRead (s : ByteArray) (hs : s.size ≤ 140737488355328) : ∃ (h : Hd) (ok : Bool), spec_HeadRead (s, ()) = some ((), (h.1, h.2.1, h.2.2.1, ()), ok, ()) ∧ impl_HeadRead (s, ()) = some ((), (h.1, h.2.1, h.2.2.1, ()), ok, ()) ∧ (ok = true → headRight h.1 h.2.1 h.2.2.1 = true) ∧ (ok = false → h = (0, 0, 0, ())) := by
  have hl : (bytesOf s).length ≤ 140737488355328 := by rw [bytes_length]; exact hs
  have hb := bytes_range s
  obtain ⟨r0, s0, i0, g0⟩ := getNum (bytesOf s) hl hb 0
  obtain ⟨r1, s1, i1, g1⟩ := getNum (bytesOf s) hl hb r0.2.1
  obtain ⟨r2, s2, i2, g2⟩ := getNum (bytesOf s) hl hb r1.2.1
  obtain ⟨t3, ok3, s3, i3⟩ := headPack_any r0.1 r1.1 r2.1
  obtain ⟨t4, ok4, s4, i4⟩ := headPack_any 0 0 0
  have spec_eq : spec_HeadRead (s, ()) = tb (bnot r0.2.2) (some ((), (0, 0, 0, ()), false, ())) (tb (bnot r1.2.2) (some ((), (0, 0, 0, ()), false, ())) (tb (bnot r2.2.2) (some ((), (0, 0, 0, ()), false, ())) (tb (bnot ok3) (some ((), (0, 0, 0, ()), false, ())) (tb (bnot (seq t3 s)) (some ((), (0, 0, 0, ()), false, ())) (some ((), (r0.1, r1.1, r2.1, ()), true, ())))))) := by
    unfold spec_HeadRead spec_HeadRead_k
    simp only
    rw [obind_eq s0]
    simp only
    rw [obind_eq s1]
    simp only
    rw [obind_eq s2]
    simp only
    rw [obind_eq s3]
  rw [spec_eq]
  unfold impl_HeadRead impl_HeadRead_k
  simp only
  rw [obind_eq (getter_ok i0)]
  cases h0 : r0.2.2
  · refine ⟨(0, 0, 0, ()), false, by rw [tb_nf], ?_, (fun h => by cases h), fun _ => rfl⟩
    simp only [Bool.not_false, Bool.false_eq_true, if_false]
    rw [obind_eq (getter_bad hl hb _)]
    simp only
    rw [obind_eq (getter_bad hl hb _)]
    simp only
    rw [obind_eq i4]
    simp only [tb_t]
  simp only [Bool.not_true, if_true]
  rw [obind_eq (getter_ok i1)]
  cases h1 : r1.2.2
  · refine ⟨(0, 0, 0, ()), false, by rw [tb_nt, tb_nf], ?_, (fun h => by cases h), fun _ => rfl⟩
    simp only [Bool.not_false, Bool.false_eq_true, if_false]
    rw [obind_eq (getter_bad hl hb _)]
    simp only
    obtain ⟨t5, ok5, s5, i5⟩ := headPack_any r0.1 0 0
    rw [obind_eq i5]
    simp only [tb_t]
  simp only [Bool.not_true, if_true]
  rw [obind_eq (getter_ok i2)]
  cases h2 : r2.2.2
  · refine ⟨(0, 0, 0, ()), false, by rw [tb_nt, tb_nt, tb_nf], ?_, (fun h => by cases h), fun _ => rfl⟩
    simp only [Bool.not_false, Bool.false_eq_true, if_false]
    obtain ⟨t5, ok5, s5, i5⟩ := headPack_any r0.1 r1.1 0
    rw [obind_eq i5]
    simp only [tb_t]
  simp only [Bool.not_true, if_true]
  rw [obind_eq i3]
  simp only [tb_f, tb_nt]
  cases hok : ok3
  · exact ⟨(0, 0, 0, ()), false, by rw [tb_nf], by rw [tb_nf], (fun h => by cases h), fun _ => rfl⟩
  rw [tb_nt]
  cases hq : seq t3 s
  · exact ⟨(0, 0, 0, ()), false, by rw [tb_nf], by rw [tb_nf], (fun h => by cases h), fun _ => rfl⟩
  rw [tb_nt]
  refine ⟨(r0.1, r1.1, r2.1, ()), true, rfl, rfl, fun _ => ?_, (fun h => by cases h)⟩
  cases hr : headRight r0.1 r1.1 r2.1
  · rw [spec_head_bad hr] at s3
    subst hok
    simp at s3
  · rfl
theorem headNow {d : Dk} (hs : dkSmall d) : ∃ h : Hd, spec_HeadNow ((d.1, d.2.1, ()), ()) = some ((), (h.1, h.2.1, h.2.2.1, ()), ()) ∧ impl_HeadNow ((d.1, d.2.1, ()), ()) = some ((), (h.1, h.2.1, h.2.2.1, ()), ()) ∧ (headRight h.1 h.2.1 h.2.2.1 = true ∨ h = (0, 0, 0, ())) := by
  have l1 := hs.1
  have l2 := hs.2
  unfold spec_HeadNow spec_HeadNow_k impl_HeadNow impl_HeadNow_k
  simp only
  rw [obind_eq (spec_ok d (by omega) (by omega)), obind_eq (impl_ok d (by omega) (by omega))]
  simp only
  cases hd : diskOk d
  · exact ⟨(0, 0, 0, ()), by rw [tb_nf], by rw [tb_nf], .inr rfl⟩
  rw [tb_nt, tb_nt]
  have hl := diskOk_len hd
  have z0 := secF_size (at' := 0) hd (by omega) (by omega)
  have z1 := secF_size (at' := 1) hd (by omega) (by omega)
  obtain ⟨a, ok0, a1, a2, a3, a4⟩ := headRead (secF d 0) (by omega)
  obtain ⟨b, ok1, b1, b2, b3, b4⟩ := headRead (secF d 1) (by omega)
  have ha : ok0 = true → 1 ≤ a.1 := fun h => by have := a3 h; simp only [headRight, decide_eq_true_eq] at this; omega
  have hbb : ok1 = true → 1 ≤ b.1 := fun h => by have := b3 h; simp only [headRight, decide_eq_true_eq] at this; omega
  rw [obind_eq (spec_sec (by omega) (by omega) (by omega))]
  simp only
  rw [obind_eq a1]
  simp only
  rw [obind_eq (spec_sec (by omega) (by omega) (by omega))]
  simp only
  rw [obind_eq b1]
  simp only
  have step : ∀ (n : Nat) (at' : Nat) (best z : Hd) (K : Unit × (((Int × Int × Int × Unit) × (Int × Int × Int × Unit) × Unit) × Unit) → Option (Unit × ((Int × Int × Int × Unit) × Unit))) (c : Hd) (ok : Bool), at' < 2 → impl_HeadRead (secF d (at' : Int), ()) = some ((), (c.1, c.2.1, c.2.2.1, ()), ok, ()) →
      impl_HeadNow_k0 fuel (n + 1) K (((at' : Int), ()), (((d.1, d.2.1, ()), (z.1, z.2.1, z.2.2.1, ()), (best.1, best.2.1, best.2.2.1, ()), ()), ())) = impl_HeadNow_k0 fuel n K ((((at' + 1 : Nat) : Int), ()), (((d.1, d.2.1, ()), (z.1, z.2.1, z.2.2.1, ()), (if ok = true ∧ best.1 < c.1 then (c.1, c.2.1, c.2.2.1, ()) else (best.1, best.2.1, best.2.2.1, ())), ()), ())) := by
    intro n at' best z K c ok h2 hr
    rw [impl_HeadNow_k0]
    simp only
    rw [tb_pos (ilt_t (by omega)), obind_eq (impl_sec (by omega) (by omega) (by omega))]
    simp only
    rw [obind_eq hr, wr_succ (by omega)]
    simp only
    cases ok
    · rw [tb_f]; simp
    · rw [tb_t]
      by_cases hc : best.1 < c.1
      · rw [tb_pos (ilt_t hc), if_pos ⟨rfl, hc⟩]
      · rw [tb_neg (ilt_f (by omega)), if_neg (fun q => hc q.2)]
  obtain ⟨n, hn⟩ : ∃ n, fuel = n + 3 := ⟨fuel - 3, by have := fuel_gt; omega⟩
  have fin : ∀ (K : Unit × (((Int × Int × Int × Unit) × (Int × Int × Int × Unit) × Unit) × Unit) → Option (Unit × ((Int × Int × Int × Unit) × Unit))), impl_HeadNow_k0 fuel fuel K ((((0 : Nat) : Int), ()), (((d.1, d.2.1, ()), (0, 0, 0, ()), (0, 0, 0, ()), ()), ())) = K ((), (((0, 0, 0, ()), (if ok1 = true ∧ a.1 < b.1 then (b.1, b.2.1, b.2.2.1, ()) else (a.1, a.2.1, a.2.2.1, ())), ()), ())) := by
    intro K
    have e : ∀ s, impl_HeadNow_k0 fuel fuel K s = impl_HeadNow_k0 fuel (n + 3) K s := fun s => by rw [← hn]
    have h1 := step (n + 2) 0 (0, 0, 0, ()) (0, 0, 0, ()) K a ok0 (by omega) a2
    have e1 : (if ok0 = true ∧ (0 : Int) < a.1 then (a.1, a.2.1, a.2.2.1, ()) else ((0 : Int), (0 : Int), (0 : Int), ())) = (a.1, a.2.1, a.2.2.1, ()) := by
      cases hq : ok0
      · rw [a4 hq]; simp
      · have := ha hq; rw [if_pos ⟨rfl, by omega⟩]
    have h2 := step (n + 1) 1 a (0, 0, 0, ()) K b ok1 (by omega) b2
    rw [e, h1]
    simp only
    rw [e1, h2, impl_HeadNow_k0]
    simp only
    rw [tb_neg (ilt_f (by omega))]
  have ra : headRight a.1 a.2.1 a.2.2.1 = true ∨ a = (0, 0, 0, ()) := by
    cases hq : ok0
    · exact .inr (a4 hq)
    · exact .inl (a3 hq)
  have rb : headRight b.1 b.2.1 b.2.2.1 = true ∨ b = (0, 0, 0, ()) := by
    cases hq : ok1
    · exact .inr (b4 hq)
    · exact .inl (b3 hq)
  by_cases c : a.1 < b.1
  · refine ⟨b, by rw [tb_pos (ilt_t c)], (fin _).trans ?_, rb⟩
    cases hq : ok1
    · have h0 : 0 ≤ a.1 := by
        cases hp : ok0
        · rw [a4 hp]; simp
        · have := ha hp; omega
      have := b4 hq
      rw [this] at c
      simp at c
      omega
    · rw [if_pos ⟨rfl, c⟩]
  · refine ⟨a, by rw [tb_neg (ilt_f (by omega))], (fin _).trans ?_, ra⟩
    rw [if_neg (fun q => c q.2)]
end Go.Proofs.YtjiichnhdhlegaaGreat.V
namespace Go.Proofs.YtjiichnhdhlegaaGreat.V
open Go Go.RowKit
attribute [local irreducible] wr
def TextOk (l : List Int) (a : Int) (r : ByteArray × Int × Bool) : Prop := (r.2.2 = false → r = (⟨#[]⟩, 0, false)) ∧ (r.2.2 = true → 0 ≤ a ∧ a < r.2.1 ∧ r.2.1 ≤ (l.length : Int) ∧ r.1.size ≤ l.length)
abbrev textOut (r : ByteArray × Int × Bool) : Option (Unit × (ByteArray × Int × Bool × Unit)) := some ((), r.1, r.2.1, r.2.2, ())
theorem getText (l : List Int) (hl : l.length ≤ 140737488355328) (hb : ∀ y ∈ l, 0 ≤ y ∧ y ≤ 255) (a : Int) : ∃ r, spec_GetText (l, a, ()) = textOut r ∧ impl_GetText (l, a, ()) = textOut r ∧ TextOk l a r := by
  obtain ⟨⟨n, next, ok⟩, r1, r2, r3, r4⟩ := getNum l hl hb a
  unfold spec_GetText spec_GetText_k impl_GetText impl_GetText_k
  simp only
  rw [obind_eq r1, obind_eq r2]
  simp only
  cases ok with
  | false => exact ⟨(⟨#[]⟩, 0, false), by rw [tb_nf], by rw [tb_nf], fun _ => rfl, fun h => by cases h⟩
  | true =>
    obtain ⟨q1, q2, q3, q4, q5⟩ := r4 rfl
    simp only at q1 q2 q4 q5
    have hw : wr .i64 (((llen l : Nat) : Int) - next) = (l.length : Int) - next := by simp only [llen]; exact wr64 (by omega) (by omega)
    rw [tb_nt, hw]
    by_cases c : (l.length : Int) - next < n
    · exact ⟨(⟨#[]⟩, 0, false), by rw [tb_pos (ilt_t c)], by rw [tb_pos (ilt_t c)], fun _ => rfl, fun h => by cases h⟩
    · have hw2 : wr .i64 (next + n) = next + n := wr64 (by omega) (by omega)
      have hx : tb (ilt ((l.length : Int) - next) n) (some ((), (⟨#[]⟩ : ByteArray), (0 : Int), false, ())) (chk ((0 ≤ next) ∧ ((next ≤ wr .i64 (next + n)) ∧ (wr .i64 (next + n) ≤ (((llen l) : Nat) : Int)))) (some ((), (strOf (lcut l (Int.toNat next) (Int.toNat (wr .i64 (next + n))))), wr .i64 (next + n), true, ())) none) = textOut (strOf (lcut l next.toNat (next + n).toNat), next + n, true) := by
        rw [tb_neg (ilt_f (by omega)), hw2, chk_pos (by simp only [llen]; omega)]
      refine ⟨_, hx, hx, (fun h => by cases h), fun _ => ⟨q3, ?_, ?_, ?_⟩⟩
      · simp only; omega
      · simp only; omega
      · simp only [strOf_size]
        rw [lcut_length _ _ _ (by omega)]; omega
theorem tgetter_bad {l : List Int} (hl : l.length ≤ 140737488355328) (hb : ∀ y ∈ l, 0 ≤ y ∧ y ≤ 255) (a : Int) : impl_getter_text ((l, a, true, ()), ()) = some (((l, a, true, ()), ()), ⟨#[]⟩, ()) := by
  obtain ⟨r, r1, r2, r3⟩ := getText l hl hb a
  unfold impl_getter_text impl_getter_text_k
  rw [obind_eq r2]
  rfl
theorem tgetter_ok {l : List Int} {a : Int} {r : ByteArray × Int × Bool} (h : impl_GetText (l, a, ()) = textOut r) : impl_getter_text ((l, a, false, ()), ()) = some (((l, if r.2.2 = true then r.2.1 else a, !r.2.2, ()), ()), if r.2.2 = true then r.1 else ⟨#[]⟩, ()) := by
  unfold impl_getter_text impl_getter_text_k
  rw [obind_eq h]
  cases hr : r.2.2
  · simp only; rfl
  · simp only; rfl
abbrev Rc : Type := Int × ByteArray × ByteArray × Unit
abbrev rc0 : Rc := (0, ⟨#[]⟩, ⟨#[]⟩, ())
theorem recordRead (l : List Int) (hl : l.length ≤ 70368744170000) (hb : ∀ y ∈ l, 0 ≤ y ∧ y ≤ 255) (a : Int) : ∃ (r : Rc) (nx : Int) (ok : Bool), spec_RecordRead (l, a, ()) = some ((), (r.1, r.2.1, r.2.2.1, ()), nx, ok, ()) ∧ impl_RecordRead (l, a, ()) = some ((), (r.1, r.2.1, r.2.2.1, ()), nx, ok, ()) ∧ (ok = true → 0 ≤ a ∧ a < nx ∧ nx ≤ (l.length : Int)) := by
  have hl' : l.length ≤ 140737488355328 := by omega
  have e0 : (⟨#[]⟩ : ByteArray).size = 0 := rfl
  obtain ⟨⟨n, p0, ok0⟩, s0, i0, -, g0⟩ := getNum l hl' hb a
  have hi0 := getter_ok i0
  unfold spec_RecordRead spec_RecordRead_k impl_RecordRead impl_RecordRead_k
  simp only
  rw [obind_eq s0, obind_eq hi0]
  simp only
  cases ok0 with
  | false =>
    refine ⟨rc0, 0, false, by rw [tb_nf], ?_, fun h => by cases h⟩
    simp only [Bool.not_false, Bool.false_eq_true, if_false]
    rw [obind_eq (tgetter_bad hl' hb _)]
    simp only
    rw [ieq_f (by decide), tb_f, obind_eq (impl_rec _ _ _ (by rw [e0]; omega))]
    simp only
    rw [tb_t]
  | true =>
    obtain ⟨q1, q2, q3, q4, q5⟩ := g0 rfl
    simp only at q1 q2 q4 q5
    obtain ⟨⟨u, p1, ok1⟩, s1, i1, -, g1⟩ := getText l hl' hb p0
    have hi1 := tgetter_ok i1
    simp only [Bool.not_true, if_true]
    rw [tb_nt, obind_eq s1, obind_eq hi1]
    simp only
    cases ok1 with
    | false =>
      refine ⟨rc0, 0, false, by rw [tb_nf], ?_, fun h => by cases h⟩
      simp only [Bool.not_false, Bool.false_eq_true, if_false]
      by_cases hn : n = 1
      · rw [ieq_t hn, tb_t, obind_eq (tgetter_bad hl' hb _)]
        simp only
        rw [obind_eq (impl_rec _ _ _ (by rw [e0]; omega))]
        simp only
        rw [tb_t]
      · rw [ieq_f hn, tb_f, obind_eq (impl_rec _ _ _ (by rw [e0]; omega))]
        simp only
        rw [tb_t]
    | true =>
      obtain ⟨t1, t2, t3, t4⟩ := g1 rfl
      simp only at t2 t3 t4
      simp only [Bool.not_true, if_true]
      rw [tb_nt]
      by_cases hn : n = 1
      · rw [ieq_t hn, tb_t, tb_t]
        obtain ⟨⟨b, p2, ok2⟩, s2, i2, -, g2⟩ := getText l hl' hb p1
        have hi2 := tgetter_ok i2
        rw [obind_eq s2, obind_eq hi2]
        simp only
        cases ok2 with
        | false =>
          refine ⟨rc0, 0, false, by rw [tb_nf], ?_, fun h => by cases h⟩
          simp only [Bool.not_false, Bool.false_eq_true, if_false]
          rw [obind_eq (impl_rec _ _ _ (by rw [e0]; omega))]
          simp only
          rw [tb_t]
        | true =>
          obtain ⟨v1, v2, v3, v4⟩ := g2 rfl
          simp only at v2 v3 v4
          simp only [Bool.not_true, if_true]
          rw [tb_nt, obind_eq (spec_rec _ _ _ (by omega)), obind_eq (impl_rec _ _ _ (by omega))]
          simp only
          rw [tb_f]
          cases hq : (recPacked n u b).2
          · exact ⟨rc0, 0, false, by rw [tb_nf], by rw [tb_nf], fun h => by cases h⟩
          · exact ⟨(n, u, b, ()), p2, true, by rw [tb_nt], by rw [tb_nt], fun _ => ⟨q3, by omega, v3⟩⟩
      · rw [ieq_f hn, tb_f, tb_f, obind_eq (spec_rec _ _ _ (by rw [e0]; omega)), obind_eq (impl_rec _ _ _ (by rw [e0]; omega))]
        simp only
        rw [tb_f]
        cases hq : (recPacked n u ⟨#[]⟩).2
        · exact ⟨rc0, 0, false, by rw [tb_nf], by rw [tb_nf], fun h => by cases h⟩
        · exact ⟨(n, u, ⟨#[]⟩, ()), p1, true, by rw [tb_nt], by rw [tb_nt], fun _ => ⟨q3, by omega, t3⟩⟩
theorem records0 {l : List Int} (hl : l.length ≤ 1000000000) (hb : ∀ y ∈ l, 0 ≤ y ∧ y ≤ 255) : ∀ (d a m m' : Nat) (acc : List Rc), l.length ≤ a + d → a ≤ l.length → acc.length ≤ a → d < m → d < m' →
      ∃ (rs : List Rc) (ok : Bool), spec_Records_k0 fuel m (fun v0 => some ((), v0.2.2.1, true, ())) ((l, (a : Int), ()), (), acc, ()) = some ((), rs, ok, ()) ∧ impl_Records_k0 fuel m' (fun v0 => some ((), v0.2.2.1, true, ())) ((l, (a : Int), ()), (), acc, ()) = some ((), rs, ok, ()) ∧ rs.length ≤ l.length := by
  intro d
  induction d with
  | zero =>
    intro a m m' acc h ha hacc hm hm'
    obtain ⟨m, rfl⟩ : ∃ q, m = q + 1 := ⟨m - 1, by omega⟩
    obtain ⟨m', rfl⟩ : ∃ q, m' = q + 1 := ⟨m' - 1, by omega⟩
    refine ⟨acc, true, ?_, ?_, by omega⟩
    · rw [spec_Records_k0]; simp only; rw [tb_neg (ilt_f (by simp only [llen]; omega))]
    · rw [impl_Records_k0]; simp only; rw [tb_neg (ilt_f (by simp only [llen]; omega))]
  | succ d ih =>
    intro a m m' acc h ha hacc hm hm'
    obtain ⟨m, rfl⟩ : ∃ q, m = q + 1 := ⟨m - 1, by omega⟩
    obtain ⟨m', rfl⟩ : ∃ q, m' = q + 1 := ⟨m' - 1, by omega⟩
    by_cases hal : a = l.length
    · refine ⟨acc, true, ?_, ?_, by omega⟩
      · rw [spec_Records_k0]; simp only; rw [tb_neg (ilt_f (by simp only [llen]; omega))]
      · rw [impl_Records_k0]; simp only; rw [tb_neg (ilt_f (by simp only [llen]; omega))]
    obtain ⟨r, nx, ok, s1, i1, g⟩ := recordRead l (by omega) hb (a : Int)
    have S : ∀ z, tb (bnot ok) (some ((), [], false, ())) (spec_Records_k0 fuel m (fun v0 => some ((), v0.2.2.1, true, ())) ((l, nx, ()), (), acc ++ [(r.1, r.2.1, r.2.2.1, ())], ())) = z → spec_Records_k0 fuel (m + 1) (fun v0 => some ((), v0.2.2.1, true, ())) ((l, (a : Int), ()), (), acc, ()) = z := fun z hz => by
      rw [spec_Records_k0]
      simp only
      rw [tb_pos (ilt_t (by simp only [llen]; omega)), obind_eq s1]
      simp only
      rw [chk_pos (by simp only [plus, llen, List.length_singleton]; omega)]
      exact hz
    have I : ∀ z, tb (bnot ok) (some ((), [], false, ())) (impl_Records_k0 fuel m' (fun v0 => some ((), v0.2.2.1, true, ())) ((l, nx, ()), (), acc ++ [(r.1, r.2.1, r.2.2.1, ())], ())) = z → impl_Records_k0 fuel (m' + 1) (fun v0 => some ((), v0.2.2.1, true, ())) ((l, (a : Int), ()), (), acc, ()) = z := fun z hz => by
      rw [impl_Records_k0]
      simp only
      rw [tb_pos (ilt_t (by simp only [llen]; omega)), obind_eq i1]
      simp only
      rw [chk_pos (by simp only [plus, llen, List.length_singleton]; omega)]
      exact hz
    cases ok with
    | false => exact ⟨[], false, S _ (by rw [tb_nf]), I _ (by rw [tb_nf]), by simp⟩
    | true =>
      obtain ⟨g1, g2, g3⟩ := g rfl
      obtain ⟨b, rfl⟩ := Int.eq_ofNat_of_zero_le (show 0 ≤ nx by omega)
      obtain ⟨rs, ok, h1, h2, h3⟩ := ih b m m' (acc ++ [(r.1, r.2.1, r.2.2.1, ())]) (by omega) (by omega) (by simp; omega) (by omega) (by omega)
      exact ⟨rs, ok, S _ (by rw [tb_nt]; exact h1), I _ (by rw [tb_nt]; exact h2), h3⟩
theorem records {l : List Int} (hl : l.length ≤ 1000000000) (hb : ∀ y ∈ l, 0 ≤ y ∧ y ≤ 255) : ∃ (rs : List Rc) (ok : Bool), spec_Records (l, ()) = some ((), rs, ok, ()) ∧ impl_Records (l, ()) = some ((), rs, ok, ()) ∧ rs.length ≤ l.length := by
  unfold spec_Records spec_Records_k impl_Records impl_Records_k
  exact records0 hl hb l.length 0 fuel fuel [] (by omega) (by omega) (by simp) (by have := fuel_gt; omega) (by have := fuel_gt; omega)
end Go.Proofs.YtjiichnhdhlegaaGreat.V
namespace Go.Proofs.YtjiichnhdhlegaaGreat.V
open Go Go.RowKit
attribute [local irreducible] wr
theorem toList_inj {a b : ByteArray} (h : a.toList = b.toList) : a = b := by
  rw [ByteArray.toList_eq, ByteArray.toList_eq] at h
  exact ByteArray.ext (Array.ext' h)
theorem seq_ne {a b : ByteArray} (h : a ≠ b) : seq a b = false := by
  simp only [seq, beq_eq_false_iff_ne, ne_eq]
  exact fun q => h (toList_inj q)
theorem bl_irrefl : ∀ x : List UInt8, Op.bytesLess x x = false
  | [] => rfl
  | a :: x => by
    have := bl_irrefl x
    simp [Op.bytesLess, this]
theorem bl_trans : ∀ x y z : List UInt8, Op.bytesLess x y = true → Op.bytesLess y z = true → Op.bytesLess x z = true
  | _, [], _, h, _ => by simp [Op.bytesLess] at h
  | _, _ :: _, [], _, h => by simp [Op.bytesLess] at h
  | [], _ :: _, _ :: _, _, _ => rfl
  | a :: x, b :: y, c :: z, h, k => by
    have ih := bl_trans x y z
    simp only [Op.bytesLess, Bool.or_eq_true, Bool.and_eq_true, decide_eq_true_eq, beq_iff_eq, UInt8.lt_iff_toNat_lt] at h k ⊢
    rcases h with h | ⟨rfl, h⟩
    · rcases k with k | ⟨rfl, k⟩
      · exact .inl (by omega)
      · exact .inl h
    · rcases k with k | ⟨rfl, k⟩
      · exact .inl k
      · exact .inr ⟨rfl, ih h k⟩
theorem bl_tri : ∀ x y : List UInt8, Op.bytesLess x y = false → x ≠ y → Op.bytesLess y x = true
  | [], [], _, h => absurd rfl h
  | [], _ :: _, h, _ => by simp [Op.bytesLess] at h
  | _ :: _, [], _, _ => rfl
  | a :: x, b :: y, h, k => by
    have ih := bl_tri x y
    simp only [Op.bytesLess, Bool.or_eq_false_iff, decide_eq_false_iff_not, Bool.and_eq_false_iff, beq_eq_false_iff_ne, UInt8.lt_iff_toNat_lt] at h
    simp only [Op.bytesLess, Bool.or_eq_true, Bool.and_eq_true, decide_eq_true_eq, beq_iff_eq, UInt8.lt_iff_toNat_lt]
    by_cases e : a = b
    · subst e
      refine .inr ⟨rfl, ih ?_ (fun e => k (by rw [e]))⟩
      rcases h.2 with h2 | h2
      · exact absurd rfl h2
      · exact h2
    · have : a.toNat ≠ b.toNat := fun h => e (UInt8.toNat_inj.1 h)
      exact .inl (by omega)
def less (a b : ByteArray) : Bool := Op.bytesLess a.toList b.toList
theorem less_irrefl (a : ByteArray) : less a a = false := bl_irrefl _
theorem less_trans {a b c : ByteArray} (h : less a b = true) (k : less b c = true) : less a c = true := bl_trans _ _ _ h k
theorem less_tri {a b : ByteArray} (h : less a b = false) (k : a ≠ b) : less b a = true := bl_tri _ _ h (fun e => k (toList_inj e))
def Asc (l : List Elt) : Prop := l.Pairwise (fun x y => less x.1 y.1 = true)
def updS (u b : ByteArray) : Bool → List Elt → List Elt
  | put, [] => if put = true then [] else [(u, b, ())]
  | put, e :: l => (if put = false ∧ less e.1 u = false then [(u, b, ())] else []) ++ ((if e.1 = u then [] else [e]) ++ updS u b (put || !less e.1 u) l)
theorem updS_length (u b : ByteArray) : ∀ (put : Bool) (l : List Elt), (updS u b put l).length ≤ l.length + (if put = true then 0 else 1)
  | true, [] => by simp [updS]
  | false, [] => by simp [updS]
  | put, e :: l => by
    have h := updS_length u b (put || !less e.1 u) l
    unfold updS
    rw [List.length_append, List.length_append, List.length_cons]
    have h1 : (if e.1 = u then ([] : List Elt) else [e]).length ≤ 1 := by split <;> simp
    cases put with
    | true => simp at h ⊢; omega
    | false =>
      cases hl : less e.1 u with
      | true => simp [hl] at h ⊢; omega
      | false => simp [hl] at h ⊢; omega
theorem updS_none (u b : ByteArray) : ∀ (l : List Elt), (∀ e ∈ l, e.1 ≠ u) → updS u b true l = l
  | [], _ => rfl
  | e :: l, h => by
    have ih := updS_none u b l (fun x hx => h x (List.mem_cons_of_mem _ hx))
    unfold updS
    rw [if_neg (h e (List.mem_cons_self ..))]
    simp [ih]
def atOf (u : ByteArray) (l : List Elt) : Nat := (l.takeWhile (fun e => less e.1 u)).length
def hasOf (u : ByteArray) (l : List Elt) : Bool := match l.dropWhile (fun e => less e.1 u) with | [] => false | e :: _ => seq e.1 u
def updI (keep : Bool) (u b : ByteArray) (l : List Elt) : List Elt :=
  l.takeWhile (fun e => less e.1 u) ++ ((if keep = true then [(u, b, ())] else []) ++ (if hasOf u l = true then (l.dropWhile (fun e => less e.1 u)).tail else l.dropWhile (fun e => less e.1 u)))
theorem upd_same (keep : Bool) (u b : ByteArray) : ∀ (l : List Elt), Asc l → updS u b (!keep) l = updI keep u b l
  | [], _ => by cases keep <;> rfl
  | e :: l, h => by
    have hl := (List.pairwise_cons.1 h).2
    have hd := (List.pairwise_cons.1 h).1
    have ih := upd_same keep u b l hl
    cases hle : less e.1 u with
    | true =>
      have hne : e.1 ≠ u := fun he => by rw [he, less_irrefl] at hle; cases hle
      unfold updS updI hasOf
      rw [List.takeWhile_cons_of_pos (by exact hle), List.dropWhile_cons_of_pos (by exact hle), if_neg hne, hle]
      unfold updI hasOf at ih
      simp only [Bool.not_true, Bool.or_false, ih]
      simp
    | false =>
      have hno : ∀ x ∈ l, x.1 ≠ u := fun x hx he => by
        have := hd x hx
        rw [he, hle] at this
        cases this
      unfold updS updI hasOf
      rw [List.takeWhile_cons_of_neg (by simp [hle]), List.dropWhile_cons_of_neg (by simp [hle]), hle]
      simp only [Bool.not_false, Bool.or_true, updS_none u b l hno]
      by_cases he : e.1 = u
      · subst he
        cases keep <;> simp [seq_self]
      · cases keep <;> simp [he, seq_ne he]
theorem updS_mem (u b : ByteArray) : ∀ (put : Bool) (l : List Elt) (x : Elt), x ∈ updS u b put l → x ∈ l ∨ x = (u, b, ())
  | put, [], x, h => by
    unfold updS at h
    split at h
    · cases h
    · exact .inr (by simpa using h)
  | put, e :: l, x, h => by
    unfold updS at h
    rcases List.mem_append.1 h with h | h
    · split at h
      · exact .inr (by simpa using h)
      · cases h
    · rcases List.mem_append.1 h with h | h
      · split at h
        · cases h
        · exact .inl (by have : x = e := by simpa using h
                         rw [this]; exact List.mem_cons_self ..)
      · rcases updS_mem u b _ l x h with h | h
        · exact .inl (List.mem_cons_of_mem _ h)
        · exact .inr h
theorem upd_asc (u b : ByteArray) : ∀ (put : Bool) (l : List Elt), Asc l → Asc (updS u b put l)
  | put, [], _ => by
    unfold updS
    split
    · exact List.Pairwise.nil
    · exact List.pairwise_singleton _ _
  | put, e :: l, h => by
    have hl := (List.pairwise_cons.1 h).2
    have hd := (List.pairwise_cons.1 h).1
    cases hle : less e.1 u with
    | true =>
      have hne : e.1 ≠ u := fun he => by rw [he, less_irrefl] at hle; cases hle
      have ih := upd_asc u b put l hl
      unfold updS
      rw [if_neg hne, hle]
      simp only [Bool.not_true, Bool.or_false]
      rw [if_neg (by simp)]
      refine List.pairwise_cons.2 ⟨fun x hx => ?_, ih⟩
      rcases updS_mem u b put l x hx with hx | rfl
      · exact hd x hx
      · exact hle
    | false =>
      have hno : ∀ x ∈ l, x.1 ≠ u := fun x hx he => by
        have := hd x hx
        rw [he, hle] at this
        cases this
      have hul : ∀ x ∈ l, less u x.1 = true := fun x hx => by
        by_cases he : e.1 = u
        · rw [← he]; exact hd x hx
        · exact less_trans (less_tri hle he) (hd x hx)
      unfold updS
      rw [hle]
      simp only [Bool.not_false, Bool.or_true, updS_none u b l hno]
      by_cases he : e.1 = u
      · rw [if_pos he, List.nil_append]
        split
        · exact List.pairwise_cons.2 ⟨hul, hl⟩
        · exact hl
      · rw [if_neg he]
        split
        · refine List.pairwise_cons.2 ⟨fun x hx => ?_, h⟩
          rcases List.mem_cons.1 (show x ∈ e :: l from hx) with rfl | hx
          · exact less_tri hle he
          · exact hul x hx
        · exact h
end Go.Proofs.YtjiichnhdhlegaaGreat.V
namespace Go.Proofs.YtjiichnhdhlegaaGreat.V
open Go Go.RowKit
attribute [local irreducible] wr
theorem slt_less (a b : ByteArray) : slt a b = less a b := rfl
theorem spec_k2 {K} (recs : List Rc) (out : List Elt) (i : Nat) (rc : Rc) (hi : recs[i]? = some rc) (ho : out.length ≤ 1000000000) : ∀ (d j m : Nat) (acc : List Elt) (put : Bool), j + d = out.length → acc.length ≤ 2 * j + 1 → d < m →
    ∃ (rest : List Elt) (put' : Bool), spec_IndexOf_k2 fuel m K ((recs, (i : Int), put, (j : Int), ()), (), out, acc, ()) = K ((recs, (i : Int), put', ()), (), acc ++ rest, ()) ∧ (rest ++ if put' = true then [] else [(rc.2.1, rc.2.2.1, ())]) = updS rc.2.1 rc.2.2.1 put (out.drop j) ∧ rest.length ≤ 2 * (out.length - j) := by
  intro d
  induction d with
  | zero =>
    intro j m acc put hj ha hm
    obtain ⟨m, rfl⟩ : ∃ q, m = q + 1 := ⟨m - 1, by omega⟩
    refine ⟨[], put, ?_, ?_, by simp⟩
    · rw [spec_IndexOf_k2]
      simp only
      rw [tb_neg (ilt_f (by simp only [llen]; omega)), List.append_nil]
    · rw [List.drop_eq_nil_of_le (by omega)]
      cases put <;> rfl
  | succ d ih =>
    intro j m acc put hj ha hm
    obtain ⟨m, rfl⟩ : ∃ q, m = q + 1 := ⟨m - 1, by omega⟩
    have hlt : j < out.length := by omega
    obtain ⟨e, he⟩ : ∃ e, out[j]? = some e := ⟨out[j], List.getElem?_eq_getElem hlt⟩
    have hdr : out.drop j = e :: out.drop (j + 1) := by
      rw [List.drop_eq_getElem_cons hlt]; congr 1
      have := List.getElem?_eq_getElem hlt
      rw [he] at this
      exact (Option.some.inj this).symm
    have hie : at? recs ((i : Int)).toNat = some rc := at_some hi
    have hje : at? out ((j : Int)).toNat = some e := at_some he
    have tail : ∀ (acc' : List Elt) (put' : Bool), acc'.length ≤ 2 * j + 2 → ∃ (rest : List Elt) (put2 : Bool),
        tb (bnot (seq e.1 rc.2.1)) (chk (plus (llen acc') (llen [(e.1, e.2.1, ())]) ≤ 4398046511104) (spec_IndexOf_k2 fuel m K ((recs, (i : Int), put', ((j + 1 : Nat) : Int), ()), (), out, lapp acc' [(e.1, e.2.1, ())], ())) none) (spec_IndexOf_k2 fuel m K ((recs, (i : Int), put', ((j + 1 : Nat) : Int), ()), (), out, acc', ())) = K ((recs, (i : Int), put2, ()), (), acc' ++ rest, ()) ∧
        (rest ++ if put2 = true then [] else [(rc.2.1, rc.2.2.1, ())]) = (if e.1 = rc.2.1 then [] else [e]) ++ updS rc.2.1 rc.2.2.1 put' (out.drop (j + 1)) ∧ rest.length ≤ 2 * (out.length - (j + 1)) + 1 := by
      intro acc' put' hl
      by_cases h : e.1 = rc.2.1
      · obtain ⟨rest, put2, h1, h2, h3⟩ := ih (j + 1) m acc' put' (by omega) (by omega) (by omega)
        refine ⟨rest, put2, ?_, ?_, by omega⟩
        · rw [h, seq_self, tb_nt]; exact h1
        · rw [if_pos h, List.nil_append]; exact h2
      · obtain ⟨rest, put2, h1, h2, h3⟩ := ih (j + 1) m (acc' ++ [e]) put' (by omega) (by simp; omega) (by omega)
        refine ⟨e :: rest, put2, ?_, ?_, by simp; omega⟩
        · rw [seq_ne h, tb_nf, chk_pos (by simp only [plus, llen, List.length_singleton]; omega)]
          refine Eq.trans h1 ?_
          rw [List.append_assoc]; rfl
        · rw [if_neg h]; simp only [List.cons_append, List.nil_append]; rw [h2]
    have hw : Hid (wr .i64 ((j : Int) + 1) = ((j + 1 : Nat) : Int)) := ⟨wrn (by omega) (by omega)⟩
    cases put with
    | true =>
      obtain ⟨rest, put2, h1, h2, h3⟩ := tail acc true (by omega)
      refine ⟨rest, put2, ?_, ?_, by omega⟩
      · rw [spec_IndexOf_k2]
        simp only
        rw [tb_pos (ilt_t (by simp only [llen]; omega)), tb_nt, chk_pos (by simp only [llen]; omega), obind_eq hje, chk_pos (by omega), obind_eq hie, chk_pos (by simp only [llen]; omega), obind_eq hje, hw.out]
        exact h1
      · rw [h2, hdr]; simp [updS]
    | false =>
      cases hle : slt e.1 rc.2.1 with
      | true =>
        obtain ⟨rest, put2, h1, h2, h3⟩ := tail acc false (by omega)
        refine ⟨rest, put2, ?_, ?_, by omega⟩
        · rw [spec_IndexOf_k2]
          simp only
          rw [tb_pos (ilt_t (by simp only [llen]; omega)), tb_nf, chk_pos (by simp only [llen]; omega), obind_eq hje, chk_pos (by omega), obind_eq hie, hle, tb_nt, chk_pos (by simp only [llen]; omega), obind_eq hje, chk_pos (by omega), obind_eq hie, chk_pos (by simp only [llen]; omega), obind_eq hje, hw.out]
          exact h1
        · rw [h2, hdr]; simp [updS, ← slt_less, hle]
      | false =>
        obtain ⟨rest, put2, h1, h2, h3⟩ := tail (acc ++ [(rc.2.1, rc.2.2.1, ())]) true (by simp; omega)
        refine ⟨(rc.2.1, rc.2.2.1, ()) :: rest, put2, ?_, ?_, by simp; omega⟩
        · rw [spec_IndexOf_k2]
          simp only
          rw [tb_pos (ilt_t (by simp only [llen]; omega)), tb_nf, chk_pos (by simp only [llen]; omega), obind_eq hje, chk_pos (by omega), obind_eq hie, hle, tb_nf, chk_pos (by omega), obind_eq hie, chk_pos (by omega), obind_eq hie, chk_pos (by simp only [plus, llen, List.length_singleton]; omega), chk_pos (by simp only [llen]; omega), obind_eq hje, chk_pos (by omega), obind_eq hie, chk_pos (by simp only [llen]; omega), obind_eq hje, hw.out]
          refine Eq.trans h1 ?_
          rw [List.append_assoc]; rfl
        · simp only [List.cons_append]
          rw [h2, hdr]; simp [updS, ← slt_less, hle]
theorem entryAt0 {K} (out : List Elt) (u : ByteArray) (ho : out.length ≤ 1000000000) : ∀ (d j m : Nat), j + d = out.length → d < m → impl_entryAt_k0 fuel m K ((out, u, (j : Int), ()), (), ()) = K ((out, u, ((j + atOf u (out.drop j) : Nat) : Int), ()), (), ()) := by
  intro d
  induction d with
  | zero =>
    intro j m hj hm
    obtain ⟨m, rfl⟩ : ∃ q, m = q + 1 := ⟨m - 1, by omega⟩
    rw [List.drop_eq_nil_of_le (by omega), impl_entryAt_k0]
    simp only
    rw [tb_neg (ilt_f (by simp only [llen]; omega))]
    rfl
  | succ d ih =>
    intro j m hj hm
    obtain ⟨m, rfl⟩ : ∃ q, m = q + 1 := ⟨m - 1, by omega⟩
    have hlt : j < out.length := by omega
    have he : out[j]? = some out[j] := List.getElem?_eq_getElem hlt
    rw [List.drop_eq_getElem_cons hlt, impl_entryAt_k0]
    simp only
    rw [tb_pos (ilt_t (by simp only [llen]; omega)), chk_pos (by omega), obind_eq (at_some he), wr_succ (by omega)]
    unfold atOf at ih ⊢
    cases hle : less out[j].1 u with
    | true =>
      rw [slt_less, hle, tb_t, ih (j + 1) m (by omega) (by omega), List.takeWhile_cons_of_pos (by exact hle), List.length_cons]
      congr 5; omega
    | false =>
      rw [slt_less, hle, tb_f, List.takeWhile_cons_of_neg (by simp [hle])]
      rfl
theorem entryAt_eq (out : List Elt) (u : ByteArray) (ho : out.length ≤ 1000000000) : impl_entryAt (out, u, ()) = some ((), ((atOf u out : Nat) : Int), hasOf u out, ()) := by
  unfold impl_entryAt impl_entryAt_k
  have := entryAt0 (K := fun v0 => tb (ilt v0.1.2.2.1 (((llen v0.1.1) : Nat) : Int)) (chk (0 ≤ v0.1.2.2.1) (obind (at? v0.1.1 (Int.toNat v0.1.2.2.1)) fun v1 => some ((), v0.1.2.2.1, (seq v1.1 v0.1.2.1), ())) (none)) (some ((), v0.1.2.2.1, false, ()))) out u ho out.length 0 fuel (by omega) (by have := fuel_gt; omega)
  rw [List.drop_zero, Nat.zero_add] at this
  refine Eq.trans this ?_
  simp only
  have hsplit : out.takeWhile (fun e => less e.1 u) ++ out.dropWhile (fun e => less e.1 u) = out := List.takeWhile_append_dropWhile
  have hl : atOf u out = (out.takeWhile (fun e => less e.1 u)).length := rfl
  unfold hasOf
  cases hd : out.dropWhile (fun e => less e.1 u) with
  | nil =>
    rw [hd, List.append_nil] at hsplit
    rw [tb_neg (ilt_f (by simp only [llen]; rw [hl, hsplit]; omega))]
  | cons e l =>
    rw [hd] at hsplit
    have hx : out[atOf u out]? = some e := by
      conv => lhs; lhs; rw [← hsplit]
      rw [hl]; exact get_split _ _ _
    have := lt_of_get hx
    rw [tb_pos (ilt_t (by simp only [llen]; omega)), chk_pos (by omega), obind_eq (at_some hx)]
end Go.Proofs.YtjiichnhdhlegaaGreat.V
namespace Go.Proofs.YtjiichnhdhlegaaGreat.V
open Go Go.RowKit
attribute [local irreducible] wr
theorem insert_at (pre rest : List Elt) (x : Elt) (h : (pre ++ rest).length ≤ 1000000000) : slices_Insert_Entry (pre ++ rest, (pre.length : Int), [x], ()) = some ((), pre ++ ([x] ++ rest), ()) := by
  unfold slices_Insert_Entry insertF
  simp only
  rw [if_pos ⟨by omega, by rw [List.length_append]; omega, by omega⟩, Int.toNat_natCast, List.take_left, List.drop_left]
theorem delete_at (pre suf : List Elt) (h : suf ≠ []) : slices_Delete_Entry (pre ++ suf, (pre.length : Int), ((pre.length + 1 : Nat) : Int), ()) = some ((), pre ++ suf.tail, ()) := by
  have hs : 0 < suf.length := List.length_pos_iff.2 h
  unfold slices_Delete_Entry deleteF
  simp only
  rw [if_pos ⟨by omega, by omega, by rw [List.length_append]; omega⟩, Int.toNat_natCast, List.take_left, ← List.drop_drop, List.drop_left, List.drop_one]
theorem impl_step {K : Unit × Unit × List Elt × Unit → Option (Unit × List Elt × Unit)} (recs : List Rc) (out : List Elt) (i m : Nat) (rc : Rc) (hi : recs[i]? = some rc) (hr : recs.length ≤ 1000000000) (ho : out.length ≤ 999999998) :
    impl_IndexOf_k0 fuel (m + 1) K ((recs, (recs.length : Int), (i : Int), ()), (), out, ()) = impl_IndexOf_k0 fuel m K ((recs, (recs.length : Int), ((i + 1 : Nat) : Int), ()), (), updI (ieq rc.1 1) rc.2.1 rc.2.2.1 out, ()) := by
  have hlt := lt_of_get hi
  obtain ⟨pre, hpre⟩ : ∃ pre, pre = out.takeWhile (fun e => less e.1 rc.2.1) := ⟨_, rfl⟩
  obtain ⟨suf, hsuf⟩ : ∃ suf, suf = out.dropWhile (fun e => less e.1 rc.2.1) := ⟨_, rfl⟩
  have hsplit : pre ++ suf = out := by rw [hpre, hsuf]; exact List.takeWhile_append_dropWhile
  have hat := entryAt_eq out rc.2.1 (by omega)
  rw [show atOf rc.2.1 out = pre.length by rw [hpre]; rfl] at hat
  have hol : pre.length + suf.length = out.length := by rw [← hsplit, List.length_append]
  rw [impl_IndexOf_k0]
  simp only
  rw [tb_pos (ilt_t (by omega)), chk_pos (by omega), obind_eq (at_some hi)]
  rw [obind_eq hat]
  simp only
  unfold updI
  rw [← hpre, ← hsuf, wr_succ (i := pre.length) (by omega), wr_succ (i := i) (by omega)]
  cases hh : hasOf rc.2.1 out with
  | true =>
    have hne : suf ≠ [] := fun e => by
      unfold hasOf at hh
      rw [← hsuf, e] at hh
      cases hh
    have hd := delete_at pre suf hne
    rw [hsplit] at hd
    rw [tb_t, obind_eq hd]
    simp only
    cases hk : ieq rc.1 1 with
    | true =>
      rw [tb_t, obind_eq (insert_at pre suf.tail (rc.2.1, rc.2.2.1, ()) (by rw [List.length_append, List.length_tail]; omega))]
      simp
    | false => rw [tb_f]; simp
  | false =>
    rw [tb_f]
    cases hk : ieq rc.1 1 with
    | true =>
      have hin := insert_at pre suf (rc.2.1, rc.2.2.1, ()) (by rw [hsplit]; omega)
      rw [hsplit] at hin
      rw [tb_t, obind_eq hin]
      simp
    | false => rw [tb_f]; simp [hsplit]
theorem spec_step {K : Unit × Unit × List Elt × Unit → Option (Unit × List Elt × Unit)} (recs : List Rc) (out : List Elt) (i m : Nat) (rc : Rc) (hi : recs[i]? = some rc) (hr : recs.length ≤ 1000000000) (ho : out.length ≤ 999999998) :
    spec_IndexOf_k0 fuel (m + 1) K ((recs, (i : Int), ()), (), out, ()) = spec_IndexOf_k0 fuel m K ((recs, ((i + 1 : Nat) : Int), ()), (), updS rc.2.1 rc.2.2.1 (bnot (ieq rc.1 1)) out, ()) := by
  have hlt := lt_of_get hi
  rw [spec_IndexOf_k0]
  simp only
  rw [tb_pos (ilt_t (by simp only [llen]; omega)), chk_pos (by omega), obind_eq (at_some hi)]
  obtain ⟨rest, put', h1, h2, h3⟩ := spec_k2 (K := fun v1 =>
          tb (bnot v1.1.2.2.1)
          (chk (0 ≤ v1.1.2.1) (obind (at? v1.1.1 (Int.toNat v1.1.2.1)) fun v2 =>
              chk (0 ≤ v1.1.2.1) (obind (at? v1.1.1 (Int.toNat v1.1.2.1)) fun v3 =>
                chk ((plus (llen v1.2.2.1) (llen [(v2.2.1, v3.2.2.1, ())])) ≤ 4398046511104) (spec_IndexOf_k0 fuel m K ((v1.1.1, (wr .i64 (v1.1.2.1 + 1)), ()), (), (lapp v1.2.2.1 [(v2.2.1, v3.2.2.1, ())]), ())) (none)) (none)) (none))
          (spec_IndexOf_k0 fuel m K ((v1.1.1, (wr .i64 (v1.1.2.1 + 1)), ()), (), v1.2.2.1, ()))) recs out i rc hi (by omega) out.length 0 fuel [] (bnot (ieq rc.1 1)) (by omega) (by simp) (by have := fuel_gt; omega)
  rw [List.drop_zero] at h2
  refine Eq.trans h1 ?_
  simp only [List.nil_append]
  rw [wr_succ (by omega)]
  cases put' with
  | true =>
    rw [tb_nt, ← h2, if_pos rfl, List.append_nil]
  | false =>
    rw [tb_nf, chk_pos (by omega), obind_eq (at_some hi), chk_pos (by omega), obind_eq (at_some hi), chk_pos (by simp only [plus, llen, List.length_singleton]; omega), ← h2]
    simp only [lapp, Bool.false_eq_true, if_false]
theorem index_both (recs : List Rc) (hn : recs.length ≤ 999999990) : ∀ (d i m m' : Nat) (out : List Elt), i + d = recs.length → out.length ≤ i → Asc out → d < m → d < m' →
    ∃ R : List Elt, spec_IndexOf_k0 fuel m (fun v0 => some ((), v0.2.2.1, ())) ((recs, (i : Int), ()), (), out, ()) = some ((), R, ()) ∧ impl_IndexOf_k0 fuel m' (fun v0 => some ((), v0.2.2.1, ())) ((recs, (recs.length : Int), (i : Int), ()), (), out, ()) = some ((), R, ()) ∧ R.length ≤ recs.length := by
  intro d
  induction d with
  | zero =>
    intro i m m' out hi ho ha hm hm'
    obtain ⟨m, rfl⟩ : ∃ q, m = q + 1 := ⟨m - 1, by omega⟩
    obtain ⟨m', rfl⟩ : ∃ q, m' = q + 1 := ⟨m' - 1, by omega⟩
    refine ⟨out, ?_, ?_, by omega⟩
    · rw [spec_IndexOf_k0]; simp only; rw [tb_neg (ilt_f (by simp only [llen]; omega))]
    · rw [impl_IndexOf_k0]; simp only; rw [tb_neg (ilt_f (by omega))]
  | succ d ih =>
    intro i m m' out hi ho ha hm hm'
    obtain ⟨m, rfl⟩ : ∃ q, m = q + 1 := ⟨m - 1, by omega⟩
    obtain ⟨m', rfl⟩ : ∃ q, m' = q + 1 := ⟨m' - 1, by omega⟩
    have hx : recs[i]? = some recs[i] := List.getElem?_eq_getElem (by omega)
    have hsame := upd_same (ieq recs[i].1 1) recs[i].2.1 recs[i].2.2.1 out ha
    have hasc := upd_asc recs[i].2.1 recs[i].2.2.1 (bnot (ieq recs[i].1 1)) out ha
    have hlen := updS_length recs[i].2.1 recs[i].2.2.1 (bnot (ieq recs[i].1 1)) out
    have hlen2 : (updS recs[i].2.1 recs[i].2.2.1 (bnot (ieq recs[i].1 1)) out).length ≤ i + 1 := by
      have : (if (bnot (ieq recs[i].1 1)) = true then 0 else 1) ≤ 1 := by split <;> omega
      omega
    rw [spec_step recs out i m _ hx (by omega) (by omega), impl_step recs out i m' _ hx (by omega) (by omega), ← hsame]
    exact ih (i + 1) m m' _ (by omega) hlen2 hasc (by omega) (by omega)
theorem indexBoth (recs : List Rc) (hn : recs.length ≤ 999999990) : ∃ R : List Elt, spec_IndexOf (recs, ()) = some ((), R, ()) ∧ impl_IndexOf (recs, ()) = some ((), R, ()) ∧ R.length ≤ recs.length := by
  unfold spec_IndexOf spec_IndexOf_k impl_IndexOf impl_IndexOf_k
  exact index_both recs hn recs.length 0 fuel fuel [] (by omega) (by simp) List.Pairwise.nil (by have := fuel_gt; omega) (by have := fuel_gt; omega)
end Go.Proofs.YtjiichnhdhlegaaGreat.V
namespace Go.Proofs.YtjiichnhdhlegaaGreat.V
open Go Go.RowKit
attribute [local irreducible] wr
def areaByte (d : Dk) (area a : Nat) : Int := bt (secF d ((2 + 64 * area + a / 64 : Nat) : Int)) ((a % 64 : Nat) : Int)
def areaBytes (d : Dk) (area a n : Nat) : List Int := (List.range n).map fun i => areaByte d area (a + i)
theorem areaBytes_length (d : Dk) (area a n : Nat) : (areaBytes d area a n).length = n := by simp [areaBytes]
theorem areaBytes_add (d : Dk) (area a n m : Nat) : areaBytes d area a (n + m) = areaBytes d area a n ++ areaBytes d area (a + n) m := by
  unfold areaBytes
  rw [List.range_add, List.map_append, List.map_map]
  congr 1
  apply List.map_congr_left
  intro i _
  simp [Nat.add_assoc]
theorem bytes_scut (s : ByteArray) (a n : Nat) (h : a + n ≤ s.size) : bytesOf (scut s a (a + n)) = (List.range n).map fun i => bt s ((a + i : Nat) : Int) := by
  apply List.ext_getElem?
  intro i
  have e : bytesOf (scut s a (a + n)) = lcut (bytesOf s) a (a + n) := by
    simp only [bytesOf, scut, ByteArray.data_extract, Array.toList_extract, List.extract_eq_take_drop, lcut, List.map_take, List.map_drop, List.drop_take]
  rw [e, lcut_get]
  by_cases hi : i < n
  · rw [if_pos (by omega), bytes_get (by omega)]
    simp [hi]
  · rw [if_neg (by omega), List.getElem?_eq_none (by simp; omega)]
theorem bt_range (s : ByteArray) (i : Int) : 0 ≤ bt s i ∧ bt s i ≤ 255 := by
  unfold bt
  split
  · rename_i h
    have := (s[i.toNat]).toNat_lt
    omega
  · omega
theorem areaBytes_range (d : Dk) (area a n : Nat) : ∀ y ∈ areaBytes d area a n, 0 ≤ y ∧ y ≤ 255 := by
  intro y hy
  simp only [areaBytes, List.mem_map] at hy
  obtain ⟨i, _, rfl⟩ := hy
  exact bt_range _ _
theorem area_sec {area x : Nat} (h : area ≤ 1) (hx : x ≤ 4095) : wr .i64 ((wr .i64 (2 + wr .i64 (64 * (area : Int)))) + wr .i64 (Int.tdiv (x : Int) 64)) = ((2 + 64 * area + x / 64 : Nat) : Int) := by
  rw [Int.tdiv_eq_ediv_of_nonneg (by omega), wrn (x := 64 * (area : Int)) (n := 64 * area) (by omega) (by omega), wrn (x := 2 + ((64 * area : Nat) : Int)) (n := 2 + 64 * area) (by omega) (by omega), wrn (x := (x : Int) / 64) (n := x / 64) (by omega) (by omega)]
  exact wrn (by omega) (by omega)
theorem area_mod (x : Nat) : Int.tmod (x : Int) 64 = ((x % 64 : Nat) : Int) := by rw [Int.tmod_eq_emod_of_nonneg (by omega)]; omega
theorem spec_area {d : Dk} (hd : diskOk d = true) {area a n : Nat} (ha : area ≤ 1) (hf : a + n ≤ 4096) : spec_l16Get ((d.1, d.2.1, ()), (area : Int), (a : Int), (n : Int), ()) = some ((), areaBytes d area a n, ()) := by
  have hl := diskOk_len hd
  have key : ∀ (r i m : Nat), i + r = n → r < m → spec_l16Get_k0 fuel m (fun v0 => some ((), v0.2.2.1, ())) (((area : Int), (a : Int), (n : Int), (i : Int), ()), (((d.1, d.2.1, ()), ()), areaBytes d area a i, ())) = some ((), areaBytes d area a n, ()) := by
    intro r
    induction r with
    | zero =>
      intro i m h hm
      obtain ⟨m, rfl⟩ : ∃ q, m = q + 1 := ⟨m - 1, by omega⟩
      obtain rfl : i = n := by omega
      rw [spec_l16Get_k0]
      simp only
      rw [tb_neg (ilt_f (by omega))]
    | succ r ih =>
      intro i m h hm
      obtain ⟨m, rfl⟩ : ∃ q, m = q + 1 := ⟨m - 1, by omega⟩
      have hw : Hid (wr .i64 ((a : Int) + (i : Int)) = ((a + i : Nat) : Int)) := ⟨wrn (by omega) (by omega)⟩
      have hs := secF_size (at' := ((2 + 64 * area + (a + i) / 64 : Nat) : Int)) hd (by omega) (by omega)
      rw [spec_l16Get_k0]
      simp only [hw.out]
      rw [tb_pos (ilt_t (by omega)), chk_neg (by decide), area_sec ha (by omega), obind_eq (spec_sec (by omega) (by omega) (by omega))]
      simp only [area_mod]
      rw [chk_neg (by decide), chk_pos (by simp only [slen, hs]; omega), chk_pos (by simp only [plus, llen, areaBytes_length, List.length_singleton]; omega), wr_succ (by omega)]
      have e : lapp (areaBytes d area a i) [bt (secF d ((2 + 64 * area + (a + i) / 64 : Nat) : Int)) (((a + i) % 64 : Nat) : Int)] = areaBytes d area a (i + 1) := by
        rw [areaBytes_add]; rfl
      rw [e]
      exact ih (i + 1) m (by omega) (by omega)
  unfold spec_l16Get spec_l16Get_k
  exact key n 0 fuel (by omega) (by have := fuel_gt; omega)
theorem impl_area {d : Dk} (hd : diskOk d = true) {area a n : Nat} (ha : area ≤ 1) (hf : a + n ≤ 4096) : impl_Disk_area ((d.1, d.2.1, ()), (area : Int), (a : Int), (n : Int), ()) = some ((), areaBytes d area a n, ()) := by
  have hl := diskOk_len hd
  have key : ∀ (r c m : Nat), c ≤ n → n - c ≤ r → r < m → impl_Disk_area_k0 fuel m (fun v0 => some ((), v0.2.2.1, ())) (((d.1, d.2.1, ()), (area : Int), ((a + c : Nat) : Int), ((n - c : Nat) : Int), ()), ((), areaBytes d area a c, ())) = some ((), areaBytes d area a n, ()) := by
    intro r
    induction r with
    | zero =>
      intro c m hc h hm
      obtain ⟨m, rfl⟩ : ∃ q, m = q + 1 := ⟨m - 1, by omega⟩
      obtain rfl : c = n := by omega
      rw [impl_Disk_area_k0]
      simp only
      rw [tb_neg (ilt_f (by omega))]
    | succ r ih =>
      intro c m hc h hm
      obtain ⟨m, rfl⟩ : ∃ q, m = q + 1 := ⟨m - 1, by omega⟩
      by_cases h0 : c = n
      · subst h0
        rw [impl_Disk_area_k0]
        simp only
        rw [tb_neg (ilt_f (by omega))]
      obtain ⟨f, hf1⟩ : ∃ f, f = (a + c) % 64 := ⟨_, rfl⟩
      obtain ⟨p, hp⟩ : ∃ p, p = min (n - c) (64 - f) := ⟨_, rfl⟩
      have hw : Hid (wr .i64 (64 - (f : Int)) = ((64 - f : Nat) : Int)) := ⟨wrn (by omega) (by omega)⟩
      have hmn : Hid (mn ((n - c : Nat) : Int) ((64 - f : Nat) : Int) = (p : Int)) := ⟨by rw [mn_nat, hp]⟩
      have hw2 : Hid (wr .i64 ((f : Int) + (p : Int)) = ((f + p : Nat) : Int)) := ⟨wrn (by omega) (by omega)⟩
      have hw3 : Hid (wr .i64 (((a + c : Nat) : Int) + (p : Int)) = ((a + (c + p) : Nat) : Int)) := ⟨wrn (by omega) (by omega)⟩
      have hw4 : Hid (wr .i64 (((n - c : Nat) : Int) - (p : Int)) = ((n - (c + p) : Nat) : Int)) := ⟨wrn (by omega) (by omega)⟩
      have hs := secF_size (at' := ((2 + 64 * area + (a + c) / 64 : Nat) : Int)) hd (by omega) (by omega)
      have hsec := impl_sec (d := d) (at' := ((2 + 64 * area + (a + c) / 64 : Nat) : Int)) (by omega) (by omega) (by omega)
      rw [impl_Disk_area_k0]
      simp only [impl_first, impl_first_k, obind_some, area_mod, ← hf1, hw.out, hmn.out, hw2.out, hw3.out, hw4.out]
      rw [tb_pos (ilt_t (by omega)), chk_neg (by decide), area_sec ha (by omega), chk_neg (by decide), obind_eq hsec]
      simp only [Int.toNat_natCast]
      have hb := bytes_scut (secF d ((2 + 64 * area + (a + c) / 64 : Nat) : Int)) f p (by rw [hs]; omega)
      have hz : llen (bytesOf (scut (secF d ((2 + 64 * area + (a + c) / 64 : Nat) : Int)) f (f + p))) = p := by rw [hb]; simp [llen]
      rw [chk_pos (by simp only [slen, hs]; omega), chk_pos (by rw [hz]; simp only [plus, llen, areaBytes_length]; omega)]
      have e : lapp (areaBytes d area a c) (bytesOf (scut (secF d ((2 + 64 * area + (a + c) / 64 : Nat) : Int)) f (f + p))) = areaBytes d area a (c + p) := by
        rw [areaBytes_add, hb]
        show _ ++ _ = _ ++ _
        congr 1
        unfold areaBytes areaByte
        apply List.map_congr_left
        intro i hi
        have hi : i < p := by simpa using hi
        have e1 : (a + c + i) / 64 = (a + c) / 64 := by omega
        have e2 : (a + c + i) % 64 = f + i := by omega
        rw [e1, e2]
      rw [e]
      exact ih (c + p) m (by omega) (by omega) (by omega)
  unfold impl_Disk_area impl_Disk_area_k
  exact key n 0 fuel (by omega) (by omega) (by have := fuel_gt; omega)
end Go.Proofs.YtjiichnhdhlegaaGreat.V
namespace Go.Proofs.YtjiichnhdhlegaaGreat.V
open Go Go.RowKit
attribute [local irreducible] wr
def fitsA' (area at' n : Int) : Bool := decide ((0 ≤ area ∧ area ≤ 1) ∧ (0 ≤ at' ∧ at' ≤ 4096) ∧ (0 ≤ n ∧ n ≤ 4096 - at'))
theorem isArea_eq (x : Int) : (tb (ieq x 0) (some ((), true, ())) (some ((), ieq x 1, ())) : Option (Unit × (Bool × Unit))) = some ((), decide (0 ≤ x ∧ x ≤ 1), ()) := by
  by_cases h : x = 0
  · rw [tb_pos (ieq_t h), decide_eq_true (by omega)]
  · rw [tb_neg (ieq_f h)]
    by_cases h1 : x = 1
    · rw [ieq_t h1, decide_eq_true (by omega)]
    · rw [ieq_f h1, decide_eq_false (by omega)]
theorem spec_isArea (x : Int) : spec_l16Area (x, ()) = some ((), decide (0 ≤ x ∧ x ≤ 1), ()) := isArea_eq x
theorem impl_isArea' (x : Int) : impl_isArea (x, ()) = some ((), decide (0 ≤ x ∧ x ≤ 1), ()) := isArea_eq x
theorem impl_fits (area at' n : Int) : impl_fitsArea (area, at', n, ()) = some ((), fitsA' area at' n, ()) := by
  simp only [impl_fitsArea, impl_fitsArea_k, impl_isArea', obind_some, impl_in]
  unfold fitsA'
  by_cases h1 : 0 ≤ area ∧ area ≤ 1
  rotate_left
  · rw [tb_neg (decide_eq_false h1), decide_eq_false (fun q => h1 q.1)]
  rw [tb_pos (decide_eq_true h1)]
  by_cases h2 : 0 ≤ at' ∧ at' ≤ 4096
  rotate_left
  · rw [tb_neg (decide_eq_false h2), decide_eq_false (fun q => h2 q.2.1)]
  rw [tb_pos (decide_eq_true h2), wr64 (by omega) (by omega)]
  congr 3
  simp [h1, h2]
def areaPutF (d : Dk) (area at' : Int) (b : List Int) : Dk × Bool :=
  if diskOk d = true then (if fitsA' area at' (b.length : Int) = true then (match areaF area.toNat at'.toNat b 64 d with | some e => (e, true) | none => (d, false)) else (d, false)) else (([], [], ()), false)
theorem spec_areaPut {d : Dk} {area at' : Int} {b : List Int} (hs : dkSmall d) : spec_AreaPut ((d.1, d.2.1, ()), area, at', b, ()) = some ((), (areaPutF d area at' b).1, (areaPutF d area at' b).2, ()) := by
  unfold spec_AreaPut spec_AreaPut_k
  rw [obind_eq (spec_ok d (by have := hs.1; omega) (by have := hs.2; omega)), obind_eq (spec_copy hs), obind_eq (spec_isArea _)]
  simp only
  unfold areaPutF
  cases hd : diskOk d
  · rfl
  rw [tb_nt, if_pos rfl]
  unfold fitsA'
  by_cases h1 : 0 ≤ area ∧ area ≤ 1
  rotate_left
  · rw [show decide (0 ≤ area ∧ area ≤ 1) = false from decide_eq_false h1, tb_nf, if_neg (by rw [decide_eq_false (fun q => h1 q.1)]; decide)]
  rw [show decide (0 ≤ area ∧ area ≤ 1) = true from decide_eq_true h1, tb_nt, obind_eq (spec_in _ _ _)]
  simp only
  by_cases h2 : 0 ≤ at' ∧ at' ≤ 4096
  rotate_left
  · rw [show decide (0 ≤ at' ∧ at' ≤ 4096) = false from decide_eq_false h2, tb_nf, if_neg (by rw [decide_eq_false (fun q => h2 q.2.1)]; decide)]
  rw [show decide (0 ≤ at' ∧ at' ≤ 4096) = true from decide_eq_true h2, tb_nt, wr64 (by omega) (by omega)]
  by_cases h3 : (b.length : Int) ≤ 4096 - at'
  rotate_left
  · rw [tb_pos (ilt_t (by simp only [llen]; omega)), if_neg (by rw [decide_eq_false (fun q => h3 q.2.2.2)]; decide)]
  rw [tb_neg (ilt_f (by simp only [llen]; omega)), if_pos (decide_eq_true ⟨h1, h2, by omega, h3⟩), obind_eq (spec_copy hs)]
  obtain ⟨area, rfl⟩ := Int.eq_ofNat_of_zero_le h1.1
  obtain ⟨a, rfl⟩ := Int.eq_ofNat_of_zero_le h2.1
  have := spec_area0 (K := fun v5 => some ((), (v5.2.2.1, v5.2.2.2.1, ()), true, ())) (area := area) (a := a) (b := b) (p := d.1) (q := d.2.1) (by omega) (by omega) 64 fuel d (Nat.le_refl _) (by have := fuel_gt; omega) hd
  rw [show ((64 - 64 : Nat) : Int) = 0 from rfl] at this
  rw [this, Int.toNat_natCast, Int.toNat_natCast]
  cases areaF area a b 64 d <;> rfl
theorem impl_areaPut {d : Dk} {area at' : Int} {b : List Int} (hs : dkSmall d) : impl_AreaPut ((d.1, d.2.1, ()), area, at', b, ()) = some ((), (areaPutF d area at' b).1, (areaPutF d area at' b).2, ()) := by
  simp only [impl_AreaPut, impl_AreaPut_k, impl_ok d (by have := hs.1; omega) (by have := hs.2; omega), obind_some, impl_copy hs]
  unfold areaPutF
  cases hd : diskOk d
  · rfl
  rw [tb_nt, if_pos rfl]
  simp only [impl_Disk_putArea, impl_Disk_putArea_k, impl_fits, obind_some]
  rw [show ((llen b : Nat) : Int) = (b.length : Int) from rfl]
  by_cases hf : fitsA' area at' (b.length : Int) = true
  rotate_left
  · rw [if_neg hf, Bool.eq_false_iff.2 hf, tb_nf, obind_some]
    rfl
  rw [if_pos hf, hf, tb_nt]
  have hf := of_decide_eq_true hf
  obtain ⟨area, rfl⟩ := Int.eq_ofNat_of_zero_le hf.1.1
  obtain ⟨a, rfl⟩ := Int.eq_ofNat_of_zero_le hf.2.1.1
  have := impl_area0 (K := fun v1 => some (((v1.2.2.1, v1.2.2.2.1, ()), ()), true, ())) (area := area) (a := a) (b := b) (by omega) (by omega) 64 fuel d a b (Nat.le_refl _) (by have := fuel_gt; omega) hd (by omega) (.inr ⟨by omega, by simp⟩)
  rw [Int.toNat_natCast, Int.toNat_natCast]
  cases hx : areaF area a b 64 d with
  | some e =>
    rw [hx] at this
    rw [obind_eq this]
    rfl
  | none =>
    rw [hx] at this
    obtain ⟨e, he⟩ := this
    rw [obind_eq he]
    rfl
end Go.Proofs.YtjiichnhdhlegaaGreat.V
namespace Go.Proofs.YtjiichnhdhlegaaGreat.V
open Go Go.RowKit
attribute [local irreducible] wr
def doneL : List Pt → List ByteArray → List ByteArray
  | [], s => s
  | p :: l, s => doneL l (s.set p.1.toNat p.2.1)
theorem doneL_length : ∀ (l : List Pt) (s : List ByteArray), (doneL l s).length = s.length
  | [], _ => rfl
  | p :: l, s => by rw [doneL, doneL_length l]; simp
theorem doneL_all {q : ByteArray → Bool} : ∀ (l : List Pt) (s : List ByteArray), s.all q = true → (∀ p ∈ l, q p.2.1 = true) → (doneL l s).all q = true
  | [], _, h, _ => h
  | p :: l, s, h, hp => by
    rw [doneL]
    refine doneL_all l _ ?_ (fun x hx => hp x (List.mem_cons_of_mem _ hx))
    rw [List.all_eq_true] at h ⊢
    intro x hx
    rcases List.mem_or_eq_of_mem_set hx with hx | rfl
    · exact h x hx
    · exact hp p (List.mem_cons_self ..)
def syncF (d : Dk) : Dk := (doneL d.2.1 d.1, [], ())
theorem putOk_out {p : Pt} (h : putOk p = true) : (0 ≤ p.1 ∧ p.1 ≤ 129) ∧ secOk p.2.1 = true := by
  simp only [putOk, Bool.and_eq_true] at h
  exact ⟨of_decide_eq_true h.1, h.2⟩
theorem diskOk_puts {d : Dk} (h : diskOk d = true) : ∀ p ∈ d.2.1, (0 ≤ p.1 ∧ p.1 ≤ 129) ∧ secOk p.2.1 = true := by
  simp only [diskOk, Bool.and_eq_true, List.all_eq_true] at h
  exact fun p hp => putOk_out (h.2.2.2 p hp)
theorem syncF_ok {d : Dk} (h : diskOk d = true) : diskOk (syncF d) = true := by
  have hl := diskOk_len h
  have hp := diskOk_puts h
  simp only [diskOk, Bool.and_eq_true] at h ⊢
  refine ⟨ieq_t (by simp only [syncF, llen, doneL_length]; omega), ile_t (by simp [syncF, llen]), ?_, rfl⟩
  exact doneL_all d.2.1 d.1 h.2.2.1 (fun p q => (hp p q).2)
theorem get_lt {α : Type} {l : List α} {i : Nat} (h : i < l.length) : ∃ x, l[i]? = some x := ⟨l[i], List.getElem?_eq_getElem h⟩
theorem at_int {α : Type} {l : List α} {i : Int} (h0 : 0 ≤ i) (h1 : i < l.length) : ∃ x, at? l i.toNat = some x := get_lt (l := l) (i := i.toNat) (by omega)
theorem impl_settled0 {K} {late : List Pt} (hl : late.length ≤ 140737488351232) : ∀ (post pre : List Pt) (s : List ByteArray) (m : Nat), late = pre ++ post → (∀ p ∈ post, 0 ≤ p.1 ∧ p.1 ≤ 129) → s.length = 130 → post.length < m →
      impl_settled_of_impl_DiskSync_1_k0 fuel m K ((late, (late.length : Int), (pre.length : Int), ()), ((), (), ()), s, ()) = K ((), ((), (), ()), doneL post s, ())
  | [], pre, s, m, e, hp, hs, hm => by
    obtain ⟨m, rfl⟩ : ∃ k, m = k + 1 := ⟨m - 1, by simp at hm; omega⟩
    rw [impl_settled_of_impl_DiskSync_1_k0]
    simp only
    rw [tb_neg (ilt_f (by rw [e]; simp))]
    rfl
  | p :: post, pre, s, m, e, hp, hs, hm => by
    obtain ⟨m, rfl⟩ : ∃ k, m = k + 1 := ⟨m - 1, by simp at hm; omega⟩
    have hx : late[pre.length]? = some p := by rw [e]; exact get_split pre p post
    have hlt := lt_of_get hx
    have hq := hp p (List.mem_cons_self ..)
    obtain ⟨y, hy⟩ := at_int (l := s) hq.1 (by omega)
    rw [impl_settled_of_impl_DiskSync_1_k0]
    simp only
    rw [tb_pos (ilt_t (by omega)), chk_pos (by omega), obind_eq (at_some hx)]
    simp only [impl_DiskSync_1, impl_DiskSync_1_k, obind_some]
    rw [tb_t, chk_pos (by simp only [llen]; omega), obind_eq hy, wr_succ (by omega)]
    have := impl_settled0 (K := K) hl post (pre ++ [p]) (s.set p.1.toNat p.2.1) m (by rw [e]; simp) (fun q hq => hp q (List.mem_cons_of_mem _ hq)) (by simpa using hs) (by simp at hm; omega)
    rw [List.length_append, List.length_singleton] at this
    exact this
theorem keepAll (i : Nat) : ieq (bandK .i64 (shrK .i64 2147483647 (Int.tmod (i : Int) 31)) 1) 1 = true := by
  have e : Int.tmod (i : Int) 31 = ((i % 31 : Nat) : Int) := by rw [Int.tmod_eq_emod_of_nonneg (by omega)]; omega
  rw [e]
  have key : ∀ j : Fin 31, ieq (bandK .i64 (shrK .i64 2147483647 (j.val : Int)) 1) 1 = true := by decide +kernel
  exact key ⟨i % 31, Nat.mod_lt _ (by decide)⟩
theorem spec_done0 {K} {d : Dk} (hl : d.2.1.length ≤ 140737488351232) : ∀ (post pre : List Pt) (s : List ByteArray) (m : Nat), d.2.1 = pre ++ post → (∀ p ∈ post, 0 ≤ p.1 ∧ p.1 ≤ 129) → s.length = 130 → post.length < m →
      spec_l15Done_k0 fuel m K ((2147483647, (pre.length : Int), ()), ((d.1, d.2.1, ()), (), (), ()), s, ()) = K ((), ((), (), ()), doneL post s, ())
  | [], pre, s, m, e, hp, hs, hm => by
    obtain ⟨m, rfl⟩ : ∃ k, m = k + 1 := ⟨m - 1, by simp at hm; omega⟩
    rw [spec_l15Done_k0]
    simp only
    rw [tb_neg (ilt_f (by rw [e]; simp [llen]))]
    rfl
  | p :: post, pre, s, m, e, hp, hs, hm => by
    obtain ⟨m, rfl⟩ : ∃ k, m = k + 1 := ⟨m - 1, by simp at hm; omega⟩
    have hx : d.2.1[pre.length]? = some p := by rw [e]; exact get_split pre p post
    have hlt := lt_of_get hx
    have hq := hp p (List.mem_cons_self ..)
    obtain ⟨y, hy⟩ := at_int (l := s) hq.1 (by omega)
    have hm0 : 0 ≤ Int.tmod (pre.length : Int) 31 := by rw [Int.tmod_eq_emod_of_nonneg (by omega)]; omega
    rw [spec_l15Done_k0]
    simp only
    rw [tb_pos (ilt_t (by simp only [llen]; omega)), chk_neg (by decide), chk_neg (by omega), tb_pos (keepAll _), chk_pos (by omega), obind_eq (at_some hx), chk_pos (by omega), obind_eq (at_some hx), chk_pos (by simp only [llen]; omega), obind_eq hy, wr_succ (by omega)]
    have := spec_done0 (K := K) hl post (pre ++ [p]) (s.set p.1.toNat p.2.1) m (by rw [e]; simp) (fun q hq => hp q (List.mem_cons_of_mem _ hq)) (by simpa using hs) (by simp at hm; omega)
    rw [List.length_append, List.length_singleton] at this
    exact this
theorem impl_sync {d : Dk} (hd : diskOk d = true) : impl_DiskSync ((d.1, d.2.1, ()), ()) = some ((), syncF d, true, ()) := by
  have hl := diskOk_len hd
  have hs := diskOk_small hd
  unfold impl_DiskSync impl_DiskSync_k
  rw [obind_eq (impl_ok d (by omega) (by omega)), hd, tb_nt]
  unfold impl_settled_of_impl_DiskSync_1 impl_settled_of_impl_DiskSync_1_k
  rw [obind_eq (clone_str hs.1)]
  have := impl_settled0 (K := fun v1 => some ((), (v1.2.2.1, [], ()), ())) (late := d.2.1) (by omega) d.2.1 [] d.1 fuel rfl (fun p hp => (diskOk_puts hd p hp).1) hl.1 (by have := fuel_gt; omega)
  exact (congrArg (fun z => obind z fun v1 => some ((), (v1.2.1.1, v1.2.1.2.1, ()), true, ())) this).trans rfl
theorem spec_sync {d : Dk} (hd : diskOk d = true) : spec_DiskSync ((d.1, d.2.1, ()), ()) = some ((), syncF d, true, ()) := by
  have hl := diskOk_len hd
  unfold spec_DiskSync spec_DiskSync_k
  rw [obind_eq (spec_ok d (by omega) (by omega)), hd, tb_nt]
  unfold spec_l15Done spec_l15Done_k
  simp only
  rw [chk_pos (by simp only [plus, llen]; omega)]
  have := spec_done0 (K := fun v0 => some ((), (v0.2.2.1, [], ()), ())) (d := d) (by omega) d.2.1 [] d.1 fuel rfl (fun p hp => (diskOk_puts hd p hp).1) hl.1 (by have := fuel_gt; omega)
  exact (congrArg (fun z => obind z fun v1 => some ((), (v1.2.1.1, v1.2.1.2.1, ()), true, ())) this).trans rfl
def zs : ByteArray := strOf (List.replicate 64 0)
end Go.Proofs.YtjiichnhdhlegaaGreat.V
namespace Go.Proofs.YtjiichnhdhlegaaGreat.V
open Go Go.RowKit
attribute [local irreducible] wr
abbrev En : Type := ByteArray × ByteArray × Unit
abbrev Ar : Type := Bool × Dk × Hd × List En × Unit
def putHeadF (d : Dk) (h : Hd) : Dk × Bool := if headRight h.1 h.2.1 h.2.2.1 = true then putF d (Int.tmod h.1 2) (headText h.1 h.2.1 h.2.2.1) else (d, false)
theorem headPutF_eq {d : Dk} {h : Hd} (hd : diskOk d = true) : headPutF d h = putHeadF d h := by
  unfold headPutF putHeadF
  rw [if_pos hd]
theorem putHeadF_ok {d : Dk} {h : Hd} (hd : diskOk d = true) : diskOk (putHeadF d h).1 = true := by
  unfold putHeadF
  split
  · exact putF_ok hd
  · exact hd
theorem eqEntry : EqOk (fun (v u : En) => laws_eqEntry ((v.1, v.2.1, ()), (u.1, u.2.1, ()), ())) (fun _ => True) := by
  intro v _
  simp only [laws_eqEntry, laws_eqEntry_k, seq_self, tb_nt]
theorem eqEntryS : EqOk (fun xs ys => laws_eqEntryS (xs, ys, ())) (BL (fun _ => True)) :=
  eqS_ok fuel_gt (fun _ _ => rfl) (k := laws_eqEntryS_k0 fuel) (fun _ _ _ => rfl) eqEntry
theorem eqHead (h : Hd) : laws_eqHead ((h.1, h.2.1, h.2.2.1, ()), (h.1, h.2.1, h.2.2.1, ()), ()) = some ((), true, ()) := by
  simp only [laws_eqHead, laws_eqHead_k, ieq_self, tb_nt]
theorem eqArchive {a : Ar} (h1 : a.2.1.1.length ≤ 140737488351232) (h2 : a.2.1.2.1.length ≤ 140737488351232) (h3 : a.2.2.2.1.length ≤ 140737488351232) :
    laws_eqArchive ((a.1, (a.2.1.1, a.2.1.2.1, ()), (a.2.2.1.1, a.2.2.1.2.1, a.2.2.1.2.2.1, ()), a.2.2.2.1, ()), (a.1, (a.2.1.1, a.2.1.2.1, ()), (a.2.2.1.1, a.2.2.1.2.1, a.2.2.1.2.2.1, ()), a.2.2.2.1, ()), ()) = some ((), true, ()) := by
  have e1 := eqDisk (d := a.2.1) h1 h2
  have e2 : laws_eqEntryS (a.2.2.2.1, a.2.2.2.1, ()) = some ((), true, ()) := eqEntryS a.2.2.2.1 ⟨h3, fun _ _ => trivial⟩
  have e3 := eqHead a.2.2.1
  unfold laws_eqArchive laws_eqArchive_k
  simp only
  rw [beq_self, tb_nt, obind_eq e1]
  simp only
  rw [tb_nt, obind_eq e3]
  simp only
  rw [tb_nt, obind_eq e2]
  rfl
end Go.Proofs.YtjiichnhdhlegaaGreat.V
namespace Go.Proofs.YtjiichnhdhlegaaGreat.V
open Go Go.RowKit
attribute [local irreducible] wr
theorem szEntry : SzOk (fun (v : En) s => laws_szEntry ((v.1, v.2.1, ()), s, ())) (fun v => ByteArray.size v.1 ≤ 140737488351232 ∧ ByteArray.size v.2.1 ≤ 140737488351232) (fun v => ByteArray.size v.1 + ByteArray.size v.2.1) := by
  intro v s hB h0 h1
  have hw : wr .i64 (s - ((slen v.1 : Nat) : Int)) = s - (v.1.size : Int) := wr64 (by simp only [slen]; omega) (by simp only [slen]; omega)
  have hw2 : wr .i64 (s - (v.1.size : Int) - ((slen v.2.1 : Nat) : Int)) = s - (v.1.size : Int) - (v.2.1.size : Int) := wr64 (by simp only [slen]; omega) (by simp only [slen]; omega)
  simp only [laws_szEntry, laws_szEntry_k, hw, hw2]
  by_cases h : s - (v.1.size : Int) < 0
  · exact ⟨-1, tb_pos (ilt_t h) _ _, .inl (by omega)⟩
  · rw [tb_neg (ilt_f (by omega))]
    by_cases h2 : s - (v.1.size : Int) - (v.2.1.size : Int) < 0
    · exact ⟨-1, tb_pos (ilt_t h2) _ _, .inl (by omega)⟩
    · exact ⟨_, tb_neg (ilt_f (by omega)) _ _, .inr (by omega)⟩
theorem szEntryS : SzOk (fun xs s => laws_szEntryS (xs, s, ())) (BL (fun v : En => ByteArray.size v.1 ≤ 140737488351232 ∧ ByteArray.size v.2.1 ≤ 140737488351232)) (wL (fun v : En => ByteArray.size v.1 + ByteArray.size v.2.1)) :=
  szS_ok fuel_gt (fun _ _ => rfl) (k := laws_szEntryS_k0 fuel) (fun _ _ _ => rfl) szEntry
theorem toEntryS : ToOk (fun xs => laws_toEntryS (xs, ())) (fun xs => xs.length ≤ 1048576 ∧ ∀ x ∈ xs, True) :=
  toS_ok fuel_gt (by decide) (fun _ => rfl) (k := laws_toEntryS_k0 fuel) (e := fun v : En => laws_toEntry ((v.1, v.2.1, ()), ())) (fun _ _ _ => rfl) (fun _ _ => rfl)
def ArB (a : Ar) : Prop := DkB a.2.1 ∧ BL (fun v : En => ByteArray.size v.1 ≤ 140737488351232 ∧ ByteArray.size v.2.1 ≤ 140737488351232) a.2.2.2.1
def arW (a : Ar) : Nat := dkW a.2.1 + wL (fun v : En => ByteArray.size v.1 + ByteArray.size v.2.1) a.2.2.2.1
theorem szArchive : SzOk (fun (a : Ar) s => laws_szArchive ((a.1, (a.2.1.1, a.2.1.2.1, ()), (a.2.2.1.1, a.2.2.1.2.1, a.2.2.1.2.2.1, ()), a.2.2.2.1, ()), s, ())) ArB arW := by
  intro a s hB h0 h1
  obtain ⟨r, e1, e2⟩ := szDisk a.2.1 s hB.1 h0 h1
  simp only at e1
  unfold laws_szArchive laws_szArchive_k
  simp only
  rw [obind_eq e1]
  simp only
  rcases e2 with e2 | ⟨e2, e3⟩
  · exact ⟨-1, tb_pos (ilt_t e2) _ _, .inl (by omega)⟩
  · rw [tb_neg (ilt_f e2)]
    obtain ⟨r', g1, g2⟩ := szEntryS a.2.2.2.1 r hB.2 e2 (by omega)
    simp only at g1
    rw [obind_eq g1]
    simp only
    rcases g2 with g2 | ⟨g2, g3⟩
    · exact ⟨-1, tb_pos (ilt_t g2) _ _, .inl (by omega)⟩
    · exact ⟨r', tb_neg (ilt_f g2) _ _, .inr ⟨g2, by simp only [arW]; omega⟩⟩
theorem toArchive {a : Ar} (h : arW a ≤ 1048576) : laws_toArchive ((a.1, (a.2.1.1, a.2.1.2.1, ()), (a.2.2.1.1, a.2.2.1.2.1, a.2.2.1.2.2.1, ()), a.2.2.2.1, ()), ()) = some ((), a, ()) := by
  have hd : dkW a.2.1 ≤ 1048576 := by simp only [arW] at h; omega
  have e1 := toDisk hd
  have e2 : laws_toEntryS (a.2.2.2.1, ()) = some ((), a.2.2.2.1, ()) := toEntryS a.2.2.2.1 ⟨by simp only [arW, wL] at h; omega, fun _ _ => trivial⟩
  have e3 : laws_toHead ((a.2.2.1.1, a.2.2.1.2.1, a.2.2.1.2.2.1, ()), ()) = some ((), a.2.2.1, ()) := rfl
  unfold laws_toArchive laws_toArchive_k
  simp only
  rw [obind_eq e1]
  simp only
  rw [obind_eq e3]
  simp only
  rw [obind_eq e2]
theorem bnd_ar {a : Ar} (h : Bnd S30 a) : ArB a := ⟨⟨⟨h.2.1.1.1, h.2.1.1.2⟩, ⟨h.2.1.2.1.1, fun x hx => (h.2.1.2.1.2 x hx).2.1⟩⟩, ⟨h.2.2.2.1.1, fun x hx => ⟨(h.2.2.2.1.2 x hx).1, (h.2.2.2.1.2 x hx).2.1⟩⟩⟩
theorem same0 {a b : List En} (hab : a.length = b.length) (hl : a.length ≤ 1000000000) : ∀ (d i m m' : Nat), i + d = a.length → d < m → d < m' →
    ∃ r : Bool, spec_l18SameList_k0 fuel m (fun v0 => some ((), true, ())) ((a, b, (i : Int), ()), (), ()) = some ((), r, ()) ∧ slices_Equal_Entry_k0 fuel m' (fun v0 => some ((), true, ())) ((a, b, (a.length : Int), (i : Int), ()), (), ()) = some ((), r, ()) := by
  intro d
  induction d with
  | zero =>
    intro i m m' hi hm hm'
    obtain ⟨m, rfl⟩ : ∃ q, m = q + 1 := ⟨m - 1, by omega⟩
    obtain ⟨m', rfl⟩ : ∃ q, m' = q + 1 := ⟨m' - 1, by omega⟩
    refine ⟨true, ?_, ?_⟩
    · rw [spec_l18SameList_k0]; simp only; rw [tb_neg (ilt_f (by simp only [llen]; omega))]
    · rw [slices_Equal_Entry_k0]; simp only; rw [tb_neg (ilt_f (by omega))]
  | succ d ih =>
    intro i m m' hi hm hm'
    obtain ⟨m, rfl⟩ : ∃ q, m = q + 1 := ⟨m - 1, by omega⟩
    obtain ⟨m', rfl⟩ : ∃ q, m' = q + 1 := ⟨m' - 1, by omega⟩
    obtain ⟨x, hx⟩ : ∃ x, a[i]? = some x := ⟨a[i], List.getElem?_eq_getElem (by omega)⟩
    obtain ⟨y, hy⟩ : ∃ y, b[i]? = some y := ⟨b[i], List.getElem?_eq_getElem (by omega)⟩
    obtain ⟨r, h1, h2⟩ := ih (i + 1) m m' (by omega) (by omega) (by omega)
    cases hq : band (seq x.1 y.1) (band (seq x.2.1 y.2.1) true) with
    | false =>
      refine ⟨false, ?_, ?_⟩
      · rw [spec_l18SameList_k0]; simp only; rw [tb_pos (ilt_t (by simp only [llen]; omega)), chk_pos (by omega), obind_eq (at_some hx), chk_pos (by omega), obind_eq (at_some hy), hq, tb_nf]
      · rw [slices_Equal_Entry_k0]; simp only; rw [tb_pos (ilt_t (by omega)), chk_pos (by omega), obind_eq (at_some hx), chk_pos (by omega), obind_eq (at_some hy), hq, tb_nf]
    | true =>
      refine ⟨r, ?_, ?_⟩
      · rw [spec_l18SameList_k0]; simp only; rw [tb_pos (ilt_t (by simp only [llen]; omega)), chk_pos (by omega), obind_eq (at_some hx), chk_pos (by omega), obind_eq (at_some hy), hq, tb_nt, wr_succ (by omega)]; exact h1
      · rw [slices_Equal_Entry_k0]; simp only; rw [tb_pos (ilt_t (by omega)), chk_pos (by omega), obind_eq (at_some hx), chk_pos (by omega), obind_eq (at_some hy), hq, tb_nt, wr_succ (by omega)]; exact h2
theorem sameBoth (a b : List En) (hl : a.length ≤ 1000000000) : ∃ r : Bool, spec_l18SameList (a, b, ()) = some ((), r, ()) ∧ slices_Equal_Entry (a, b, ()) = some ((), r, ()) := by
  unfold spec_l18SameList spec_l18SameList_k slices_Equal_Entry slices_Equal_Entry_k
  simp only
  by_cases h : a.length = b.length
  · rw [ieq_t (by simp only [llen]; omega), tb_nt]
    obtain ⟨r, h1, h2⟩ := same0 h hl a.length 0 fuel fuel (by omega) (by have := fuel_gt; omega) (by have := fuel_gt; omega)
    rw [show ((0 : Nat) : Int) = 0 from rfl] at h1 h2
    rw [show ((llen a : Nat) : Int) = (a.length : Int) from rfl]
    exact ⟨r, h1, h2⟩
  · rw [ieq_f (by simp only [llen]; omega), tb_nf]
    exact ⟨false, rfl, rfl⟩
theorem archiveOk {a : Ar} (hs : dkSmall a.2.1) : ∃ r : Bool, spec_ArchiveOk ((a.1, (a.2.1.1, a.2.1.2.1, ()), (a.2.2.1.1, a.2.2.1.2.1, a.2.2.1.2.2.1, ()), a.2.2.2.1, ()), ()) = some ((), r, ()) ∧ impl_ArchiveOk ((a.1, (a.2.1.1, a.2.1.2.1, ()), (a.2.2.1.1, a.2.2.1.2.1, a.2.2.1.2.2.1, ()), a.2.2.2.1, ()), ()) = some ((), r, ()) := by
  have l1 := hs.1
  have l2 := hs.2
  unfold spec_ArchiveOk spec_ArchiveOk_k impl_ArchiveOk impl_ArchiveOk_k
  simp only
  rw [obind_eq (spec_ok a.2.1 (by omega) (by omega))]
  simp only
  by_cases hlate : 0 < a.2.1.2.1.length
  · refine ⟨false, ?_, ?_⟩
    · cases diskOk a.2.1
      · rw [tb_nf]
      · rw [tb_nt, tb_pos (ilt_t (by simp only [llen]; omega))]
    · rw [tb_pos (ilt_t (by simp only [llen]; omega))]
  rw [ilt_f (show ((llen a.2.1.2.1 : Nat) : Int) ≤ 0 by simp only [llen]; omega), tb_f, tb_f, obind_eq (impl_ok a.2.1 (by omega) (by omega))]
  simp only
  cases hd : diskOk a.2.1
  · exact ⟨false, by rw [tb_nf], by rw [tb_nf]⟩
  rw [tb_nt, tb_nt]
  cases hup : a.1
  · rw [tb_nf, tb_nf]
    cases band (ieq a.2.2.1.1 0) (band (ieq a.2.2.1.2.1 0) (band (ieq a.2.2.1.2.2.1 0) true))
    · exact ⟨false, by rw [tb_f], by rw [tb_f]⟩
    · exact ⟨_, by rw [tb_t], by rw [tb_t]⟩
  rw [tb_nt, tb_nt, obind_eq (spec_right ..), obind_eq (impl_right ..)]
  simp only
  cases hr : headRight a.2.2.1.1 a.2.2.1.2.1 a.2.2.1.2.2.1
  · exact ⟨false, by rw [tb_nf], by rw [tb_nf]⟩
  rw [tb_nt, tb_nt]
  obtain ⟨h, h1, h2, -⟩ := headNow hs
  rw [obind_eq h1, obind_eq h2]
  simp only
  cases hq : band (ieq h.1 a.2.2.1.1) (band (ieq h.2.1 a.2.2.1.2.1) (band (ieq h.2.2.1 a.2.2.1.2.2.1) true))
  · exact ⟨false, by rw [tb_nf], by rw [tb_nf]⟩
  rw [tb_nt, tb_nt]
  simp only [headRight, decide_eq_true_eq] at hr
  obtain ⟨hno, har, hend⟩ := hr
  obtain ⟨area, e1⟩ := Int.eq_ofNat_of_zero_le har.1
  obtain ⟨n, e2⟩ := Int.eq_ofNat_of_zero_le hend.1
  have hsp := spec_area hd (area := area) (a := 0) (n := n) (by omega) (by omega)
  have him := impl_area hd (area := area) (a := 0) (n := n) (by omega) (by omega)
  have hb := areaBytes_range a.2.1 area 0 n
  have hbl : (areaBytes a.2.1 area 0 n).length ≤ 1000000000 := by rw [areaBytes_length]; omega
  obtain ⟨rs, ok, r1, r2, r3⟩ := records hbl hb
  obtain ⟨R, i1, i2, i3⟩ := indexBoth rs (by rw [areaBytes_length] at r3; omega)
  obtain ⟨b, s1, s2⟩ := sameBoth R a.2.2.2.1 (by rw [areaBytes_length] at r3; omega)
  have hbytes : spec_l18Bytes ((a.2.1.1, a.2.1.2.1, ()), (a.2.2.1.1, a.2.2.1.2.1, a.2.2.1.2.2.1, ()), ()) = some ((), areaBytes a.2.1 area 0 n, ()) := by
    unfold spec_l18Bytes spec_l18Bytes_k
    simp only
    rw [e1, e2]
    exact (congrArg (fun z => obind z fun v0 => some ((), v0.2.1, ())) hsp).trans rfl
  have hget : impl_AreaGet ((a.2.1.1, a.2.1.2.1, ()), a.2.2.1.2.1, 0, a.2.2.1.2.2.1, ()) = some ((), areaBytes a.2.1 area 0 n, true, ()) := by
    unfold impl_AreaGet impl_AreaGet_k
    simp only
    rw [obind_eq (impl_fits ..)]
    simp only
    have hf : fitsA' a.2.2.1.2.1 0 a.2.2.1.2.2.1 = true := decide_eq_true ⟨har, by omega, by omega⟩
    rw [hf, tb_nt, obind_eq (impl_ok a.2.1 (by omega) (by omega))]
    simp only
    rw [hd, tb_nt, e1, e2]
    exact (congrArg (fun z => obind z fun v2 => some ((), v2.2.1, true, ())) him).trans rfl
  have hlist : impl_listOf ((a.2.1.1, a.2.1.2.1, ()), (a.2.2.1.1, a.2.2.1.2.1, a.2.2.1.2.2.1, ()), ()) = some ((), R, ok, ()) := by
    unfold impl_listOf impl_listOf_k
    simp only
    rw [obind_eq hget]
    simp only
    rw [tb_nt, obind_eq r2]
    simp only
    rw [obind_eq i2]
  rw [obind_eq hbytes, obind_eq hlist]
  simp only
  rw [obind_eq r1]
  simp only
  cases ok
  · exact ⟨false, by rw [tb_f], by rw [tb_f]⟩
  · rw [tb_t, tb_t, obind_eq i1]
    simp only
    rw [obind_eq s1, obind_eq s2]
    exact ⟨b, rfl, rfl⟩
end Go.Proofs.YtjiichnhdhlegaaGreat.V
namespace Go.Proofs.YtjiichnhdhlegaaGreat.V
open Go Go.RowKit
attribute [local irreducible] wr
def mkEn (_ : En) (m : Int) : En × Int := ((mt m, mt (m + 1), ()), m + 2)
theorem mkEn_le (x : En) (m : Int) (_ : True) (_ : 0 ≤ m) (_ : m + ((2 : Nat) : Int) ≤ 1099511627776) : m ≤ (mkEn x m).2 ∧ (mkEn x m).2 ≤ m + ((2 : Nat) : Int) := by
  simp only [mkEn]; omega
theorem markEntryS_step : MarkStep (laws_markEntryS_k0 fuel) mkEn (fun _ => True) (fun _ => 2) := by
  refine ⟨fun n K m i xs h => ?_, fun n K m i xs x hx hl hB h0 h1 => ?_⟩
  · rw [laws_markEntryS_k0]
    simp only
    rw [tb_neg (ilt_f (by simp only [llen]; omega))]
  · have hi := lt_of_get hx
    rw [laws_markEntryS_k0]
    simp only
    rw [tb_pos (ilt_t (by simp only [llen]; omega)), obind_eq (markText h0 (by omega)), chk_pos (by simp only [llen]; omega), obind_eq (at_some hx), wr64 (n := m + 1) (by omega) (by omega), obind_eq (markText (by omega) (by omega)), chk_pos (by simp only [llen, lset, List.length_set]; omega),
      obind_eq (at_some (x := (mt m, x.2)) (by simp [lset, hi])), wr64 (by omega) (by omega), wr_succ (by omega)]
    simp [lset, mkEn, Int.add_assoc]
theorem heldEntryS_step : HeldStep (laws_heldEntryS_k0 fuel) mkEn (fun _ => True) (fun _ => 2) := by
  refine ⟨fun n K m i xs h => ?_, fun n K m i xs x hx hl hB h0 h1 => ?_⟩
  · rw [laws_heldEntryS_k0]
    simp only
    rw [tb_neg (ilt_f (by simp only [llen]; omega))]
  · have hi := lt_of_get hx
    rw [laws_heldEntryS_k0]
    simp only
    rw [tb_pos (ilt_t (by simp only [llen]; omega)), chk_pos (by omega), obind_eq (at_some hx), obind_eq (markText h0 (by omega))]
    simp only [mkEn, seq_self]
    rw [tb_nt, chk_pos (by omega), obind_eq (at_some hx), wr64 (n := m + 1) (by omega) (by omega), obind_eq (markText (by omega) (by omega))]
    simp only [mkEn, seq_self]
    rw [tb_nt, wr64 (by omega) (by omega), wr_succ (by omega)]
    simp [Int.add_assoc]
theorem mkEn_row {l : List En} {m : Int} (h0 : 0 ≤ m) (h1 : m + 2 * l.length ≤ 1099511627776) : m ≤ (marksL mkEn l m).2 ∧ (marksL mkEn l m).2 ≤ m + 2 * l.length := by
  have := marksL_le (B := fun _ => True) (w := fun _ => 2) mkEn_le l m (fun _ _ => trivial) h0 (by rw [sumL_const]; omega)
  rw [sumL_const] at this
  omega
theorem markEntryS {l : List En} {m : Int} (h0 : 0 ≤ m) (hl : l.length ≤ 140737488351232) (h1 : m + 2 * l.length ≤ 1099511627776) : laws_markEntryS (l, m, ()) = some (((marksL mkEn l m).1, ()), (marksL mkEn l m).2, ()) := by
  have := mark_loop markEntryS_step (B := fun _ => True) (w := fun _ => 2) mkEn_le (fun v0 => some ((v0.2.2.1, ()), v0.1.1, ())) l [] m fuel (fun _ _ => trivial) h0 (by rw [sumL_const]; omega) (by simpa using hl) (by have := fuel_gt; omega)
  simpa [laws_markEntryS, laws_markEntryS_k] using this
theorem heldEntryS {l : List En} {m : Int} (h0 : 0 ≤ m) (hl : l.length ≤ 140737488351232) (h1 : m + 2 * l.length ≤ 1099511627776) : laws_heldEntryS ((marksL mkEn l m).1, m, ()) = some ((), (marksL mkEn l m).2, ()) := by
  have := held_loop heldEntryS_step (B := fun _ => True) (w := fun _ => 2) mkEn_le (fun v0 => some ((), v0.1.1, ())) l [] m fuel (fun _ _ => trivial) h0 (by rw [sumL_const]; omega) (by simpa using hl) (by have := fuel_gt; omega)
  simpa [laws_heldEntryS, laws_heldEntryS_k] using this
def mkAr (a : Ar) (m : Int) : Ar × Int := ((a.1, (mkDk a.2.1 m).1, a.2.2.1, (marksL mkEn a.2.2.2.1 (mkDk a.2.1 m).2).1, ()), (marksL mkEn a.2.2.2.1 (mkDk a.2.1 m).2).2)
def arSmall (a : Ar) : Prop := dkSmall a.2.1 ∧ a.2.2.2.1.length ≤ 1048577
theorem mkAr_le {a : Ar} {m : Int} (hs : dkSmall a.2.1) (hl : a.2.2.2.1.length ≤ 1048577) (h0 : 0 ≤ m) (h1 : m ≤ 1000000000) : m ≤ (mkAr a m).2 ∧ (mkAr a m).2 ≤ m + 10000000 := by
  have l1 := hs.1
  have l2 := hs.2
  have a1 := mkDk_le (d := a.2.1) (m := m) h0 (by omega)
  have a2 := mkEn_row (l := a.2.2.2.1) (m := (mkDk a.2.1 m).2) (by omega) (by omega)
  simp only [mkAr]; omega
theorem markArchive {a : Ar} {m : Int} (hs : dkSmall a.2.1) (hl : a.2.2.2.1.length ≤ 1048577) (h0 : 0 ≤ m) (h1 : m ≤ 1000000000) :
    laws_markArchive ((a.1, (a.2.1.1, a.2.1.2.1, ()), (a.2.2.1.1, a.2.2.1.2.1, a.2.2.1.2.2.1, ()), a.2.2.2.1, ()), m, ()) = some ((((), (mkAr a m).1.2.1, ((), (), (), ()), (mkAr a m).1.2.2.2.1, ()), ()), (mkAr a m).2, ()) := by
  have l1 := hs.1
  have l2 := hs.2
  have a1 := mkDk_le (d := a.2.1) (m := m) h0 (by omega)
  unfold laws_markArchive laws_markArchive_k
  simp only
  rw [obind_eq (markDisk (d := a.2.1) (m := m) h0 (by omega) (by omega) (by omega))]
  simp only
  rw [obind_eq (markEntryS (l := a.2.2.2.1) (m := (mkDk a.2.1 m).2) (by omega) (by omega) (by omega))]
  rfl
theorem heldArchive {a : Ar} {m : Int} (hs : dkSmall a.2.1) (hl : a.2.2.2.1.length ≤ 1048577) (h0 : 0 ≤ m) (h1 : m ≤ 1000000000) (b : Bool) (x y z : Int) :
    laws_heldArchive ((b, ((mkAr a m).1.2.1.1, (mkAr a m).1.2.1.2.1, ()), (x, y, z, ()), (mkAr a m).1.2.2.2.1, ()), m, ()) = some ((), (mkAr a m).2, ()) := by
  have l1 := hs.1
  have l2 := hs.2
  have a1 := mkDk_le (d := a.2.1) (m := m) h0 (by omega)
  have a2 := mkEn_row (l := a.2.2.2.1) (m := (mkDk a.2.1 m).2) (by omega) (by omega)
  unfold laws_heldArchive laws_heldArchive_k
  simp only
  have e1 : laws_heldDisk (((mkAr a m).1.2.1.1, (mkAr a m).1.2.1.2.1, ()), m, ()) = some ((), (mkDk a.2.1 m).2, ()) := heldDisk (d := a.2.1) (m := m) h0 (by omega) (by omega) (by omega)
  rw [obind_eq e1]
  simp only
  have e2 : laws_heldEntryS ((mkAr a m).1.2.2.2.1, (mkDk a.2.1 m).2, ()) = some ((), (mkAr a m).2, ()) := heldEntryS (l := a.2.2.2.1) (m := (mkDk a.2.1 m).2) (by omega) (by omega) (by omega)
  rw [tb_neg (ilt_f (by omega)), obind_eq e2]
  simp only
  rw [tb_neg (ilt_f (by simp only [mkAr]; omega))]
end Go.Proofs.YtjiichnhdhlegaaGreat.V
namespace Go.Proofs.YtjiichnhdhlegaaGreat.V
open Go Go.RowKit
attribute [local irreducible] wr
def exactArF (S I : Ar × Unit → Option (Unit × (Ar × Int × Unit))) (x0 : Ar) : Option (Unit × (Bool × Unit)) :=
  obind (laws_szArchive ((x0.1, (x0.2.1.1, x0.2.1.2.1, ()), (x0.2.2.1.1, x0.2.2.1.2.1, x0.2.2.1.2.2.1, ()), x0.2.2.2.1, ()), 1048576, ())) fun v0 =>
  tb (ilt v0.2.1 0)
  (some ((), true, ()))
  (obind (laws_toArchive ((x0.1, (x0.2.1.1, x0.2.1.2.1, ()), (x0.2.2.1.1, x0.2.2.1.2.1, x0.2.2.1.2.2.1, ()), x0.2.2.2.1, ()), ())) fun v1 =>
    obind (S ((v1.2.1.1, (v1.2.1.2.1.1, v1.2.1.2.1.2.1, ()), (v1.2.1.2.2.1.1, v1.2.1.2.2.1.2.1, v1.2.1.2.2.1.2.2.1, ()), v1.2.1.2.2.2.1, ()), ())) fun v2 =>
    obind (laws_toArchive ((x0.1, (x0.2.1.1, x0.2.1.2.1, ()), (x0.2.2.1.1, x0.2.2.1.2.1, x0.2.2.1.2.2.1, ()), x0.2.2.2.1, ()), ())) fun v3 =>
    obind (I ((v3.2.1.1, (v3.2.1.2.1.1, v3.2.1.2.1.2.1, ()), (v3.2.1.2.2.1.1, v3.2.1.2.2.1.2.1, v3.2.1.2.2.1.2.2.1, ()), v3.2.1.2.2.2.1, ()), ())) fun v4 =>
    obind (laws_eqArchive ((v4.2.1.1, (v4.2.1.2.1.1, v4.2.1.2.1.2.1, ()), (v4.2.1.2.2.1.1, v4.2.1.2.2.1.2.1, v4.2.1.2.2.1.2.2.1, ()), v4.2.1.2.2.2.1, ()), (v2.2.1.1, (v2.2.1.2.1.1, v2.2.1.2.1.2.1, ()), (v2.2.1.2.2.1.1, v2.2.1.2.2.1.2.1, v2.2.1.2.2.1.2.2.1, ()), v2.2.1.2.2.2.1, ()), ())) fun v5 =>
    tb (bnot v5.2.1)
    (some ((), false, ()))
    (tb (bnot (ieq v4.2.2.1 v2.2.2.1))
      (some ((), false, ()))
      (obind (laws_toArchive ((x0.1, (x0.2.1.1, x0.2.1.2.1, ()), (x0.2.2.1.1, x0.2.2.1.2.1, x0.2.2.1.2.2.1, ()), x0.2.2.2.1, ()), ())) fun v6 =>
        obind (laws_eqArchive ((v3.2.1.1, (v3.2.1.2.1.1, v3.2.1.2.1.2.1, ()), (v3.2.1.2.2.1.1, v3.2.1.2.2.1.2.1, v3.2.1.2.2.1.2.2.1, ()), v3.2.1.2.2.2.1, ()), (v6.2.1.1, (v6.2.1.2.1.1, v6.2.1.2.1.2.1, ()), (v6.2.1.2.2.1.1, v6.2.1.2.2.1.2.1, v6.2.1.2.2.1.2.2.1, ()), v6.2.1.2.2.2.1, ()), ())) fun v7 =>
        tb (bnot v7.2.1)
        (some ((), false, ()))
        (obind (laws_markArchive ((v3.2.1.1, (v3.2.1.2.1.1, v3.2.1.2.1.2.1, ()), (v3.2.1.2.2.1.1, v3.2.1.2.2.1.2.1, v3.2.1.2.2.1.2.2.1, ()), v3.2.1.2.2.2.1, ()), 1, ())) fun v8 =>
          tb (ilt v8.2.1 0)
          (some ((), false, ()))
          (obind (laws_eqArchive ((v4.2.1.1, (v4.2.1.2.1.1, v4.2.1.2.1.2.1, ()), (v4.2.1.2.2.1.1, v4.2.1.2.2.1.2.1, v4.2.1.2.2.1.2.2.1, ()), v4.2.1.2.2.2.1, ()), (v2.2.1.1, (v2.2.1.2.1.1, v2.2.1.2.1.2.1, ()), (v2.2.1.2.2.1.1, v2.2.1.2.2.1.2.1, v2.2.1.2.2.1.2.2.1, ()), v2.2.1.2.2.2.1, ()), ())) fun v9 =>
            tb (bnot v9.2.1)
            (some ((), false, ()))
            (tb (bnot (ieq v4.2.2.1 v2.2.2.1))
              (some ((), false, ()))
              (obind (laws_markArchive ((v4.2.1.1, (v4.2.1.2.1.1, v4.2.1.2.1.2.1, ()), (v4.2.1.2.2.1.1, v4.2.1.2.2.1.2.1, v4.2.1.2.2.1.2.2.1, ()), v4.2.1.2.2.2.1, ()), 1, ())) fun v10 =>
                obind (laws_heldArchive ((v4.2.1.1, (v10.1.1.2.1.1, v10.1.1.2.1.2.1, ()), (v4.2.1.2.2.1.1, v4.2.1.2.2.1.2.1, v4.2.1.2.2.1.2.2.1, ()), v10.1.1.2.2.2.1, ()), 1, ())) fun v11 =>
                tb (ilt v11.2.1 0)
                (some ((), false, ()))
                (tb (bnot (ieq v11.2.1 v10.2.1))
                  (some ((), false, ()))
                  (obind (laws_toArchive ((x0.1, (x0.2.1.1, x0.2.1.2.1, ()), (x0.2.2.1.1, x0.2.2.1.2.1, x0.2.2.1.2.2.1, ()), x0.2.2.2.1, ()), ())) fun v12 =>
                    obind (I ((v12.2.1.1, (v12.2.1.2.1.1, v12.2.1.2.1.2.1, ()), (v12.2.1.2.2.1.1, v12.2.1.2.2.1.2.1, v12.2.1.2.2.1.2.2.1, ()), v12.2.1.2.2.2.1, ()), ())) fun v13 =>
                    obind (laws_eqArchive ((v13.2.1.1, (v13.2.1.2.1.1, v13.2.1.2.1.2.1, ()), (v13.2.1.2.2.1.1, v13.2.1.2.2.1.2.1, v13.2.1.2.2.1.2.2.1, ()), v13.2.1.2.2.2.1, ()), (v2.2.1.1, (v2.2.1.2.1.1, v2.2.1.2.1.2.1, ()), (v2.2.1.2.2.1.1, v2.2.1.2.2.1.2.1, v2.2.1.2.2.1.2.2.1, ()), v2.2.1.2.2.2.1, ()), ())) fun v14 =>
                    tb (bnot v14.2.1)
                    (some ((), false, ()))
                    (tb (bnot (ieq v13.2.2.1 v2.2.2.1))
                      (some ((), false, ()))
                      (obind (laws_heldArchive ((v4.2.1.1, (v10.1.1.2.1.1, v10.1.1.2.1.2.1, ()), (v4.2.1.2.2.1.1, v4.2.1.2.2.1.2.1, v4.2.1.2.2.1.2.2.1, ()), v10.1.1.2.2.2.1, ()), 1, ())) fun v15 =>
                        tb (ilt v15.2.1 0)
                        (some ((), false, ()))
                        (tb (bnot (ieq v15.2.1 v10.2.1))
                          (some ((), false, ()))
                          (some ((), true, ()))))))))))))))
theorem exactAr {S I : Ar × Unit → Option (Unit × (Ar × Int × Unit))} {x0 : Ar} (hB : ArB x0)
    (H : arW x0 ≤ 1048576 → arSmall x0 → ∃ (r : Ar) (c : Int), S ((x0.1, (x0.2.1.1, x0.2.1.2.1, ()), (x0.2.2.1.1, x0.2.2.1.2.1, x0.2.2.1.2.2.1, ()), x0.2.2.2.1, ()), ()) = some ((), r, c, ()) ∧ I ((x0.1, (x0.2.1.1, x0.2.1.2.1, ()), (x0.2.2.1.1, x0.2.2.1.2.1, x0.2.2.1.2.2.1, ()), x0.2.2.2.1, ()), ()) = some ((), r, c, ()) ∧ arSmall r) : exactArF S I x0 = some ((), true, ()) := by
  unfold exactArF
  obtain ⟨s, e1, e2⟩ := szArchive x0 1048576 hB (by omega) (by omega)
  simp only at e1
  rw [obind_eq e1]
  simp only
  rcases e2 with e2 | ⟨e2, e3⟩
  · exact tb_pos (ilt_t e2) _ _
  have hw : arW x0 ≤ 1048576 := by omega
  have hs : dkSmall x0.2.1 := dkSmall_of (by simp only [arW] at hw; omega)
  have hl : x0.2.2.2.1.length ≤ 1048577 := by simp only [arW, wL] at hw; omega
  obtain ⟨r, c, f1, f2, g1, g2⟩ := H hw ⟨hs, hl⟩
  have t := toArchive hw
  have q := eqArchive (a := x0) (by have := hs.1; omega) (by have := hs.2; omega) (by omega)
  have q2 := eqArchive (a := r) (by have := g1.1; omega) (by have := g1.2; omega) (by omega)
  have m1 := markArchive (a := x0) (m := 1) hs hl (by omega) (by omega)
  have m2 := markArchive (a := r) (m := 1) g1 g2 (by omega) (by omega)
  have l1 := mkAr_le (a := x0) (m := 1) hs hl (by omega) (by omega)
  have l2 := mkAr_le (a := r) (m := 1) g1 g2 (by omega) (by omega)
  have h2 := heldArchive (a := r) (m := 1) g1 g2 (by omega) (by omega) r.1 r.2.2.1.1 r.2.2.1.2.1 r.2.2.1.2.2.1
  rw [tb_neg (ilt_f e2), obind_eq t]
  simp only
  rw [obind_eq f1]
  simp only
  rw [obind_eq t]
  simp only
  rw [obind_eq f2]
  simp only
  rw [obind_eq q2]
  simp only
  rw [tb_nt, ieq_self, tb_nt, obind_eq t]
  simp only
  rw [obind_eq q]
  simp only
  rw [tb_nt, obind_eq m1]
  simp only
  rw [tb_neg (ilt_f (by omega)), obind_eq q2]
  simp only
  rw [tb_nt, tb_nt, obind_eq m2]
  simp only
  rw [obind_eq h2]
  simp only
  rw [tb_neg (ilt_f (by omega)), ieq_self, tb_nt, obind_eq t]
  simp only
  rw [obind_eq f2]
  simp only
  rw [obind_eq q2]
  simp only
  rw [tb_nt, ieq_self, tb_nt, obind_eq h2]
  simp only
  rw [tb_neg (ilt_f (by omega)), ieq_self, tb_nt]
end Go.Proofs.YtjiichnhdhlegaaGreat.V
namespace Go.Proofs.YtjiichnhdhlegaaGreat.V
open Go Go.RowKit
attribute [local irreducible] wr
def ar0 : Ar := (false, ([], [], ()), (0, 0, 0, ()), [], ())
theorem ar0_small : arSmall ar0 := ⟨⟨by simp [ar0], by simp [ar0]⟩, by simp [ar0]⟩
def codeF (ok up : Bool) : Int := if ok = true then (if up = true then 0 else 2) else 1
theorem upCode {a : Ar} {r : Bool} (h : impl_ArchiveOk ((a.1, (a.2.1.1, a.2.1.2.1, ()), (a.2.2.1.1, a.2.2.1.2.1, a.2.2.1.2.2.1, ()), a.2.2.2.1, ()), ()) = some ((), r, ())) : impl_upCode ((a.1, (a.2.1.1, a.2.1.2.1, ()), (a.2.2.1.1, a.2.2.1.2.1, a.2.2.1.2.2.1, ()), a.2.2.2.1, ()), ()) = some ((), codeF r a.1, ()) := by
  unfold impl_upCode impl_upCode_k
  simp only
  rw [obind_eq h]
  simp only
  cases r
  · rw [tb_nf]; rfl
  · rw [tb_nt]
    cases a.1
    · rw [tb_nf]; rfl
    · rw [tb_nt]; rfl
theorem archiveOk_disk {a : Ar} (hs : dkSmall a.2.1) (h : spec_ArchiveOk ((a.1, (a.2.1.1, a.2.1.2.1, ()), (a.2.2.1.1, a.2.2.1.2.1, a.2.2.1.2.2.1, ()), a.2.2.2.1, ()), ()) = some ((), true, ())) : diskOk a.2.1 = true := by
  have l1 := hs.1
  have l2 := hs.2
  cases hd : diskOk a.2.1 with
  | true => rfl
  | false =>
    unfold spec_ArchiveOk spec_ArchiveOk_k at h
    simp only at h
    rw [obind_eq (spec_ok a.2.1 (by omega) (by omega))] at h
    simp only at h
    rw [hd, tb_nf] at h
    cases h
theorem clone_en {l : List En} (h : l.length ≤ 1048577) : slices_Clone_Entry (l, ()) = some ((), l, ()) := by
  show cloneF (.pair .str (.pair .str .unit)) 32 (l, ()) = _
  unfold cloneF
  exact if_pos (by show l.length * 32 ≤ _; omega)
theorem impl_copyAr {a : Ar} (h : arSmall a) : impl_copyArchive ((a.1, (a.2.1.1, a.2.1.2.1, ()), (a.2.2.1.1, a.2.2.1.2.1, a.2.2.1.2.2.1, ()), a.2.2.2.1, ()), ()) = some ((), a, ()) := by
  unfold impl_copyArchive impl_copyArchive_k
  simp only
  rw [obind_eq (impl_copy h.1)]
  simp only
  rw [obind_eq (clone_en h.2)]
theorem spec_copyAr {a : Ar} (h : arSmall a) : spec_l18Copy ((a.1, (a.2.1.1, a.2.1.2.1, ()), (a.2.2.1.1, a.2.2.1.2.1, a.2.2.1.2.2.1, ()), a.2.2.2.1, ()), ()) = some ((), a, ()) := by
  have := h.2
  unfold spec_l18Copy spec_l18Copy_k
  simp only
  rw [obind_eq (spec_copy h.1)]
  simp only
  rw [chk_pos (by simp only [plus, llen]; omega)]
  rfl
def refuseF (a : Ar) (c : Int) : Ar := if c = 1 then ar0 else a
theorem refused {a : Ar} {c : Int} (h : arSmall a) : impl_refused ((a.1, (a.2.1.1, a.2.1.2.1, ()), (a.2.2.1.1, a.2.2.1.2.1, a.2.2.1.2.2.1, ()), a.2.2.2.1, ()), c, ()) = some ((), refuseF a c, c, ()) := by
  unfold impl_refused impl_refused_k refuseF
  simp only
  by_cases hc : c = 1
  · rw [tb_pos (ieq_t hc), if_pos hc]; rfl
  · rw [tb_neg (ieq_f hc), if_neg hc, obind_eq (impl_copyAr h)]
end Go.Proofs.YtjiichnhdhlegaaGreat.V
namespace Go.Proofs.YtjiichnhdhlegaaGreat.V
open Go Go.RowKit
attribute [local irreducible] wr
theorem listBoth {d : Dk} {h : Hd} (hd : diskOk d = true) (hr : headRight h.1 h.2.1 h.2.2.1 = true) : ∃ (l : List Int) (rs : List Rc) (ok : Bool) (R : List En),
    spec_l18Bytes ((d.1, d.2.1, ()), (h.1, h.2.1, h.2.2.1, ()), ()) = some ((), l, ()) ∧ spec_Records (l, ()) = some ((), rs, ok, ()) ∧ spec_IndexOf (rs, ()) = some ((), R, ()) ∧
    impl_listOf ((d.1, d.2.1, ()), (h.1, h.2.1, h.2.2.1, ()), ()) = some ((), R, ok, ()) ∧ R.length ≤ 1048577 := by
  have hs := diskOk_small hd
  have l1 := hs.1
  have l2 := hs.2
  simp only [headRight, decide_eq_true_eq] at hr
  obtain ⟨hno, har, hend⟩ := hr
  obtain ⟨area, e1⟩ := Int.eq_ofNat_of_zero_le har.1
  obtain ⟨n, e2⟩ := Int.eq_ofNat_of_zero_le hend.1
  have hsp := spec_area hd (area := area) (a := 0) (n := n) (by omega) (by omega)
  have him := impl_area hd (area := area) (a := 0) (n := n) (by omega) (by omega)
  have hb := areaBytes_range d area 0 n
  have hbl : (areaBytes d area 0 n).length ≤ 1000000000 := by rw [areaBytes_length]; omega
  obtain ⟨rs, ok, r1, r2, r3⟩ := records hbl hb
  obtain ⟨R, i1, i2, i3⟩ := indexBoth rs (by rw [areaBytes_length] at r3; omega)
  refine ⟨_, rs, ok, R, ?_, r1, i1, ?_, by rw [areaBytes_length] at r3; omega⟩
  · unfold spec_l18Bytes spec_l18Bytes_k
    simp only
    rw [e1, e2]
    exact (congrArg (fun z => obind z fun v0 => some ((), v0.2.1, ())) hsp).trans rfl
  · have hget : impl_AreaGet ((d.1, d.2.1, ()), h.2.1, 0, h.2.2.1, ()) = some ((), areaBytes d area 0 n, true, ()) := by
      unfold impl_AreaGet impl_AreaGet_k
      simp only
      rw [obind_eq (impl_fits ..)]
      simp only
      have hf : fitsA' h.2.1 0 h.2.2.1 = true := decide_eq_true ⟨har, by omega, by omega⟩
      rw [hf, tb_nt, obind_eq (impl_ok d (by omega) (by omega))]
      simp only
      rw [hd, tb_nt, e1, e2]
      exact (congrArg (fun z => obind z fun v2 => some ((), v2.2.1, true, ())) him).trans rfl
    unfold impl_listOf impl_listOf_k
    simp only
    rw [obind_eq hget]
    simp only
    rw [tb_nt, obind_eq r2]
    simp only
    rw [obind_eq i2]
end Go.Proofs.YtjiichnhdhlegaaGreat.V
namespace Go.Proofs.YtjiichnhdhlegaaGreat.V
open Go Go.RowKit
attribute [local irreducible] wr
def stepsF (d : Dk) (area at' : Int) (b : List Int) (h : Hd) : Option Dk :=
  if (areaPutF d area at' b).2 = true then (if (headPutF (syncF (areaPutF d area at' b).1) h).2 = true then some (syncF (headPutF (syncF (areaPutF d area at' b).1) h).1) else none) else none
theorem areaPutF_ok {d : Dk} {area at' : Int} {b : List Int} (hd : diskOk d = true) : diskOk (areaPutF d area at' b).1 = true := by
  unfold areaPutF
  rw [if_pos hd]
  split
  · split
    · rename_i e he
      exact areaF_ok hd he
    · exact hd
  · exact hd
theorem headPutF_ok {d : Dk} {h : Hd} (hd : diskOk d = true) : diskOk (headPutF d h).1 = true := by
  rw [headPutF_eq hd]
  exact putHeadF_ok hd
theorem headPutF_right {d : Dk} {h : Hd} (hb : (headPutF d h).2 = true) : headRight h.1 h.2.1 h.2.2.1 = true := by
  unfold headPutF at hb
  split at hb
  · split at hb
    · rename_i q; exact q
    · cases hb
  · cases hb
theorem stepsF_ok {d e : Dk} {area at' : Int} {b : List Int} {h : Hd} (hd : diskOk d = true) (hs : stepsF d area at' b h = some e) : diskOk e = true ∧ headRight h.1 h.2.1 h.2.2.1 = true := by
  unfold stepsF at hs
  split at hs
  · split at hs
    · rename_i q
      cases hs
      exact ⟨syncF_ok (headPutF_ok (syncF_ok (areaPutF_ok hd))), headPutF_right q⟩
    · cases hs
  · cases hs
theorem spec_steps {d : Dk} {area at' : Int} {b : List Int} {h : Hd} (hd : diskOk d = true) : ∃ l : List Dk, spec_l18Steps ((d.1, d.2.1, ()), area, at', b, (h.1, h.2.1, h.2.2.1, ()), ()) = some ((), l, (stepsF d area at' b h).isSome, ()) ∧ ∀ e, stepsF d area at' b h = some e → l[3]? = some e := by
  have d1 := areaPutF_ok (area := area) (at' := at') (b := b) hd
  have d2 := syncF_ok d1
  have d3 := headPutF_ok (h := h) d2
  unfold spec_l18Steps spec_l18Steps_k
  simp only
  rw [obind_eq (spec_areaPut (diskOk_small hd))]
  simp only
  unfold stepsF
  cases h1 : (areaPutF d area at' b).2
  · exact ⟨[], by rw [tb_nf]; rfl, fun e q => by cases q⟩
  rw [tb_nt, obind_eq (spec_sync d1), if_pos rfl]
  simp only
  rw [obind_eq (spec_headPut (h := h) (diskOk_small d2))]
  simp only
  cases h2 : (headPutF (syncF (areaPutF d area at' b).1) h).2
  · exact ⟨[], by rw [tb_nf]; rfl, fun e q => by cases q⟩
  rw [tb_nt, obind_eq (spec_sync d3), chk_pos (by simp [plus, llen]), if_pos rfl]
  exact ⟨_, rfl, fun e q => by cases q; rfl⟩
theorem do_stop {j : Int × Int × List Int × (Int × Int × Int × Unit) × Unit} {s : Int} {p : List ByteArray} {q : List Pt} {c : Bool} {K} (m : Nat) : impl_job_do_k0 fuel (m + 1) K ((j, 4, false, s, c, ()), ((), (), ()), p, q, ()) = K ((false, ()), ((), (), ()), p, q, ()) := by
  rw [impl_job_do_k0]
  simp only
  by_cases h : s ≤ 4
  · rw [tb_pos (ile_t h), tb_f]
  · rw [tb_neg (ile_f (by omega))]
theorem impl_do {d : Dk} {area at' : Int} {b : List Int} {h : Hd} (hd : diskOk d = true) : ∃ e : Dk, impl_job_do ((area, at', b, (h.1, h.2.1, h.2.2.1, ()), ()), (d.1, d.2.1, ()), 4, ()) = some ((), e, (stepsF d area at' b h).isSome, ()) ∧ ∀ e', stepsF d area at' b h = some e' → e = e' := by
  have d1 := areaPutF_ok (area := area) (at' := at') (b := b) hd
  have d2 := syncF_ok d1
  have d3 := headPutF_ok (h := h) d2
  obtain ⟨n, hn⟩ : ∃ n, fuel = n + 6 := ⟨fuel - 6, by have := fuel_gt; omega⟩
  have key : ∀ m, m = n + 6 → ∃ e : Dk, impl_job_do_k0 fuel m (fun v1 => some ((), (v1.2.2.1, v1.2.2.2.1, ()), v1.1.1, ())) (((area, at', b, (h.1, h.2.1, h.2.2.1, ()), ()), 4, (areaPutF d area at' b).2, 2, true, ()), ((), (), ()), (areaPutF d area at' b).1.1, (areaPutF d area at' b).1.2.1, ()) = some ((), e, (stepsF d area at' b h).isSome, ()) ∧ ∀ e', stepsF d area at' b h = some e' → e = e' := by
    rintro m rfl
    unfold stepsF
    cases h1 : (areaPutF d area at' b).2
    · exact ⟨_, do_stop _, fun e q => by cases q⟩
    rw [impl_job_do_k0]
    simp only
    rw [tb_pos (ile_t (by omega)), tb_t, ieq_f (by omega), tb_f, ieq_f (by omega), tb_f, obind_eq (impl_sync d1), wr64 (by omega) (by omega), if_pos trivial]
    simp only
    rw [impl_job_do_k0]
    simp only
    rw [tb_pos (ile_t (by omega)), tb_t, ieq_f (by omega), tb_f, ieq_t (by omega), tb_t]
    rw [obind_eq (impl_headPut (d := syncF (areaPutF d area at' b).1) (h := h) (diskOk_small d2)), wr64 (by omega) (by omega)]
    simp only
    cases h2 : (headPutF (syncF (areaPutF d area at' b).1) h).2
    · exact ⟨_, do_stop _, fun e q => by cases q⟩
    rw [impl_job_do_k0]
    simp only
    rw [tb_pos (ile_t (by omega)), tb_t, ieq_f (by omega), tb_f, ieq_f (by omega), tb_f, obind_eq (impl_sync d3), wr64 (by omega) (by omega), if_pos trivial]
    simp only
    rw [impl_job_do_k0]
    simp only
    rw [tb_neg (ile_f (by omega))]
    exact ⟨_, rfl, fun e q => by cases q; rfl⟩
  obtain ⟨e, k1, k2⟩ := key fuel hn
  refine ⟨e, ?_, k2⟩
  unfold impl_job_do impl_job_do_k
  simp only
  rw [tb_pos (ile_t (by omega)), ieq_self, tb_t, obind_eq (impl_areaPut (diskOk_small hd)), wr64 (by omega) (by omega)]
  simp only
  exact k1
theorem doneBoth {a : Ar} {area at' : Int} {b : List Int} {h : Hd} (ha : arSmall a) (hd : diskOk a.2.1 = true) : ∃ (r : Ar) (c : Int),
    impl_Archive_done ((a.1, (a.2.1.1, a.2.1.2.1, ()), (a.2.2.1.1, a.2.2.1.2.1, a.2.2.1.2.2.1, ()), a.2.2.2.1, ()), (area, at', b, (h.1, h.2.1, h.2.2.1, ()), ()), 0, ()) = some ((), r, c, ()) ∧ arSmall r ∧
    ((stepsF a.2.1 area at' b h = none ∧ r = a ∧ c = 5) ∨ ∃ e, stepsF a.2.1 area at' b h = some e ∧ c = 0 ∧ spec_l18Up ((e.1, e.2.1, ()), (h.1, h.2.1, h.2.2.1, ()), ()) = some ((), r, ())) := by
  obtain ⟨e, k1, k2⟩ := impl_do (area := area) (at' := at') (b := b) (h := h) hd
  unfold impl_Archive_done impl_Archive_done_k
  simp only
  rw [ieq_self, tb_nt, obind_eq k1]
  simp only
  cases hs : stepsF a.2.1 area at' b h with
  | none =>
    rw [show (none : Option Dk).isSome = false from rfl, tb_nf, obind_eq (refused (c := 5) ha)]
    refine ⟨a, 5, rfl, ha, .inl ⟨rfl, rfl, rfl⟩⟩
  | some e' =>
    obtain rfl := k2 e' hs
    obtain ⟨o1, o2⟩ := stepsF_ok hd hs
    obtain ⟨l, rs, ok, R, q1, q2, q3, q4, q5⟩ := listBoth (h := h) o1 o2
    rw [show (some e : Option Dk).isSome = true from rfl, tb_nt, obind_eq q4]
    refine ⟨_, _, rfl, ⟨diskOk_small o1, q5⟩, .inr ⟨e, rfl, rfl, ?_⟩⟩
    unfold spec_l18Up spec_l18Up_k
    simp only
    rw [obind_eq q1]
    simp only
    rw [obind_eq q2]
    simp only
    rw [obind_eq q3]
theorem impl_doneNo {a : Ar} {j : Int × Int × List Int × (Int × Int × Int × Unit) × Unit} {c : Int} (ha : arSmall a) (hc : c ≠ 0) : impl_Archive_done ((a.1, (a.2.1.1, a.2.1.2.1, ()), (a.2.2.1.1, a.2.2.1.2.1, a.2.2.1.2.2.1, ()), a.2.2.2.1, ()), j, c, ()) = some ((), refuseF a c, c, ()) := by
  unfold impl_Archive_done impl_Archive_done_k
  simp only
  rw [ieq_f hc, tb_nf, obind_eq (refused ha)]
theorem archiveOk_right {a : Ar} (hs : dkSmall a.2.1) (hu : a.1 = true) (h : spec_ArchiveOk ((a.1, (a.2.1.1, a.2.1.2.1, ()), (a.2.2.1.1, a.2.2.1.2.1, a.2.2.1.2.2.1, ()), a.2.2.2.1, ()), ()) = some ((), true, ())) : headRight a.2.2.1.1 a.2.2.1.2.1 a.2.2.1.2.2.1 = true := by
  have l1 := hs.1
  have l2 := hs.2
  have hd := archiveOk_disk hs h
  cases hr : headRight a.2.2.1.1 a.2.2.1.2.1 a.2.2.1.2.2.1 with
  | true => rfl
  | false =>
    unfold spec_ArchiveOk spec_ArchiveOk_k at h
    simp only at h
    rw [obind_eq (spec_ok a.2.1 (by omega) (by omega))] at h
    simp only at h
    rw [hd, tb_nt] at h
    by_cases hlate : 0 < a.2.1.2.1.length
    · rw [tb_pos (ilt_t (by simp only [llen]; omega))] at h
      cases h
    · rw [tb_neg (ilt_f (by simp only [llen]; omega)), hu, tb_nt, obind_eq (spec_right ..)] at h
      simp only at h
      rw [hr, tb_nf] at h
      cases h
end Go.Proofs.YtjiichnhdhlegaaGreat.V
namespace Go.Proofs.YtjiichnhdhlegaaGreat.V
open Go Go.RowKit
attribute [local irreducible] wr
theorem recForm_le (k : Nat) (u b : ByteArray) : (recForm k u b).length ≤ u.size + b.size + 30 := by
  have h1 := numForm_length k
  have h2 := textForm_length u
  have h3 := textForm_length b
  unfold recForm
  split <;> simp only [List.length_append, List.length_nil] <;> omega
theorem sizes_get {l : List En} {i : Nat} {x : En} (h : l[i]? = some x) : (l.drop i) = x :: l.drop (i + 1) := by
  obtain ⟨hi, rfl⟩ := List.getElem?_eq_some_iff.1 h
  rw [List.drop_eq_getElem_cons hi]
def findF (u : ByteArray) : List En → ByteArray × Bool
  | [] => (⟨#[]⟩, false)
  | x :: l => if seq x.1 u = true then (x.2.1, true) else findF u l
theorem spec_find0 {l : List En} {u : ByteArray} (hl : l.length ≤ 1048577) : ∀ (d i m : Nat), i + d = l.length → d < m →
    spec_IndexFind_k0 fuel m (fun v0 => some ((), (⟨#[]⟩ : ByteArray), false, ())) ((l, u, (i : Int), ()), (), ()) = some ((), (findF u (l.drop i)).1, (findF u (l.drop i)).2, ()) := by
  intro d
  induction d with
  | zero =>
    intro i m hi hm
    obtain ⟨m, rfl⟩ : ∃ q, m = q + 1 := ⟨m - 1, by omega⟩
    rw [spec_IndexFind_k0]
    simp only
    rw [tb_neg (ilt_f (by simp only [llen]; omega)), List.drop_eq_nil_of_le (by omega)]
    rfl
  | succ d ih =>
    intro i m hi hm
    obtain ⟨m, rfl⟩ : ∃ q, m = q + 1 := ⟨m - 1, by omega⟩
    obtain ⟨x, hx⟩ : ∃ x, l[i]? = some x := ⟨l[i], List.getElem?_eq_getElem (by omega)⟩
    rw [sizes_get hx, findF, spec_IndexFind_k0]
    simp only
    rw [tb_pos (ilt_t (by simp only [llen]; omega)), chk_pos (by omega), obind_eq (at_some hx)]
    cases hq : seq x.1 u
    · rw [tb_f, wr_succ (by omega)]
      exact ih (i + 1) m (by omega) (by omega)
    · rw [tb_t, chk_pos (by omega), obind_eq (at_some hx)]
      rfl
theorem impl_find0 {l : List En} {u : ByteArray} (hl : l.length ≤ 1048577) : ∀ (d i m : Nat), i + d = l.length → d < m →
    impl_IndexFind_k0 fuel m (fun v0 => some ((), (⟨#[]⟩ : ByteArray), false, ())) ((u, l, (l.length : Int), (i : Int), ()), (), ()) = some ((), (findF u (l.drop i)).1, (findF u (l.drop i)).2, ()) := by
  intro d
  induction d with
  | zero =>
    intro i m hi hm
    obtain ⟨m, rfl⟩ : ∃ q, m = q + 1 := ⟨m - 1, by omega⟩
    rw [impl_IndexFind_k0]
    simp only
    rw [tb_neg (ilt_f (by omega)), List.drop_eq_nil_of_le (by omega)]
    rfl
  | succ d ih =>
    intro i m hi hm
    obtain ⟨m, rfl⟩ : ∃ q, m = q + 1 := ⟨m - 1, by omega⟩
    obtain ⟨x, hx⟩ : ∃ x, l[i]? = some x := ⟨l[i], List.getElem?_eq_getElem (by omega)⟩
    rw [sizes_get hx, findF, impl_IndexFind_k0]
    simp only
    rw [tb_pos (ilt_t (by omega)), chk_pos (by omega), obind_eq (at_some hx)]
    cases hq : seq x.1 u
    · rw [tb_f, wr_succ (by omega)]
      exact ih (i + 1) m (by omega) (by omega)
    · rw [tb_t]
      rfl
theorem spec_find {l : List En} {u : ByteArray} (hl : l.length ≤ 1048577) : spec_IndexFind (l, u, ()) = some ((), (findF u l).1, (findF u l).2, ()) := by
  have := spec_find0 (u := u) hl l.length 0 fuel (by omega) (by have := fuel_gt; omega)
  rw [List.drop_zero] at this
  exact this
theorem impl_find {l : List En} {u : ByteArray} (hl : l.length ≤ 1048577) : impl_IndexFind (l, u, ()) = some ((), (findF u l).1, (findF u l).2, ()) := by
  have := impl_find0 (u := u) hl l.length 0 fuel (by omega) (by have := fuel_gt; omega)
  rw [List.drop_zero] at this
  exact this
end Go.Proofs.YtjiichnhdhlegaaGreat.V
namespace Go.Proofs.YtjiichnhdhlegaaGreat.V
open Go Go.RowKit
attribute [local irreducible] wr
theorem spec_done_bad {a : Ar} {kind : Int} {url : ByteArray} {page : List Int} (h1 : spec_ArchiveOk ((a.1, (a.2.1.1, a.2.1.2.1, ()), (a.2.2.1.1, a.2.2.1.2.1, a.2.2.1.2.2.1, ()), a.2.2.2.1, ()), ()) = some ((), false, ())) : spec_l18Done ((a.1, (a.2.1.1, a.2.1.2.1, ()), (a.2.2.1.1, a.2.2.1.2.1, a.2.2.1.2.2.1, ()), a.2.2.2.1, ()), kind, url, page, ()) = some ((), ar0, 1, ()) := by
  unfold spec_l18Done spec_l18Done_k
  simp only
  rw [obind_eq h1]
  simp only
  rw [tb_nf]
  rfl
theorem spec_done_no {a : Ar} {kind : Int} {url : ByteArray} {page : List Int} {l : List Dk} {hh : Hd} {c : Int} (h : arSmall a) (h1 : spec_ArchiveOk ((a.1, (a.2.1.1, a.2.1.2.1, ()), (a.2.2.1.1, a.2.2.1.2.1, a.2.2.1.2.2.1, ()), a.2.2.2.1, ()), ()) = some ((), true, ()))
    (hw : spec_l18Work ((a.1, (a.2.1.1, a.2.1.2.1, ()), (a.2.2.1.1, a.2.2.1.2.1, a.2.2.1.2.2.1, ()), a.2.2.2.1, ()), kind, url, page, ()) = some ((), l, hh, c, ())) (hc : c ≠ 0) : spec_l18Done ((a.1, (a.2.1.1, a.2.1.2.1, ()), (a.2.2.1.1, a.2.2.1.2.1, a.2.2.1.2.2.1, ()), a.2.2.2.1, ()), kind, url, page, ()) = some ((), a, c, ()) := by
  unfold spec_l18Done spec_l18Done_k
  simp only
  rw [obind_eq h1]
  simp only
  rw [tb_nt, obind_eq hw]
  simp only
  rw [ieq_f hc, tb_nf, obind_eq (spec_copyAr h)]
theorem spec_done_yes {a r : Ar} {kind : Int} {url : ByteArray} {page : List Int} {l : List Dk} {e : Dk} {hh : Hd} (h1 : spec_ArchiveOk ((a.1, (a.2.1.1, a.2.1.2.1, ()), (a.2.2.1.1, a.2.2.1.2.1, a.2.2.1.2.2.1, ()), a.2.2.2.1, ()), ()) = some ((), true, ()))
    (hw : spec_l18Work ((a.1, (a.2.1.1, a.2.1.2.1, ()), (a.2.2.1.1, a.2.2.1.2.1, a.2.2.1.2.2.1, ()), a.2.2.2.1, ()), kind, url, page, ()) = some ((), l, (hh.1, hh.2.1, hh.2.2.1, ()), 0, ())) (hl : l[3]? = some e) (hup : spec_l18Up ((e.1, e.2.1, ()), (hh.1, hh.2.1, hh.2.2.1, ()), ()) = some ((), r, ())) :
    spec_l18Done ((a.1, (a.2.1.1, a.2.1.2.1, ()), (a.2.2.1.1, a.2.2.1.2.1, a.2.2.1.2.2.1, ()), a.2.2.2.1, ()), kind, url, page, ()) = some ((), r, 0, ()) := by
  unfold spec_l18Done spec_l18Done_k
  simp only
  rw [obind_eq h1]
  simp only
  rw [tb_nt, obind_eq hw]
  simp only
  rw [ieq_self, tb_nt, chk_pos (by decide), obind_eq (show at? l (Int.toNat 3) = some e from hl), obind_eq hup]
theorem spec_work_down {a : Ar} {kind : Int} {url : ByteArray} {page : List Int} (hu : a.1 = false) : spec_l18Work ((a.1, (a.2.1.1, a.2.1.2.1, ()), (a.2.2.1.1, a.2.2.1.2.1, a.2.2.1.2.2.1, ()), a.2.2.2.1, ()), kind, url, page, ()) = some ((), [], (a.2.2.1.1, a.2.2.1.2.1, a.2.2.1.2.2.1, ()), 2, ()) := by
  unfold spec_l18Work spec_l18Work_k
  simp only
  rw [hu, tb_nf]
theorem work_end {a : Ar} {kind : Int} {url : ByteArray} {page : List Int} {area at' : Int} {b : List Int} {h : Hd} (ha : arSmall a) (h1 : spec_ArchiveOk ((a.1, (a.2.1.1, a.2.1.2.1, ()), (a.2.2.1.1, a.2.2.1.2.1, a.2.2.1.2.2.1, ()), a.2.2.2.1, ()), ()) = some ((), true, ()))
    (hn : stepsF a.2.1 area at' b h = none → ∃ l hh, spec_l18Work ((a.1, (a.2.1.1, a.2.1.2.1, ()), (a.2.2.1.1, a.2.2.1.2.1, a.2.2.1.2.2.1, ()), a.2.2.2.1, ()), kind, url, page, ()) = some ((), l, hh, 5, ()))
    (hy : ∀ e, stepsF a.2.1 area at' b h = some e → ∃ l, spec_l18Work ((a.1, (a.2.1.1, a.2.1.2.1, ()), (a.2.2.1.1, a.2.2.1.2.1, a.2.2.1.2.2.1, ()), a.2.2.2.1, ()), kind, url, page, ()) = some ((), l, (h.1, h.2.1, h.2.2.1, ()), 0, ()) ∧ l[3]? = some e) :
    ∃ (r : Ar) (c : Int), spec_l18Done ((a.1, (a.2.1.1, a.2.1.2.1, ()), (a.2.2.1.1, a.2.2.1.2.1, a.2.2.1.2.2.1, ()), a.2.2.2.1, ()), kind, url, page, ()) = some ((), r, c, ()) ∧ impl_Archive_done ((a.1, (a.2.1.1, a.2.1.2.1, ()), (a.2.2.1.1, a.2.2.1.2.1, a.2.2.1.2.2.1, ()), a.2.2.2.1, ()), (area, at', b, (h.1, h.2.1, h.2.2.1, ()), ()), 0, ()) = some ((), r, c, ()) ∧ arSmall r := by
  obtain ⟨r, c, k1, k2, k3⟩ := doneBoth (a := a) (area := area) (at' := at') (b := b) (h := h) ha (archiveOk_disk ha.1 h1)
  rcases k3 with ⟨g1, rfl, rfl⟩ | ⟨e, g1, rfl, g3⟩
  · obtain ⟨l, hh, w⟩ := hn g1
    exact ⟨r, 5, spec_done_no ha h1 w (by omega), k1, ha⟩
  · obtain ⟨l, w1, w2⟩ := hy e g1
    exact ⟨r, 0, spec_done_yes h1 w1 w2 g3, k1, k2⟩
end Go.Proofs.YtjiichnhdhlegaaGreat.V
namespace Go.Proofs.YtjiichnhdhlegaaGreat.V
open Go Go.RowKit
attribute [local irreducible] wr
theorem spec_drop {a r : Ar} {u : ByteArray} {c : Int} (h : spec_l18Done ((a.1, (a.2.1.1, a.2.1.2.1, ()), (a.2.2.1.1, a.2.2.1.2.1, a.2.2.1.2.2.1, ()), a.2.2.2.1, ()), 2, u, [], ()) = some ((), r, c, ())) : spec_ArchiveDrop ((a.1, (a.2.1.1, a.2.1.2.1, ()), (a.2.2.1.1, a.2.2.1.2.1, a.2.2.1.2.2.1, ()), a.2.2.2.1, ()), u, ()) = some ((), r, c, ()) := by
  unfold spec_ArchiveDrop spec_ArchiveDrop_k
  simp only
  rw [obind_eq h]
theorem dropping {a : Ar} {u : ByteArray} (hn : u.size ≤ 1048576) (h : arSmall a) : ∃ (r : Ar) (c : Int), spec_ArchiveDrop ((a.1, (a.2.1.1, a.2.1.2.1, ()), (a.2.2.1.1, a.2.2.1.2.1, a.2.2.1.2.2.1, ()), a.2.2.2.1, ()), u, ()) = some ((), r, c, ()) ∧ impl_ArchiveDrop ((a.1, (a.2.1.1, a.2.1.2.1, ()), (a.2.2.1.1, a.2.2.1.2.1, a.2.2.1.2.2.1, ()), a.2.2.2.1, ()), u, ()) = some ((), r, c, ()) ∧ arSmall r := by
  obtain ⟨b, h1, h2⟩ := archiveOk (a := a) h.1
  unfold impl_ArchiveDrop impl_ArchiveDrop_k
  simp only
  rw [obind_eq (upCode h2)]
  simp only
  cases b
  · refine ⟨ar0, 1, spec_drop (spec_done_bad h1), ?_, ar0_small⟩
    rw [show codeF false a.1 = 1 from rfl, ieq_f (by omega), tb_nf, obind_eq (refused h)]
    rfl
  by_cases hu : a.1 = true
  rotate_left
  · have hu : a.1 = false := by simpa using hu
    refine ⟨a, 2, spec_drop (spec_done_no h h1 (spec_work_down hu) (by omega)), ?_, h⟩
    rw [show codeF true a.1 = 2 by rw [hu]; rfl, ieq_f (by omega), tb_nf, obind_eq (refused h)]
    rfl
  have hr := archiveOk_right h.1 hu h1
  have hd := archiveOk_disk h.1 h1
  simp only [headRight, decide_eq_true_eq] at hr
  obtain ⟨hno, har, hend⟩ := hr
  have e2 : wr .i64 (a.2.2.1.1 + 1) = a.2.2.1.1 + 1 := wr64 (by omega) (by omega)
  rw [show codeF true a.1 = 0 by rw [hu]; rfl, ieq_self, tb_nt]
  have hz : (⟨#[]⟩ : ByteArray).size = 0 := rfl
  have hsr := spec_rec 2 u ⟨#[]⟩ (by omega)
  have hir := impl_rec 2 u ⟨#[]⟩ (by omega)
  have hbl : (recPacked 2 u ⟨#[]⟩).1.length ≤ 2000000 := by
    unfold recPacked
    split
    · have := recForm_le (2 : Int).toNat u ⟨#[]⟩
      simp only; omega
    · simp
  generalize hbs : (recPacked 2 u ⟨#[]⟩).1 = bs at hsr hir hbl
  generalize (recPacked 2 u ⟨#[]⟩).2 = okb at hsr hir
  have e3 : wr .i64 (a.2.2.1.2.2.1 + ((llen bs : Nat) : Int)) = a.2.2.1.2.2.1 + ((llen bs : Nat) : Int) := wr64 (by simp only [llen]; omega) (by simp only [llen]; omega)
  obtain ⟨l, s1, s2⟩ := spec_steps (d := a.2.1) (area := a.2.2.1.2.1) (at' := a.2.2.1.2.2.1) (b := bs) (h := (a.2.2.1.1 + 1, a.2.2.1.2.1, a.2.2.1.2.2.1 + ((llen bs : Nat) : Int), ())) hd
  simp only at s1
  have hwork : spec_l18Work ((a.1, (a.2.1.1, a.2.1.2.1, ()), (a.2.2.1.1, a.2.2.1.2.1, a.2.2.1.2.2.1, ()), a.2.2.2.1, ()), 2, u, [], ()) = tb (bnot (urlGood u)) (some ((), [], (a.2.2.1.1 + 1, a.2.2.1.2.1, a.2.2.1.2.2.1, ()), 3, ())) (tb (bnot (findF u a.2.2.2.1).2) (some ((), [], (a.2.2.1.1 + 1, a.2.2.1.2.1, a.2.2.1.2.2.1, ()), 6, ()))
      (tb (bnot (stepsF a.2.1 a.2.2.1.2.1 a.2.2.1.2.2.1 bs (a.2.2.1.1 + 1, a.2.2.1.2.1, a.2.2.1.2.2.1 + ((llen bs : Nat) : Int), ())).isSome) (some ((), [], (a.2.2.1.1 + 1, a.2.2.1.2.1, a.2.2.1.2.2.1 + ((llen bs : Nat) : Int), ()), 5, ())) (some ((), l, (a.2.2.1.1 + 1, a.2.2.1.2.1, a.2.2.1.2.2.1 + ((llen bs : Nat) : Int), ()), 0, ())))) := by
    unfold spec_l18Work spec_l18Work_k
    simp only
    rw [tb_neg (by rw [hu]; rfl), ieq_f (by omega), tb_f, ieq_f (by omega), tb_f, obind_eq (spec_url u (by omega)), e2]
    simp only
    rw [obind_eq (spec_find h.2)]
    simp only
    rw [obind_eq hsr]
    simp only
    rw [e3, obind_eq s1]
  have hdrop : impl_Archive_dropping ((a.1, (a.2.1.1, a.2.1.2.1, ()), (a.2.2.1.1, a.2.2.1.2.1, a.2.2.1.2.2.1, ()), a.2.2.2.1, ()), u, ()) = tb (bnot (urlGood u)) (some ((), (0, 0, [], (0, 0, 0, ()), ()), 3, ())) (tb (bnot (findF u a.2.2.2.1).2) (some ((), (0, 0, [], (0, 0, 0, ()), ()), 6, ()))
      (some ((), (a.2.2.1.2.1, a.2.2.1.2.2.1, bs, (a.2.2.1.1 + 1, a.2.2.1.2.1, a.2.2.1.2.2.1 + ((llen bs : Nat) : Int), ()), ()), 0, ()))) := by
    have hadd : impl_Archive_adding ((a.1, (a.2.1.1, a.2.1.2.1, ()), (a.2.2.1.1, a.2.2.1.2.1, a.2.2.1.2.2.1, ()), a.2.2.2.1, ()), (2, u, (⟨#[]⟩ : ByteArray), ()), ()) = some ((), (a.2.2.1.2.1, a.2.2.1.2.2.1, bs, (a.2.2.1.1 + 1, a.2.2.1.2.1, a.2.2.1.2.2.1 + ((llen bs : Nat) : Int), ()), ()), ()) := by
      unfold impl_Archive_adding impl_Archive_adding_k
      simp only
      rw [obind_eq hir, e2]
      simp only
      rw [e3]
    unfold impl_Archive_dropping impl_Archive_dropping_k
    simp only
    rw [obind_eq (impl_url u (by omega))]
    simp only
    rw [obind_eq (impl_find h.2)]
    simp only
    rw [obind_eq hadd]
  cases hg : urlGood u
  · rw [hg, tb_nf] at hwork hdrop
    refine ⟨a, 3, spec_drop (spec_done_no h h1 hwork (by omega)), ?_, h⟩
    rw [obind_eq hdrop]
    simp only
    rw [obind_eq (impl_doneNo (c := 3) h (by omega))]
    rfl
  rw [hg, tb_nt] at hwork hdrop
  cases hf : (findF u a.2.2.2.1).2
  · rw [hf, tb_nf] at hwork hdrop
    refine ⟨a, 6, spec_drop (spec_done_no h h1 hwork (by omega)), ?_, h⟩
    rw [obind_eq hdrop]
    simp only
    rw [obind_eq (impl_doneNo (c := 6) h (by omega))]
    rfl
  rw [hf, tb_nt] at hwork hdrop
  obtain ⟨r, c, q1, q2, q3⟩ := work_end (kind := 2) (url := u) (page := []) (area := a.2.2.1.2.1) (at' := a.2.2.1.2.2.1) (b := bs) (h := (a.2.2.1.1 + 1, a.2.2.1.2.1, a.2.2.1.2.2.1 + ((llen bs : Nat) : Int), ())) h h1
    (fun g => by rw [g, show (none : Option Dk).isSome = false from rfl, tb_nf] at hwork; exact ⟨_, _, hwork⟩)
    (fun e g => by rw [g, show (some e : Option Dk).isSome = true from rfl, tb_nt] at hwork; exact ⟨l, hwork, s2 e g⟩)
  refine ⟨r, c, spec_drop q1, ?_, q3⟩
  rw [obind_eq hdrop]
  simp only
  simp only at q2
  rw [obind_eq q2]
theorem FnExactArchiveDrop_pure (x0 : Ar) (x1 : ByteArray) (h0 : Bnd S30 x0) (h1 : Bnd .str x1) : laws_FnExactArchiveDrop (x0, x1, ()) = some ((), true, ()) := by
  unfold laws_FnExactArchiveDrop laws_FnExactArchiveDrop_k
  simp only
  by_cases hn : 1048576 < (x1.size : Int)
  · exact tb_pos (ilt_t (by simp only [slen]; omega)) _ _
  · rw [tb_neg (ilt_f (by simp only [slen]; omega))]
    exact exactAr (S := fun y => spec_ArchiveDrop (y.1, x1, ())) (I := fun y => impl_ArchiveDrop (y.1, x1, ())) (bnd_ar h0) fun _ h => dropping (by omega) h
end Go.Proofs.YtjiichnhdhlegaaGreat.V
