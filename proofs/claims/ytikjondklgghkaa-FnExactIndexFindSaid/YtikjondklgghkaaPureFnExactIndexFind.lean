/-
The program's IndexFind answers what the reference's answers, for every list of entries and every address, and turns nothing of the list.
No condition beyond the row's own.
-/
import Derived.Test.YtikjondklgghkaaXFnExactIndexFind
import Derived.Test.YtikjondklgghkaaXPure
namespace Go.Proofs.Ytikjondklgghkaa.Pure
open Go.RowKit Go.Proofs.YtikjondklgghkaaX Go.Proofs.Ytikjondklgghkaa.PFnExactIndexFind Go.Proofs.YtikjondklgghkaaW.PrintWords Go.Proofs.YtikjondklgghkaaW.PrintLast

def conv (e : S95) : S96 := ⟨e.f0, e.f1⟩
def findE (l : List S96) (u : ByteArray) (i : Nat) : ByteArray × Bool :=
  match (l.drop i).find? (fun e => decide (e.f0.toList = u.toList)) with
  | some e => (e.f1, true)
  | none => (⟨#[]⟩, false)
theorem findE_end (l : List S96) (u : ByteArray) : findE l u l.length = (⟨#[]⟩, false) := by simp [findE]
theorem rd96_get (l : List S96) {i : Nat} (h : i < l.length) : rd_T96 l (i : Int) = l[i] := by simp [rd_T96, List.getD, h]
theorem rd95_get (l : List S95) {i : Nat} (h : i < l.length) : rd_T95 l (i : Int) = l[i] := by simp [rd_T95, List.getD, h]
theorem findE_step (l : List S96) (u : ByteArray) {i : Nat} (h : i < l.length) : findE l u i = if l[i].f0.toList = u.toList then (l[i].f1, true) else findE l u (i + 1) := by
  unfold findE
  rw [List.drop_eq_getElem_cons h, List.find?_cons]
  by_cases e : l[i].f0.toList = u.toList <;> simp [e]

theorem specFind (l : List S96) (u : ByteArray) (hn : l.length ≤ 140737488351232) : ∀ i, i ≤ l.length → Ev (fun k => spec_IndexFind.l0 k l u (i : Int)) (findE l u i) := by
  refine down (L := fun k i => spec_IndexFind.l0 k l u (i : Int)) (R := findE l u) ?_ ?_
  · rw [findE_end]
    refine Ev.step (fun k => spec_IndexFind.l0.eq_2 (k := k) ..) ?_
    exact Ev.neg (by omega) (Ev.now _)
  · intro i hi ih
    refine Ev.step (fun k => spec_IndexFind.l0.eq_2 (k := k) ..) ?_
    refine Ev.pos (by omega) (Ev.pos (by omega) ?_)
    rw [findE_step l u hi, rd96_get l hi, wrap_succ hi (by omega)]
    by_cases e : l[i].f0.toList = u.toList
    · rw [if_pos e]; exact Ev.pos e (Ev.now _)
    · rw [if_neg e]; exact Ev.neg e ih
theorem implFind (l : List S96) (u : ByteArray) (hn : l.length ≤ 140737488351232) : ∀ i, i ≤ l.length → Ev (fun k => impl_IndexFind.l0 k u l (l.length : Int) (i : Int)) (findE l u i) := by
  refine down (L := fun k i => impl_IndexFind.l0 k u l (l.length : Int) (i : Int)) (R := findE l u) ?_ ?_
  · rw [findE_end]
    refine Ev.step (fun k => impl_IndexFind.l0.eq_2 (k := k) ..) ?_
    exact Ev.neg (by omega) (Ev.now _)
  · intro i hi ih
    refine Ev.step (fun k => impl_IndexFind.l0.eq_2 (k := k) ..) ?_
    refine Ev.pos (by omega) (Ev.pos (by omega) (Ev.pos (by omega) ?_))
    rw [findE_step l u hi, rd96_get l hi, wrap_succ hi (by omega)]
    by_cases e : l[i].f0.toList = u.toList
    · rw [if_pos e]; exact Ev.pos e (Ev.now _)
    · rw [if_neg e]; exact Ev.neg e ih

theorem szEnt (e : S95) (n : Int) : ∃ r, laws_szEntry.f e.f0 e.f1 n = some r := by
  unfold laws_szEntry.f; repeat (first | exact ⟨_, rfl⟩ | split)
theorem szEnts (l : List S95) (hn : l.length ≤ 140737488351232) : ∀ (d i : Nat) (n : Int), i + d = l.length → ∃ r, Ev (fun k => laws_szEntryS.l0 k l n (i : Int)) r := by
  intro d
  induction d with
  | zero =>
    intro i n hi
    exact ⟨_, Ev.step (fun k => laws_szEntryS.l0.eq_2 (k := k) ..) (Ev.neg (by omega) (Ev.now _))⟩
  | succ d ih =>
    intro i n hi
    obtain ⟨t, ht⟩ := szEnt (rd_T95 l (i : Int)) n
    by_cases hz : t < 0
    · exact ⟨_, Ev.step (fun k => laws_szEntryS.l0.eq_2 (k := k) ..) (Ev.pos (by omega) (Ev.pos (by omega) (Ev.known ht (Ev.pos hz (Ev.now _)))))⟩
    · obtain ⟨r, hr⟩ := ih (i + 1) t (by omega)
      refine ⟨r, Ev.step (fun k => laws_szEntryS.l0.eq_2 (k := k) ..) (Ev.pos (by omega) (Ev.pos (by omega) (Ev.known ht (Ev.neg hz ?_))))⟩
      rw [wrap_succ (n := l.length) (by omega) (by omega)]
      exact hr
theorem szEntS (l : List S95) (hn : l.length ≤ 140737488351232) (n : Int) : ∃ r, Ev (fun k => laws_szEntryS.f k l n) r := by
  by_cases h : wrap64 (n - (l.length : Int)) < 0
  · exact ⟨_, Ev.pos h (Ev.now _)⟩
  · obtain ⟨r, hr⟩ := szEnts l hn l.length 0 (wrap64 (n - (l.length : Int))) (by omega)
    exact ⟨r, Ev.neg h hr⟩

theorem toEnts (l : List S95) (hn : l.length ≤ 8796093022208) : ∀ i, i ≤ l.length → Ev (fun k => laws_toEntryS.l0 k l (filled conv z96 l i) (i : Int)) (l.map conv) := by
  refine down (L := fun k i => laws_toEntryS.l0 k l (filled conv z96 l i) (i : Int)) (R := fun _ => l.map conv) ?_ ?_
  · refine Ev.step (fun k => laws_toEntryS.l0.eq_2 (k := k) ..) ?_
    exact Ev.neg (by omega) (Ev.eq (Ev.now _) (filled_all ..))
  · intro i hi ih
    refine Ev.step (fun k => laws_toEntryS.l0.eq_2 (k := k) ..) ?_
    refine Ev.pos (by omega) (Ev.pos (by omega) (Ev.known rfl (Ev.pos (by rw [filled_length _ _ _ (by omega)]; omega) ?_)))
    rw [wrap_succ hi (by omega), rd95_get l hi]
    show Ev (fun n => laws_toEntryS.l0 n l (List.set _ _ (conv l[i])) _) _
    rw [filled_step conv z96 l hi rfl]
    exact ih
theorem toEntS (l : List S95) (hn : l.length ≤ 8796093022208) : Ev (fun k => laws_toEntryS.f k l) (l.map conv) := by
  refine Ev.pos (by omega) (Ev.pos (by omega) ?_)
  rw [Int.toNat_natCast, ← filled_zero conv]
  exact toEnts l hn 0 (by omega)
theorem eqEnts (l : List S96) (hn : l.length ≤ 140737488351232) : ∀ i, i ≤ l.length → Ev (fun k => laws_eqEntryS.l0 k l l (i : Int)) true := by
  refine down (L := fun k i => laws_eqEntryS.l0 k l l (i : Int)) (R := fun _ => true) ?_ ?_
  · exact Ev.step (fun k => laws_eqEntryS.l0.eq_2 (k := k) ..) (Ev.neg (by omega) (Ev.now _))
  · intro i hi ih
    refine Ev.step (fun k => laws_eqEntryS.l0.eq_2 (k := k) ..) (Ev.pos (by omega) (Ev.pos (by omega) (Ev.pos (by omega) (Ev.known (a := true) (by unfold laws_eqEntry.f; simp) (Ev.pos rfl ?_)))))
    rw [wrap_succ hi (by omega)]
    exact ih
theorem eqEntS (l : List S96) (hn : l.length ≤ 140737488351232) : Ev (fun k => laws_eqEntryS.f k l l) true := Ev.pos rfl (eqEnts l hn 0 (by omega))

theorem FnExactIndexFind : laws_FnExactIndexFind.Pure := by
  intro l u hl hu
  have hn : l.length ≤ 4398046510976 := by omega
  refine Ev.rounds (r := true) ?_
  show Ev (fun k => laws_FnExactIndexFind.f k l u) true
  unfold laws_FnExactIndexFind.f
  refine Ev.ite (fun _ => Ev.now _) (fun _ => ?_)
  obtain ⟨t, ht⟩ := szEntS l (by omega) 1048576
  refine Ev.bind ht (Ev.ite (fun _ => Ev.now _) (fun _ => ?_))
  have hto := toEntS l (by omega)
  have hlen : (l.map conv).length ≤ 140737488351232 := by rw [List.length_map]; omega
  refine Ev.bind hto (Ev.bind (specFind _ u hlen 0 (by omega)) (Ev.bind hto (Ev.bind (implFind _ u hlen 0 (by omega)) (Ev.pos rfl ?_))))
  refine Ev.step (fun k => laws_FnExactIndexFind.j0.eq_2 (k := k) ..) ?_
  exact Ev.neg (by simp) (Ev.bind hto (Ev.bind (eqEntS _ hlen) (Ev.pos rfl (Ev.now _))))
end Go.Proofs.Ytikjondklgghkaa.Pure
