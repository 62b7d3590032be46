/-
How a law's argument of whatever nested type (structs, slices of structs) is opened: what is read as data is told by a kind of the print's words, and each number and length lies within its bounds.
No condition of its own: lemmas for the rows of the laws.
-/
import Derived.Deep.Slices
import Derived.ChangeArms
import Derived.SizedLaws
import Derived.DataReads
import Derived.Test.YtikjondklgghkaaWWords
namespace Go.Proofs.YtikjondklgghkaaX
open Go.RowKit Go.ChangeShapes Go.WideShapes Go.Proofs.YtikjondklgghkaaW.PrintWords

/-- What is read at type t is a value of kind d, and B holds of it. -/
def Opn {α : Type} (d : Kd α) (P : Program) (t : TypeId) (B : α → Prop) : Prop :=
  ∀ {H : Type} (enc : TypeId × Value → H) (W : World) (base : Nat) (spare : Nat → Bool) (held : Bool) (fuel : Nat) (cs : List Value) (D : DataW H) (ps : List MemPlace),
    DataW.trod enc P W base spare held fuel t cs = some (D, ps) → (D.weights P t).all (· ≤ reachBytes) = true → ∃ x, d.K W x cs ∧ B x

theorem Opn.imp {α : Type} {d : Kd α} {P : Program} {t : TypeId} {B B' : α → Prop} (h : Opn d P t B) (hb : ∀ x, B x → B' x) : Opn d P t B' := by
  intro H enc W base spare held fuel cs D ps h1 h2
  obtain ⟨x, hx, hB⟩ := h enc W base spare held fuel cs D ps h1 h2
  exact ⟨x, hx, hb x hB⟩

theorem Opn.int {P : Program} {t : TypeId} {k : IntKind} (ht : P.underlying t = some (.int k)) : Opn (Kd.int k) P t (fun x => (Lit.int k x).wf = true) := by
  intro H enc W base spare held fuel cs D ps h _
  obtain ⟨n, rfl, _, hw⟩ := DataW.trod_int ht h
  exact ⟨n, rfl, hw⟩
theorem Opn.bool {P : Program} {t : TypeId} (ht : P.underlying t = some .bool) : Opn Kd.bool P t (fun _ => True) := by
  intro H enc W base spare held fuel cs D ps h _
  obtain ⟨b, rfl, _⟩ := DataW.trod_bool ht h
  exact ⟨b, rfl, trivial⟩
theorem Opn.string {P : Program} {t : TypeId} (ht : P.underlying t = some .string) : Opn Kd.string P t (fun s => s.size ≤ 140737488351232) := by
  intro H enc W base spare held fuel cs D ps h hw
  obtain ⟨s, rfl, hx, _⟩ := DataW.trod_string ht h
  obtain ⟨rfl, _⟩ := Prod.mk.inj hx
  refine ⟨s, rfl, ?_⟩
  have := List.all_eq_true.1 hw s.data.toList.length (by simp [DataW.weights])
  have h2 : s.data.toList.length ≤ reachBytes := by simpa using this
  rw [Array.length_toList] at h2
  exact h2

/-- A run of fields, from cell 'off' on. -/
def OpnFs {α : Type} (d : Kd α) (P : Program) (fl : List Field) (off : Nat) (B : α → Prop) : Prop :=
  ∀ {H : Type} (enc : TypeId × Value → H) (W : World) (base : Nat) (spare : Nat → Bool) (held : Bool) (n : Nat) (cs : List Value) (xs : List (DataW H × List MemPlace)),
    xs.length = fl.length → (∀ (i : Nat) (f : Field), fl[i]? = some f → DataW.trod enc P W base spare held n f.type ((cs.drop f.offset).take (P.cellsOf f.type)) = xs[i]?) →
    (DataW.weightsEach P (fl.map (·.type)) (xs.map (·.1))).all (· ≤ reachBytes) = true → ∃ x, d.K W x ((cs.drop off).take d.sz) ∧ B x

theorem OpnFs.one {α : Type} {d : Kd α} {P : Program} {f : Field} {off : Nat} {B : α → Prop} (h : Opn d P f.type B) (hoff : f.offset = off) (hsz : P.cellsOf f.type = d.sz) : OpnFs d P [f] off B := by
  intro H enc W base spare held n cs xs hl hx hw
  match xs, hl with
  | [y], _ =>
    have h0 := hx 0 f rfl
    rw [hoff, hsz] at h0
    refine h enc W base spare held n _ y.1 y.2 (by simpa using h0) ?_
    simpa [DataW.weightsEach] using hw
theorem OpnFs.cons {α β : Type} {a : Kd α} {b : Kd β} {P : Program} {f : Field} {fl : List Field} {off : Nat} {A : α → Prop} {B : β → Prop} (h : Opn a P f.type A) (hoff : f.offset = off) (hsz : P.cellsOf f.type = a.sz)
    (hr : OpnFs b P fl (off + a.sz) B) : OpnFs (Kd.pair a b) P (f :: fl) off (fun x => A x.1 ∧ B x.2) := by
  intro H enc W base spare held n cs xs hl hx hw
  match xs, hl with
  | y :: ys, hl =>
    have h0 := hx 0 f rfl
    rw [hoff, hsz] at h0
    simp only [List.map_cons, DataW.weightsEach, List.all_append, Bool.and_eq_true] at hw
    obtain ⟨x0, hk0, hA⟩ := h enc W base spare held n _ y.1 y.2 (by simpa using h0) hw.1
    obtain ⟨x1, hk1, hB⟩ := hr enc W base spare held n cs ys (by simpa using hl) (fun i g hg => by simpa using hx (i + 1) g (by simpa using hg)) hw.2
    refine ⟨(x0, x1), ⟨_, _, ?_, hk0, hk1⟩, hA, hB⟩
    show (cs.drop off).take (a.sz + b.sz) = _
    rw [List.take_add, List.drop_drop]
theorem Opn.struct {α β : Type} {d : Kd α} {P : Program} {t : TypeId} {fs : Array Field} {B : α → Prop} (ht : P.underlying t = some (.struct fs)) (h : OpnFs d P fs.toList 0 B) (hsz : P.cellsOf t = d.sz) (f : β → α) (g : α → β) (hg : ∀ y, f (g y) = y) :
    Opn (Kd.iso d f) P t (fun x => B (f x)) := by
  intro H enc W base spare held fuel cs D ps h1 hw
  obtain ⟨xs, n, _, hx, hl, hlen, hf⟩ := DataW.trod_struct ht h1
  obtain ⟨rfl, _⟩ := Prod.mk.inj hx
  obtain ⟨y, hy, hB⟩ := h enc W base spare held n cs xs (by simpa using hlen) (fun i f hi => hf i f (by simpa using hi)) (by simpa [DataW.weights, ht] using hw)
  refine ⟨g y, ?_, by show B (f (g y)); rw [hg]; exact hB⟩
  show d.K W (f (g y)) cs
  rw [hg]
  rwa [List.drop_zero, List.take_of_length_le (by omega)] at hy

theorem weightsAll_mem {H : Type} {P : Program} {e : TypeId} : ∀ {ds : List (DataW H)} {d : DataW H}, d ∈ ds → ∀ n ∈ d.weights P e, n ∈ DataW.weightsAll P e ds
  | [], _, hd, _, _ => by simp at hd
  | d0 :: ds, d, hd, n, hn => by
    simp only [DataW.weightsAll, List.mem_append]
    rcases List.mem_cons.1 hd with rfl | hd
    · exact Or.inl hn
    · exact Or.inr (weightsAll_mem hd n hn)

theorem Opn.slice {α : Type} {d : Kd α} {P : Program} {t e : TypeId} {B : α → Prop} (ht : P.underlying t = some (.slice e)) (h : Opn d P e B) (hsz : P.cellsOf e = d.sz) {b : Nat} (hb : P.bytesOf e = b) :
    Opn (Kd.slice e d) P t (fun xs => xs.length ≤ maxLen ∧ xs.length * b ≤ 140737488351232 ∧ ∀ x ∈ xs, B x) := by
  intro H enc W base spare held fuel cs D ps h1 hw
  rcases Deep.open_slice ht h1 with ⟨rfl, hx⟩ | ⟨a, len, cap, m, n, D', Pl, rfl, hba, hlc, hcm, hm, hx, hel⟩
  · exact ⟨[], ⟨none, 0, rfl, Nat.le_refl _, rfl, by simp, fun hn => absurd hn (by simp)⟩, by simp, by simp, by simp⟩
  · obtain ⟨rfl, _⟩ := Prod.mk.inj hx
    have hlm : len ≤ m := by rw [hm]; split <;> omega
    have hall : ∀ q ∈ (DataW.slice ((List.range len).map D') ((List.range (m - len)).map fun j => D' (len + j))).weights P t, q ≤ reachBytes := by
      intro q hq
      simpa using List.all_eq_true.1 hw q hq
    have hone : ∀ i, i < len → ∃ x, ∃ c, c.length = d.sz ∧ d.K W x c ∧ B x ∧ ∀ j u, c[j]? = some u → W.cell? (a.add (i * d.sz + j)) = some u := by
      intro i hi
      obtain ⟨c, hc, htr⟩ := hel i (by omega)
      obtain ⟨x, hk, hB⟩ := h enc W base spare held n c (D' i) (Pl i) htr (by
        rw [List.all_eq_true]
        intro q hq
        have : q ∈ (DataW.slice ((List.range len).map D') ((List.range (m - len)).map fun j => D' (len + j))).weights P t := by
          simp only [DataW.weights, ht, List.mem_cons, List.mem_append]
          exact Or.inr (Or.inl (weightsAll_mem (List.mem_map.2 ⟨i, List.mem_range.2 hi, rfl⟩) q hq))
        simpa using hall q this)
      refine ⟨x, c, d.K_len hk, hk, hB, fun j u hu => ?_⟩
      rw [hsz] at hc
      have hjl : j < d.sz := by
        have := (List.getElem?_eq_some_iff.1 hu).1
        rwa [d.K_len hk] at this
      have z := (World.cells?_some hc).2.2 j hjl
      rw [Deep.add_add] at z
      rw [z]
      exact hu
    rcases Nat.eq_zero_or_pos len with h0 | h0
    · subst h0
      exact ⟨[], ⟨some a, cap, rfl, Nat.zero_le _, rfl, by simp, fun hn => absurd hn (by simp)⟩, by simp, by simp, by simp⟩
    haveI : Inhabited α := ⟨(hone 0 h0).choose⟩
    obtain ⟨X, hX⟩ := Deep.choose_lt hone
    have hlen : ((List.range len).map X).length = len := by simp
    have hK : ∀ j p, ((List.range len).map X)[j]? = some p → j < len ∧ p = X j := by
      intro j p hj
      have hl := (List.getElem?_eq_some_iff.1 hj).1
      rw [hlen] at hl
      refine ⟨hl, ?_⟩
      rw [List.getElem?_map, List.getElem?_range hl] at hj
      exact (Option.some.inj hj).symm
    refine ⟨(List.range len).map X, ⟨some a, cap, by rw [hlen], by rw [hlen]; exact hlc, hlen.trans hlen.symm, ?_, fun _ => ⟨a, rfl, fun j p hj => ?_⟩⟩, ?_, ?_, ?_⟩
    · rw [hlen]; simp only [maxLen] at hcm; omega
    · obtain ⟨hl, rfl⟩ := hK j p hj
      obtain ⟨c, hc, hk, _, hcell⟩ := hX j hl
      exact ⟨c, hc, hk, hcell⟩
    · rw [hlen]; omega
    · rw [hlen]
      have := hall ((((List.range len).map D').length + ((List.range (m - len)).map fun j => D' (len + j)).length) * P.bytesOf e) (by simp [DataW.weights, ht])
      rw [hb] at this
      simp only [List.length_map, List.length_range] at this
      exact Nat.le_trans (Nat.mul_le_mul_right _ (by omega)) this
    · intro x hx
      obtain ⟨i, hi, rfl⟩ := List.mem_map.1 hx
      obtain ⟨_, _, _, hB, _⟩ := hX i (List.mem_range.1 hi)
      exact hB

/-! ### An argument, opened -/
section
variable {H : Type} {enc : TypeId × Value → H} {P : Program} {W : World} {base : Nat} {spare : Nat → Bool} {held : Bool} {ts : List TypeId} {ds : List (DataW H)}
theorem arg_open {α : Type} {d : Kd α} {t : TypeId} {B : α → Prop} (hO : Opn d P t B) {v : Value} {D : DataW H} {ps : List MemPlace} {j : Nat}
    (hsz : (DataW.weightsEach P ts ds).all (· ≤ reachBytes) = true) (ht : ts[j]? = some t) (hd : ds[j]? = some D) (h : DataW.Trod enc P W base spare held t v D ps) : ∃ x, d.K W x v.cells.toList ∧ B x := by
  obtain ⟨fuel, hf⟩ := h
  refine hO enc W base spare held fuel _ D ps hf ?_
  rw [List.all_eq_true]
  intro q hq
  exact List.all_eq_true.1 hsz q (DataW.weights_mem_each ht hd q hq)
theorem arg_agg {t : TypeId} {fs : Array Field} {r : Reach} {b : Nat} {v : Value} {cs : List Value} (ht : P.underlying t = some (.struct fs)) (h : Value.okWide P W r b t v) (hc : v.cells.toList = cs) : v = .agg cs.toArray := by
  simp only [Value.okWide, ht] at h
  obtain ⟨c, rfl, _⟩ := h
  simp only [Value.cells] at hc
  rw [← hc]
theorem arg_slice {t e : TypeId} {r : Reach} {b : Nat} {v : Value} {A : Option Addr} {n c : Nat} (ht : P.underlying t = some (.slice e)) (h : Value.okWide P W r b t v) (hc : v.cells.toList = [.slice A n c]) : v = .slice A n c := by
  obtain ⟨a', l', c', rfl⟩ := okWide_slice ht h
  simp [Value.cells] at hc
  obtain ⟨rfl, rfl, rfl⟩ := hc
  rfl
theorem arg_lt {t : TypeId} {v : Value} {D : DataW H} {ps : List MemPlace} (h : DataW.Trod enc P W base spare held t v D ps) : ∀ x ∈ ps, x.block < W.heap.size := by
  obtain ⟨m, hm⟩ := h
  exact DataW.trod_lt m _ _ _ hm
end
end Go.Proofs.YtikjondklgghkaaX
