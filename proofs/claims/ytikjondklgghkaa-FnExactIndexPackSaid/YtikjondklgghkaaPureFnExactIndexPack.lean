/-
IndexPack: program and reference give the same bytes, the program turns nothing of the list, and the program's row is its own.
No condition beyond the row's own.
-/
import Derived.Test.YtikjondklgghkaaPRecx15
import Derived.Test.YtikjondklgghkaaPRecx13
import Derived.Test.YtikjondklgghkaaPRecx14
import Derived.Test.YtikjondklgghkaaXPure
import Derived.Test.YtikjondklgghkaaPureNum
import Derived.Test.YtikjondklgghkaaPureBytes
import Derived.Test.YtikjondklgghkaaPureRec
import Derived.Test.YtikjondklgghkaaPureEntry
import Derived.Test.YtikjondklgghkaaXFnExactIndexPack
namespace Go.Proofs.Ytikjondklgghkaa.Pure
open Go.RowKit Go.Proofs.YtikjondklgghkaaX Go.Proofs.Ytikjondklgghkaa.PRec Go.Proofs.YtikjondklgghkaaW.PrintWords Go.Proofs.YtikjondklgghkaaW.PrintLast

/-- What the packing of the entries from i on gives, behind what is packed already. -/
def packFrom : List S96 → List Int → List Int × Bool
  | [], acc => (acc, true)
  | e :: l, acc => if (recPacked 1 e.f0 e.f1).2 = true then packFrom l (acc ++ (recPacked 1 e.f0 e.f1).1) else ([], false)
theorem packFrom_length : ∀ (l : List S96) (acc : List Int), (∀ e ∈ l, e.f0.size + e.f1.size ≤ 1048576) → (packFrom l acc).1.length ≤ acc.length + 1048606 * l.length
  | [], acc, _ => by simp [packFrom]
  | e :: l, acc, h => by
    unfold packFrom
    split
    · have h1 := packFrom_length l (acc ++ (recPacked 1 e.f0 e.f1).1) (fun x hx => h x (List.mem_cons_of_mem _ hx))
      have h2 := recPacked_length 1 e.f0 e.f1
      have h3 := h e (List.mem_cons_self ..)
      simp only [List.length_append, List.length_cons] at h1 ⊢
      omega
    · simp
theorem packs (l : List S96) (hl : l.length ≤ 1048576) (hs : ∀ e ∈ l, e.f0.size + e.f1.size ≤ 1048576) : ∀ (d i : Nat) (acc : List Int), i + d = l.length → acc.length ≤ 1048606 * i →
    Ev (fun k => spec_IndexPack.l0 k l acc (i : Int)) (packFrom (l.drop i) acc) ∧ Ev (fun k => impl_IndexPack.l0 k acc l (l.length : Int) (i : Int)) (packFrom (l.drop i) acc) := by
  intro d
  induction d with
  | zero =>
    intro i acc hi ha
    rw [List.drop_eq_nil_of_le (by omega)]
    exact ⟨Ev.step (fun k => spec_IndexPack.l0.eq_2 (k := k) ..) (Ev.neg (by omega) (Ev.now _)), Ev.step (fun k => impl_IndexPack.l0.eq_2 (k := k) ..) (Ev.neg (by omega) (Ev.now _))⟩
  | succ d ih =>
    intro i acc hi ha
    have hlt : i < l.length := by omega
    have hsz := hs _ (List.getElem_mem hlt)
    rw [List.drop_eq_getElem_cons hlt, packFrom]
    have h2 := recPacked_length 1 l[i].f0 l[i].f1
    have hw : wrap64 ((i : Int) + 1) = ((i + 1 : Nat) : Int) := wrap_succ (n := l.length) (by omega) (by omega)
    by_cases h : (recPacked 1 l[i].f0 l[i].f1).2 = true
    · rw [if_pos h]
      obtain ⟨i1, i2⟩ := ih (i + 1) (acc ++ (recPacked 1 l[i].f0 l[i].f1).1) (by omega) (by rw [List.length_append]; omega)
      constructor
      · refine Ev.step (fun k => spec_IndexPack.l0.eq_2 (k := k) ..) (Ev.pos (by omega) (Ev.pos (by omega) ?_))
        rw [rd96_get l hlt]
        refine Ev.bind (spec_rec 1 l[i].f0 l[i].f1 (by omega)) (Ev.pos h (Ev.pos (by omega) ?_))
        rw [hw]; exact i1
      · refine Ev.step (fun k => impl_IndexPack.l0.eq_2 (k := k) ..) (Ev.pos (by omega) (Ev.pos (by omega) (Ev.pos (by omega) ?_)))
        rw [rd96_get l hlt]
        refine Ev.bind (impl_rec 1 l[i].f0 l[i].f1 (by omega)) (Ev.pos h (Ev.pos (by omega) ?_))
        rw [hw]; exact i2
    · rw [if_neg h]
      constructor
      · refine Ev.step (fun k => spec_IndexPack.l0.eq_2 (k := k) ..) (Ev.pos (by omega) (Ev.pos (by omega) ?_))
        rw [rd96_get l hlt]
        exact Ev.bind (spec_rec 1 l[i].f0 l[i].f1 (by omega)) (Ev.neg h (Ev.now _))
      · refine Ev.step (fun k => impl_IndexPack.l0.eq_2 (k := k) ..) (Ev.pos (by omega) (Ev.pos (by omega) (Ev.pos (by omega) ?_)))
        rw [rd96_get l hlt]
        exact Ev.bind (impl_rec 1 l[i].f0 l[i].f1 (by omega)) (Ev.neg h (Ev.now _))
theorem weight_mem : ∀ (l : List S95) (x : S95), x ∈ l → x.f0.size + x.f1.size ≤ weight l
  | [], _, h => by cases h
  | e :: l, x, h => by
    unfold weight
    rcases List.mem_cons.1 h with rfl | h
    · omega
    · have := weight_mem l x h
      omega
theorem FnExactIndexPack : laws_FnExactIndexPack.Pure := by
  intro l ⟨_, hl, hx⟩
  refine Ev.rounds (r := true) ?_
  show Ev (fun k => laws_FnExactIndexPack.f k l) true
  obtain ⟨r, hr, hs⟩ := szEntS l (by omega) hx
  refine Ev.bind hr ?_
  refine Ev.ite (fun _ => Ev.now _) (fun hn => ?_)
  have hs := hs hn
  have hto := toEntS l (by omega)
  have hlen : (l.map conv).length = l.length := List.length_map ..
  have hsz : ∀ e ∈ l.map conv, e.f0.size + e.f1.size ≤ 1048576 := by
    intro e he
    obtain ⟨x, hx, rfl⟩ := List.mem_map.1 he
    have := weight_mem l x hx
    show x.f0.size + x.f1.size ≤ 1048576
    omega
  obtain ⟨h1, h2⟩ := packs (l.map conv) (by omega) hsz l.length 0 [] (by omega) (by simp)
  have hL := packFrom_length (l.map conv) [] hsz
  rw [List.drop_zero] at h1 h2
  generalize packFrom (l.map conv) [] = R at h1 h2 hL
  have hR : R.1.length ≤ 1099549376512 := by
    rw [hlen] at hL; simp only [List.length_nil] at hL; omega
  have hm := markBytes R.1 1 (by omega)
  have hh := heldBytes 1 R.1.length (by omega)
  have he := eqBytes R.1 (by omega)
  obtain ⟨m, q, hme, hm0⟩ := markEntS (l.map conv) (by omega)
  have heq := eqEntS (l.map conv) (by omega)
  have h1 : Ev (fun k => spec_IndexPack.f k (l.map conv)) R := h1
  have h2 : Ev (fun k => impl_IndexPack.f k (l.map conv)) R := h2
  refine Ev.bind hto (Ev.bind h1 (Ev.bind hto (Ev.bind h2 (Ev.bind he (Ev.pos rfl ?_)))))
  refine Ev.step (fun k => laws_FnExactIndexPack.j0.eq_2 (k := k) ..) (Ev.neg (by simp) (Ev.bind hto (Ev.bind heq (Ev.pos rfl (Ev.bind hme (Ev.neg (by omega) (Ev.bind he (Ev.pos rfl ?_))))))))
  refine Ev.step (fun k => laws_FnExactIndexPack.j1.eq_2 (k := k) ..) (Ev.neg (by simp) (Ev.bind hm (Ev.bind hh (Ev.neg (by omega) (Ev.pos rfl (Ev.bind hto (Ev.bind h2 (Ev.bind he (Ev.pos rfl ?_)))))))))
  exact Ev.step (fun k => laws_FnExactIndexPack.j2.eq_2 (k := k) ..) (Ev.neg (by simp) (Ev.bind hh (Ev.neg (by omega) (Ev.pos rfl (Ev.now _)))))
end Go.Proofs.Ytikjondklgghkaa.Pure
