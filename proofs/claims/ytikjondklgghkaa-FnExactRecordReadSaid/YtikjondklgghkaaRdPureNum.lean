/-
Numbers and texts as bytes: what the reference's PutNum and the program's putNum append is the same row.
No condition beyond the rows' own: the number is not negative and the row ahead of it is short.
-/
import Derived.Test.YtikjondklgghkaaPRdx1
import Derived.Test.YtikjondklgghkaaPRdx5
import Derived.Test.YtikjondklgghkaaPRdx4
import Derived.Test.YtikjondklgghkaaXPure
import Derived.Laws.BitsLemmas
namespace Go.Proofs.Ytikjondklgghkaa.Pure
open Go.RowKit Go.Proofs.YtikjondklgghkaaX Go.Proofs.Ytikjondklgghkaa.PRd Go.Proofs.YtikjondklgghkaaW.PrintWords Go.Proofs.YtikjondklgghkaaW.PrintLast

def numF : Nat → Nat → List Int
  | 0, _ => []
  | n + 1, x => if 127 < x then ((x % 128 + 128 : Nat) : Int) :: numF n (x / 128) else [(x : Int)]
def numForm (x : Nat) : List Int := numF 10 x
theorem numF_length : ∀ n x, (numF n x).length ≤ n
  | 0, _ => by simp [numF]
  | n + 1, x => by
    unfold numF
    split
    · have := numF_length n (x / 128); simp; omega
    · simp
theorem numF_pos : ∀ n x, 1 ≤ (numF (n + 1) x).length := by
  intro n x
  unfold numF
  split <;> simp
theorem numF_range : ∀ n x, ∀ y ∈ numF n x, 0 ≤ y ∧ y ≤ 255
  | 0, _ => by simp [numF]
  | n + 1, x => by
    unfold numF
    intro y hy
    split at hy
    · rcases List.mem_cons.1 hy with h | h
      · omega
      · exact numF_range n _ y h
    · have : y = x := by simpa using hy
      omega
theorem numForm_length (x : Nat) : (numForm x).length ≤ 10 := numF_length 10 x
theorem numForm_range (x : Nat) : ∀ y ∈ numForm x, 0 ≤ y ∧ y ≤ 255 := numF_range 10 x
theorem and127 {x : Nat} (h : x ≤ 9223372036854775807) : Go.bits .and .i64 (x : Int) 127 = ((x % 128 : Nat) : Int) := by
  have := Go.bits_mask .i64 63 (by decide) (fun n a b => by rw [IntKind.wrap_i64]; omega) 7 (by decide) (x : Int) (by omega) (by omega)
  simpa using this
theorem or128 : ∀ m : Fin 128, Go.bits .or .i64 128 (m.val : Int) = ((m.val + 128 : Nat) : Int) := by decide +kernel
theorem num_loops : ∀ (n x : Nat) (acc : List Int), 1 ≤ n → x < 128 ^ n → n ≤ 10 → x ≤ 9223372036854775807 → acc.length + n < 140737488355328 →
    Ev (fun k => spec_PutNum.l0 k (x : Int) acc) (acc ++ numF n x) ∧ Ev (fun k => impl_putNum.l0 k acc (x : Int)) (acc ++ numF n x) := by
  intro n
  induction n with
  | zero =>
    intro x acc h0
    omega
  | succ n ih =>
    intro x acc _ h h10 hx hl
    by_cases h127 : 127 < x
    · have hd : x / 128 < 128 ^ n := by
        rw [Nat.div_lt_iff_lt_mul (by decide)]
        rwa [Nat.pow_succ] at h
      have hn1 : 1 ≤ n := by
        rcases Nat.eq_zero_or_pos n with h0 | h0
        · subst h0
          have : x < 128 := by simpa using h
          omega
        · exact h0
      obtain ⟨i1, i2⟩ := ih (x / 128) (acc ++ [((x % 128 + 128 : Nat) : Int)]) hn1 hd (by omega) (by omega) (by simp; omega)
      have e : numF (n + 1) x = ((x % 128 + 128 : Nat) : Int) :: numF n (x / 128) := by rw [numF, if_pos h127]
      rw [e]
      rw [List.append_assoc, List.singleton_append] at i1 i2
      constructor
      · refine Ev.step (fun k => spec_PutNum.l0.eq_2 (k := k) ..) (Ev.pos (by omega) (Ev.pos (by omega) ?_))
        have e1 : wrap64 (Int.tdiv (x : Int) 128) = ((x / 128 : Nat) : Int) := by
          rw [Int.tdiv_eq_ediv_of_nonneg (by omega), wrap_id (by omega) (by omega)]; omega
        have e2 : (wrap64 ((Int.tmod (x : Int) 128) + 128)) % 256 = ((x % 128 + 128 : Nat) : Int) := by
          rw [Int.tmod_eq_emod_of_nonneg (by omega), wrap_id (by omega) (by omega)]; omega
        rw [e1, e2]
        exact i1
      · refine Ev.step (fun k => impl_putNum.l0.eq_2 (k := k) ..) (Ev.pos (by omega) (Ev.pos (by omega) ?_))
        have e1 : (x : Int) / 128 = ((x / 128 : Nat) : Int) := by omega
        have e2 : (Go.bits .or .i64 128 (Go.bits .and .i64 (x : Int) 127)) % 256 = ((x % 128 + 128 : Nat) : Int) := by
          rw [and127 hx, or128 ⟨x % 128, Nat.mod_lt _ (by decide)⟩]
          simp only
          omega
        rw [e1, e2]
        exact i2
    · have e : numF (n + 1) x = [(x : Int)] := by rw [numF, if_neg h127]
      rw [e]
      constructor
      · refine Ev.step (fun k => spec_PutNum.l0.eq_2 (k := k) ..) (Ev.neg (by omega) (Ev.pos (by omega) (Ev.is ?_)))
        rw [show (x : Int) % 256 = (x : Int) by omega]
      · refine Ev.step (fun k => impl_putNum.l0.eq_2 (k := k) ..) (Ev.neg (by omega) (Ev.pos (by omega) (Ev.is ?_)))
        rw [show (x : Int) % 256 = (x : Int) by omega]
theorem spec_num {x : Nat} (hx : x ≤ 9223372036854775807) : Ev (fun k => spec_PutNum.f k (x : Int)) (numForm x) := by
  unfold spec_PutNum.f
  simp only [Option.bind_some]
  refine Ev.neg (by omega) ?_
  exact (num_loops 10 x [] (by omega) (by simp; omega) (by omega) hx (by simp)).1
theorem impl_num {x : Nat} (acc : List Int) (hx : x ≤ 9223372036854775807) (hl : acc.length ≤ 140737488355000) : Ev (fun k => impl_putNum.f k acc (x : Int)) (acc ++ numForm x) := by
  unfold impl_putNum.f
  exact (num_loops 10 x acc (by omega) (by simp; omega) (by omega) hx (by omega)).2
theorem spec_in (a b c : Int) : spec_l1In.f a b c = some (decide (b ≤ a ∧ a ≤ c)) := by
  unfold spec_l1In.f
  by_cases h : a ≥ b
  · rw [if_pos h]; by_cases h2 : a ≤ c
    · simp [h2, show b ≤ a from h]
    · simp [h2]
  · rw [if_neg h]; simp [show ¬ b ≤ a from h]
theorem impl_in (a b c : Int) : impl_inRange.f a b c = some (decide (b ≤ a ∧ a ≤ c)) := by
  unfold impl_inRange.f
  by_cases h : a ≥ b
  · rw [if_pos h]; by_cases h2 : a ≤ c
    · simp [h2, show b ≤ a from h]
    · simp [h2]
  · rw [if_neg h]; simp [show ¬ b ≤ a from h]
end Go.Proofs.Ytikjondklgghkaa.Pure
