/-
Numbers read from bytes: the reference's GetNum and the program's tell the same.
No condition beyond the rows' own: bytes, and a length that memory holds.
-/
import Derived.Test.YtikjondklgghkaaPRdx3
import Derived.Test.YtikjondklgghkaaPRdx7
import Derived.Test.YtikjondklgghkaaPRdx4
import Derived.Test.YtikjondklgghkaaXPure
import Derived.Test.YtikjondklgghkaaRdPureNum
import Derived.Laws.BitsLemmas
namespace Go.Proofs.Ytikjondklgghkaa.Pure
open Go.RowKit Go.Proofs.YtikjondklgghkaaX Go.Proofs.Ytikjondklgghkaa.PRd Go.Proofs.YtikjondklgghkaaW.PrintWords Go.Proofs.YtikjondklgghkaaW.PrintLast Go.Proofs.YtikjondklgghkaaW.PrintMore

theorem or_comm (k : IntKind) (a b : Int) : Go.bits .or k a b = Go.bits .or k b a := by
  unfold Go.bits
  simp only [BitVec.or_comm]
def p128 : Nat → Nat
  | 0 => 1
  | k + 1 => 128 * p128 k
theorem pow_table : ∀ k : Fin 9, IntKind.u64.wrap (wrap64 (7 * (k.val : Int))) = ((7 * k.val : Nat) : Int) ∧ min (7 * k.val) IntKind.i64.bits = 7 * k.val ∧ (2 : Int) ^ (7 * k.val) = ((p128 k.val : Nat) : Int) ∧ p128 k.val ≤ 72057594037927936 ∧ 0 < p128 k.val ∧ 7 * k.val ≤ 63 := by decide +kernel
theorem small63 {p : Nat} (h : p ≤ 9151314442816847872) : (p : Int) < 2 ^ 63 := by omega
theorem join_step (i M x q : Nat) (hM : (2 : Int) ^ i = (M : Int)) (hM1 : M ≤ 72057594037927936) (hx : x < M) (hq : q ≤ 127) : Go.bits .or .i64 ((q * M : Nat) : Int) (x : Int) = ((q * M + x : Nat) : Int) := by
  have hp : q * M ≤ 9151314442816847872 := Nat.le_trans (Nat.mul_le_mul hq hM1) (by decide)
  have hdiv : ((q * M : Nat) : Int) % 2 ^ i = 0 := by rw [hM, Int.natCast_mul]; exact Int.mul_emod_left ..
  have hx2 : (x : Int) < 2 ^ i := by rw [hM]; exact Int.ofNat_lt.2 hx
  rw [Go.bits_join .i64 63 (by decide) (fun n a b => by rw [IntKind.wrap_i64]; omega) i _ _ (Int.natCast_nonneg _) hdiv (small63 hp) (Int.natCast_nonneg _) hx2 (small63 (Nat.le_trans (Nat.le_of_lt hx) (Nat.le_trans hM1 (by decide))))]
  exact (Int.natCast_add _ _).symm
theorem shl_step (i M q : Nat) (y : Int) (hy : y = (i : Int)) (hi : min i IntKind.i64.bits = i) (hM : (2 : Int) ^ i = (M : Int)) (hM1 : M ≤ 72057594037927936) (hq : q ≤ 127) : shl .i64 (q : Int) y = ((q * M : Nat) : Int) := by
  have hp : q * M ≤ 9151314442816847872 := Nat.le_trans (Nat.mul_le_mul hq hM1) (by decide)
  unfold shl
  rw [hy, Int.toNat_natCast, hi, hM, IntKind.wrap_i64, ← Int.natCast_mul]
  clear hM hi hy
  generalize q * M = p at hp
  omega
theorem unit_step (M x q : Nat) (hM1 : M ≤ 72057594037927936) (hx : x < M) (hq : q ≤ 127) : wrap64 ((x : Int) + wrap64 ((q : Int) * (M : Int))) = ((x + q * M : Nat) : Int) ∧ x + q * M < 128 * M := by
  have hp : q * M ≤ 127 * M := Nat.mul_le_mul_right _ hq
  rw [← Int.natCast_mul]
  generalize q * M = p at hp
  rw [wrap_id (x := (p : Int)) (by omega) (by omega), wrap_id (by omega) (by omega)]
  constructor <;> omega
theorem get_step {k x d : Nat} (hk : k ≤ 8) (hx : x < p128 k) (hd : d ≤ 255) :
    Go.bits .or .i64 (x : Int) (shl .i64 (Go.bits .and .i64 (d : Int) 127) (IntKind.u64.wrap (wrap64 (7 * (k : Int))))) = ((x + d % 128 * p128 k : Nat) : Int) ∧
    wrap64 ((x : Int) + wrap64 (Int.tmod (d : Int) 128 * ((p128 k : Nat) : Int))) = ((x + d % 128 * p128 k : Nat) : Int) ∧ x + d % 128 * p128 k < p128 (k + 1) ∧ p128 (k + 1) ≤ 9223372036854775808 := by
  obtain ⟨t1, t2, t3, t4, t5, t6⟩ := pow_table ⟨k, by omega⟩
  simp only at t1 t2 t3 t4 t5 t6
  have hdm : d % 128 ≤ 127 := Nat.le_of_lt_succ (Nat.mod_lt _ (by decide))
  obtain ⟨u1, u2⟩ := unit_step (p128 k) x (d % 128) t4 hx hdm
  refine ⟨?_, ?_, ?_, ?_⟩
  · rw [and127 (Nat.le_trans hd (by decide)), or_comm, shl_step (7 * k) (p128 k) (d % 128) _ t1 t2 t3 t4 hdm, join_step (7 * k) (p128 k) x (d % 128) t3 t4 hx hdm, Nat.add_comm]
  · rw [Int.tmod_eq_emod_of_nonneg (Int.natCast_nonneg _)]
    exact u1
  · exact u2
  · exact Nat.le_trans (Nat.mul_le_mul_left 128 t4) (by decide)
theorem sh_nonneg {k : Nat} (hk : k ≤ 8) : 0 ≤ IntKind.u64.wrap (wrap64 (7 * (k : Int))) := by
  have := (pow_table ⟨k, Nat.lt_succ_of_le hk⟩).1
  exact Int.le_trans (Int.natCast_nonneg (7 * k)) (Int.le_of_eq this.symm)
theorem rd_range {l : List Int} (hb : ∀ y ∈ l, 0 ≤ y ∧ y ≤ 255) (i : Nat) : 0 ≤ rd l (i : Int) ∧ rd l (i : Int) ≤ 255 := by
  unfold rd
  rw [Int.toNat_natCast, List.getD_eq_getElem?_getD]
  rcases h : l[i]? with _ | y
  · exact ⟨by decide, by decide⟩
  · exact hb y (List.mem_of_getElem? h)
/-- What is read of a number, or a text, from place a on. -/
def GetOk (l : List Int) (a : Int) (r : Int × Int × Bool) : Prop := (r.2.2 = false → r = (0, 0, false)) ∧ (r.2.2 = true → 0 ≤ r.1 ∧ r.1 ≤ 9223372036854775807 ∧ 0 ≤ a ∧ a < r.2.1 ∧ r.2.1 ≤ (l.length : Int))
theorem get_loops (P : Nat → Nat) (hP : P = p128) (l : List Int) (hl : l.length ≤ 140737488355328) (hb : ∀ y ∈ l, 0 ≤ y ∧ y ≤ 255) (a : Nat) (ha : a ≤ l.length) : ∀ (d k x : Nat) (u : Int), k + d = 9 → x < P k → (k ≤ 8 → u = ((P k : Nat) : Int)) →
    ∃ r : Int × Int × Bool, Ev (fun n => spec_GetNum.l0 n l (a : Int) (x : Int) u (k : Int)) r ∧ Ev (fun n => impl_GetNum.l0 n l ((a + k : Nat) : Int) (x : Int) (k : Int)) r ∧ GetOk l a r := by
  intro d
  induction d with
  | zero =>
    intro k x u hk hx hu
    refine ⟨(0, 0, false), ?_, ?_, fun _ => rfl, fun h => by cases h⟩
    · exact Ev.step (fun k => spec_GetNum.l0.eq_2 (k := k) ..) (Ev.neg (by omega) (Ev.step (fun k => spec_GetNum.j2.eq_2 (k := k) ..) (Ev.neg (by simp) (Ev.now _))))
    · exact Ev.step (fun k => impl_GetNum.l0.eq_2 (k := k) ..) (Ev.neg (by omega) (Ev.step (fun k => impl_GetNum.j1.eq_2 (k := k) ..) (Ev.neg (by simp) (Ev.now _))))
  | succ d ih =>
    intro k x u hk hx hu
    have hu := hu (by omega)
    have hw : Aside0 (wrap64 ((a : Int) + (k : Int)) = ((a + k : Nat) : Int)) := ⟨by rw [wrap_id (by omega) (by omega)]; omega⟩
    by_cases hin : a + k < l.length
    · obtain ⟨v, hv⟩ : ∃ v : Nat, rd l ((a + k : Nat) : Int) = (v : Int) := ⟨(rd l ((a + k : Nat) : Int)).toNat, by have := (rd_range hb (a + k)).1; omega⟩
      have hv2 : v ≤ 255 := by have := (rd_range hb (a + k)).2; omega
      have hwv : Aside0 (wrap64 (v : Int) = (v : Int)) := ⟨wrap_id (by omega) (by omega)⟩
      obtain ⟨s1, s2, s3, s4⟩ := get_step (k := k) (x := x) (d := v) (by omega) (by rw [← hP]; exact hx) hv2
      rw [← hP] at s1 s2 s3 s4
      obtain ⟨X, hX⟩ : ∃ X : Nat, X = x + v % 128 * P k := ⟨_, rfl⟩
      rw [← hX] at s1 s2 s3
      have hX := Aside0.mk hX
      have S1 := Aside0.mk s1
      have S2 := Aside0.mk s2
      clear s1 s2
      have hn : Aside0 (wrap64 (((a + k : Nat) : Int) + 1) = ((a + (k + 1) : Nat) : Int)) := ⟨by rw [wrap_id (by omega) (by omega)]; omega⟩
      have hk1 : Aside0 (wrap64 ((k : Int) + 1) = ((k + 1 : Nat) : Int)) := ⟨by rw [wrap_id (by omega) (by omega)]; omega⟩
      have hsh : Aside0 (0 ≤ IntKind.u64.wrap (wrap64 (7 * (k : Int)))) := Aside0.mk (sh_nonneg (by omega))
      have S : ∀ r : Int × Int × Bool, (v < 128 → v = 0 → 0 < k → r = ((0 : Int), (0 : Int), false)) → (v < 128 → ¬ (v = 0 ∧ 0 < k) → r = ((X : Int), ((a + (k + 1) : Nat) : Int), true)) →
          (¬ v < 128 → Ev (fun n => spec_GetNum.l0 n l (a : Int) (X : Int) (wrap64 (u * 128)) ((k + 1 : Nat) : Int)) r) → Ev (fun n => spec_GetNum.l0 n l (a : Int) (x : Int) u (k : Int)) r := by
        intro r h1 h2 h3
        refine Ev.step (fun k => spec_GetNum.l0.eq_2 (k := k) ..) (Ev.pos (by omega) (Ev.step (fun k => spec_GetNum.j2.eq_2 (k := k) ..) ?_))
        rw [hw.out, hv, hwv.out, hu, S2.out, hn.out, hk1.out, ← hu]
        refine Ev.pos (by simp; omega) (Ev.pos (by omega) (Ev.pos (by omega) ?_))
        by_cases c1 : v < 128
        · refine Ev.pos (by omega) ?_
          by_cases c2 : v = 0
          · refine Ev.pos (by omega) ?_
            by_cases c3 : 0 < k
            · exact Ev.pos (by omega) (Ev.eq (Ev.now _) (h1 c1 c2 c3).symm)
            · exact Ev.neg (by omega) (Ev.eq (Ev.now _) (h2 c1 (by omega)).symm)
          · exact Ev.neg (by omega) (Ev.eq (Ev.now _) (h2 c1 (by omega)).symm)
        · exact Ev.neg (by omega) (h3 c1)
      have I : ∀ r : Int × Int × Bool, (v < 128 → v = 0 → 0 < k → r = ((0 : Int), (0 : Int), false)) → (v < 128 → ¬ (v = 0 ∧ 0 < k) → r = ((X : Int), ((a + (k + 1) : Nat) : Int), true)) →
          (¬ v < 128 → Ev (fun n => impl_GetNum.l0 n l ((a + (k + 1) : Nat) : Int) (X : Int) ((k + 1 : Nat) : Int)) r) → Ev (fun n => impl_GetNum.l0 n l ((a + k : Nat) : Int) (x : Int) (k : Int)) r := by
        intro r h1 h2 h3
        refine Ev.step (fun k => impl_GetNum.l0.eq_2 (k := k) ..) (Ev.pos (by omega) (Ev.step (fun k => impl_GetNum.j1.eq_2 (k := k) ..) ?_))
        rw [hv, hwv.out, S1.out, hn.out, hk1.out]
        refine Ev.pos (by simp; omega) (Ev.pos (by omega) (Ev.pos (by omega) (Ev.pos hsh.out ?_)))
        by_cases c1 : v < 128
        · refine Ev.pos (by omega) ?_
          by_cases c2 : v = 0
          · refine Ev.pos (by omega) ?_
            by_cases c3 : 0 < k
            · exact Ev.pos (by omega) (Ev.eq (Ev.now _) (h1 c1 c2 c3).symm)
            · exact Ev.neg (by omega) (Ev.eq (Ev.now _) (h2 c1 (by omega)).symm)
          · exact Ev.neg (by omega) (Ev.eq (Ev.now _) (h2 c1 (by omega)).symm)
        · exact Ev.neg (by omega) (h3 c1)
      by_cases c1 : v < 128
      · by_cases c2 : v = 0 ∧ 0 < k
        · exact ⟨(0, 0, false), S _ (fun _ _ _ => rfl) (fun _ h => absurd c2 h) (fun h => absurd c1 h), I _ (fun _ _ _ => rfl) (fun _ h => absurd c2 h) (fun h => absurd c1 h), fun _ => rfl, fun h => by cases h⟩
        · refine ⟨((X : Int), ((a + (k + 1) : Nat) : Int), true), S _ (fun _ h h' => absurd ⟨h, h'⟩ c2) (fun _ _ => rfl) (fun h => absurd c1 h), I _ (fun _ h h' => absurd ⟨h, h'⟩ c2) (fun _ _ => rfl) (fun h => absurd c1 h), (fun h => by cases h), fun _ => ⟨?_, ?_, ?_, ?_, ?_⟩⟩
          · simp only; omega
          · simp only; omega
          · omega
          · simp only; omega
          · simp only; omega
      · obtain ⟨r, r1, r2, r3⟩ := ih (k + 1) X (wrap64 (u * 128)) (by omega) s3 (fun h8 => by
          have t4 := (pow_table ⟨k + 1, by omega⟩).2.2.2.1
          simp only at t4
          rw [← hP] at t4
          have e2 : u * 128 = ((P (k + 1) : Nat) : Int) := by
            rw [hu, show P (k + 1) = 128 * P k by rw [hP]; rfl]
            rw [Int.natCast_mul, Int.mul_comm]; rfl
          rw [e2, wrap_id (by omega) (by omega)])
        exact ⟨r, S r (fun h => absurd h c1) (fun h => absurd h c1) (fun _ => r1), I r (fun h => absurd h c1) (fun h => absurd h c1) (fun _ => r2), r3⟩
    · refine ⟨(0, 0, false), ?_, ?_, fun _ => rfl, fun h => by cases h⟩
      · refine Ev.step (fun k => spec_GetNum.l0.eq_2 (k := k) ..) (Ev.pos (by omega) (Ev.step (fun k => spec_GetNum.j2.eq_2 (k := k) ..) ?_))
        rw [hw.out]
        exact Ev.neg (by simp; omega) (Ev.now _)
      · exact Ev.step (fun k => impl_GetNum.l0.eq_2 (k := k) ..) (Ev.pos (by omega) (Ev.step (fun k => impl_GetNum.j1.eq_2 (k := k) ..) (Ev.neg (by simp; omega) (Ev.now _))))
theorem getNum (l : List Int) (hl : l.length ≤ 140737488355328) (hb : ∀ y ∈ l, 0 ≤ y ∧ y ≤ 255) (a : Int) : ∃ r, Ev (fun n => spec_GetNum.f n l a) r ∧ Ev (fun n => impl_GetNum.f n l a) r ∧ GetOk l a r := by
  unfold spec_GetNum.f impl_GetNum.f
  have hw : wrap64 ((l.length : Int) - 1) = (l.length : Int) - 1 := wrap_id (by omega) (by omega)
  have bad : (a < 0 ∨ a ≥ (l.length : Int)) → Ev (fun k => (impl_inRange.f a 0 (wrap64 ((l.length : Int) - 1))).bind fun t => if t = true then impl_GetNum.l0 k l a 0 0 else some (0, 0, false)) (0, 0, false) := by
    intro h
    refine Ev.known (impl_in ..) (Ev.neg ?_ (Ev.now _))
    rw [hw]; simp; omega
  by_cases h1 : a < 0
  · exact ⟨(0, 0, false), Ev.pos h1 (Ev.step (fun k => spec_GetNum.j0.eq_2 (k := k) ..) (Ev.pos rfl (Ev.now _))), bad (.inl h1), fun _ => rfl, fun h => by cases h⟩
  · by_cases h2 : a ≥ (l.length : Int)
    · exact ⟨(0, 0, false), Ev.neg h1 (Ev.step (fun k => spec_GetNum.j0.eq_2 (k := k) ..) (Ev.pos (by simpa using h2) (Ev.now _))), bad (.inr h2), fun _ => rfl, fun h => by cases h⟩
    · obtain ⟨n, rfl⟩ := Int.eq_ofNat_of_zero_le (show 0 ≤ a by omega)
      obtain ⟨r, r1, r2, r3⟩ := get_loops p128 rfl l hl hb n (by omega) 9 0 0 1 (by omega) (by decide) (fun _ => rfl)
      refine ⟨r, Ev.neg h1 (Ev.step (fun k => spec_GetNum.j0.eq_2 (k := k) ..) (Ev.neg (by simpa using h2) r1)), Ev.known (impl_in ..) (Ev.pos (by rw [hw]; simp; omega) ?_), r3⟩
      exact r2
end Go.Proofs.Ytikjondklgghkaa.Pure
