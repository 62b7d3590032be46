/- The proof of FnIndex: a part of it. No condition beyond the statement's own. -/
import Derived.Test.YtaakhgjlekllgaaZFIndex3
import Derived.Laws.BitsLemmas
import Derived.Test.YtaakhgjlekllgaaRows
import Derived.WalkKit
import Derived.ProofKit
import Derived.OpenShut
import Derived.ShutString
import Derived.ChangeOld
import Derived.Below
import Derived.SizedLaws
import Derived.Test.YtaakhgjlekllgaaZFIndexWSized
namespace Go.Proofs.Ytaakhgjlekllgaa.Pure
open Go.RowKit Go.Proofs.YtaakhgjlekllgaaX Go.Proofs.Ytaakhgjlekllgaa.PIy Go.Proofs.YtaakhgjlekllgaaW.PrintWords Go.Proofs.YtaakhgjlekllgaaW.PrintLast Go.Proofs.YtaakhgjlekllgaaW.PrintMore
theorem or_comm (k : IntKind) (a b : Int) : Go.bits .or k a b = Go.bits .or k b a := by
  unfold Go.bits
  simp only [BitVec.or_comm]
def p128 : Nat → Nat
  | 0 => 1
  | k + 1 => 128 * p128 k
theorem pow_table : ∀ k : Fin 9, IntKind.u64.wrap (wrap64 (7 * (k.val : Int))) = ((7 * k.val : Nat) : Int) ∧ min (7 * k.val) IntKind.i64.bits = 7 * k.val ∧ (2 : Int) ^ (7 * k.val) = ((p128 k.val : Nat) : Int) ∧ p128 k.val ≤ 72057594037927936 ∧ 0 < p128 k.val ∧ 7 * k.val ≤ 63 := by decide +kernel
theorem small63 {p : Nat} (h : p ≤ 9151314442816847872) : (p : Int) < 2 ^ 63 := by omega
theorem join_step (i M x q : Nat) (hM : (2 : Int) ^ i = (M : Int)) (hM1 : M ≤ 72057594037927936) (hx : x < M) (hq : q ≤ 127) : Go.bits .or .i64 ((q * M : Nat) : Int) (x : Int) = ((q * M + x : Nat) : Int) := by
  have hp : q * M ≤ 9151314442816847872 := Nat.le_trans (Nat.mul_le_mul hq hM1) (by decide)
  have hdiv : ((q * M : Nat) : Int) % 2 ^ i = 0 := by rw [hM, Int.natCast_mul]; exact Int.mul_emod_left ..
  have hx2 : (x : Int) < 2 ^ i := by rw [hM]; exact Int.ofNat_lt.2 hx
  rw [Go.bits_join .i64 63 (by decide) (fun n a b => by rw [IntKind.wrap_i64]; omega) i _ _ (Int.natCast_nonneg _) hdiv (small63 hp) (Int.natCast_nonneg _) hx2 (small63 (Nat.le_trans (Nat.le_of_lt hx) (Nat.le_trans hM1 (by decide))))]
  exact (Int.natCast_add _ _).symm
theorem shl_step (i M q : Nat) (y : Int) (hy : y = (i : Int)) (hi : min i IntKind.i64.bits = i) (hM : (2 : Int) ^ i = (M : Int)) (hM1 : M ≤ 72057594037927936) (hq : q ≤ 127) : shl .i64 (q : Int) y = ((q * M : Nat) : Int) := by
  have hp : q * M ≤ 9151314442816847872 := Nat.le_trans (Nat.mul_le_mul hq hM1) (by decide)
  unfold shl
  rw [hy, Int.toNat_natCast, hi, hM, IntKind.wrap_i64, ← Int.natCast_mul]
  clear hM hi hy
  generalize q * M = p at hp
  omega
theorem unit_step (M x q : Nat) (hM1 : M ≤ 72057594037927936) (hx : x < M) (hq : q ≤ 127) : wrap64 ((x : Int) + wrap64 ((q : Int) * (M : Int))) = ((x + q * M : Nat) : Int) ∧ x + q * M < 128 * M := by
  have hp : q * M ≤ 127 * M := Nat.mul_le_mul_right _ hq
  rw [← Int.natCast_mul]
  generalize q * M = p at hp
  rw [wrap_id (x := (p : Int)) (by omega) (by omega), wrap_id (by omega) (by omega)]
  constructor <;> omega
theorem get_step {k x d : Nat} (hk : k ≤ 8) (hx : x < p128 k) (hd : d ≤ 255) :
    Go.bits .or .i64 (x : Int) (shl .i64 (Go.bits .and .i64 (d : Int) 127) (IntKind.u64.wrap (wrap64 (7 * (k : Int))))) = ((x + d % 128 * p128 k : Nat) : Int) ∧
    wrap64 ((x : Int) + wrap64 (Int.tmod (d : Int) 128 * ((p128 k : Nat) : Int))) = ((x + d % 128 * p128 k : Nat) : Int) ∧ x + d % 128 * p128 k < p128 (k + 1) ∧ p128 (k + 1) ≤ 9223372036854775808 := by
  obtain ⟨t1, t2, t3, t4, t5, t6⟩ := pow_table ⟨k, by omega⟩
  simp only at t1 t2 t3 t4 t5 t6
  have hdm : d % 128 ≤ 127 := Nat.le_of_lt_succ (Nat.mod_lt _ (by decide))
  obtain ⟨u1, u2⟩ := unit_step (p128 k) x (d % 128) t4 hx hdm
  refine ⟨?_, ?_, ?_, ?_⟩
  · rw [and127 (Nat.le_trans hd (by decide)), or_comm, shl_step (7 * k) (p128 k) (d % 128) _ t1 t2 t3 t4 hdm, join_step (7 * k) (p128 k) x (d % 128) t3 t4 hx hdm, Nat.add_comm]
  · rw [Int.tmod_eq_emod_of_nonneg (Int.natCast_nonneg _)]
    exact u1
  · exact u2
  · exact Nat.le_trans (Nat.mul_le_mul_left 128 t4) (by decide)
theorem sh_nonneg {k : Nat} (hk : k ≤ 8) : 0 ≤ IntKind.u64.wrap (wrap64 (7 * (k : Int))) := by
  have := (pow_table ⟨k, Nat.lt_succ_of_le hk⟩).1
  exact Int.le_trans (Int.natCast_nonneg (7 * k)) (Int.le_of_eq this.symm)
theorem rd_range {l : List Int} (hb : ∀ y ∈ l, 0 ≤ y ∧ y ≤ 255) (i : Nat) : 0 ≤ rd l (i : Int) ∧ rd l (i : Int) ≤ 255 := by
  unfold rd
  rw [Int.toNat_natCast, List.getD_eq_getElem?_getD]
  rcases h : l[i]? with _ | y
  · exact ⟨by decide, by decide⟩
  · exact hb y (List.mem_of_getElem? h)
def GetOk (l : List Int) (a : Int) (r : Int × Int × Bool) : Prop := (r.2.2 = false → r = (0, 0, false)) ∧ (r.2.2 = true → 0 ≤ r.1 ∧ r.1 ≤ 9223372036854775807 ∧ 0 ≤ a ∧ a < r.2.1 ∧ r.2.1 ≤ (l.length : Int))
theorem get_loops (P : Nat → Nat) (hP : P = p128) (l : List Int) (hl : l.length ≤ 140737488355328) (hb : ∀ y ∈ l, 0 ≤ y ∧ y ≤ 255) (a : Nat) (ha : a ≤ l.length) : ∀ (d k x : Nat) (u : Int), k + d = 9 → x < P k → (k ≤ 8 → u = ((P k : Nat) : Int)) →
    ∃ r : Int × Int × Bool, Ev (fun n => spec_GetNum.l0 n l (a : Int) (x : Int) u (k : Int)) r ∧ Ev (fun n => impl_GetNum.l0 n l ((a + k : Nat) : Int) (x : Int) (k : Int)) r ∧ GetOk l a r := by
  intro d
  induction d with
  | zero =>
    intro k x u hk hx hu
    refine ⟨(0, 0, false), ?_, ?_, fun _ => rfl, fun h => by cases h⟩
    · exact Ev.step (fun k => spec_GetNum.l0.eq_2 (k := k) ..) (Ev.neg (by omega) (Ev.step (fun k => spec_GetNum.j2.eq_2 (k := k) ..) (Ev.neg (by simp) (Ev.now _))))
    · exact Ev.step (fun k => impl_GetNum.l0.eq_2 (k := k) ..) (Ev.neg (by omega) (Ev.step (fun k => impl_GetNum.j1.eq_2 (k := k) ..) (Ev.neg (by simp) (Ev.now _))))
  | succ d ih =>
    intro k x u hk hx hu
    have hu := hu (by omega)
    have hw : Aside0 (wrap64 ((a : Int) + (k : Int)) = ((a + k : Nat) : Int)) := ⟨by rw [wrap_id (by omega) (by omega)]; omega⟩
    by_cases hin : a + k < l.length
    · obtain ⟨v, hv⟩ : ∃ v : Nat, rd l ((a + k : Nat) : Int) = (v : Int) := ⟨(rd l ((a + k : Nat) : Int)).toNat, by have := (rd_range hb (a + k)).1; omega⟩
      have hv2 : v ≤ 255 := by have := (rd_range hb (a + k)).2; omega
      have hwv : Aside0 (wrap64 (v : Int) = (v : Int)) := ⟨wrap_id (by omega) (by omega)⟩
      obtain ⟨s1, s2, s3, s4⟩ := get_step (k := k) (x := x) (d := v) (by omega) (by rw [← hP]; exact hx) hv2
      rw [← hP] at s1 s2 s3 s4
      obtain ⟨X, hX⟩ : ∃ X : Nat, X = x + v % 128 * P k := ⟨_, rfl⟩
      rw [← hX] at s1 s2 s3
      have hX := Aside0.mk hX
      have S1 := Aside0.mk s1
      have S2 := Aside0.mk s2
      clear s1 s2
      have hn : Aside0 (wrap64 (((a + k : Nat) : Int) + 1) = ((a + (k + 1) : Nat) : Int)) := ⟨by rw [wrap_id (by omega) (by omega)]; omega⟩
      have hk1 : Aside0 (wrap64 ((k : Int) + 1) = ((k + 1 : Nat) : Int)) := ⟨by rw [wrap_id (by omega) (by omega)]; omega⟩
      have hsh : Aside0 (0 ≤ IntKind.u64.wrap (wrap64 (7 * (k : Int)))) := Aside0.mk (sh_nonneg (by omega))
      have S : ∀ r : Int × Int × Bool, (v < 128 → v = 0 → 0 < k → r = ((0 : Int), (0 : Int), false)) → (v < 128 → ¬ (v = 0 ∧ 0 < k) → r = ((X : Int), ((a + (k + 1) : Nat) : Int), true)) →
          (¬ v < 128 → Ev (fun n => spec_GetNum.l0 n l (a : Int) (X : Int) (wrap64 (u * 128)) ((k + 1 : Nat) : Int)) r) → Ev (fun n => spec_GetNum.l0 n l (a : Int) (x : Int) u (k : Int)) r := by
        intro r h1 h2 h3
        refine Ev.step (fun k => spec_GetNum.l0.eq_2 (k := k) ..) (Ev.pos (by omega) (Ev.step (fun k => spec_GetNum.j2.eq_2 (k := k) ..) ?_))
        rw [hw.out, hv, hwv.out, hu, S2.out, hn.out, hk1.out, ← hu]
        refine Ev.pos (by simp; omega) (Ev.pos (by omega) (Ev.pos (by omega) ?_))
        by_cases c1 : v < 128
        · refine Ev.pos (by omega) ?_
          by_cases c2 : v = 0
          · refine Ev.pos (by omega) ?_
            by_cases c3 : 0 < k
            · exact Ev.pos (by omega) (Ev.eq (Ev.now _) (h1 c1 c2 c3).symm)
            · exact Ev.neg (by omega) (Ev.eq (Ev.now _) (h2 c1 (by omega)).symm)
          · exact Ev.neg (by omega) (Ev.eq (Ev.now _) (h2 c1 (by omega)).symm)
        · exact Ev.neg (by omega) (h3 c1)
      have I : ∀ r : Int × Int × Bool, (v < 128 → v = 0 → 0 < k → r = ((0 : Int), (0 : Int), false)) → (v < 128 → ¬ (v = 0 ∧ 0 < k) → r = ((X : Int), ((a + (k + 1) : Nat) : Int), true)) →
          (¬ v < 128 → Ev (fun n => impl_GetNum.l0 n l ((a + (k + 1) : Nat) : Int) (X : Int) ((k + 1 : Nat) : Int)) r) → Ev (fun n => impl_GetNum.l0 n l ((a + k : Nat) : Int) (x : Int) (k : Int)) r := by
        intro r h1 h2 h3
        refine Ev.step (fun k => impl_GetNum.l0.eq_2 (k := k) ..) (Ev.pos (by omega) (Ev.step (fun k => impl_GetNum.j1.eq_2 (k := k) ..) ?_))
        rw [hv, hwv.out, S1.out, hn.out, hk1.out]
        refine Ev.pos (by simp; omega) (Ev.pos (by omega) (Ev.pos (by omega) (Ev.pos hsh.out ?_)))
        by_cases c1 : v < 128
        · refine Ev.pos (by omega) ?_
          by_cases c2 : v = 0
          · refine Ev.pos (by omega) ?_
            by_cases c3 : 0 < k
            · exact Ev.pos (by omega) (Ev.eq (Ev.now _) (h1 c1 c2 c3).symm)
            · exact Ev.neg (by omega) (Ev.eq (Ev.now _) (h2 c1 (by omega)).symm)
          · exact Ev.neg (by omega) (Ev.eq (Ev.now _) (h2 c1 (by omega)).symm)
        · exact Ev.neg (by omega) (h3 c1)
      by_cases c1 : v < 128
      · by_cases c2 : v = 0 ∧ 0 < k
        · exact ⟨(0, 0, false), S _ (fun _ _ _ => rfl) (fun _ h => absurd c2 h) (fun h => absurd c1 h), I _ (fun _ _ _ => rfl) (fun _ h => absurd c2 h) (fun h => absurd c1 h), fun _ => rfl, fun h => by cases h⟩
        · refine ⟨((X : Int), ((a + (k + 1) : Nat) : Int), true), S _ (fun _ h h' => absurd ⟨h, h'⟩ c2) (fun _ _ => rfl) (fun h => absurd c1 h), I _ (fun _ h h' => absurd ⟨h, h'⟩ c2) (fun _ _ => rfl) (fun h => absurd c1 h), (fun h => by cases h), fun _ => ⟨?_, ?_, ?_, ?_, ?_⟩⟩
          · simp only; omega
          · simp only; omega
          · omega
          · simp only; omega
          · simp only; omega
      · obtain ⟨r, r1, r2, r3⟩ := ih (k + 1) X (wrap64 (u * 128)) (by omega) s3 (fun h8 => by
          have t4 := (pow_table ⟨k + 1, by omega⟩).2.2.2.1
          simp only at t4
          rw [← hP] at t4
          have e2 : u * 128 = ((P (k + 1) : Nat) : Int) := by
            rw [hu, show P (k + 1) = 128 * P k by rw [hP]; rfl]
            rw [Int.natCast_mul, Int.mul_comm]; rfl
          rw [e2, wrap_id (by omega) (by omega)])
        exact ⟨r, S r (fun h => absurd h c1) (fun h => absurd h c1) (fun _ => r1), I r (fun h => absurd h c1) (fun h => absurd h c1) (fun _ => r2), r3⟩
    · refine ⟨(0, 0, false), ?_, ?_, fun _ => rfl, fun h => by cases h⟩
      · refine Ev.step (fun k => spec_GetNum.l0.eq_2 (k := k) ..) (Ev.pos (by omega) (Ev.step (fun k => spec_GetNum.j2.eq_2 (k := k) ..) ?_))
        rw [hw.out]
        exact Ev.neg (by simp; omega) (Ev.now _)
      · exact Ev.step (fun k => impl_GetNum.l0.eq_2 (k := k) ..) (Ev.pos (by omega) (Ev.step (fun k => impl_GetNum.j1.eq_2 (k := k) ..) (Ev.neg (by simp; omega) (Ev.now _))))
theorem getNum (l : List Int) (hl : l.length ≤ 140737488355328) (hb : ∀ y ∈ l, 0 ≤ y ∧ y ≤ 255) (a : Int) : ∃ r, Ev (fun n => spec_GetNum.f n l a) r ∧ Ev (fun n => impl_GetNum.f n l a) r ∧ GetOk l a r := by
  unfold spec_GetNum.f impl_GetNum.f
  have hw : wrap64 ((l.length : Int) - 1) = (l.length : Int) - 1 := wrap_id (by omega) (by omega)
  have bad : (a < 0 ∨ a ≥ (l.length : Int)) → Ev (fun k => (impl_inRange.f a 0 (wrap64 ((l.length : Int) - 1))).bind fun t => if t = true then impl_GetNum.l0 k l a 0 0 else some (0, 0, false)) (0, 0, false) := by
    intro h
    refine Ev.known (impl_in ..) (Ev.neg ?_ (Ev.now _))
    rw [hw]; simp; omega
  by_cases h1 : a < 0
  · exact ⟨(0, 0, false), Ev.pos h1 (Ev.step (fun k => spec_GetNum.j0.eq_2 (k := k) ..) (Ev.pos rfl (Ev.now _))), bad (.inl h1), fun _ => rfl, fun h => by cases h⟩
  · by_cases h2 : a ≥ (l.length : Int)
    · exact ⟨(0, 0, false), Ev.neg h1 (Ev.step (fun k => spec_GetNum.j0.eq_2 (k := k) ..) (Ev.pos (by simpa using h2) (Ev.now _))), bad (.inr h2), fun _ => rfl, fun h => by cases h⟩
    · obtain ⟨n, rfl⟩ := Int.eq_ofNat_of_zero_le (show 0 ≤ a by omega)
      obtain ⟨r, r1, r2, r3⟩ := get_loops p128 rfl l hl hb n (by omega) 9 0 0 1 (by omega) (by decide) (fun _ => rfl)
      refine ⟨r, Ev.neg h1 (Ev.step (fun k => spec_GetNum.j0.eq_2 (k := k) ..) (Ev.neg (by simpa using h2) r1)), Ev.known (impl_in ..) (Ev.pos (by rw [hw]; simp; omega) ?_), r3⟩
      exact r2
end Go.Proofs.Ytaakhgjlekllgaa.Pure
namespace Go.Proofs.Ytaakhgjlekllgaa.Pure
open Go.RowKit Go.Proofs.YtaakhgjlekllgaaX Go.Proofs.Ytaakhgjlekllgaa.PIy Go.Proofs.YtaakhgjlekllgaaW.PrintWords Go.Proofs.YtaakhgjlekllgaaW.PrintLast Go.Proofs.YtaakhgjlekllgaaW.PrintMore
def TextOk (l : List Int) (a : Int) (r : ByteArray × Int × Bool) : Prop := (r.2.2 = false → r = (⟨#[]⟩, 0, false)) ∧ (r.2.2 = true → 0 ≤ a ∧ a < r.2.1 ∧ r.2.1 ≤ (l.length : Int) ∧ r.1.size ≤ l.length)
theorem getText (l : List Int) (hl : l.length ≤ 140737488355328) (hb : ∀ y ∈ l, 0 ≤ y ∧ y ≤ 255) (a : Int) : ∃ r, Ev (fun n => spec_GetText.f n l a) r ∧ Ev (fun n => impl_GetText.f n l a) r ∧ TextOk l a r := by
  obtain ⟨⟨n, next, ok⟩, r1, r2, r3, r4⟩ := getNum l hl hb a
  unfold spec_GetText.f impl_GetText.f
  cases ok with
  | false => exact ⟨(⟨#[]⟩, 0, false), Ev.bind r1 (Ev.neg (by simp) (Ev.now _)), Ev.bind r2 (Ev.neg (by simp) (Ev.now _)), fun _ => rfl, fun h => by cases h⟩
  | true =>
    obtain ⟨q1, q2, q3, q4, q5⟩ := r4 rfl
    simp only at q1 q2 q4 q5
    have hw : wrap64 ((l.length : Int) - next) = (l.length : Int) - next := wrap_id (by omega) (by omega)
    by_cases c : n > (l.length : Int) - next
    · refine ⟨(⟨#[]⟩, 0, false), Ev.bind r1 (Ev.pos rfl (Ev.pos ?_ (Ev.now _))), Ev.bind r2 (Ev.pos rfl (Ev.pos ?_ (Ev.now _))), fun _ => rfl, fun h => by cases h⟩
      · simp only; rw [hw]; exact c
      · simp only; rw [hw]; exact c
    · have hw2 : wrap64 (next + n) = next + n := wrap_id (by omega) (by omega)
      refine ⟨(strOfNums ((l.take (next + n).toNat).drop next.toNat), next + n, true), ?_, ?_, (fun h => by cases h), fun _ => ⟨?_, ?_, ?_, ?_⟩⟩
      · refine Ev.bind r1 (Ev.pos rfl (Ev.neg ?_ (Ev.pos ?_ (Ev.pos ?_ (Ev.pos ?_ (Ev.is ?_))))))
        · simp only; rw [hw]; exact c
        · simp only; omega
        · simp only; rw [hw2]; omega
        · simp only; rw [hw2]; omega
        · simp only; rw [hw2]
      · refine Ev.bind r2 (Ev.pos rfl (Ev.neg ?_ (Ev.pos ?_ (Ev.pos ?_ (Ev.pos ?_ (Ev.is ?_))))))
        · simp only; rw [hw]; exact c
        · simp only; omega
        · simp only; rw [hw2]; omega
        · simp only; rw [hw2]; omega
        · simp only; rw [hw2]
      · exact q3
      · simp only; omega
      · simp only; omega
      · simp only; rw [strOfNums_size]; simp; omega
end Go.Proofs.Ytaakhgjlekllgaa.Pure
namespace Go.Proofs.Ytaakhgjlekllgaa.PIy
open Go.RowKit Go.Proofs.YtaakhgjlekllgaaW.PrintWords Go.Proofs.YtaakhgjlekllgaaW.PrintLast Go.Proofs.YtaakhgjlekllgaaW.PrintMore Go.Proofs.YtaakhgjlekllgaaX
attribute [local go_sem] max2_int min2_int max_two min_two max_three min_three max_four min_four   -- for this text's walks alone
set_option linter.unusedVariables false
set_option linter.unusedSimpArgs false
def spec_RecordRead.f (k : Nat) (l0 : List Int) (a1 : Int) : Option (Int × ByteArray × ByteArray × Int × Bool) := (spec_GetNum.f k l0 a1).bind fun bt478 => (if bt478.2.2 = true then ((spec_GetText.f k l0 bt478.2.1).bind fun bt481 => (if bt481.2.2 = true then (if bt478.1 = 1 then ((spec_GetText.f k l0 bt481.2.1).bind fun bt485 => (if bt485.2.2 = true then ((spec_RecordPack.f k bt478.1 bt481.1 bt485.1).bind fun bt488 => (if bt488.2 = true then (some (bt478.1, bt481.1, bt485.1, bt485.2.1, true)) else (some (0, (⟨#[]⟩ : ByteArray), (⟨#[]⟩ : ByteArray), 0, false)))) else (some (0, (⟨#[]⟩ : ByteArray), (⟨#[]⟩ : ByteArray), 0, false)))) else ((spec_RecordPack.f k bt478.1 bt481.1 (⟨#[]⟩ : ByteArray)).bind fun bt492 => (if bt492.2 = true then (some (bt478.1, bt481.1, (⟨#[]⟩ : ByteArray), bt481.2.1, true)) else (some (0, (⟨#[]⟩ : ByteArray), (⟨#[]⟩ : ByteArray), 0, false))))) else (some (0, (⟨#[]⟩ : ByteArray), (⟨#[]⟩ : ByteArray), 0, false)))) else (some (0, (⟨#[]⟩ : ByteArray), (⟨#[]⟩ : ByteArray), 0, false)))
end Go.Proofs.Ytaakhgjlekllgaa.PIy
namespace Go.Proofs.Ytaakhgjlekllgaa.Pure
open Go.RowKit Go.Proofs.YtaakhgjlekllgaaX Go.Proofs.Ytaakhgjlekllgaa.PIy Go.Proofs.YtaakhgjlekllgaaW.PrintWords Go.Proofs.YtaakhgjlekllgaaW.PrintLast
def ReadOk (l : List Int) (a : Int) (r : Int × ByteArray × ByteArray × Int × Bool) : Prop :=
  (r.2.2.2.2 = false → r = (0, ⟨#[]⟩, ⟨#[]⟩, 0, false)) ∧ (r.2.2.2.2 = true → 0 ≤ a ∧ a < r.2.2.2.1 ∧ r.2.2.2.1 ≤ (l.length : Int) ∧ r.2.1.size ≤ l.length ∧ r.2.2.1.size ≤ l.length ∧ recRight r.1 r.2.1 r.2.2.1 = true)
theorem readBoth (l : List Int) (hl : l.length ≤ 70368744177000) (hb : ∀ y ∈ l, 0 ≤ y ∧ y ≤ 255) (a : Int) :
    ∃ r, Ev (fun n => spec_RecordRead.f n l a) r ∧ Ev (fun n => impl_RecordRead.f n l a) r ∧ ReadOk l a r := by
  have none_ok : ReadOk l a (0, ⟨#[]⟩, ⟨#[]⟩, 0, false) := ⟨fun _ => rfl, fun h => by cases h⟩
  have e0 : (⟨#[]⟩ : ByteArray).size = 0 := rfl
  obtain ⟨⟨kind, at1, ok1⟩, s1, i1, p1, p2⟩ := getNum l (by omega) hb a
  unfold spec_RecordRead.f impl_RecordRead.f impl_getter_num.f
  cases ok1 with
  | false =>
    obtain ⟨⟨u, at2, ok2⟩, s2, i2, _, _⟩ := getText l (by omega) hb a
    have hr := impl_rec 0 (⟨#[]⟩ : ByteArray) (⟨#[]⟩ : ByteArray) (by omega)
    refine ⟨_, Ev.bind s1 (Ev.neg (by simp) (Ev.now _)), ?_, none_ok⟩
    refine Ev.bind (Ev.bind i1 (Ev.neg (by simp) (Ev.neg (by simp) (Ev.now _)))) ?_
    unfold impl_getter_text.f
    exact Ev.bind (Ev.bind i2 (Ev.pos rfl (Ev.now _))) (Ev.neg (by simp) (Ev.bind hr (Ev.pos rfl (Ev.now _))))
  | true =>
    obtain ⟨q1, q2, q3, q4, q5⟩ := p2 rfl
    simp only at q1 q2 q4 q5
    obtain ⟨⟨u, at2, ok2⟩, s2, i2, p3, p4⟩ := getText l (by omega) hb at1
    have I1 : Ev (fun k => (impl_GetNum.f k l a).bind fun bt => if false = true then some (0, a, true) else if bt.2.2 = true then some (bt.1, bt.2.1, false) else some (0, a, true)) (kind, at1, false) :=
      Ev.bind i1 (Ev.neg (by simp) (Ev.pos rfl (Ev.now _)))
    unfold impl_getter_text.f
    cases ok2 with
    | false =>
      refine ⟨_, Ev.bind s1 (Ev.pos rfl (Ev.bind s2 (Ev.neg (by simp) (Ev.now _)))), ?_, none_ok⟩
      refine Ev.bind I1 (Ev.bind (a := ((⟨#[]⟩ : ByteArray), at1, true)) (Ev.bind i2 (Ev.neg (by simp) (Ev.neg (by simp) (Ev.now _)))) ?_)
      refine Ev.ite (fun hk => ?_) (fun hk => ?_)
      · refine Ev.bind (a := ((⟨#[]⟩ : ByteArray), at1, true)) (Ev.bind i2 (Ev.pos rfl (Ev.now _))) ?_
        exact Ev.bind (impl_rec kind (⟨#[]⟩ : ByteArray) (⟨#[]⟩ : ByteArray) (by omega)) (Ev.pos rfl (Ev.now _))
      · exact Ev.bind (impl_rec kind (⟨#[]⟩ : ByteArray) (⟨#[]⟩ : ByteArray) (by omega)) (Ev.pos rfl (Ev.now _))
    | true =>
      obtain ⟨t1, t2, t3, t4⟩ := p4 rfl
      simp only at t2 t3 t4
      have I2 : Ev (fun k => (impl_GetText.f k l at1).bind fun bt => if false = true then some ((⟨#[]⟩ : ByteArray), at1, true) else if bt.2.2 = true then some (bt.1, bt.2.1, false) else some ((⟨#[]⟩ : ByteArray), at1, true)) (u, at2, false) :=
        Ev.bind i2 (Ev.neg (by simp) (Ev.pos rfl (Ev.now _)))
      by_cases hk : kind = 1
      · obtain ⟨⟨b, at3, ok3⟩, s3, i3, p5, p6⟩ := getText l (by omega) hb at2
        cases ok3 with
        | false =>
          refine ⟨_, Ev.bind s1 (Ev.pos rfl (Ev.bind s2 (Ev.pos rfl (Ev.pos hk (Ev.bind s3 (Ev.neg (by simp) (Ev.now _))))))), ?_, none_ok⟩
          refine Ev.bind I1 (Ev.bind I2 (Ev.pos hk (Ev.bind (a := ((⟨#[]⟩ : ByteArray), at2, true)) (Ev.bind i3 (Ev.neg (by simp) (Ev.neg (by simp) (Ev.now _)))) ?_)))
          exact Ev.bind (impl_rec kind u (⟨#[]⟩ : ByteArray) (by omega)) (Ev.pos rfl (Ev.now _))
        | true =>
          obtain ⟨v1, v2, v3, v4⟩ := p6 rfl
          simp only at v2 v3 v4
          have hs := spec_rec kind u b (by omega)
          have hi := impl_rec kind u b (by omega)
          have I3 : Ev (fun k => (impl_GetText.f k l at2).bind fun bt => if false = true then some ((⟨#[]⟩ : ByteArray), at2, true) else if bt.2.2 = true then some (bt.1, bt.2.1, false) else some ((⟨#[]⟩ : ByteArray), at2, true)) (b, at3, false) :=
            Ev.bind i3 (Ev.neg (by simp) (Ev.pos rfl (Ev.now _)))
          by_cases hg : recRight kind u b = true
          · have hp : (recPacked kind u b).2 = true := by unfold recPacked; rw [if_pos hg]
            exact ⟨(kind, u, b, at3, true), Ev.bind s1 (Ev.pos rfl (Ev.bind s2 (Ev.pos rfl (Ev.pos hk (Ev.bind s3 (Ev.pos rfl (Ev.bind hs (Ev.pos hp (Ev.now _))))))))), Ev.bind I1 (Ev.bind I2 (Ev.pos hk (Ev.bind I3 (Ev.bind hi (Ev.neg (by simp) (Ev.pos hp (Ev.now _))))))), (fun h => by cases h), fun _ => ⟨q3, by simp only; omega, by simp only; omega, t4, v4, hg⟩⟩
          · have hp : ¬ (recPacked kind u b).2 = true := by unfold recPacked; rw [if_neg hg]; simp
            exact ⟨_, Ev.bind s1 (Ev.pos rfl (Ev.bind s2 (Ev.pos rfl (Ev.pos hk (Ev.bind s3 (Ev.pos rfl (Ev.bind hs (Ev.neg hp (Ev.now _))))))))), Ev.bind I1 (Ev.bind I2 (Ev.pos hk (Ev.bind I3 (Ev.bind hi (Ev.neg (by simp) (Ev.neg hp (Ev.now _))))))), none_ok⟩
      · have hs := spec_rec kind u (⟨#[]⟩ : ByteArray) (by omega)
        have hi := impl_rec kind u (⟨#[]⟩ : ByteArray) (by omega)
        by_cases hg : recRight kind u (⟨#[]⟩ : ByteArray) = true
        · have hp : (recPacked kind u (⟨#[]⟩ : ByteArray)).2 = true := by unfold recPacked; rw [if_pos hg]
          exact ⟨(kind, u, ⟨#[]⟩, at2, true), Ev.bind s1 (Ev.pos rfl (Ev.bind s2 (Ev.pos rfl (Ev.neg hk (Ev.bind hs (Ev.pos hp (Ev.now _))))))), Ev.bind I1 (Ev.bind I2 (Ev.neg hk (Ev.bind hi (Ev.neg (by simp) (Ev.pos hp (Ev.now _)))))), (fun h => by cases h), fun _ => ⟨q3, by simp only; omega, by simp only; omega, t4, by simp only; omega, hg⟩⟩
        · have hp : ¬ (recPacked kind u (⟨#[]⟩ : ByteArray)).2 = true := by unfold recPacked; rw [if_neg hg]; simp
          exact ⟨_, Ev.bind s1 (Ev.pos rfl (Ev.bind s2 (Ev.pos rfl (Ev.neg hk (Ev.bind hs (Ev.neg hp (Ev.now _))))))), Ev.bind I1 (Ev.bind I2 (Ev.neg hk (Ev.bind hi (Ev.neg (by simp) (Ev.neg hp (Ev.now _)))))), none_ok⟩
end Go.Proofs.Ytaakhgjlekllgaa.Pure
namespace Go.Proofs.Ytaakhgjlekllgaa.PIy
open Go.RowKit Go.Proofs.YtaakhgjlekllgaaW.PrintWords Go.Proofs.YtaakhgjlekllgaaW.PrintLast Go.Proofs.YtaakhgjlekllgaaW.PrintMore Go.Proofs.YtaakhgjlekllgaaX
attribute [local go_sem] max2_int min2_int max_two min_two max_three min_three max_four min_four   -- for this text's walks alone
set_option linter.unusedVariables false
set_option linter.unusedSimpArgs false
end Go.Proofs.Ytaakhgjlekllgaa.PIy
namespace Go.Proofs.Ytaakhgjlekllgaa.Pure
open Go.RowKit Go.Proofs.YtaakhgjlekllgaaX Go.Proofs.Ytaakhgjlekllgaa.PIy Go.Proofs.YtaakhgjlekllgaaW.PrintWords Go.Proofs.YtaakhgjlekllgaaW.PrintLast
theorem Ev.uniq {α : Type} {g : Nat → Option α} {a b : α} (h : Ev g a) (k : Ev g b) : a = b := by
  obtain ⟨K, hK⟩ := h
  obtain ⟨L, hL⟩ := k
  have h1 := hK (max K L) (Nat.le_max_left ..)
  rw [hL (max K L) (Nat.le_max_right ..)] at h1
  exact (Option.some.inj h1).symm
end Go.Proofs.Ytaakhgjlekllgaa.Pure
namespace Go.Proofs.Ytaakhgjlekllgaa.PIy
open Go.RowKit Go.Proofs.YtaakhgjlekllgaaW.PrintWords Go.Proofs.YtaakhgjlekllgaaW.PrintLast Go.Proofs.YtaakhgjlekllgaaW.PrintMore Go.Proofs.YtaakhgjlekllgaaX
attribute [local go_sem] max2_int min2_int max_two min_two max_three min_three max_four min_four   -- for this text's walks alone
set_option linter.unusedVariables false
set_option linter.unusedSimpArgs false
end Go.Proofs.Ytaakhgjlekllgaa.PIy
namespace Go.Proofs.Ytaakhgjlekllgaa.PIy
open Go.RowKit Go.Proofs.YtaakhgjlekllgaaW.PrintWords Go.Proofs.YtaakhgjlekllgaaW.PrintLast Go.Proofs.YtaakhgjlekllgaaW.PrintMore Go.Proofs.YtaakhgjlekllgaaX
attribute [local go_sem] max2_int min2_int max_two min_two max_three min_three max_four min_four   -- for this text's walks alone
set_option linter.unusedVariables false
set_option linter.unusedSimpArgs false
end Go.Proofs.Ytaakhgjlekllgaa.PIy
namespace Go.Proofs.Ytaakhgjlekllgaa.PIy
open Go.RowKit Go.Proofs.YtaakhgjlekllgaaW.PrintWords Go.Proofs.YtaakhgjlekllgaaW.PrintLast Go.Proofs.YtaakhgjlekllgaaW.PrintMore Go.Proofs.YtaakhgjlekllgaaX
attribute [local go_sem] max2_int min2_int max_two min_two max_three min_three max_four min_four   -- for this text's walks alone
set_option linter.unusedVariables false
set_option linter.unusedSimpArgs false
end Go.Proofs.Ytaakhgjlekllgaa.PIy
namespace Go.Proofs.Ytaakhgjlekllgaa.Pure
open Go.RowKit Go.Proofs.YtaakhgjlekllgaaX Go.Proofs.Ytaakhgjlekllgaa.PIy Go.Proofs.YtaakhgjlekllgaaW.PrintWords Go.Proofs.YtaakhgjlekllgaaW.PrintLast
theorem rdE_get (l : List S64) {i : Nat} (h : i < l.length) : rd_T64 l (i : Int) = l[i] := by simp [rd_T64, List.getD, h]
end Go.Proofs.Ytaakhgjlekllgaa.Pure
namespace Go.Proofs.Ytaakhgjlekllgaa.PIy
open Go.RowKit Go.Proofs.YtaakhgjlekllgaaW.PrintWords Go.Proofs.YtaakhgjlekllgaaW.PrintLast Go.Proofs.YtaakhgjlekllgaaW.PrintMore Go.Proofs.YtaakhgjlekllgaaX
attribute [local go_sem] max2_int min2_int max_two min_two max_three min_three max_four min_four   -- for this text's walks alone
set_option linter.unusedVariables false
set_option linter.unusedSimpArgs false
end Go.Proofs.Ytaakhgjlekllgaa.PIy
namespace Go.Proofs.Ytaakhgjlekllgaa.Pure
open Go.RowKit Go.Proofs.YtaakhgjlekllgaaX Go.Proofs.Ytaakhgjlekllgaa.PIy Go.Proofs.YtaakhgjlekllgaaW.PrintWords Go.Proofs.YtaakhgjlekllgaaW.PrintLast
theorem rdR_get (l : List S25) {i : Nat} (h : i < l.length) : rd_T25 l (i : Int) = l[i] := by simp [rd_T25, List.getD, h]
end Go.Proofs.Ytaakhgjlekllgaa.Pure
namespace Go.Proofs.Ytaakhgjlekllgaa.Pure
open Go.RowKit Go.Proofs.YtaakhgjlekllgaaX Go.Proofs.Ytaakhgjlekllgaa.PIy Go.Proofs.YtaakhgjlekllgaaW.PrintWords Go.Proofs.YtaakhgjlekllgaaW.PrintLast
theorem bl_irrefl : ∀ x : List UInt8, Op.bytesLess x x = false
  | [] => rfl
  | a :: x => by
    have := bl_irrefl x
    simp [Op.bytesLess, this]
theorem bl_trans : ∀ x y z : List UInt8, Op.bytesLess x y = true → Op.bytesLess y z = true → Op.bytesLess x z = true
  | _, [], _, h, _ => by simp [Op.bytesLess] at h
  | _, _ :: _, [], _, h => by simp [Op.bytesLess] at h
  | [], _ :: _, _ :: _, _, _ => rfl
  | a :: x, b :: y, c :: z, h, k => by
    have ih := bl_trans x y z
    simp only [Op.bytesLess, Bool.or_eq_true, Bool.and_eq_true, decide_eq_true_eq, beq_iff_eq, UInt8.lt_iff_toNat_lt] at h k ⊢
    rcases h with h | ⟨rfl, h⟩
    · rcases k with k | ⟨rfl, k⟩
      · exact .inl (by omega)
      · exact .inl h
    · rcases k with k | ⟨rfl, k⟩
      · exact .inl k
      · exact .inr ⟨rfl, ih h k⟩
theorem bl_tri : ∀ x y : List UInt8, Op.bytesLess x y = false → x ≠ y → Op.bytesLess y x = true
  | [], [], _, h => absurd rfl h
  | [], _ :: _, h, _ => by simp [Op.bytesLess] at h
  | _ :: _, [], _, _ => rfl
  | a :: x, b :: y, h, k => by
    have ih := bl_tri x y
    simp only [Op.bytesLess, Bool.or_eq_false_iff, decide_eq_false_iff_not, Bool.and_eq_false_iff, beq_eq_false_iff_ne, UInt8.lt_iff_toNat_lt] at h
    simp only [Op.bytesLess, Bool.or_eq_true, Bool.and_eq_true, decide_eq_true_eq, beq_iff_eq, UInt8.lt_iff_toNat_lt]
    by_cases e : a = b
    · subst e
      refine .inr ⟨rfl, ih ?_ (fun e => k (by rw [e]))⟩
      rcases h.2 with h2 | h2
      · exact absurd rfl h2
      · exact h2
    · have : a.toNat ≠ b.toNat := fun h => e (UInt8.toNat_inj.1 h)
      exact .inl (by omega)
def less (a b : ByteArray) : Bool := Op.bytesLess a.toList b.toList
theorem less_irrefl (a : ByteArray) : less a a = false := bl_irrefl _
theorem less_trans {a b c : ByteArray} (h : less a b = true) (k : less b c = true) : less a c = true := bl_trans _ _ _ h k
theorem less_tri {a b : ByteArray} (h : less a b = false) (k : a ≠ b) : less b a = true := bl_tri _ _ h (fun e => k (toList_inj.1 e))
def Asc (l : List S64) : Prop := l.Pairwise (fun x y => less x.f0 y.f0 = true)
def updS (u b : ByteArray) : Bool → List S64 → List S64
  | put, [] => if put = true then [] else [⟨u, b⟩]
  | put, e :: l => (if put = false ∧ less e.f0 u = false then [⟨u, b⟩] else []) ++ ((if e.f0 = u then [] else [e]) ++ updS u b (put || !less e.f0 u) l)
theorem updS_length (u b : ByteArray) : ∀ (put : Bool) (l : List S64), (updS u b put l).length ≤ l.length + (if put = true then 0 else 1)
  | true, [] => by simp [updS]
  | false, [] => by simp [updS]
  | put, e :: l => by
    have h := updS_length u b (put || !less e.f0 u) l
    unfold updS
    rw [List.length_append, List.length_append, List.length_cons]
    have h1 : (if e.f0 = u then ([] : List S64) else [e]).length ≤ 1 := by split <;> simp
    cases put with
    | true => simp at h ⊢; omega
    | false =>
      cases hl : less e.f0 u with
      | true => simp [hl] at h ⊢; omega
      | false => simp [hl] at h ⊢; omega
theorem updS_none (u b : ByteArray) : ∀ (l : List S64), (∀ e ∈ l, e.f0 ≠ u) → updS u b true l = l
  | [], _ => rfl
  | e :: l, h => by
    have ih := updS_none u b l (fun x hx => h x (List.mem_cons_of_mem _ hx))
    unfold updS
    rw [if_neg (h e (List.mem_cons_self ..))]
    simp [ih]
def atOf (u : ByteArray) (l : List S64) : Nat := (l.takeWhile (fun e => less e.f0 u)).length
def hasOf (u : ByteArray) (l : List S64) : Bool := match l.dropWhile (fun e => less e.f0 u) with | [] => false | e :: _ => e.f0.toList == u.toList
def updI (keep : Bool) (u b : ByteArray) (l : List S64) : List S64 :=
  l.takeWhile (fun e => less e.f0 u) ++ ((if keep = true then [⟨u, b⟩] else []) ++ (if hasOf u l = true then (l.dropWhile (fun e => less e.f0 u)).tail else l.dropWhile (fun e => less e.f0 u)))
theorem upd_same (keep : Bool) (u b : ByteArray) : ∀ (l : List S64), Asc l → updS u b (!keep) l = updI keep u b l
  | [], _ => by cases keep <;> rfl
  | e :: l, h => by
    have hl := (List.pairwise_cons.1 h).2
    have hd := (List.pairwise_cons.1 h).1
    have ih := upd_same keep u b l hl
    cases hle : less e.f0 u with
    | true =>
      have hne : e.f0 ≠ u := fun he => by rw [he, less_irrefl] at hle; cases hle
      unfold updS updI hasOf
      rw [List.takeWhile_cons_of_pos (by exact hle), List.dropWhile_cons_of_pos (by exact hle), if_neg hne, hle]
      unfold updI hasOf at ih
      simp only [Bool.not_true, Bool.or_false, ih]
      simp
    | false =>
      have hno : ∀ x ∈ l, x.f0 ≠ u := fun x hx he => by
        have := hd x hx
        rw [he, hle] at this
        cases this
      unfold updS updI hasOf
      rw [List.takeWhile_cons_of_neg (by simp [hle]), List.dropWhile_cons_of_neg (by simp [hle]), hle]
      simp only [Bool.not_false, Bool.or_true, updS_none u b l hno]
      by_cases he : e.f0 = u
      · subst he
        cases keep <;> simp
      · have : ¬ e.f0.toList = u.toList := fun h => he (toList_inj.1 h)
        cases keep <;> simp [he, this]
theorem updS_mem (u b : ByteArray) : ∀ (put : Bool) (l : List S64) (x : S64), x ∈ updS u b put l → x ∈ l ∨ x = ⟨u, b⟩
  | put, [], x, h => by
    unfold updS at h
    split at h
    · cases h
    · exact .inr (by simpa using h)
  | put, e :: l, x, h => by
    unfold updS at h
    rcases List.mem_append.1 h with h | h
    · split at h
      · exact .inr (by simpa using h)
      · cases h
    · rcases List.mem_append.1 h with h | h
      · split at h
        · cases h
        · exact .inl (by have : x = e := by simpa using h
                         rw [this]; exact List.mem_cons_self ..)
      · rcases updS_mem u b _ l x h with h | h
        · exact .inl (List.mem_cons_of_mem _ h)
        · exact .inr h
theorem upd_asc (u b : ByteArray) : ∀ (put : Bool) (l : List S64), Asc l → Asc (updS u b put l)
  | put, [], _ => by
    unfold updS
    split
    · exact List.Pairwise.nil
    · exact List.pairwise_singleton _ _
  | put, e :: l, h => by
    have hl := (List.pairwise_cons.1 h).2
    have hd := (List.pairwise_cons.1 h).1
    cases hle : less e.f0 u with
    | true =>
      have hne : e.f0 ≠ u := fun he => by rw [he, less_irrefl] at hle; cases hle
      have ih := upd_asc u b put l hl
      unfold updS
      rw [if_neg hne, hle]
      simp only [Bool.not_true, Bool.or_false]
      rw [if_neg (by simp)]
      refine List.pairwise_cons.2 ⟨fun x hx => ?_, ih⟩
      rcases updS_mem u b put l x hx with hx | rfl
      · exact hd x hx
      · exact hle
    | false =>
      have hno : ∀ x ∈ l, x.f0 ≠ u := fun x hx he => by
        have := hd x hx
        rw [he, hle] at this
        cases this
      have hul : ∀ x ∈ l, less u x.f0 = true := fun x hx => by
        by_cases he : e.f0 = u
        · rw [← he]; exact hd x hx
        · exact less_trans (less_tri hle he) (hd x hx)
      unfold updS
      rw [hle]
      simp only [Bool.not_false, Bool.or_true, updS_none u b l hno]
      by_cases he : e.f0 = u
      · rw [if_pos he, List.nil_append]
        split
        · exact List.pairwise_cons.2 ⟨hul, hl⟩
        · exact hl
      · rw [if_neg he]
        split
        · refine List.pairwise_cons.2 ⟨fun x hx => ?_, h⟩
          rcases List.mem_cons.1 (show x ∈ e :: l from hx) with rfl | hx
          · exact less_tri hle he
          · exact hul x hx
        · exact h
end Go.Proofs.Ytaakhgjlekllgaa.Pure
namespace Go.Proofs.Ytaakhgjlekllgaa.Pure
open Go.RowKit Go.Proofs.YtaakhgjlekllgaaX Go.Proofs.Ytaakhgjlekllgaa.PIy Go.Proofs.YtaakhgjlekllgaaW.PrintWords Go.Proofs.YtaakhgjlekllgaaW.PrintLast
theorem spec_l1_ (recs : List S25) (out : List S64) (i : Nat) (hi : i < recs.length) (hn : recs.length ≤ 1048576) (ho : out.length ≤ 1048576) (R : List S64) : ∀ (d j : Nat) (acc : List S64) (put : Bool), j + d = out.length → acc.length ≤ 2 * j + 1 →
    Ev (fun k => spec_IndexOf.l0 k recs (acc ++ updS recs[i].f1 recs[i].f2 put (out.drop j)) ((i + 1 : Nat) : Int)) R → Ev (fun k => spec_IndexOf.l1 k recs out (i : Int) acc put (j : Int)) R := by
  have hwi := Aside0.mk (show wrap64 ((i : Int) + 1) = ((i + 1 : Nat) : Int) from wrap_succ hi (by omega))
  intro d
  induction d with
  | zero =>
    intro j acc put hj ha h
    rw [List.drop_eq_nil_of_le (by omega)] at h
    refine Ev.step (fun k => spec_IndexOf.l1.eq_2 (k := k) ..) (Ev.neg (by omega) ?_)
    rw [hwi.out]
    cases put with
    | true =>
      rw [show updS recs[i].f1 recs[i].f2 true [] = [] from rfl, List.append_nil] at h
      exact Ev.pos rfl h
    | false =>
      refine Ev.neg (by simp) (Ev.pos (by omega) (Ev.pos (by omega) (Ev.pos (by omega) ?_)))
      rw [rdR_get recs hi]
      exact h
  | succ d ih =>
    intro j acc put hj ha h
    have hlt : j < out.length := by omega
    rw [List.drop_eq_getElem_cons hlt] at h
    have hwj := Aside0.mk (show wrap64 ((j : Int) + 1) = ((j + 1 : Nat) : Int) from wrap_succ hlt (by omega))
    refine Ev.step (fun k => spec_IndexOf.l1.eq_2 (k := k) ..) (Ev.pos (by omega) ?_)
    have tail : ∀ (acc' : List S64) (put' : Bool), acc'.length ≤ 2 * j + 2 → Ev (fun k => spec_IndexOf.l0 k recs (acc' ++ ((if out[j].f0 = recs[i].f1 then [] else [out[j]]) ++ updS recs[i].f1 recs[i].f2 put' (out.drop (j + 1)))) ((i + 1 : Nat) : Int)) R →
        Ev (fun k => if (rd_T64 out (j : Int)).f0.toList = (rd_T25 recs (i : Int)).f1.toList then spec_IndexOf.l1 k recs out (i : Int) acc' put' (wrap64 ((j : Int) + 1)) else if acc'.length < 4398046511104 then spec_IndexOf.l1 k recs out (i : Int) (acc' ++ [⟨(rd_T64 out (j : Int)).f0, (rd_T64 out (j : Int)).f1⟩]) put' (wrap64 ((j : Int) + 1)) else none) R := by
      intro acc' put' hl hh
      rw [rdE_get out hlt, rdR_get recs hi, hwj.out]
      by_cases he : out[j].f0 = recs[i].f1
      · rw [if_pos he, List.nil_append] at hh
        exact Ev.pos (by rw [he]) (ih (j + 1) acc' put' (by omega) (by omega) hh)
      · rw [if_neg he, ← List.append_assoc] at hh
        exact Ev.neg (fun h => he (toList_inj.1 h)) (Ev.pos (by omega) (ih (j + 1) (acc' ++ [out[j]]) put' (by omega) (by simp; omega) hh))
    unfold updS at h
    cases put with
    | true =>
      rw [if_neg (by simp), List.nil_append, Bool.true_or] at h
      refine Ev.pos rfl (Ev.step (fun k => spec_IndexOf.j2.eq_2 (k := k) ..) (Ev.neg (by simp) (Ev.pos (by omega) (Ev.pos (by omega) (Ev.pos (by omega) (Ev.pos (by omega) ?_))))))
      exact tail acc true (by omega) h
    | false =>
      refine Ev.neg (by simp) (Ev.pos (by omega) (Ev.pos (by omega) (Ev.pos (by omega) (Ev.step (fun k => spec_IndexOf.j2.eq_2 (k := k) ..) ?_))))
      have hless : Op.bytesLess ((rd_T64 out (j : Int)).f0).toList ((rd_T25 recs (i : Int)).f1).toList = less out[j].f0 recs[i].f1 := by rw [rdE_get out hlt, rdR_get recs hi]; rfl
      rw [hless]
      cases hle : less out[j].f0 recs[i].f1 with
      | true =>
        rw [hle, if_neg (by simp), List.nil_append] at h
        exact Ev.neg (by simp) (Ev.pos (by omega) (Ev.pos (by omega) (Ev.pos (by omega) (Ev.pos (by omega) (tail acc false (by omega) h)))))
      | false =>
        rw [hle, if_pos ⟨rfl, rfl⟩, ← List.append_assoc] at h
        refine Ev.pos rfl (Ev.pos (by omega) (Ev.pos (by omega) (Ev.pos (by omega) (Ev.known rfl (Ev.pos (by omega) (Ev.pos (by omega) ?_))))))
        have := tail (acc ++ [⟨recs[i].f1, recs[i].f2⟩]) true (by simp; omega) h
        rw [rdR_get recs hi] at this ⊢
        exact this
theorem entryAt_ (out : List S64) (u : ByteArray) (ho : out.length ≤ 1048576) : ∀ (d j : Nat), j + d = out.length → Ev (fun k => impl_entryAt.l0 k out u (j : Int)) (((j + atOf u (out.drop j) : Nat) : Int), hasOf u (out.drop j)) := by
  intro d
  induction d with
  | zero =>
    intro j hj
    rw [List.drop_eq_nil_of_le (by omega)]
    exact Ev.step (fun k => impl_entryAt.l0.eq_2 (k := k) ..) (Ev.neg (by omega) (Ev.now _))
  | succ d ih =>
    intro j hj
    have hlt : j < out.length := by omega
    have h := ih (j + 1) (by omega)
    rw [List.drop_eq_getElem_cons hlt]
    refine Ev.step (fun k => impl_entryAt.l0.eq_2 (k := k) ..) (Ev.pos (by omega) (Ev.pos (by omega) ?_))
    rw [rdE_get out hlt, wrap_succ hlt (by omega)]
    unfold atOf hasOf at h ⊢
    cases hle : less out[j].f0 u with
    | true =>
      rw [List.takeWhile_cons_of_pos (by exact hle), List.dropWhile_cons_of_pos (by exact hle), List.length_cons, show j + ((List.takeWhile (fun e => less e.f0 u) (out.drop (j + 1))).length + 1) = j + 1 + (List.takeWhile (fun e => less e.f0 u) (out.drop (j + 1))).length by omega]
      exact Ev.pos hle h
    | false =>
      rw [List.takeWhile_cons_of_neg (by simp [hle]), List.dropWhile_cons_of_neg (by simp [hle])]
      refine Ev.neg (by rw [show Op.bytesLess out[j].f0.toList u.toList = less out[j].f0 u from rfl, hle]; simp) (Ev.is ?_)
      simp
def stepI (out : List S64) (r : S25) : List S64 := updS r.f1 r.f2 (r.f0 != 1) out
theorem index_both (recs : List S25) (hn : recs.length ≤ 1048576) : ∀ (d i : Nat) (out : List S64), i + d = recs.length → out.length ≤ i → Asc out →
    ∃ R : List S64, Ev (fun k => spec_IndexOf.l0 k recs out (i : Int)) R ∧ Ev (fun k => impl_IndexOf.l0 k out recs (recs.length : Int) (i : Int)) R ∧ Asc R ∧ R.length ≤ recs.length ∧ R = (recs.drop i).foldl stepI out := by
  intro d
  induction d with
  | zero =>
    intro i out hi ho ha
    exact ⟨out, Ev.step (fun k => spec_IndexOf.l0.eq_2 (k := k) ..) (Ev.neg (by omega) (Ev.now _)), Ev.step (fun k => impl_IndexOf.l0.eq_2 (k := k) ..) (Ev.neg (by omega) (Ev.now _)), ha, by omega, by rw [List.drop_eq_nil_of_le (by omega)]; rfl⟩
  | succ d ih =>
    intro i out hi ho ha
    have hlt : i < recs.length := by omega
    have hw := Aside0.mk (show wrap64 ((i : Int) + 1) = ((i + 1 : Nat) : Int) from wrap_succ hlt (by omega))
    obtain ⟨keep, hk⟩ : ∃ keep : Bool, (recs[i].f0 != 1) = !keep := ⟨!(recs[i].f0 != 1), by simp⟩
    have hsame := upd_same keep recs[i].f1 recs[i].f2 out ha
    have hasc := upd_asc recs[i].f1 recs[i].f2 (!keep) out ha
    have hlen := updS_length recs[i].f1 recs[i].f2 (!keep) out
    have hlen2 : (updS recs[i].f1 recs[i].f2 (!keep) out).length ≤ i + 1 := by
      have : (if (!keep) = true then 0 else 1) ≤ 1 := by split <;> omega
      omega
    obtain ⟨R, r1, r2, r3, r4, r5⟩ := ih (i + 1) (updS recs[i].f1 recs[i].f2 (!keep) out) (by omega) hlen2 hasc
    refine ⟨R, ?_, ?_, r3, r4, by rw [r5, List.drop_eq_getElem_cons hlt, List.foldl_cons, stepI, hk]⟩
    · refine Ev.step (fun k => spec_IndexOf.l0.eq_2 (k := k) ..) (Ev.pos (by omega) (Ev.pos (by omega) ?_))
      rw [rdR_get recs hlt, hk]
      exact spec_l1_ recs out i hlt hn (by omega) R out.length 0 [] (!keep) (by omega) (by simp) (by rw [List.nil_append, List.drop_zero]; exact r1)
    · have hat := entryAt_ out recs[i].f1 (by omega) out.length 0 (by omega)
      rw [List.drop_zero, Nat.zero_add] at hat
      rw [hsame] at r2
      have hsplit : out.takeWhile (fun e => less e.f0 recs[i].f1) ++ out.dropWhile (fun e => less e.f0 recs[i].f1) = out := List.takeWhile_append_dropWhile
      have hatl : atOf recs[i].f1 out = (out.takeWhile (fun e => less e.f0 recs[i].f1)).length := rfl
      unfold updI at r2
      obtain ⟨pre, hpre⟩ : ∃ pre, pre = out.takeWhile (fun e => less e.f0 recs[i].f1) := ⟨_, rfl⟩
      obtain ⟨suf, hsuf⟩ : ∃ suf, suf = out.dropWhile (fun e => less e.f0 recs[i].f1) := ⟨_, rfl⟩
      have hhas : hasOf recs[i].f1 out = true → suf ≠ [] := fun h e => by
        unfold hasOf at h
        rw [← hsuf, e] at h
        cases h
      rw [← hpre, ← hsuf] at r2 hsplit
      rw [← hpre] at hatl
      have hlo : pre.length ≤ out.length := by rw [← hsplit, List.length_append]; omega
      have htk : out.take pre.length = pre := by rw [← hsplit, List.take_left]
      have hdk : out.drop pre.length = suf := by
        conv => lhs; rw [← hsplit]
        rw [List.drop_left]
      have hdk1 : out.drop (pre.length + 1) = suf.tail := by rw [← List.drop_drop, hdk, List.drop_one]
      have hwp := Aside0.mk (show wrap64 ((pre.length : Int) + 1) = (pre.length : Int) + 1 from wrap_id (by omega) (by omega))
      have ins : ∀ rest : List S64, (pre ++ rest).length ≤ 1048576 → keep = true → impl_Entry_89.f (pre ++ rest) (pre.length : Int) [⟨recs[i].f1, recs[i].f2⟩] = some (pre ++ ([⟨recs[i].f1, recs[i].f2⟩] ++ rest)) := fun rest hr _ => by
        unfold impl_Entry_89.f
        rw [if_pos ⟨by omega, by rw [List.length_append]; omega, rfl, by omega⟩, Int.toNat_natCast, List.take_left, List.drop_left]
      have fin : ∀ rest : List S64, (pre ++ rest).length ≤ 1048576 → Ev (fun k => impl_IndexOf.l0 k (pre ++ ((if keep = true then [⟨recs[i].f1, recs[i].f2⟩] else []) ++ rest)) recs (recs.length : Int) ((i + 1 : Nat) : Int)) R →
          Ev (fun k => if (rd_T25 recs (i : Int)).f0 = 1 then (impl_Entry_89.f (pre ++ rest) (pre.length : Int) [⟨(rd_T25 recs (i : Int)).f1, (rd_T25 recs (i : Int)).f2⟩]).bind fun t => impl_IndexOf.l0 k t recs (recs.length : Int) (wrap64 ((i : Int) + 1)) else impl_IndexOf.l0 k (pre ++ rest) recs (recs.length : Int) (wrap64 ((i : Int) + 1))) R := fun rest hr hh => by
        rw [rdR_get recs hlt, hw.out]
        cases keep with
        | true =>
          have h1 : recs[i].f0 = 1 := by simpa using hk
          rw [if_pos rfl] at hh
          exact Ev.pos h1 (Ev.known (ins rest hr rfl) hh)
        | false =>
          have h1 : ¬ recs[i].f0 = 1 := by simpa using hk
          rw [if_neg (by simp), List.nil_append] at hh
          exact Ev.neg h1 hh
      refine Ev.step (fun k => impl_IndexOf.l0.eq_2 (k := k) ..) (Ev.pos (by omega) (Ev.pos (by omega) (Ev.pos (by omega) ?_)))
      have hat2 : Ev (fun k => impl_entryAt.f k out (rd_T25 recs (i : Int)).f1) ((pre.length : Int), hasOf recs[i].f1 out) := by
        rw [rdR_get recs hlt, ← hatl]
        exact hat
      refine Ev.bind hat2 ?_
      cases hh : hasOf recs[i].f1 out with
      | true =>
        have hne := hhas hh
        have hplt : pre.length < out.length := by
          have : 0 < suf.length := List.length_pos_iff.2 hne
          rw [← hsplit, List.length_append]
          omega
        rw [hh, if_pos rfl] at r2
        have hdel : impl_Entry_88.f out (pre.length : Int) (wrap64 ((pre.length : Int) + 1)) = some (pre ++ suf.tail) := by
          unfold impl_Entry_88.f
          rw [if_pos ⟨by omega, by omega, hwp.out⟩, Int.toNat_natCast, htk, hdk1]
        refine Ev.pos rfl (Ev.known hdel (fin suf.tail ?_ r2))
        rw [List.length_append, List.length_tail]
        have : pre.length + suf.length = out.length := by rw [← hsplit, List.length_append]
        omega
      | false =>
        rw [hh] at r2
        simp only [Bool.false_eq_true, if_false] at r2
        refine Ev.neg (by simp) ?_
        have := fin suf (by rw [hsplit]; omega) r2
        rw [hsplit] at this
        exact this
theorem indexBoth (recs : List S25) (hn : recs.length ≤ 1048576) : ∃ R : List S64, Ev (fun k => spec_IndexOf.f k recs) R ∧ Ev (fun k => impl_IndexOf.f k recs) R ∧ Asc R ∧ R.length ≤ recs.length ∧ R = recs.foldl stepI [] :=
  index_both recs hn recs.length 0 [] (by omega) (by simp) List.Pairwise.nil
end Go.Proofs.Ytaakhgjlekllgaa.Pure
namespace Go.Proofs.Ytaakhgjlekllgaa.Pure
open Go.RowKit Go.Proofs.YtaakhgjlekllgaaX Go.Proofs.Ytaakhgjlekllgaa.PIy Go.Proofs.YtaakhgjlekllgaaW.PrintWords Go.Proofs.YtaakhgjlekllgaaW.PrintLast
def At (l : List Int) (a : Int) (form : List Int) (b : Int) : Prop := 0 ≤ a ∧ b = a + (form.length : Int) ∧ l.drop a.toNat = form ++ l.drop b.toNat
theorem At.split {l : List Int} {a c : Int} {f g : List Int} (h : At l a (f ++ g) c) : At l a f (a + (f.length : Int)) ∧ At l (a + (f.length : Int)) g c := by
  obtain ⟨h0, h1, h2⟩ := h
  have e : l.drop (a + (f.length : Int)).toNat = g ++ l.drop c.toNat := by
    rw [show (a + (f.length : Int)).toNat = a.toNat + f.length by omega, ← List.drop_drop, h2, List.append_assoc, List.drop_left]
  refine ⟨⟨h0, rfl, ?_⟩, by omega, ?_, e⟩
  · rw [e, h2, List.append_assoc]
  · rw [h1, List.length_append]; omega
theorem At.le {l : List Int} {a b : Int} {f : List Int} (h : At l a f b) (hf : f ≠ []) : b ≤ (l.length : Int) := by
  obtain ⟨h0, h1, h2⟩ := h
  have e := congrArg List.length h2
  rw [List.length_append, List.length_drop, List.length_drop] at e
  have : 0 < f.length := List.length_pos_iff.2 hf
  omega
theorem At.cut {l : List Int} {a b : Int} {f : List Int} (h : At l a f b) : (l.take b.toNat).drop a.toNat = f := by
  obtain ⟨h0, h1, h2⟩ := h
  rw [List.drop_take, h2, show b.toNat - a.toNat = f.length by omega, List.take_left]
theorem p128_succ (k : Nat) : p128 (k + 1) = 128 * p128 k := rfl
theorem num_step (l : List Int) (hl : l.length ≤ 140737488355328) (a k x v : Nat) (u : Int) (hk : k ≤ 8) (hx : x < p128 k) (hu : u = ((p128 k : Nat) : Int)) (hv2 : v ≤ 255) (hin : a + k < l.length) (hv : rd l ((a + k : Nat) : Int) = (v : Int)) (r : Int × Int × Bool)
    (h1 : v < 128 → v = 0 → 0 < k → r = ((0 : Int), (0 : Int), false)) (h2 : v < 128 → ¬ (v = 0 ∧ 0 < k) → r = (((x + v % 128 * p128 k : Nat) : Int), ((a + (k + 1) : Nat) : Int), true))
    (h3 : ¬ v < 128 → Ev (fun n => spec_GetNum.l0 n l (a : Int) ((x + v % 128 * p128 k : Nat) : Int) (wrap64 (u * 128)) ((k + 1 : Nat) : Int)) r) : Ev (fun n => spec_GetNum.l0 n l (a : Int) (x : Int) u (k : Int)) r := by
  have hw : Aside0 (wrap64 ((a : Int) + (k : Int)) = ((a + k : Nat) : Int)) := ⟨by rw [wrap_id (by omega) (by omega)]; omega⟩
  have hwv : Aside0 (wrap64 (v : Int) = (v : Int)) := ⟨wrap_id (by omega) (by omega)⟩
  obtain ⟨_, s2, _, _⟩ := get_step (k := k) (x := x) (d := v) hk hx hv2
  generalize hX : x + v % 128 * p128 k = X at s2 h2 h3
  have hX := Aside0.mk hX
  have S2 := Aside0.mk s2
  clear s2
  generalize hP : p128 k = P at hu hx S2
  have hP := Aside0.mk hP
  have hn : Aside0 (wrap64 (((a + k : Nat) : Int) + 1) = ((a + (k + 1) : Nat) : Int)) := ⟨by rw [wrap_id (by omega) (by omega)]; omega⟩
  have hk1 : Aside0 (wrap64 ((k : Int) + 1) = ((k + 1 : Nat) : Int)) := ⟨by rw [wrap_id (by omega) (by omega)]; omega⟩
  refine Ev.step (fun k => spec_GetNum.l0.eq_2 (k := k) ..) (Ev.pos (by omega) (Ev.step (fun k => spec_GetNum.j2.eq_2 (k := k) ..) ?_))
  rw [hw.out, hv, hwv.out, hu, S2.out, hn.out, hk1.out, ← hu]
  refine Ev.pos (by simp; omega) (Ev.pos (by omega) (Ev.pos (by omega) ?_))
  by_cases c1 : v < 128
  · refine Ev.pos (by omega) ?_
    by_cases c2 : v = 0
    · refine Ev.pos (by omega) ?_
      by_cases c3 : 0 < k
      · exact Ev.pos (by omega) (Ev.eq (Ev.now _) (h1 c1 c2 c3).symm)
      · exact Ev.neg (by omega) (Ev.eq (Ev.now _) (h2 c1 (by omega)).symm)
    · exact Ev.neg (by omega) (Ev.eq (Ev.now _) (h2 c1 (by omega)).symm)
  · exact Ev.neg (by omega) (h3 c1)
theorem unit_next {k : Nat} (hk : k + 1 ≤ 8) {u : Int} (hu : u = ((p128 k : Nat) : Int)) : wrap64 (u * 128) = ((p128 (k + 1) : Nat) : Int) := by
  have t4 := (pow_table ⟨k + 1, by omega⟩).2.2.2.1
  simp only at t4
  have e2 : u * 128 = ((p128 (k + 1) : Nat) : Int) := by
    rw [hu, p128_succ, Int.natCast_mul, Int.mul_comm]; rfl
  rw [e2, wrap_id (by omega) (by omega)]
theorem num_join {x y P v y' : Nat} (hv : v % 128 = y % 128) (hy : y' = y / 128) : x + v % 128 * P + y' * (128 * P) = x + y * P := by
  have : y = y % 128 + 128 * (y / 128) := by omega
  rw [hv, hy, ← Nat.mul_assoc, Nat.add_assoc, ← Nat.add_mul]
  congr 2
  omega
theorem drop_cons {l : List Int} {i : Nat} {v : Int} {t : List Int} (h : l.drop i = v :: t) : i < l.length ∧ rd l (i : Int) = v ∧ l.drop (i + 1) = t := by
  have hi : i < l.length := by
    rcases Nat.lt_or_ge i l.length with hi | hi
    · exact hi
    · rw [List.drop_eq_nil_of_le hi] at h; cases h
  rw [List.drop_eq_getElem_cons hi] at h
  injection h with h1 h2
  exact ⟨hi, by simp [rd, List.getD, hi, h1], h2⟩
theorem num_fwd (l : List Int) (hl : l.length ≤ 140737488355328) (rest : List Int) (a : Nat) : ∀ (d k x y : Nat) (u : Int), k + d = 9 → x < p128 k → (k ≤ 8 → u = ((p128 k : Nat) : Int)) → y < 128 ^ d → (k = 0 ∨ 0 < y) → l.drop (a + k) = numF (d + 1) y ++ rest →
    Ev (fun n => spec_GetNum.l0 n l (a : Int) (x : Int) u (k : Int)) (((x + y * p128 k : Nat) : Int), ((a + k + (numF (d + 1) y).length : Nat) : Int), true) := by
  intro d
  induction d with
  | zero =>
    intro k x y u hk hx hu hy h0
    have : y = 0 := by simpa using hy
    omega
  | succ d ih =>
    intro k x y u hk hx hu hy h0 hd
    have hu := hu (by omega)
    by_cases h127 : 127 < y
    · have e : numF (d + 1 + 1) y = ((y % 128 + 128 : Nat) : Int) :: numF (d + 1) (y / 128) := by rw [numF, if_pos h127]
      rw [e, List.cons_append] at hd
      obtain ⟨g1, g2, g3⟩ := drop_cons hd
      have hyd : y / 128 < 128 ^ d := by
        rw [Nat.div_lt_iff_lt_mul (by decide)]
        rwa [Nat.pow_succ] at hy
      have g4 := (get_step (k := k) (x := x) (d := y % 128 + 128) (by omega) hx (by omega)).2.2.1
      have hv : (y % 128 + 128) % 128 = y % 128 := by omega
      have hi := ih (k + 1) (x + (y % 128 + 128) % 128 * p128 k) (y / 128) (wrap64 (u * 128)) (by omega) g4 (fun h8 => unit_next h8 hu) hyd (.inr (by omega)) (by rw [show a + (k + 1) = a + k + 1 by omega]; exact g3)
      rw [p128_succ, num_join hv rfl] at hi
      refine num_step l hl a k x (y % 128 + 128) u (by omega) hx hu (by omega) g1 g2 _ (by omega) (by omega) (fun _ => ?_)
      rw [e, List.length_cons, show a + k + ((numF (d + 1) (y / 128)).length + 1) = a + (k + 1) + (numF (d + 1) (y / 128)).length by omega]
      exact hi
    · have e : numF (d + 1 + 1) y = [(y : Int)] := by rw [numF, if_neg h127]
      rw [e, List.singleton_append] at hd
      obtain ⟨g1, g2, g3⟩ := drop_cons hd
      refine num_step l hl a k x y u (by omega) hx hu (by omega) g1 g2 _ (by omega) (fun _ _ => ?_) (by omega)
      rw [e, List.length_singleton, Nat.mod_eq_of_lt (show y < 128 by omega)]
      rfl
theorem pow128 : (128 : Nat) ^ 9 = 9223372036854775808 := by decide
theorem getNum_fwd (l : List Int) (hl : l.length ≤ 140737488355328) {a b : Int} {y : Nat} (hy : y ≤ 9223372036854775807) (h : At l a (numForm y) b) : Ev (fun n => spec_GetNum.f n l a) ((y : Int), b, true) := by
  have hne : numForm y ≠ [] := fun e => by have := numF_pos 9 y; rw [show numF (9 + 1) y = numForm y from rfl, e] at this; simp at this
  have hle := h.le hne
  have hpos : 0 < (numForm y).length := List.length_pos_iff.2 hne
  obtain ⟨h0, h1, h2⟩ := h
  obtain ⟨n, rfl⟩ := Int.eq_ofNat_of_zero_le h0
  have := num_fwd l hl (l.drop b.toNat) n 9 0 0 y 1 (by omega) (by decide) (fun _ => rfl) (by rw [pow128]; omega) (.inl rfl) h2
  unfold spec_GetNum.f
  refine Ev.neg (by omega) (Ev.step (fun k => spec_GetNum.j0.eq_2 (k := k) ..) (Ev.neg (by simp; omega) (Ev.eq this ?_)))
  rw [h1]
  simp [p128, numForm]
theorem str_back (s : ByteArray) : strOfNums (bytesOf s) = s := by
  cases s with | mk s =>
  unfold strOfNums bytesOf
  congr 1
  rw [List.map_map]
  have : ((fun n : Int => UInt8.ofNat n.toNat) ∘ fun b : UInt8 => (b.toNat : Int)) = id := by
    funext b
    simp
  rw [this, List.map_id]
theorem getText_fwd (l : List Int) (hl : l.length ≤ 140737488355328) {a b : Int} {s : ByteArray} (h : At l a (textForm s) b) : Ev (fun n => spec_GetText.f n l a) (s, b, true) := by
  have hne : textForm s ≠ [] := fun e => by
    have := numF_pos 9 s.size
    have e2 := congrArg List.length e
    rw [textForm, List.length_append, show numForm s.size = numF (9 + 1) s.size from rfl] at e2
    simp only [List.length_nil] at e2
    omega
  have hle := h.le hne
  obtain ⟨h1, h2⟩ := At.split h
  have hlen := bytesOf_length s
  have hb := h2.2.1
  rw [hlen] at hb
  have hc := h2.cut
  have hn1 := h1.1
  obtain ⟨m, hm⟩ : ∃ m, a + ((numForm s.size).length : Int) = m := ⟨_, rfl⟩
  rw [hm] at h1 h2 hb hc
  have hm0 : 0 ≤ m := h2.1
  have hg := getNum_fwd l hl (y := s.size) (by omega) h1
  unfold spec_GetText.f
  have hw : wrap64 ((l.length : Int) - m) = (l.length : Int) - m := wrap_id (by omega) (by omega)
  have hw2 : wrap64 (m + (s.size : Int)) = b := by rw [wrap_id (by omega) (by omega), hb]
  refine Ev.bind hg (Ev.pos rfl (Ev.neg ?_ (Ev.pos ?_ (Ev.pos ?_ (Ev.pos ?_ (Ev.is ?_))))))
  · simp only; rw [hw]; omega
  · simp only; omega
  · simp only; rw [hw2]; omega
  · simp only; rw [hw2]; omega
  · simp only; rw [hw2, hc, str_back]
theorem recRight_kind {kind : Int} {u b : ByteArray} (h : recRight kind u b = true) : (kind = 1 ∨ kind = 2) ∧ (kind = 2 → b = ⟨#[]⟩) := by
  unfold recRight at h
  rw [Bool.and_eq_true, Bool.and_eq_true] at h
  obtain ⟨h1, _, h2⟩ := h
  refine ⟨by simpa using h1, fun hk => ?_⟩
  rw [hk] at h2
  have : b.toList = [] := by simpa using h2
  rw [toList_nil] at this
  cases b with | mk b =>
  congr 1
  exact Array.eq_empty_of_size_eq_zero this
theorem read_fwd (l : List Int) (hl : l.length ≤ 140737488354000) {a c : Int} {kind : Int} {u b : ByteArray} (hr : recRight kind u b = true) (hs : u.size + b.size ≤ 140737488354000) (h : At l a (recForm kind.toNat u b) c) : Ev (fun n => spec_RecordRead.f n l a) (kind, u, b, c, true) := by
  obtain ⟨hk, hk2⟩ := recRight_kind hr
  have hp : (recPacked kind u b).2 = true := by unfold recPacked; rw [if_pos hr]
  have hsp := spec_rec kind u b hs
  unfold recForm at h
  obtain ⟨h1, h2⟩ := At.split h
  obtain ⟨h1, h3⟩ := At.split h1
  have g1 := getNum_fwd l (by omega) (y := kind.toNat) (by omega) h1
  rw [Int.toNat_of_nonneg (by omega)] at g1
  have g2 := getText_fwd l (by omega) h3
  unfold spec_RecordRead.f
  rcases hk with rfl | rfl
  · have h2 : At l _ (textForm b) c := h2
    exact Ev.bind g1 (Ev.pos rfl (Ev.bind g2 (Ev.pos rfl (Ev.pos rfl (Ev.bind (getText_fwd l (by omega) h2) (Ev.pos rfl (Ev.bind hsp (Ev.pos hp (Ev.now _)))))))))
  · obtain rfl := hk2 rfl
    have h2 : At l _ ([] : List Int) c := h2
    have e := h2.2.1
    simp only [List.length_nil] at e
    have e : c = a + ((numForm (2 : Int).toNat ++ textForm u).length : Int) := by omega
    subst e
    exact Ev.bind g1 (Ev.pos rfl (Ev.bind g2 (Ev.pos rfl (Ev.neg (by simp) (Ev.bind hsp (Ev.pos hp (Ev.now _)))))))
end Go.Proofs.Ytaakhgjlekllgaa.Pure
namespace Go.Proofs.Ytaakhgjlekllgaa.Pure
open Go.RowKit Go.Proofs.YtaakhgjlekllgaaX Go.Proofs.Ytaakhgjlekllgaa.PIy Go.Proofs.YtaakhgjlekllgaaW.PrintWords Go.Proofs.YtaakhgjlekllgaaW.PrintLast
theorem and255 (x : Int) : 0 ≤ Go.bits .and .i64 x 255 ∧ Go.bits .and .i64 x 255 ≤ 255 := by
  unfold Go.bits
  have h : (BitVec.ofInt IntKind.i64.bits x &&& BitVec.ofInt IntKind.i64.bits 255).toNat ≤ 255 := by
    rw [BitVec.toNat_and]
    exact Nat.le_trans Nat.and_le_right (by decide)
  simp only
  generalize (BitVec.ofInt IntKind.i64.bits x &&& BitVec.ofInt IntKind.i64.bits 255).toNat = n at h
  rw [IntKind.wrap_i64]
  omega
section
variable (l : List Int) (hl : l.length ≤ 1048576)
include hl
theorem drawByte (p s : Int) (hp : 0 ≤ p) : ∃ v q t, spec_l1Byte.f l p s = some (v, q, t) ∧ 0 ≤ v ∧ v ≤ 255 ∧ 0 ≤ q := by
  unfold spec_l1Byte.f
  by_cases h : p < (l.length : Int)
  · rw [if_pos h, if_pos hp]
    refine ⟨_, _, _, rfl, (and255 _).1, (and255 _).2, ?_⟩
    rw [wrap_id (by omega) (by omega)]
    omega
  · rw [if_neg h]
    exact ⟨_, _, _, rfl, (and255 _).1, (and255 _).2, hp⟩
theorem drawBelow (p s n : Int) (hp : 0 ≤ p) (hn : 1 ≤ n) : ∃ v q t, spec_l1Below.f l p s n = some (v, q, t) ∧ 0 ≤ v ∧ v < n ∧ 0 ≤ q := by
  unfold spec_l1Below.f
  rw [if_neg (by omega)]
  have key : ∀ x : Int, 0 ≤ x → 0 ≤ Int.tmod x n ∧ Int.tmod x n < n := fun x hx => ⟨Int.tmod_nonneg n hx, Int.tmod_lt_of_pos x (by omega)⟩
  split
  · obtain ⟨v, q, t, e, h0, h1, h2⟩ := drawByte l hl p s hp
    rw [e]
    simp only [Option.bind_some]
    rw [if_neg (by omega)]
    exact ⟨_, _, _, rfl, (key v h0).1, (key v h0).2, h2⟩
  · obtain ⟨v1, q1, t1, e1, h10, h11, h12⟩ := drawByte l hl p s hp
    obtain ⟨v2, q2, t2, e2, h20, h21, h22⟩ := drawByte l hl q1 t1 h12
    obtain ⟨v3, q3, t3, e3, h30, h31, h32⟩ := drawByte l hl q2 t2 h22
    obtain ⟨v4, q4, t4, e4, h40, h41, h42⟩ := drawByte l hl q3 t3 h32
    rw [e1]; simp only [Option.bind_some]
    rw [e2]; simp only [Option.bind_some]
    rw [e3]; simp only [Option.bind_some]
    rw [e4]; simp only [Option.bind_some]
    rw [if_neg (by omega)]
    have w1 : wrap64 (v1 * 16777216) = v1 * 16777216 := wrap_id (by omega) (by omega)
    have w2 : wrap64 (v2 * 65536) = v2 * 65536 := wrap_id (by omega) (by omega)
    have w3 : wrap64 (v3 * 256) = v3 * 256 := wrap_id (by omega) (by omega)
    rw [w1, w2, w3]
    clear w1 w2 w3
    rw [wrap_id (x := v1 * 16777216 + v2 * 65536) (by omega) (by omega)]
    rw [wrap_id (x := v1 * 16777216 + v2 * 65536 + v3 * 256) (by omega) (by omega)]
    rw [wrap_id (x := v1 * 16777216 + v2 * 65536 + v3 * 256 + v4) (by omega) (by omega)]
    have := key (v1 * 16777216 + v2 * 65536 + v3 * 256 + v4) (by omega)
    exact ⟨_, _, _, rfl, this.1, this.2, h42⟩
theorem drawOnce (p s n : Int) (hp : 0 ≤ p) (hn : 1 ≤ n) : ∃ v q t, spec_l1Once.f l p s n = some (v, q, t) ∧ 0 ≤ q := by
  obtain ⟨v, q, t, e, _, _, h⟩ := drawBelow l hl p s n hp hn
  unfold spec_l1Once.f
  rw [e]
  exact ⟨_, _, _, rfl, h⟩
theorem drawNews : ∀ (d i : Nat) (s : Int), l.length ≤ i + d → ∃ t, Ev (fun k => spec_l1New.l0 k l s (i : Int)) (l, 0, t) := by
  intro d
  induction d with
  | zero => intro i s hi; exact ⟨_, Ev.step (fun k => spec_l1New.l0.eq_2 (k := k) ..) (Ev.neg (by omega) (Ev.now _))⟩
  | succ d ih =>
    intro i s hi
    by_cases h1 : i < l.length
    · by_cases h2 : i < 4000
      · obtain ⟨t, ht⟩ := ih (i + 1) (Go.bits .and .i64 (wrap64 ((wrap64 ((wrap64 (s * 131)) + (wrap64 (rd l (i : Int))))) + 7)) 1073741823) (by omega)
        refine ⟨t, Ev.step (fun k => spec_l1New.l0.eq_2 (k := k) ..) (Ev.pos (by omega) (Ev.pos (by omega) (Ev.pos (by omega) ?_)))⟩
        rw [wrap_succ h1 (by omega)]
        exact ht
      · exact ⟨_, Ev.step (fun k => spec_l1New.l0.eq_2 (k := k) ..) (Ev.pos (by omega) (Ev.neg (by omega) (Ev.now _)))⟩
    · exact ⟨_, Ev.step (fun k => spec_l1New.l0.eq_2 (k := k) ..) (Ev.neg (by omega) (Ev.now _))⟩
theorem drawNew : ∃ t, Ev (fun k => spec_l1New.f k l) (l, 0, t) := drawNews l hl l.length 0 _ (by omega)
end
end Go.Proofs.Ytaakhgjlekllgaa.Pure
namespace Go.Proofs.Ytaakhgjlekllgaa.Pure
open Go.RowKit Go.Proofs.YtaakhgjlekllgaaX Go.Proofs.Ytaakhgjlekllgaa.PIy Go.Proofs.YtaakhgjlekllgaaW.PrintWords Go.Proofs.YtaakhgjlekllgaaW.PrintLast
section
variable (l : List Int) (hl : l.length ≤ 1048576)
include hl
theorem drawPick (p s : Int) (r : List ByteArray) (hp : 0 ≤ p) (hr : 1 ≤ r.length) : ∃ v q t, spec_l1Pick.f l p s r = some (v, q, t) ∧ v ∈ r ∧ 0 ≤ q := by
  obtain ⟨v, q, t, e, h0, h1, h2⟩ := drawBelow l hl p s (r.length : Int) hp (by omega)
  unfold spec_l1Pick.f
  rw [e]
  simp only [Option.bind_some]
  rw [if_pos h0, if_pos h1]
  refine ⟨_, _, _, rfl, ?_, h2⟩
  unfold rdOf
  have : v.toNat < r.length := by omega
  simp [List.getD, this]
theorem drawPickInt (p s : Int) (r : List Int) (hp : 0 ≤ p) (hr : 1 ≤ r.length) : ∃ v q t, spec_l1PickInt.f l p s r = some (v, q, t) ∧ v ∈ r ∧ 0 ≤ q := by
  obtain ⟨v, q, t, e, h0, h1, h2⟩ := drawBelow l hl p s (r.length : Int) hp (by omega)
  unfold spec_l1PickInt.f
  rw [e]
  simp only [Option.bind_some]
  rw [if_pos h0, if_pos h1]
  refine ⟨_, _, _, rfl, ?_, h2⟩
  unfold rd
  have : v.toNat < r.length := by omega
  simp [List.getD, this]
def Bytes (r : List Int) : Prop := ∀ y ∈ r, 0 ≤ y ∧ y ≤ 255
theorem drawBytess (n : Int) (hn : n ≤ 1048576) : ∀ (d : Nat) (i : Nat) (acc : List Int) (p s : Int), n ≤ (i : Int) + d → acc.length = i → Bytes acc → 0 ≤ p → (i : Int) ≤ n → ∃ r q t, Ev (fun k => spec_l1DrawBytes.l0 k acc n (i : Int) l p s) (r, q, t) ∧ (r.length : Int) ≤ n ∧ Bytes r ∧ 0 ≤ q := by
  intro d
  induction d with
  | zero => intro i acc p s hi ha hb hp hle; exact ⟨_, _, _, Ev.step (fun k => spec_l1DrawBytes.l0.eq_2 (k := k) ..) (Ev.neg (by omega) (Ev.now _)), by omega, hb, hp⟩
  | succ d ih =>
    intro i acc p s hi ha hb hp hle
    by_cases h : (i : Int) < n
    · obtain ⟨v, q, t, e, h0, h1, h2⟩ := drawByte l hl p s hp
      obtain ⟨r, q', t', hr, h3, h4, h5⟩ := ih (i + 1) (acc ++ [v % 256]) q t (by omega) (by simp [ha]) (by
        intro y hy
        rcases List.mem_append.1 hy with hy | hy
        · exact hb y hy
        · have : y = v % 256 := by simpa using hy
          omega) h2 (by omega)
      refine ⟨r, q', t', Ev.step (fun k => spec_l1DrawBytes.l0.eq_2 (k := k) ..) (Ev.pos h (Ev.known e (Ev.pos (by omega) ?_))), h3, h4, h5⟩
      rw [wrap_succ (i := i) (n := 1048576) (by omega) (by omega)]
      exact hr
    · exact ⟨_, _, _, Ev.step (fun k => spec_l1DrawBytes.l0.eq_2 (k := k) ..) (Ev.neg h (Ev.now _)), by omega, hb, hp⟩
theorem drawBytes (p s n : Int) (hp : 0 ≤ p) (h0 : 0 ≤ n) (hn : n ≤ 1048576) : ∃ r q t, Ev (fun k => spec_l1DrawBytes.f k l p s n) (r, q, t) ∧ (r.length : Int) ≤ n ∧ Bytes r ∧ 0 ≤ q := by
  obtain ⟨v, q, t, e, e0, e1, e2⟩ := drawBelow l hl p s (wrap64 (n + 1)) hp (by rw [wrap_id (by omega) (by omega)]; omega)
  rw [wrap_id (x := n + 1) (by omega) (by omega)] at e1
  obtain ⟨r, q', t', hr, h3, h4, h5⟩ := drawBytess l hl v (by omega) v.toNat 0 [] q t (by omega) rfl (by intro y hy; cases hy) e2 (by omega)
  exact ⟨r, q', t', Ev.known e hr, by omega, h4, h5⟩
end
end Go.Proofs.Ytaakhgjlekllgaa.Pure
namespace Go.Proofs.Ytaakhgjlekllgaa.Pure
open Go.RowKit Go.Proofs.YtaakhgjlekllgaaX Go.Proofs.Ytaakhgjlekllgaa.PIy Go.Proofs.YtaakhgjlekllgaaW.PrintWords Go.Proofs.YtaakhgjlekllgaaW.PrintLast
section
variable (l : List Int) (hl : l.length ≤ 1048576)
include hl
theorem drawUrl (p s : Int) (hp : 0 ≤ p) : ∃ v q t, spec_l17DrawUrl.f l p s = some (v, q, t) ∧ v.size ≤ 61 ∧ 0 ≤ q := by
  obtain ⟨b, q, t, e, h⟩ := drawOnce l hl p s 15 hp (by omega)
  unfold spec_l17DrawUrl.f
  rw [e]
  simp only [Option.bind_some]
  split
  · obtain ⟨v, q', t', e', hv, h'⟩ := drawPick l hl q t ([(⟨#[]⟩ : ByteArray), (⟨#[97, 32, 98]⟩ : ByteArray), (⟨#[195, 169]⟩ : ByteArray), (⟨#[48, 49, 50, 51, 52, 53, 54, 55, 56, 57, 48, 49, 50, 51, 52, 53, 54, 55, 56, 57, 48, 49, 50, 51, 52, 53, 54, 55, 56, 57, 48, 49, 50, 51, 52, 53, 54, 55, 56, 57, 48, 49, 50, 51, 52, 53, 54, 55, 56, 57, 48, 49, 50, 51, 52, 53, 54, 55, 56, 57, 48]⟩ : ByteArray), (⟨#[48, 49, 50, 51, 52, 53, 54, 55, 56, 57, 48, 49, 50, 51, 52, 53, 54, 55, 56, 57, 48, 49, 50, 51, 52, 53, 54, 55, 56, 57, 48, 49, 50, 51, 52, 53, 54, 55, 56, 57, 48, 49, 50, 51, 52, 53, 54, 55, 56, 57, 48, 49, 50, 51, 52, 53, 54, 55, 56, 57]⟩ : ByteArray)] : List ByteArray) h (by decide)
    rw [e']
    refine ⟨v, q', t', rfl, ?_, h'⟩
    simp only [List.mem_cons, List.not_mem_nil, or_false] at hv
    rcases hv with rfl | rfl | rfl | rfl | rfl <;> decide
  · obtain ⟨v, q', t', e', hv, h'⟩ := drawPick l hl q t ([(⟨#[97]⟩ : ByteArray), (⟨#[98]⟩ : ByteArray), (⟨#[104, 116, 116, 112, 58, 47, 47, 120, 47]⟩ : ByteArray), (⟨#[99]⟩ : ByteArray), (⟨#[97, 98]⟩ : ByteArray)] : List ByteArray) h (by decide)
    rw [e']
    refine ⟨v, q', t', rfl, ?_, h'⟩
    simp only [List.mem_cons, List.not_mem_nil, or_false] at hv
    rcases hv with rfl | rfl | rfl | rfl | rfl <;> decide
theorem drawRecJ (p s kind : Int) (u b : ByteArray) (hp : 0 ≤ p) (hu : u.size ≤ 61) (hb : b.size ≤ 9) : ∃ kind' u' b' q t, Ev (fun k => spec_l17DrawRecord.j0 k l p s kind u b) (kind', u', b', q, t) ∧ u'.size ≤ 61 ∧ b'.size ≤ 9 ∧ 0 ≤ q := by
  obtain ⟨v, q, t, e, _, _, h⟩ := drawBelow l hl p s 20 hp (by omega)
  by_cases h0 : v = 0
  · obtain ⟨v2, q2, t2, e2, _, h2⟩ := drawPickInt l hl q t [0, 3] h (by decide)
    exact ⟨_, _, _, _, _, Ev.step (fun k => spec_l17DrawRecord.j0.eq_2 (k := k) ..) (Ev.known e (Ev.pos h0 (Ev.known e2 (Ev.now _)))), hu, hb, h2⟩
  · by_cases h1 : v = 1
    · exact ⟨_, _, _, _, _, Ev.step (fun k => spec_l17DrawRecord.j0.eq_2 (k := k) ..) (Ev.known e (Ev.neg h0 (Ev.pos h1 (Ev.now _)))), hu, by decide, h⟩
    · exact ⟨_, _, _, _, _, Ev.step (fun k => spec_l17DrawRecord.j0.eq_2 (k := k) ..) (Ev.known e (Ev.neg h0 (Ev.neg h1 (Ev.now _)))), hu, hb, h⟩
theorem drawRec (p s : Int) (hp : 0 ≤ p) : ∃ kind u b q t, Ev (fun k => spec_l17DrawRecord.f k l p s) (kind, u, b, q, t) ∧ u.size ≤ 61 ∧ b.size ≤ 9 ∧ 0 ≤ q := by
  obtain ⟨v, q, t, e, _, _, h⟩ := drawBelow l hl p s 2 hp (by omega)
  obtain ⟨u, q2, t2, e2, hu, h2⟩ := drawUrl l hl q t h
  unfold spec_l17DrawRecord.f
  by_cases hk : wrap64 (1 + v) = 1
  · obtain ⟨r, q3, t3, e3, hr, _, h3⟩ := drawBytes l hl q2 t2 9 h2 (by omega) (by omega)
    obtain ⟨k', u', b', q4, t4, e4, z⟩ := drawRecJ l hl q3 t3 (wrap64 (1 + v)) u (strOfNums r) h3 hu (by rw [strOfNums_size]; omega)
    exact ⟨k', u', b', q4, t4, Ev.known e (Ev.known e2 (Ev.pos hk (Ev.bind e3 e4))), z⟩
  · obtain ⟨k', u', b', q4, t4, e4, z⟩ := drawRecJ l hl q2 t2 (wrap64 (1 + v)) u (⟨#[]⟩ : ByteArray) h2 hu (by decide)
    exact ⟨k', u', b', q4, t4, Ev.known e (Ev.known e2 (Ev.neg hk e4)), z⟩
def Small (x : S25) : Prop := x.f1.size ≤ 61 ∧ x.f2.size ≤ 9
theorem drawLists : ∀ (d i : Nat) (acc : List S25) (p s : Int), i + d = 9 → acc.length = i → (∀ x ∈ acc, Small x) → 0 ≤ p → ∃ r q t, Ev (fun k => spec_l17DrawList.l0 k acc (i : Int) l p s) (r, q, t) ∧ r.length ≤ 9 ∧ (∀ x ∈ r, Small x) ∧ 0 ≤ q := by
  intro d
  induction d with
  | zero =>
    intro i acc p s hi ha hs hp
    obtain ⟨v, q, t, e, _, h1, h⟩ := drawBelow l hl p s 9 hp (by omega)
    exact ⟨_, _, _, Ev.step (fun k => spec_l17DrawList.l0.eq_2 (k := k) ..) (Ev.known e (Ev.neg (by omega) (Ev.now _))), by omega, hs, h⟩
  | succ d ih =>
    intro i acc p s hi ha hs hp
    obtain ⟨v, q, t, e, _, h1, h⟩ := drawBelow l hl p s 9 hp (by omega)
    by_cases hv : (i : Int) < v
    · obtain ⟨kind, u, b, q2, t2, e2, hu, hb, h2⟩ := drawRec l hl q t h
      obtain ⟨r, q3, t3, e3, z⟩ := ih (i + 1) (acc ++ [⟨kind, u, b⟩]) q2 t2 (by omega) (by simp [ha]) (by
        intro x hx
        rcases List.mem_append.1 hx with hx | hx
        · exact hs x hx
        · have : x = ⟨kind, u, b⟩ := by simpa using hx
          subst this
          exact ⟨hu, hb⟩) h2
      refine ⟨r, q3, t3, Ev.step (fun k => spec_l17DrawList.l0.eq_2 (k := k) ..) (Ev.known e (Ev.pos hv (Ev.bind e2 (Ev.pos (by omega) ?_)))), z⟩
      rw [wrap_succ (i := i) (n := 100) (by omega) (by omega)]
      exact e3
    · exact ⟨_, _, _, Ev.step (fun k => spec_l17DrawList.l0.eq_2 (k := k) ..) (Ev.known e (Ev.neg hv (Ev.now _))), by omega, hs, h⟩
theorem drawList (p s : Int) (hp : 0 ≤ p) : ∃ r q t, Ev (fun k => spec_l17DrawList.f k l p s) (r, q, t) ∧ r.length ≤ 9 ∧ (∀ x ∈ r, Small x) ∧ 0 ≤ q := drawLists l hl 9 0 [] p s (by omega) rfl (by intro x hx; cases hx) hp
end
end Go.Proofs.Ytaakhgjlekllgaa.Pure
namespace Go.Proofs.Ytaakhgjlekllgaa.Pure
open Go.RowKit Go.Proofs.YtaakhgjlekllgaaX Go.Proofs.Ytaakhgjlekllgaa.PIy Go.Proofs.YtaakhgjlekllgaaW.PrintWords Go.Proofs.YtaakhgjlekllgaaW.PrintLast
def look (u : ByteArray) : List S64 → Option ByteArray
  | [] => none
  | e :: l => if e.f0 = u then some e.f1 else look u l
theorem look_other {u v b : ByteArray} (hne : v ≠ u) : ∀ (put : Bool) (l : List S64), look v (updS u b put l) = look v l
  | put, [] => by
    have : ¬ u = v := fun h => hne h.symm
    unfold updS
    split <;> simp [look, this]
  | put, e :: l => by
    have ih := look_other (b := b) hne (put || !less e.f0 u) l
    have hn : ¬ u = v := fun h => hne h.symm
    unfold updS
    have key : look v ((if e.f0 = u then [] else [e]) ++ updS u b (put || !less e.f0 u) l) = look v (e :: l) := by
      by_cases he : e.f0 = u
      · rw [if_pos he, List.nil_append, ih, look, if_neg (by rw [he]; exact hn)]
      · rw [if_neg he, List.singleton_append, look, look, ih]
    split
    · rw [List.singleton_append, look, if_neg hn, key]
    · rw [List.nil_append, key]
theorem look_none (u b : ByteArray) : ∀ (l : List S64), look u (updS u b true l) = none
  | [] => rfl
  | e :: l => by
    have ih := look_none u b l
    unfold updS
    rw [if_neg (by simp), List.nil_append, Bool.true_or]
    by_cases he : e.f0 = u
    · rw [if_pos he, List.nil_append, ih]
    · rw [if_neg he, List.singleton_append, look, if_neg he, ih]
theorem look_new (u b : ByteArray) : ∀ (l : List S64), look u (updS u b false l) = some b
  | [] => by simp [updS, look]
  | e :: l => by
    have ih := look_new u b l
    unfold updS
    cases hle : less e.f0 u with
    | false => rw [if_pos ⟨rfl, rfl⟩, List.singleton_append, look, if_pos rfl]
    | true =>
      rw [if_neg (by simp), List.nil_append, Bool.not_true, Bool.or_false]
      by_cases he : e.f0 = u
      · rw [if_pos he, List.nil_append, ih]
      · rw [if_neg he, List.singleton_append, look, if_neg he, ih]
def lastR (u : ByteArray) : List S25 → Option S25
  | [] => none
  | r :: l => match lastR u l with | some x => some x | none => if r.f1 = u then some r else none
def told (r : S25) : Option ByteArray := if r.f0 = 1 then some r.f2 else none
theorem look_fold (u : ByteArray) : ∀ (rs : List S25) (out : List S64), look u (rs.foldl stepI out) = match lastR u rs with | some r => told r | none => look u out
  | [], out => rfl
  | r :: rs, out => by
    have ih := look_fold u rs (stepI out r)
    rw [List.foldl_cons, ih, lastR]
    cases hl : lastR u rs with
    | some x => rfl
    | none =>
      simp only
      by_cases he : r.f1 = u
      · rw [if_pos he]
        unfold stepI told
        subst he
        by_cases h1 : r.f0 = 1
        · simp only [h1, bne_self_eq_false, if_true]
          exact look_new ..
        · have : (r.f0 != 1) = true := by simpa using h1
          rw [this]
          show _ = (if r.f0 = 1 then some r.f2 else none)
          rw [if_neg h1]
          exact look_none ..
      · rw [if_neg he]
        exact look_other (fun h => he h.symm) ..
theorem lastR_drop (u : ByteArray) (rs : List S25) : ∀ (i : Nat) (x : S25), lastR u (rs.drop i) = some x → lastR u rs = some x := by
  induction rs with
  | nil => intro i x h; simp [lastR] at h
  | cons r l ih =>
    intro i x h
    cases i with
    | zero => exact h
    | succ i =>
      rw [lastR, ih i x h]
theorem find_is (l : List S64) (u : ByteArray) (hn : l.length ≤ 1048576) : Ev (fun k => impl_IndexFind.f k l u) (match look u l with | some b => (b, true) | none => ((⟨#[]⟩ : ByteArray), false)) := by
  have key : ∀ i, i ≤ l.length → Ev (fun k => impl_IndexFind.l0 k u l (l.length : Int) (i : Int)) (match look u (l.drop i) with | some b => (b, true) | none => ((⟨#[]⟩ : ByteArray), false)) := by
    refine down (L := fun k i => impl_IndexFind.l0 k u l (l.length : Int) (i : Int)) (R := fun i => match look u (l.drop i) with | some b => (b, true) | none => ((⟨#[]⟩ : ByteArray), false)) ?_ ?_
    · rw [List.drop_eq_nil_of_le (by omega)]
      exact Ev.step (fun k => impl_IndexFind.l0.eq_2 (k := k) ..) (Ev.neg (by omega) (Ev.now _))
    · intro i hi ih
      rw [List.drop_eq_getElem_cons hi, look]
      refine Ev.step (fun k => impl_IndexFind.l0.eq_2 (k := k) ..) (Ev.pos (by omega) (Ev.pos (by omega) (Ev.pos (by omega) ?_)))
      rw [rdE_get l hi, wrap_succ hi (by omega)]
      by_cases he : l[i].f0 = u
      · rw [if_pos he]
        exact Ev.pos (by rw [he]) (Ev.now _)
      · rw [if_neg he]
        exact Ev.neg (fun h => he (toList_inj.1 h)) ih
  have := key 0 (by omega)
  rw [List.drop_zero] at this
  exact this
theorem same_is (l : List S64) (hn : l.length ≤ 1048576) : Ev (fun k => laws_sameEntries.f k l l) true := by
  have key : ∀ i, i ≤ l.length → Ev (fun k => laws_sameEntries.l0 k l l (i : Int)) true := by
    refine down (L := fun k i => laws_sameEntries.l0 k l l (i : Int)) (R := fun _ => true) ?_ ?_
    · exact Ev.step (fun k => laws_sameEntries.l0.eq_2 (k := k) ..) (Ev.neg (by omega) (Ev.now _))
    · intro i hi ih
      refine Ev.step (fun k => laws_sameEntries.l0.eq_2 (k := k) ..) (Ev.pos (by omega) (Ev.pos (by omega) (Ev.pos (by omega) (Ev.neg (by simp) ?_))))
      rw [wrap_succ hi (by omega)]
      exact ih
  exact Ev.pos rfl (key 0 (by omega))
def asRec (e : S64) : S25 := ⟨1, e.f0, e.f1⟩
theorem upd_end (u b : ByteArray) : ∀ (l : List S64), (∀ e ∈ l, less e.f0 u = true) → updS u b false l = l ++ [⟨u, b⟩]
  | [], _ => rfl
  | e :: l, h => by
    have hle := h e (List.mem_cons_self ..)
    have ih := upd_end u b l (fun x hx => h x (List.mem_cons_of_mem _ hx))
    have hne : e.f0 ≠ u := fun he => by rw [he, less_irrefl] at hle; cases hle
    unfold updS
    rw [hle, if_neg (by simp), if_neg hne, Bool.not_true, Bool.or_false, ih]
    rfl
theorem fold_own : ∀ (l pre : List S64), Asc (pre ++ l) → (l.map asRec).foldl stepI pre = pre ++ l
  | [], pre, _ => by simp
  | e :: l, pre, h => by
    have hs : stepI pre (asRec e) = pre ++ [e] := by
      unfold stepI asRec
      refine upd_end e.f0 e.f1 pre (fun x hx => ?_)
      exact (List.pairwise_append.1 h).2.2 x hx e (List.mem_cons_self ..)
    rw [List.map_cons, List.foldl_cons, hs, fold_own l (pre ++ [e]) (by rw [List.append_assoc]; exact h), List.append_assoc]
    rfl
def SmallE (e : S64) : Prop := e.f0.size ≤ 61 ∧ e.f1.size ≤ 9
theorem fold_small : ∀ (rs : List S25) (out : List S64), (∀ r ∈ rs, Small r) → (∀ e ∈ out, SmallE e) → ∀ e ∈ rs.foldl stepI out, SmallE e
  | [], _, _, h => h
  | r :: rs, out, hr, h => by
    rw [List.foldl_cons]
    refine fold_small rs _ (fun x hx => hr x (List.mem_cons_of_mem _ hx)) (fun e he => ?_)
    rcases updS_mem r.f1 r.f2 _ out e he with he | rfl
    · exact h e he
    · exact hr r (List.mem_cons_self ..)
def flatE (l : List S64) : List Int := l.flatMap fun e => recForm 1 e.f0 e.f1
theorem flatE_length : ∀ (l : List S64), (∀ e ∈ l, SmallE e) → (flatE l).length ≤ 100 * l.length
  | [], _ => by simp [flatE]
  | e :: l, h => by
    have ih := flatE_length l (fun x hx => h x (List.mem_cons_of_mem _ hx))
    have h1 := recForm_length 1 e.f0 e.f1
    have h2 := (h e (List.mem_cons_self ..)).1
    have h3 := (h e (List.mem_cons_self ..)).2
    unfold flatE at ih ⊢
    rw [List.flatMap_cons, List.length_append, List.length_cons]
    omega
theorem pack_is (l : List S64) (hn : l.length ≤ 100) (hs : ∀ e ∈ l, SmallE e) : ∀ (d i : Nat), i + d = l.length → ∃ r : List Int × Bool, Ev (fun k => impl_IndexPack.l0 k (flatE (l.take i)) l (l.length : Int) (i : Int)) r ∧ (r.2 = true → r.1 = flatE l ∧ ∀ e ∈ l.drop i, recRight 1 e.f0 e.f1 = true) ∧ (r.2 = false → r.1 = []) := by
  intro d
  induction d with
  | zero =>
    intro i hi
    refine ⟨_, Ev.step (fun k => impl_IndexPack.l0.eq_2 (k := k) ..) (Ev.neg (by omega) (Ev.now _)), fun _ => ⟨by rw [List.take_of_length_le (by omega)], fun e he => ?_⟩, fun h => by cases h⟩
    rw [List.drop_eq_nil_of_le (by omega)] at he
    cases he
  | succ d ih =>
    intro i hi
    have hlt : i < l.length := by omega
    have hsm := hs _ (List.getElem_mem hlt)
    have hs1 := hsm.1
    have hs2 := hsm.2
    have hp := impl_rec 1 l[i].f0 l[i].f1 (by omega)
    have hfl : flatE (l.take (i + 1)) = flatE (l.take i) ++ recForm 1 l[i].f0 l[i].f1 := by
      unfold flatE
      rw [List.take_succ_eq_append_getElem hlt, List.flatMap_append, List.flatMap_singleton]
    have hl1 := flatE_length (l.take (i + 1)) (fun e he => hs e (List.mem_of_mem_take he))
    rw [hfl, List.length_append, List.length_take] at hl1
    by_cases hg : recRight 1 l[i].f0 l[i].f1 = true
    · have hpk : recPacked 1 l[i].f0 l[i].f1 = (recForm 1 l[i].f0 l[i].f1, true) := by unfold recPacked; rw [if_pos hg]; rfl
      rw [hpk] at hp
      obtain ⟨r, h1, h2, h3⟩ := ih (i + 1) (by omega)
      refine ⟨r, Ev.step (fun k => impl_IndexPack.l0.eq_2 (k := k) ..) (Ev.pos (by omega) (Ev.pos (by omega) (Ev.pos (by omega) ?_))), fun h => ⟨(h2 h).1, fun e he => ?_⟩, h3⟩
      · rw [rdE_get l hlt, wrap_succ hlt (by omega)]
        refine Ev.bind hp (Ev.pos rfl (Ev.pos (by simp only; omega) ?_))
        rw [hfl] at h1
        exact h1
      · rw [List.drop_eq_getElem_cons hlt] at he
        rcases List.mem_cons.1 he with rfl | he
        · exact hg
        · exact (h2 h).2 e he
    · have hpk : recPacked 1 l[i].f0 l[i].f1 = ([], false) := by unfold recPacked; rw [if_neg hg]
      rw [hpk] at hp
      refine ⟨([], false), Ev.step (fun k => impl_IndexPack.l0.eq_2 (k := k) ..) (Ev.pos (by omega) (Ev.pos (by omega) (Ev.pos (by omega) ?_))), (fun h => by cases h), fun _ => rfl⟩
      rw [rdE_get l hlt]
      exact Ev.bind hp (Ev.neg (by simp) (Ev.now _))
theorem flatE_range (l : List S64) : ∀ y ∈ flatE l, 0 ≤ y ∧ y ≤ 255 := by
  intro y hy
  unfold flatE at hy
  obtain ⟨e, _, hy⟩ := List.mem_flatMap.1 hy
  unfold recForm at hy
  rcases List.mem_append.1 hy with hy | hy
  · rcases List.mem_append.1 hy with hy | hy
    · exact numForm_range _ y hy
    · exact textForm_range _ y hy
  · rw [if_pos rfl] at hy
    exact textForm_range _ y hy
theorem read_is (l : List S64) (hn : l.length ≤ 100) (hs : ∀ e ∈ l, SmallE e) (hr : ∀ e ∈ l, recRight 1 e.f0 e.f1 = true) : ∀ (d i : Nat), i + d = l.length → Ev (fun k => impl_Records.l0 k (flatE l) ((l.take i).map asRec) ((flatE (l.take i)).length : Int)) (l.map asRec, true) := by
  have hL := flatE_length l hs
  intro d
  induction d with
  | zero =>
    intro i hi
    rw [List.take_of_length_le (by omega)]
    exact Ev.step (fun k => impl_Records.l0.eq_2 (k := k) ..) (Ev.neg (by omega) (Ev.now _))
  | succ d ih =>
    intro i hi
    have hlt : i < l.length := by omega
    have hsm := hs _ (List.getElem_mem hlt)
    have hs1 := hsm.1
    have hs2 := hsm.2
    have hfl : flatE (l.take (i + 1)) = flatE (l.take i) ++ recForm 1 l[i].f0 l[i].f1 := by
      unfold flatE
      rw [List.take_succ_eq_append_getElem hlt, List.flatMap_append, List.flatMap_singleton]
    have hall : flatE l = flatE (l.take i) ++ (recForm 1 l[i].f0 l[i].f1 ++ flatE (l.drop (i + 1))) := by
      conv => lhs; rw [← List.take_append_drop i l, List.drop_eq_getElem_cons hlt]
      unfold flatE
      rw [List.flatMap_append, List.flatMap_cons]
    have hat : At (flatE l) ((flatE (l.take i)).length : Int) (recForm (1 : Int).toNat l[i].f0 l[i].f1) ((flatE (l.take (i + 1))).length : Int) := by
      refine ⟨by omega, by rw [hfl, List.length_append]; simp, ?_⟩
      rw [Int.toNat_natCast, Int.toNat_natCast, hfl, List.length_append]
      conv => lhs; rw [hall]
      rw [List.drop_left]
      congr 1
      rw [hall, ← List.append_assoc, ← List.length_append, List.drop_left]
    have hle := At.le hat (by
      intro e
      have := congrArg List.length e
      unfold recForm at this
      rw [List.length_append, List.length_append] at this
      have := numF_pos 9 1
      rw [show numForm (1 : Int).toNat = numF (9 + 1) 1 from rfl] at *
      simp only [List.length_nil] at *
      omega)
    have hf := read_fwd (flatE l) (by omega) (hr _ (List.getElem_mem hlt)) (by omega) hat
    obtain ⟨r, h1, h2, _, h3⟩ := readBoth (flatE l) (by omega) (flatE_range l) ((flatE (l.take i)).length : Int)
    obtain rfl := Ev.uniq h1 hf
    have hlt2 := (h3 rfl).2.1
    simp only at hlt2
    refine Ev.step (fun k => impl_Records.l0.eq_2 (k := k) ..) (Ev.pos (by omega) (Ev.bind h2 (Ev.pos rfl (Ev.pos (by simp; omega) ?_))))
    have := ih (i + 1) (by omega)
    rw [List.take_succ_eq_append_getElem hlt, List.map_append] at this
    rw [← List.take_succ_eq_append_getElem hlt] at this
    exact this
theorem law_l1 (recs : List S25) (hn : recs.length ≤ 9) (hsm : ∀ r ∈ recs, Small r) (idx : List S64) (hidx : idx = recs.foldl stepI []) (hlen : idx.length ≤ recs.length) (hasc : Asc idx) : ∀ i, i ≤ recs.length → Ev (fun k => laws_FnIndex.l1 k recs idx (i : Int)) true := by
  refine down (L := fun k i => laws_FnIndex.l1 k recs idx (i : Int)) (R := fun _ => true) ?_ ?_
  · have hse : ∀ e ∈ idx, SmallE e := by rw [hidx]; exact fold_small recs [] hsm (by intro e he; cases he)
    obtain ⟨⟨b, ok⟩, h1, h2, h3⟩ := pack_is idx (by omega) hse idx.length 0 (by omega)
    have h1 : Ev (fun k => impl_IndexPack.f k idx) (b, ok) := h1
    refine Ev.step (fun k => laws_FnIndex.l1.eq_2 (k := k) ..) (Ev.neg (by omega) (Ev.bind h1 ?_))
    cases ok with
    | false =>
      obtain rfl : b = [] := h3 rfl
      have : Ev (fun k => impl_Records.f k []) ([], true) := Ev.step (fun k => impl_Records.l0.eq_2 (k := k) ..) (Ev.neg (by simp) (Ev.now _))
      exact Ev.bind this (Ev.neg (by simp) (Ev.now _))
    | true =>
      obtain ⟨hb, hr⟩ := h2 rfl
      simp only at hb
      subst hb
      rw [List.drop_zero] at hr
      have hrd : Ev (fun k => impl_Records.f k (flatE idx)) (idx.map asRec, true) := read_is idx (by omega) hse hr idx.length 0 (by omega)
      obtain ⟨R, _, g2, _, _, g5⟩ := indexBoth (idx.map asRec) (by simp; omega)
      rw [fold_own idx [] hasc, List.nil_append] at g5
      subst g5
      exact Ev.bind hrd (Ev.pos rfl (Ev.pos rfl (Ev.bind g2 (Ev.bind (same_is R (by omega)) (Ev.now _)))))
  · intro i hi ih
    refine Ev.step (fun k => laws_FnIndex.l1.eq_2 (k := k) ..) (Ev.pos (by omega) ?_)
    have key : ∀ (d j lst : Nat) (hl : lst < recs.length), j + d = recs.length → (lastR recs[i].f1 (recs.drop i) = match lastR recs[i].f1 (recs.drop j) with | some r => some r | none => some recs[lst]) →
        Ev (fun k => laws_FnIndex.l2 k recs idx (i : Int) (lst : Int) (j : Int)) true := by
      intro d
      induction d with
      | zero =>
        intro j lst hl hj hlast
        rw [List.drop_eq_nil_of_le (show recs.length ≤ j by omega)] at hlast
        simp only [lastR] at hlast
        have hall := lastR_drop _ _ _ _ hlast
        have hlook : look recs[i].f1 idx = told recs[lst] := by rw [hidx, look_fold, hall]
        have hfind := find_is idx recs[i].f1 (by omega)
        rw [hlook] at hfind
        refine Ev.step (fun k => laws_FnIndex.l2.eq_2 (k := k) ..) (Ev.neg (by omega) (Ev.pos (by omega) (Ev.pos (by omega) ?_)))
        rw [rdR_get recs hi, rdR_get recs hl, wrap_succ hi (by omega)]
        refine Ev.bind hfind (Ev.pos (by omega) (Ev.pos (by omega) ?_))
        unfold told
        by_cases h1 : recs[lst].f0 = 1
        · rw [if_pos h1]
          exact Ev.neg (by simp [h1]) (Ev.pos rfl (Ev.pos rfl ih))
        · rw [if_neg h1]
          exact Ev.neg (by simp [h1]) (Ev.neg (by simp) ih)
      | succ d ihd =>
        intro j lst hl hj hlast
        have hjl : j < recs.length := by omega
        rw [List.drop_eq_getElem_cons hjl, lastR] at hlast
        refine Ev.step (fun k => laws_FnIndex.l2.eq_2 (k := k) ..) (Ev.pos (by omega) (Ev.pos (by omega) (Ev.pos (by omega) (Ev.pos (by omega) ?_))))
        rw [rdR_get recs hi, rdR_get recs hjl, wrap_succ hjl (by omega)]
        by_cases he : recs[j].f1 = recs[i].f1
        · refine Ev.pos (by rw [he]) (ihd (j + 1) j hjl (by omega) ?_)
          rw [hlast, if_pos he]
          cases lastR recs[i].f1 (recs.drop (j + 1)) <;> rfl
        · refine Ev.neg (fun h => he (toList_inj.1 h)) (ihd (j + 1) lst hl (by omega) ?_)
          rw [hlast, if_neg he]
          cases lastR recs[i].f1 (recs.drop (j + 1)) <;> rfl
    refine key (recs.length - i) i i hi (by omega) ?_
    rw [List.drop_eq_getElem_cons hi, lastR]
    cases lastR recs[i].f1 (recs.drop (i + 1)) with
    | some x => rfl
    | none => simp
theorem law_l0 (recs : List S25) (hn : recs.length ≤ 9) (hsm : ∀ r ∈ recs, Small r) (idx : List S64) (hidx : idx = recs.foldl stepI []) (hlen : idx.length ≤ recs.length) (hasc : Asc idx) : ∀ i, i ≤ idx.length → Ev (fun k => laws_FnIndex.l0 k recs idx (i : Int)) true := by
  refine down (L := fun k i => laws_FnIndex.l0 k recs idx (i : Int)) (R := fun _ => true) ?_ ?_
  · exact Ev.step (fun k => laws_FnIndex.l0.eq_2 (k := k) ..) (Ev.neg (by omega) (law_l1 recs hn hsm idx hidx hlen hasc 0 (by omega)))
  · intro i hi ih
    refine Ev.step (fun k => laws_FnIndex.l0.eq_2 (k := k) ..) (Ev.pos (by omega) ?_)
    rw [wrap_succ hi (by omega)]
    by_cases h0 : (i : Int) > 0
    · obtain ⟨j, rfl⟩ : ∃ j, i = j + 1 := ⟨i - 1, by omega⟩
      have hw : wrap64 (((j + 1 : Nat) : Int) - 1) = (j : Int) := by rw [wrap_id (by omega) (by omega)]; omega
      rw [hw]
      refine Ev.pos h0 (Ev.pos (by omega) (Ev.pos (by omega) (Ev.pos (by omega) ?_)))
      rw [rdE_get idx (show j < idx.length by omega), rdE_get idx hi]
      have hlt : less idx[j].f0 idx[j + 1].f0 = true := List.pairwise_iff_getElem.1 hasc j (j + 1) (by omega) hi (by omega)
      exact Ev.pos hlt ih
    · exact Ev.neg h0 ih
theorem FnIndex : laws_FnIndex.Pure := by
  intro l _ _ _
  refine Ev.rounds (r := true) ?_
  show Ev (fun k => laws_FnIndex.f k l) true
  unfold laws_FnIndex.f
  refine Ev.known rfl ?_
  by_cases hbig : (l.length : Int) > 1048576
  · exact Ev.pos (by simpa using hbig) (Ev.now _)
  refine Ev.neg (by simpa using hbig) ?_
  have hl : l.length ≤ 1048576 := by omega
  obtain ⟨t, e⟩ := drawNew l hl
  obtain ⟨recs, q, t1, e1, h1, h2, _⟩ := drawList l hl 0 t (by omega)
  have hd : Ev (fun k => spec_DrawIndexOf.f k l) recs := Ev.bind e (Ev.bind e1 (Ev.now _))
  obtain ⟨R, g1, g2, g3, g4, g5⟩ := indexBoth recs (by omega)
  exact Ev.bind hd (Ev.bind g2 (Ev.bind g1 (Ev.bind (same_is R (by omega)) (Ev.pos rfl (law_l0 recs h1 h2 R g5 g4 g3 0 (by omega))))))
end Go.Proofs.Ytaakhgjlekllgaa.Pure
namespace Go.Proofs.Ytaakhgjlekllgaa.fnIndex
open Go.ChangeShapes Go.WideShapes Go.ChangeAt Go.RowKit
open Go.ChangeMaps (open_string shut_string)
set_option linter.unusedVariables false
theorem own : ownKnob Try.prog.godebug = none := by kernel_rfl
theorem laidOut : laidOutB Try.prog = true := by kernel_rfl
def IsRow (k : IntKind) (w : World) (a : Option Addr) (len cap : Nat) (zs : List Int) : Prop :=
  (a = none ∧ len = 0 ∧ cap = 0 ∧ zs = []) ∨
  ∃ x, a = some x ∧ len ≤ cap ∧ cap ≤ maxLen ∧ zs.length = cap ∧ (∀ i, i < zs.length → w.cell? (x.add i) = some (.int k (zs.getD i 0))) ∧ ∀ n ∈ zs, (Lit.int k n).wf = true
set_option maxRecDepth 100000 in
theorem lifted (os : Os) (started : os.Started) (H : Type) (enc : TypeId × Value → H) :
    ReturnsInHanded {} Try.checked os 7 .any (Rows.fnIndexSpec.pre6 enc Try.prog Try.f7 Rows.fnIndexRow.domain false) (Rows.fnIndexSpec.post enc Try.prog Try.f7 false true false false) := by
  refine returnsInHanded_of_change_sized (C := Try.checked) own started (by kernel_rfl) Try.func7
    (ChangeSpec.witness6 (enc := enc) (C := Try.checked) false ⟨#[], #[.slice none 0 0], []⟩ 8 (by kernel_rfl) (by kernel_rfl) (by kernel_rfl) (by kernel_rfl)) ?_
  intro W base args ds gs before hval0 hW hcnd hsz0 _
  have hsz : (DataW.weightsEach Try.prog (Try.f7.params.toList ++ Rows.fnIndexSpec.plain.varTypes Try.prog) (ds ++ gs)).all (· ≤ reachBytes) = true := hsz0
  have hval : ∀ (j : Nat) t v, Try.f7.params[j]? = some t → args[j]? = some v → Value.okWide Try.prog W .any base t v := hval0
  have hW' := hW
  obtain ⟨p, q, hA0, hV, rfl, hfz, hnd⟩ := hW
  have hA : DataW.TrodAll enc Try.prog W 0 (fun _ => true) true Try.f7.params.toList args.toList ds p := hA0
  rw [Try.params7] at hA hval hsz
  obtain ⟨v0, vs0, d0, ds0, p0, q0, hargs, rfl, rfl, h0, r0⟩ := trodAll_cons hA
  obtain ⟨rfl, rfl, rfl⟩ := trodAll_nil r0
  obtain rfl : args = #[v0] := by cases args; simp_all
  obtain ⟨rfl, rfl⟩ := trodVars_none hV
  obtain ⟨a0, len0, cap0, rfl⟩ := okWide_slice Try.underlying22 (hval 0 22 v0 rfl rfl)
  have k0 := h0
  have lt0 : ∀ x ∈ p0, x.block < W.heap.size := by obtain ⟨m, hm⟩ := k0; exact DataW.trod_lt m _ _ _ hm
  obtain ⟨z0, w0⟩ : ∃ zs, IsRow .u8 W a0 len0 cap0 zs := by
    obtain ⟨fuel, hf⟩ := h0
    rcases open_ints Try.underlying22 Try.underlying5 (by kernel_rfl) hf with ⟨hcs, _⟩ | ⟨x, l, c, zs, hcs, _, hl, hm, hz, _, hcell, hwz⟩
    · simp [Value.cells] at hcs
      obtain ⟨rfl, rfl, rfl⟩ := hcs
      exact ⟨[], .inl ⟨rfl, rfl, rfl, rfl⟩⟩
    · simp [Value.cells] at hcs
      obtain ⟨rfl, rfl, rfl⟩ := hcs
      exact ⟨zs, .inr ⟨_, rfl, hl, hm, by simpa using hz, hcell, hwz⟩⟩
  have y0 : len0 * 1 ≤ 140737488351232 := Go.Proofs.YtaakhgjlekllgaaW.PrintWords.sized_ints hsz (j := 0) (t := 22) rfl rfl Try.underlying22 Try.underlying5 (by kernel_rfl) (by kernel_rfl) h0
  clear hA0 hval0 hsz0 hsz
  refine (PIy.laws_FnIndex.walk Pure.FnIndex a0 len0 cap0 z0 W w0 y0).mono fun e W' ⟨he, bel⟩ => ?_
  subst he
  exact ⟨_, rfl, _, _, _, [], _, [], hW', trodAll_mk1 (shut_bool Try.underlying4 _), (trodAll_cons_mk (Below.trod laidOut (by kernel_rfl) (of_decide_eq_true (by kernel_rfl)) k0 bel lt0) trodAll_mk0), rfl, bel.frame _, fun h => by cases h⟩
theorem over : Rows.fnIndexRow.holds Try.pinned (OpenSpec.ofChange Rows.fnIndexSpec) :=
  OpenClaim.holds_of_wide 7 Try.f7 rfl rfl rfl rfl rfl rfl rfl ⟨rfl, rfl, rfl, rfl, rfl⟩ rfl rfl rfl rfl rfl (by kernel_rfl) Try.func7 (by kernel_rfl)
    (of_decide_eq_true (by kernel_rfl)) (by unfold Func.isWrapper; first | (rw [if_pos (by decide +kernel)]; kernel_rfl) | (rw [if_neg (by decide +kernel)]; exact ⟨rfl, rfl⟩))
    (fun os started H enc _ => lifted os started H enc)
theorem proved : Rows.FnIndexSaid := over
#print axioms proved
end Go.Proofs.Ytaakhgjlekllgaa.fnIndex
namespace Go.Proofs.Ytaakhgjlekllgaa
theorem fnIndex_holds : Rows.FnIndexSaid := fnIndex.proved
end Go.Proofs.Ytaakhgjlekllgaa
