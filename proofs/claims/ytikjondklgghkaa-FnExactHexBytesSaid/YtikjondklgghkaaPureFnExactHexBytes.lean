/-
The program's HexBytes answers what the reference's answers, for every text.
No condition beyond the row's own.
-/
import Derived.Test.YtikjondklgghkaaPFnExactHexBytesx2
import Derived.Test.YtikjondklgghkaaXPure
namespace Go.Proofs.Ytikjondklgghkaa.Pure
open Go.RowKit Go.Proofs.YtikjondklgghkaaX Go.Proofs.Ytikjondklgghkaa.PFnExactHexBytes Go.Proofs.YtikjondklgghkaaW.PrintWords Go.Proofs.YtikjondklgghkaaW.PrintLast

def hexV (c : Int) : Int := if 48 ≤ c ∧ c ≤ 57 then c - 48 else if 97 ≤ c ∧ c ≤ 102 then c - 87 else -1
theorem hexV_range (c : Int) : -1 ≤ hexV c ∧ hexV c ≤ 15 := by
  unfold hexV
  split
  · omega
  · split <;> omega
theorem hex_in (a b c : Int) : spec_l1In.f a b c = some (decide (b ≤ a ∧ a ≤ c)) := by
  unfold spec_l1In.f
  by_cases h : a ≥ b
  · rw [if_pos h]; by_cases h2 : a ≤ c
    · simp [h2, show b ≤ a from h]
    · simp [h2]
  · rw [if_neg h]; simp [show ¬ b ≤ a from h]
theorem hex_spec {c : Int} (h0 : 0 ≤ c) (h1 : c ≤ 255) : Ev (fun k => spec_l20Value.f k c) (hexV c) := by
  have hw : ∀ x : Int, -1000 ≤ x → x ≤ 1000 → wrap64 x = x := fun x a b => wrap_id (by omega) (by omega)
  have key : ¬ (65 ≤ c ∧ c ≤ 70) → Ev (fun k => spec_DigitOf.f k (wrap64 c) 16) (hexV c) := by
    intro h
    rw [hw c (by omega) (by omega)]
    unfold spec_DigitOf.f
    refine Ev.neg (by omega) (Ev.step (fun k => spec_DigitOf.j0.eq_2 (k := k) ..) (Ev.neg (by simp) (Ev.known (hex_in c 48 57) ?_)))
    by_cases d : 48 ≤ c ∧ c ≤ 57
    · refine Ev.pos (by simpa using d) (Ev.is ?_)
      rw [hw _ (by omega) (by omega), hexV, if_pos d]
    · refine Ev.neg (by simpa using d) (Ev.pos rfl (Ev.known (hex_in c 65 70) ?_))
      refine Ev.step (fun k => spec_DigitOf.j1.eq_2 (k := k) ..) (Ev.neg (by simpa using h) (Ev.pos rfl (Ev.known (hex_in c 97 102) ?_)))
      by_cases e : 97 ≤ c ∧ c ≤ 102
      · refine Ev.pos (by simpa using e) (Ev.is ?_)
        rw [hw (c - 97) (by omega) (by omega), hw _ (by omega) (by omega), hexV, if_neg d, if_pos e]
        congr 1; omega
      · exact Ev.neg (by simpa using e) (Ev.is (by rw [hexV, if_neg d, if_neg e]))
  unfold spec_l20Value.f
  by_cases h : c ≥ 65
  · by_cases h2 : c ≤ 70
    · refine Ev.pos h (Ev.pos h2 (Ev.is ?_))
      rw [hexV, if_neg (by omega), if_neg (by omega)]
    · exact Ev.pos h (Ev.neg h2 (Ev.bind (key (by omega)) (Ev.now _)))
  · exact Ev.neg h (Ev.bind (key (by omega)) (Ev.now _))
theorem hex_table : ∀ n : Fin 256, Lib.indexByte [48, 49, 50, 51, 52, 53, 54, 55, 56, 57, 97, 98, 99, 100, 101, 102] n.val.toUInt8 = hexV n.val := by decide +kernel
theorem hex_impl {c : Int} (h0 : 0 ≤ c) (h1 : c ≤ 255) : strings_IndexByte.f (⟨#[48, 49, 50, 51, 52, 53, 54, 55, 56, 57, 97, 98, 99, 100, 101, 102]⟩ : ByteArray) c = some (hexV c) := by
  unfold strings_IndexByte.f
  have := hex_table ⟨c.toNat, by omega⟩
  simp only at this
  rw [this, Int.toNat_of_nonneg h0]
theorem hex_bits : ∀ a b : Fin 16, (Go.bits .or .i64 (wrap64 ((a.val : Int) * 16)) (b.val : Int)) % 256 = (wrap64 ((wrap64 (16 * (a.val : Int))) + (b.val : Int))) % 256 := by decide +kernel

theorem hex_loops (s : ByteArray) (hn : s.size ≤ 6000) : ∀ (d i : Nat) (acc : List Int), i + 2 * d = s.size → acc.length ≤ i →
    ∃ r, Ev (fun k => spec_HexBytes.l0 k s acc (i : Int)) r ∧ Ev (fun k => impl_HexBytes.l0 k s acc (i : Int)) r := by
  intro d
  induction d with
  | zero =>
    intro i acc hi ha
    exact ⟨_, Ev.step (fun k => spec_HexBytes.l0.eq_2 (k := k) ..) (Ev.neg (by omega) (Ev.now _)), Ev.step (fun k => impl_HexBytes.l0.eq_2 (k := k) ..) (Ev.neg (by omega) (Ev.now _))⟩
  | succ d ih =>
    intro i acc hi ha
    have w1 : wrap64 ((i : Int) + 1) = ((i + 1 : Nat) : Int) := wrap_succ (n := s.size) (by omega) (by omega)
    have w2 : wrap64 ((i : Int) + 2) = ((i + 2 : Nat) : Int) := by unfold wrap64; omega
    obtain ⟨a0, a1⟩ := bt_range s (i : Int)
    obtain ⟨b0, b1⟩ := bt_range s ((i + 1 : Nat) : Int)
    have ra := hexV_range (bt s (i : Int))
    have rb := hexV_range (bt s ((i + 1 : Nat) : Int))
    have spec : ∀ r, (hexV (bt s (i : Int)) < 0 ∨ hexV (bt s ((i + 1 : Nat) : Int)) < 0 → r = ((⟨#[]⟩ : ByteArray), false)) →
        (0 ≤ hexV (bt s (i : Int)) → 0 ≤ hexV (bt s ((i + 1 : Nat) : Int)) → Ev (fun k => spec_HexBytes.l0 k s (acc ++ [(wrap64 ((wrap64 (16 * hexV (bt s (i : Int)))) + hexV (bt s ((i + 1 : Nat) : Int)))) % 256]) ((i + 2 : Nat) : Int)) r) →
        Ev (fun k => spec_HexBytes.l0 k s acc (i : Int)) r := by
      intro r h1 h2
      refine Ev.step (fun k => spec_HexBytes.l0.eq_2 (k := k) ..) (Ev.pos (by omega) (Ev.pos (by omega) (Ev.bind (hex_spec a0 a1) ?_)))
      rw [w1, w2]
      refine Ev.pos (by omega) (Ev.pos (by omega) (Ev.bind (hex_spec b0 b1) ?_))
      by_cases ha' : hexV (bt s (i : Int)) < 0
      · exact Ev.pos ha' (Ev.eq (Ev.now _) (h1 (.inl ha')).symm)
      · by_cases hb' : hexV (bt s ((i + 1 : Nat) : Int)) < 0
        · exact Ev.neg ha' (Ev.pos hb' (Ev.eq (Ev.now _) (h1 (.inr hb')).symm))
        · exact Ev.neg ha' (Ev.neg hb' (Ev.pos (by omega) (h2 (by omega) (by omega))))
    have impl : ∀ r, (hexV (bt s (i : Int)) < 0 ∨ hexV (bt s ((i + 1 : Nat) : Int)) < 0 → r = ((⟨#[]⟩ : ByteArray), false)) →
        (0 ≤ hexV (bt s (i : Int)) → 0 ≤ hexV (bt s ((i + 1 : Nat) : Int)) → Ev (fun k => impl_HexBytes.l0 k s (acc ++ [(Go.bits .or .i64 (wrap64 (hexV (bt s (i : Int)) * 16)) (hexV (bt s ((i + 1 : Nat) : Int)))) % 256]) ((i + 2 : Nat) : Int)) r) →
        Ev (fun k => impl_HexBytes.l0 k s acc (i : Int)) r := by
      intro r h1 h2
      refine Ev.step (fun k => impl_HexBytes.l0.eq_2 (k := k) ..) (Ev.pos (by omega) (Ev.pos (by omega) (Ev.known (hex_impl a0 a1) ?_)))
      rw [w1, w2]
      refine Ev.pos (by omega) (Ev.pos (by omega) (Ev.known (hex_impl b0 b1) ?_))
      by_cases ha' : hexV (bt s (i : Int)) < 0
      · exact Ev.pos ha' (Ev.eq (Ev.now _) (h1 (.inl ha')).symm)
      · by_cases hb' : hexV (bt s ((i + 1 : Nat) : Int)) < 0
        · exact Ev.neg ha' (Ev.pos hb' (Ev.eq (Ev.now _) (h1 (.inr hb')).symm))
        · exact Ev.neg ha' (Ev.neg hb' (Ev.pos (by omega) (h2 (by omega) (by omega))))
    by_cases hbad : hexV (bt s (i : Int)) < 0 ∨ hexV (bt s ((i + 1 : Nat) : Int)) < 0
    · exact ⟨_, spec _ (fun _ => rfl) (fun x y => by omega), impl _ (fun _ => rfl) (fun x y => by omega)⟩
    · have hb := hex_bits ⟨(hexV (bt s (i : Int))).toNat, by omega⟩ ⟨(hexV (bt s ((i + 1 : Nat) : Int))).toNat, by omega⟩
      simp only [Int.toNat_of_nonneg (show 0 ≤ hexV (bt s (i : Int)) by omega), Int.toNat_of_nonneg (show 0 ≤ hexV (bt s ((i + 1 : Nat) : Int)) by omega)] at hb
      obtain ⟨r, h1, h2⟩ := ih (i + 2) (acc ++ [(wrap64 ((wrap64 (16 * hexV (bt s (i : Int)))) + hexV (bt s ((i + 1 : Nat) : Int)))) % 256]) (by omega) (by simp; omega)
      refine ⟨r, spec r (fun h => absurd h hbad) (fun _ _ => h1), impl r (fun h => absurd h hbad) (fun _ _ => ?_)⟩
      rw [hb]
      exact h2

theorem hex_both (s : ByteArray) : ∃ r, Ev (fun k => spec_HexBytes.f k s) r ∧ Ev (fun k => impl_HexBytes.f k s) r := by
  unfold spec_HexBytes.f impl_HexBytes.f
  simp only [Option.bind_some]
  by_cases h : ((s.size : Int) % 2) = 1
  · exact ⟨_, Ev.pos h (Ev.step (fun k => spec_HexBytes.j0.eq_2 (k := k) ..) (Ev.pos rfl (Ev.now _))), Ev.pos h (Ev.step (fun k => impl_HexBytes.j0.eq_2 (k := k) ..) (Ev.pos rfl (Ev.now _)))⟩
  · by_cases h2 : (s.size : Int) > 6000
    · exact ⟨_, Ev.neg h (Ev.step (fun k => spec_HexBytes.j0.eq_2 (k := k) ..) (Ev.pos (by simpa using h2) (Ev.now _))), Ev.neg h (Ev.step (fun k => impl_HexBytes.j0.eq_2 (k := k) ..) (Ev.pos (by simpa using h2) (Ev.now _)))⟩
    · obtain ⟨r, h3, h4⟩ := hex_loops s (by omega) (s.size / 2) 0 [] (by omega) (by simp)
      exact ⟨r, Ev.neg h (Ev.step (fun k => spec_HexBytes.j0.eq_2 (k := k) ..) (Ev.neg (by simpa using h2) h3)), Ev.neg h (Ev.step (fun k => impl_HexBytes.j0.eq_2 (k := k) ..) (Ev.neg (by simpa using h2) h4))⟩

theorem FnExactHexBytes : laws_FnExactHexBytes.Pure := by
  intro s _
  refine Ev.rounds (r := true) ?_
  show Ev (fun k => laws_FnExactHexBytes.f k s) true
  unfold laws_FnExactHexBytes.f
  refine Ev.ite (fun _ => Ev.now _) (fun _ => ?_)
  obtain ⟨r, h1, h2⟩ := hex_both s
  exact Ev.bind h1 (Ev.bind h2 (Ev.pos rfl (Ev.neg (by simp) (Ev.now _))))
end Go.Proofs.Ytikjondklgghkaa.Pure
