/-
The program's UrlOk answers what the reference's answers, for every text: whatever its bytes and its length.
No condition beyond the row's own.
-/
import Derived.Test.YtikjondklgghkaaPFnExactUrlOkx1
namespace Go.Proofs.Ytikjondklgghkaa.Pure
open Go.RowKit Go.Proofs.Ytikjondklgghkaa.PFnExactUrlOk Go.Proofs.YtikjondklgghkaaW.PrintWords Go.Proofs.YtikjondklgghkaaW.PrintLast

theorem urlOk_in (n : Int) : impl_inRange.f n 1 60 = spec_l1In.f n 1 60 := rfl
theorem urlOk_in_some (n : Int) : ∃ b, spec_l1In.f n 1 60 = some b := by
  unfold spec_l1In.f; split <;> exact ⟨_, rfl⟩

theorem urlOk_loops (s : ByteArray) (hn : s.size ≤ 140737488351232) (d : Nat) : ∀ (k : Nat) (i : Int), 0 ≤ i → i ≤ s.size → (s.size : Int) - i = d → d < k →
    ∃ b, spec_UrlOk.l0 k s i = some b ∧ impl_UrlOk.l0 k s i = (if b = true then spec_l1In.f (s.size : Int) 1 60 else some false) := by
  induction d with
  | zero =>
    intro k i h0 h1 hd hk
    obtain ⟨k, rfl⟩ : ∃ m, k = m + 1 := ⟨k - 1, by omega⟩
    obtain ⟨c, hc⟩ := urlOk_in_some (s.size : Int)
    refine ⟨true, ?_, ?_⟩
    · simp only [spec_UrlOk.l0]; rw [if_neg (by omega)]
    · simp only [impl_UrlOk.l0]; rw [if_neg (by omega), urlOk_in, hc]; simp
  | succ d ih =>
    intro k i h0 h1 hd hk
    obtain ⟨k, rfl⟩ : ∃ m, k = m + 1 := ⟨k - 1, by omega⟩
    have hlt : i < (s.size : Int) := by omega
    have hw : wrap64 (i + 1) = i + 1 := by unfold wrap64; omega
    obtain ⟨b, hb1, hb2⟩ := ih k (i + 1) (by omega) (by omega) (by omega) (by omega)
    simp only [spec_UrlOk.l0, impl_UrlOk.l0]
    rw [if_pos hlt, if_pos h0, if_pos hlt, if_pos h0, hw, hb1, hb2]
    by_cases h33 : bt s i < 33
    · exact ⟨false, by rw [if_pos h33], by rw [if_pos h33]; simp⟩
    · by_cases h126 : bt s i > 126
      · exact ⟨false, by rw [if_neg h33, if_pos h126], by rw [if_neg h33, if_pos h126]; simp⟩
      · exact ⟨b, by rw [if_neg h33, if_neg h126], by rw [if_neg h33, if_neg h126]⟩

theorem FnExactUrlOk : laws_FnExactUrlOk.Pure := by
  intro s hn
  obtain ⟨b, hb1, hb2⟩ := urlOk_loops s hn s.size (s.size + 1) 0 (by omega) (by omega) (by omega) (by omega)
  obtain ⟨c, hc⟩ := urlOk_in_some (s.size : Int)
  refine ⟨s.size + 1, ?_⟩
  unfold laws_FnExactUrlOk.f spec_UrlOk.f impl_UrlOk.f
  rw [hc, hb1, hb2, hc]
  split
  · rfl
  · cases b <;> cases c <;> simp

end Go.Proofs.Ytikjondklgghkaa.Pure
