/-
The program's DeedOk answers what the reference's answers, for every deed.
No condition beyond the row's own.
-/
import Derived.Test.YtikjondklgghkaaXFnExactDeedOk
import Derived.Test.YtikjondklgghkaaXPure
namespace Go.Proofs.Ytikjondklgghkaa.Pure
open Go.RowKit Go.Proofs.YtikjondklgghkaaX Go.Proofs.Ytikjondklgghkaa.PFnExactDeedOk Go.Proofs.YtikjondklgghkaaW.PrintWords Go.Proofs.YtikjondklgghkaaW.PrintLast

theorem deed_in (a b c : Int) : spec_l1In.f a b c = some (decide (b ≤ a ∧ a ≤ c)) := by
  unfold spec_l1In.f
  by_cases h : a ≥ b
  · rw [if_pos h]; by_cases h2 : a ≤ c
    · simp [h2, show b ≤ a from h]
    · simp [h2]
  · rw [if_neg h]; simp [show ¬ b ≤ a from h]
theorem deed_in2 (a b c : Int) : impl_inRange.f a b c = some (decide (b ≤ a ∧ a ≤ c)) := deed_in a b c
theorem deed_spec (m : Nat) (a0 : Int) (a1 a2 : ByteArray) (a3 a4 : Int) : spec_DeedOk.f (m + 4) a0 a1 a2 a3 a4 =
    spec_DeedOk.j0 (m + 4) (if a3 = 0 then decide (a4 = 0) else (decide (1 ≤ a3 ∧ a3 ≤ 4) && decide (0 ≤ a4 ∧ a4 ≤ 2147483647))) a0 a1 a2 a3 a4 a0 ⟨#[]⟩ ⟨#[]⟩ a3 a4 := by
  unfold spec_DeedOk.f
  simp only [deed_in, Option.bind_some, decide_eq_true_eq]
  by_cases h : a3 = 0
  · subst h
    by_cases h2 : a4 = 0
    · simp [h2]
    · simp [h2]
  · rw [if_neg h, if_neg h]
    by_cases h3 : 1 ≤ a3 ∧ a3 ≤ 4
    · rw [if_pos h3]; simp [h3]
    · rw [if_neg h3]; simp [h3]

theorem deed_tail {a3 a4 : Int} {T : Bool} (hT : (if a3 = 0 then decide (a4 = 0) else (decide (1 ≤ a3 ∧ a3 ≤ 4) && decide (0 ≤ a4 ∧ a4 ≤ 2147483647))) = T) :
    (if a3 = 0 then some (a4 == 0) else (if (1 ≤ a3 ∧ a3 ≤ 4) then some (decide (0 ≤ a4 ∧ a4 ≤ 2147483647)) else some false)) = some T := by
  subst hT
  by_cases h : a3 = 0
  · rw [if_pos h, if_pos h]; congr 1
  · rw [if_neg h, if_neg h]
    by_cases h4 : 1 ≤ a3 ∧ a3 ≤ 4
    · rw [if_pos h4]; simp [h4]
    · rw [if_neg h4]; simp [h4]

theorem deed_same (m : Nat) (a0 : Int) (a1 a2 : ByteArray) (a3 a4 : Int) : ∃ b, spec_DeedOk.f (m + 4) a0 a1 a2 a3 a4 = some b ∧ impl_DeedOk.f (m + 4) a0 a1 a2 a3 a4 = some b := by
  rw [deed_spec]
  generalize hT : (if a3 = 0 then decide (a4 = 0) else (decide (1 ≤ a3 ∧ a3 ≤ 4) && decide (0 ≤ a4 ∧ a4 ≤ 2147483647))) = T
  have tail := deed_tail hT
  unfold impl_DeedOk.f
  simp only [spec_DeedOk.j0, impl_DeedOk.j0, impl_DeedOk.j1, deed_in2, Option.bind_some, decide_eq_true_eq]
  by_cases hk : 1 ≤ a0 ∧ a0 ≤ 5
  · rw [if_pos hk]
    by_cases h1 : a0 = 1
    · subst h1
      by_cases hu : (a1.size : Int) > 60
      · cases T <;> simp [show ¬ (a1.size : Int) ≤ 60 by omega, hu]
      · by_cases hp : (a2.size : Int) > 3000
        · cases T <;> simp [show ¬ (a2.size : Int) ≤ 3000 by omega, show (a1.size : Int) ≤ 60 by omega, hu, hp]
        · refine ⟨T, ?_, ?_⟩
          · cases T <;> simp [show (a2.size : Int) ≤ 3000 by omega, show (a1.size : Int) ≤ 60 by omega]
          · simpa [hu, hp] using tail
    · by_cases hp : a2.toList = []
      · have hs := (toList_nil a2).1 hp
        by_cases h2 : a0 = 2
        · subst h2
          by_cases hu : (a1.size : Int) > 60
          · cases T <;> simp [show ¬ (a1.size : Int) ≤ 60 by omega, hu]
          · refine ⟨T, ?_, ?_⟩
            · cases T <;> simp [show (a1.size : Int) ≤ 60 by omega, hp]
            · simpa [hu, hs, hp] using tail
        · by_cases hu : a1.toList = []
          · have hs1 := (toList_nil a1).1 hu
            by_cases h3 : a0 = 3
            · subst h3
              refine ⟨T, ?_, ?_⟩
              · cases T <;> simp [hu, hp]
              · simpa [hu, hs, hs1, hp] using tail
            · have h45 : a0 = 4 ∨ a0 = 5 := by omega
              refine ⟨decide (a3 = 0) && decide (a4 = 0), ?_, ?_⟩
              · rcases h45 with rfl | rfl <;> by_cases h3' : a3 = 0 <;> by_cases h4' : a4 = 0 <;> simp [hu, hp, h3', h4']
              · rcases h45 with rfl | rfl <;> by_cases h3' : a3 = 0 <;> by_cases h4' : a4 = 0 <;> simp [hu, hp, h3', h4', hs, hs1]
          · refine ⟨false, ?_, ?_⟩
            · have h345 : a0 = 3 ∨ a0 = 4 ∨ a0 = 5 := by omega
              rcases h345 with rfl | rfl | rfl <;> cases T <;> simp [hu]
            · by_cases hz : (a1.size : Int) > 60
              · simp [hz]
              · simp [hz, hs, hu, show 2 < a0 by omega]
      · refine ⟨false, ?_, ?_⟩
        · have h2345 : a0 = 2 ∨ a0 = 3 ∨ a0 = 4 ∨ a0 = 5 := by omega
          rcases h2345 with rfl | rfl | rfl | rfl <;> cases T <;> simp [hp]
        · by_cases hz : (a1.size : Int) > 60
          · simp [hz]
          · by_cases hz2 : (a2.size : Int) > 3000
            · simp [hz, hz2]
            · by_cases hu : a1.toList = [] <;> simp [hz, hz2, hp, hu, h1]
  · rw [if_neg hk]
    refine ⟨false, ?_, by simp⟩
    simp [show ¬ a0 = 1 by omega, show ¬ a0 = 2 by omega, show ¬ a0 = 3 by omega, show ¬ a0 = 4 by omega, show ¬ a0 = 5 by omega]

theorem FnExactDeedOk : laws_FnExactDeedOk.Pure := by
  intro a0 a1 a2 a3 a4 _ _ _ _ _
  refine ⟨0 + 4, ?_⟩
  obtain ⟨b, h1, h2⟩ := deed_same 0 a0 a1 a2 a3 a4
  have hz : ∃ t, laws_szDeed.f a0 a1 a2 a3 a4 1048576 = some t := by unfold laws_szDeed.f; repeat (first | exact ⟨_, rfl⟩ | split)
  obtain ⟨t, ht⟩ := hz
  unfold laws_FnExactDeedOk.f
  rw [ht]
  simp only [Option.bind_some, laws_toDeed.f, h1, h2]
  split
  · rfl
  · simp
end Go.Proofs.Ytikjondklgghkaa.Pure
