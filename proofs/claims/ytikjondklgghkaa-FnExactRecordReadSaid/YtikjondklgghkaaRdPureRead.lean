/-
Records read: the reference's RecordRead and the program's tell the same.
No condition beyond the rows' own.
-/
import Derived.Test.YtikjondklgghkaaPRdx4
import Derived.Test.YtikjondklgghkaaPRdx9
import Derived.Test.YtikjondklgghkaaPRdx7
import Derived.Test.YtikjondklgghkaaPRdx8
import Derived.Test.YtikjondklgghkaaXPure
import Derived.Test.YtikjondklgghkaaRdPureNum
import Derived.Test.YtikjondklgghkaaRdPureRec
import Derived.Test.YtikjondklgghkaaRdPureGet
import Derived.Test.YtikjondklgghkaaRdPureGetText
namespace Go.Proofs.Ytikjondklgghkaa.Pure
open Go.RowKit Go.Proofs.YtikjondklgghkaaX Go.Proofs.Ytikjondklgghkaa.PRd Go.Proofs.YtikjondklgghkaaW.PrintWords Go.Proofs.YtikjondklgghkaaW.PrintLast

/-- What RecordRead tells. -/
def ReadOk (l : List Int) (a : Int) (r : Int × ByteArray × ByteArray × Int × Bool) : Prop :=
  (r.2.2.2.2 = false → r = (0, ⟨#[]⟩, ⟨#[]⟩, 0, false)) ∧ (r.2.2.2.2 = true → 0 ≤ a ∧ a < r.2.2.2.1 ∧ r.2.2.2.1 ≤ (l.length : Int) ∧ r.2.1.size ≤ l.length ∧ r.2.2.1.size ≤ l.length ∧ recRight r.1 r.2.1 r.2.2.1 = true)
theorem readBoth (l : List Int) (hl : l.length ≤ 70368744177000) (hb : ∀ y ∈ l, 0 ≤ y ∧ y ≤ 255) (a : Int) :
    ∃ r, Ev (fun n => spec_RecordRead.f n l a) r ∧ Ev (fun n => impl_RecordRead.f n l a) r ∧ ReadOk l a r := by
  have none_ok : ReadOk l a (0, ⟨#[]⟩, ⟨#[]⟩, 0, false) := ⟨fun _ => rfl, fun h => by cases h⟩
  have e0 : (⟨#[]⟩ : ByteArray).size = 0 := rfl
  obtain ⟨⟨kind, at1, ok1⟩, s1, i1, p1, p2⟩ := getNum l (by omega) hb a
  unfold spec_RecordRead.f impl_RecordRead.f impl_getter_num.f
  cases ok1 with
  | false =>
    obtain ⟨⟨u, at2, ok2⟩, s2, i2, _, _⟩ := getText l (by omega) hb a
    have hr := impl_rec 0 (⟨#[]⟩ : ByteArray) (⟨#[]⟩ : ByteArray) (by omega)
    refine ⟨_, Ev.bind s1 (Ev.neg (by simp) (Ev.now _)), ?_, none_ok⟩
    refine Ev.bind (Ev.bind i1 (Ev.neg (by simp) (Ev.neg (by simp) (Ev.now _)))) ?_
    unfold impl_getter_text.f
    exact Ev.bind (Ev.bind i2 (Ev.pos rfl (Ev.now _))) (Ev.neg (by simp) (Ev.bind hr (Ev.pos rfl (Ev.now _))))
  | true =>
    obtain ⟨q1, q2, q3, q4, q5⟩ := p2 rfl
    simp only at q1 q2 q4 q5
    obtain ⟨⟨u, at2, ok2⟩, s2, i2, p3, p4⟩ := getText l (by omega) hb at1
    have I1 : Ev (fun k => (impl_GetNum.f k l a).bind fun bt => if false = true then some (0, a, true) else if bt.2.2 = true then some (bt.1, bt.2.1, false) else some (0, a, true)) (kind, at1, false) :=
      Ev.bind i1 (Ev.neg (by simp) (Ev.pos rfl (Ev.now _)))
    unfold impl_getter_text.f
    cases ok2 with
    | false =>
      refine ⟨_, Ev.bind s1 (Ev.pos rfl (Ev.bind s2 (Ev.neg (by simp) (Ev.now _)))), ?_, none_ok⟩
      refine Ev.bind I1 (Ev.bind (a := ((⟨#[]⟩ : ByteArray), at1, true)) (Ev.bind i2 (Ev.neg (by simp) (Ev.neg (by simp) (Ev.now _)))) ?_)
      refine Ev.ite (fun hk => ?_) (fun hk => ?_)
      · refine Ev.bind (a := ((⟨#[]⟩ : ByteArray), at1, true)) (Ev.bind i2 (Ev.pos rfl (Ev.now _))) ?_
        exact Ev.bind (impl_rec kind (⟨#[]⟩ : ByteArray) (⟨#[]⟩ : ByteArray) (by omega)) (Ev.pos rfl (Ev.now _))
      · exact Ev.bind (impl_rec kind (⟨#[]⟩ : ByteArray) (⟨#[]⟩ : ByteArray) (by omega)) (Ev.pos rfl (Ev.now _))
    | true =>
      obtain ⟨t1, t2, t3, t4⟩ := p4 rfl
      simp only at t2 t3 t4
      have I2 : Ev (fun k => (impl_GetText.f k l at1).bind fun bt => if false = true then some ((⟨#[]⟩ : ByteArray), at1, true) else if bt.2.2 = true then some (bt.1, bt.2.1, false) else some ((⟨#[]⟩ : ByteArray), at1, true)) (u, at2, false) :=
        Ev.bind i2 (Ev.neg (by simp) (Ev.pos rfl (Ev.now _)))
      by_cases hk : kind = 1
      · obtain ⟨⟨b, at3, ok3⟩, s3, i3, p5, p6⟩ := getText l (by omega) hb at2
        cases ok3 with
        | false =>
          refine ⟨_, Ev.bind s1 (Ev.pos rfl (Ev.bind s2 (Ev.pos rfl (Ev.pos hk (Ev.bind s3 (Ev.neg (by simp) (Ev.now _))))))), ?_, none_ok⟩
          refine Ev.bind I1 (Ev.bind I2 (Ev.pos hk (Ev.bind (a := ((⟨#[]⟩ : ByteArray), at2, true)) (Ev.bind i3 (Ev.neg (by simp) (Ev.neg (by simp) (Ev.now _)))) ?_)))
          exact Ev.bind (impl_rec kind u (⟨#[]⟩ : ByteArray) (by omega)) (Ev.pos rfl (Ev.now _))
        | true =>
          obtain ⟨v1, v2, v3, v4⟩ := p6 rfl
          simp only at v2 v3 v4
          have hs := spec_rec kind u b (by omega)
          have hi := impl_rec kind u b (by omega)
          have I3 : Ev (fun k => (impl_GetText.f k l at2).bind fun bt => if false = true then some ((⟨#[]⟩ : ByteArray), at2, true) else if bt.2.2 = true then some (bt.1, bt.2.1, false) else some ((⟨#[]⟩ : ByteArray), at2, true)) (b, at3, false) :=
            Ev.bind i3 (Ev.neg (by simp) (Ev.pos rfl (Ev.now _)))
          by_cases hg : recRight kind u b = true
          · have hp : (recPacked kind u b).2 = true := by unfold recPacked; rw [if_pos hg]
            exact ⟨(kind, u, b, at3, true), Ev.bind s1 (Ev.pos rfl (Ev.bind s2 (Ev.pos rfl (Ev.pos hk (Ev.bind s3 (Ev.pos rfl (Ev.bind hs (Ev.pos hp (Ev.now _))))))))), Ev.bind I1 (Ev.bind I2 (Ev.pos hk (Ev.bind I3 (Ev.bind hi (Ev.neg (by simp) (Ev.pos hp (Ev.now _))))))), (fun h => by cases h), fun _ => ⟨q3, by simp only; omega, by simp only; omega, t4, v4, hg⟩⟩
          · have hp : ¬ (recPacked kind u b).2 = true := by unfold recPacked; rw [if_neg hg]; simp
            exact ⟨_, Ev.bind s1 (Ev.pos rfl (Ev.bind s2 (Ev.pos rfl (Ev.pos hk (Ev.bind s3 (Ev.pos rfl (Ev.bind hs (Ev.neg hp (Ev.now _))))))))), Ev.bind I1 (Ev.bind I2 (Ev.pos hk (Ev.bind I3 (Ev.bind hi (Ev.neg (by simp) (Ev.neg hp (Ev.now _))))))), none_ok⟩
      · have hs := spec_rec kind u (⟨#[]⟩ : ByteArray) (by omega)
        have hi := impl_rec kind u (⟨#[]⟩ : ByteArray) (by omega)
        by_cases hg : recRight kind u (⟨#[]⟩ : ByteArray) = true
        · have hp : (recPacked kind u (⟨#[]⟩ : ByteArray)).2 = true := by unfold recPacked; rw [if_pos hg]
          exact ⟨(kind, u, ⟨#[]⟩, at2, true), Ev.bind s1 (Ev.pos rfl (Ev.bind s2 (Ev.pos rfl (Ev.neg hk (Ev.bind hs (Ev.pos hp (Ev.now _))))))), Ev.bind I1 (Ev.bind I2 (Ev.neg hk (Ev.bind hi (Ev.neg (by simp) (Ev.pos hp (Ev.now _)))))), (fun h => by cases h), fun _ => ⟨q3, by simp only; omega, by simp only; omega, t4, by simp only; omega, hg⟩⟩
        · have hp : ¬ (recPacked kind u (⟨#[]⟩ : ByteArray)).2 = true := by unfold recPacked; rw [if_neg hg]; simp
          exact ⟨_, Ev.bind s1 (Ev.pos rfl (Ev.bind s2 (Ev.pos rfl (Ev.neg hk (Ev.bind hs (Ev.neg hp (Ev.now _))))))), Ev.bind I1 (Ev.bind I2 (Ev.neg hk (Ev.bind hi (Ev.neg (by simp) (Ev.neg hp (Ev.now _)))))), none_ok⟩
end Go.Proofs.Ytikjondklgghkaa.Pure
