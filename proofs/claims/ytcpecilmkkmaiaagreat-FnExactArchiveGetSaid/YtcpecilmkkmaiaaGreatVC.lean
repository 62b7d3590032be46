/- What a function of the program does is told by a plain function on lists, strings and whole numbers: the words for it, and the proof that they are right. No condition beyond those that stand in each theorem. -/
import Derived.Test.YtcpecilmkkmaiaaGreatVB
import Derived.Deep.Slices
import Derived.ChangeArms
import Derived.SizedLaws
import Derived.DataReads
import Derived.OpenShut
import Derived.ChangeOld
import Derived.ShutString
import Derived.ProofKit
import Derived.Below
import Derived.Lib.Repeat
set_option linter.unusedVariables false
set_option linter.unusedSimpArgs false
noncomputable section
namespace Go.Proofs.YtcpecilmkkmaiaaGreat.V
open Go Go.RowKit
def IoAt (w : World) (I : Zd) : (ms : List Mode) → (Zdc ms).den → List (Nat × Nat × Nat) → Zd → Prop
  | [], _, _, _ => True
  | .io t :: ms, x, V, O => ∃ b o n us O1 O2 V', V = (b, o, n) :: V' ∧ VarAt w (b, o) us ∧ RepO w I t x.1 none us O1 ∧ Sub O1 O ∧ Sub O2 O ∧ Dis O1 O2 ∧ IoAt w I ms x.2 V' O2
  | .bor _ :: ms, x, V, O => IoAt w I ms x.2 V O
  | .val _ :: ms, x, V, O | .rptr _ :: ms, x, V, O | .own _ :: ms, x, V, O | .fn _ :: ms, x, V, O | .fnr _ _ :: ms, x, V, O => IoAt w I ms x V O
def BorAt (w : World) (I : Zd) : (ms : List Mode) → (Zdc ms).den → List Value → Zd → Prop
  | [], _, _, _ => True
  | .io _ :: ms, x, vals, O => BorAt w I ms x.2 vals.tail O
  | .bor t :: ms, x, vals, O => ∃ O1 O2, RepO w I (rowsT t) x.1 none (rowsC t (vals.headD undef).cells.toList) O1 ∧ Sub O1 O ∧ Sub O2 O ∧ Dis O1 O2 ∧ BorAt w I ms x.2 vals.tail O2
  | .val _ :: ms, x, vals, O | .rptr _ :: ms, x, vals, O | .own _ :: ms, x, vals, O | .fn _ :: ms, x, vals, O | .fnr _ _ :: ms, x, vals, O => BorAt w I ms x vals.tail O
section
variable {P : Program} {E : Env} {X : Fix} {C C' : Ctx} {st st' : St} {a : Act} {w w' : World} {R : Type} {r : R}
theorem free_leaf {I J : Zd} : ∀ {t : Ty} {x : t.den} {vs : List Value}, t.leaf = true → RepS w I t x vs → RepS w J t x vs
  | .int _, _, _, _, h => h
  | .bool, _, _, _, h => h
  | .str, _, _, _, h => h
  | .row _ _, _, _, h, _ => by cases h
  | .arr _ _, _, _, h, _ => by cases h
  | .pair _ _, _, _, h, _ => by cases h
  | .unit, _, _, h, _ => by cases h
  | .any, _, _, h, _ => by cases h
theorem Zrp {I J : Zd} : ∀ {t : Ty} {x : t.den} {h : Option Path} {vs : List Value} {F : Zd}, t.free = true → RepO w I t x h vs F → RepO w J t x h vs F
  | .row true e, xs, h, vs, F, hf, ⟨a, len, cap, e0, k⟩ => by
    simp only [Ty.free, Bool.true_and] at hf
    exact ⟨a, len, cap, e0, k.imp id fun ⟨h1, h2, h3⟩ => ⟨h1, h2, h3.imp id fun ⟨ad, cs, et, fr, vs', G, e1, e2, e3, e4, e5, e6, e7, e8, e9, e10⟩ =>
      ⟨ad, cs, et, fr, vs', G, e1, e2, e3, e4, e5, e6, e7, e8, e9, e10.imp (fun _ h => h) (fun _ _ _ _ _ r => Zrp hf r)⟩⟩⟩
  | .row false e, xs, h, vs, F, hf, _ => by simp [Ty.free] at hf
  | .pair a b, x, h, vs, F, hf, ⟨v1, v2, F1, F2, e, s1, s2, d, h1, h2⟩ => by
    simp only [Ty.free, Bool.and_eq_true] at hf
    exact ⟨v1, v2, F1, F2, e, s1, s2, d, Zrp hf.1 h1, Zrp hf.2 h2⟩
  | .int _, _, _, _, _, _, h => h
  | .bool, _, _, _, _, _, h => h
  | .str, _, _, _, _, _, h => h
  | .arr n e, x, _, _, _, hf, ⟨h1, h2⟩ => ⟨h1, h2.imp (fun _ _ h => free_leaf hf h)⟩
  | .unit, _, _, _, _, _, h => h
  | .any, _, _, _, _, _, h => h.elim
theorem Zli {I J : Zd} : ∀ {ms : List Mode} {x : (Zdc ms).den} {V : List (Nat × Nat × Nat)} {vals : List Value} {O : Zd}, (Zdc ms).free = true → Zo7 w I ms x V vals O → Zo7 w J ms x V vals O
  | [], _, _, _, _, _, _ => trivial
  | .io t :: ms, x, V, vals, O, hf, ⟨b, o, n, us, O1, O2, V', e, h1, h2, s1, s2, d, h⟩ => by
    simp only [Zdc, Ty.free, Bool.and_eq_true] at hf
    exact ⟨b, o, n, us, O1, O2, V', e, h1, Zrp hf.1 h2, s1, s2, d, Zli hf.2 h⟩
  | .bor t :: ms, x, V, vals, O, hf, ⟨O1, O2, h2, s1, s2, d, h⟩ => by
    simp only [Zdc, Ty.free, Bool.and_eq_true] at hf
    exact ⟨O1, O2, Zrp hf.1 h2, s1, s2, d, Zli hf.2 h⟩
  | .val _ :: ms, x, V, vals, O, hf, h => Zli (ms := ms) hf h
  | .rptr _ :: ms, x, V, vals, O, hf, h => Zli (ms := ms) hf h
  | .own _ :: ms, x, V, vals, O, hf, h => Zli (ms := ms) hf h
  | .fn _ :: ms, x, V, vals, O, hf, h => Zli (ms := ms) hf h
  | .fnr _ _ :: ms, x, V, vals, O, hf, h => Zli (ms := ms) hf h
theorem Zh9 {I : Zd} : ∀ {ms : List Mode} {x : (Zdc ms).den} {V : List (Nat × Nat × Nat)} {vals : List Value} {O : Zd}, Zo7 w I ms x V vals O →
    ∃ Oi Ob, Sub Oi O ∧ Sub Ob O ∧ Dis Oi Ob ∧ IoAt w I ms x V Oi ∧ BorAt w I ms x vals Ob
  | [], x, V, vals, O, _ => ⟨fun _ => False, fun _ => False, fun _ h => h.elim, fun _ h => h.elim, fun _ h => h.elim, trivial, trivial⟩
  | .io t :: ms, x, V, vals, O, ⟨b, o, n, us, O1, O2, V', e, h1, h2, s1, s2, d, h⟩ => by
    obtain ⟨Oi, Ob, q1, q2, q3, q4, q5⟩ := Zh9 h
    refine ⟨fun k => O1 k ∨ Oi k, Ob, fun k q => q.elim (s1 k) (fun q => s2 k (q1 k q)), fun k q => s2 k (q2 k q), fun k p1 p2 => p1.elim (fun p1 => d k p1 (q2 k p2)) (fun p1 => q3 k p1 p2), ⟨b, o, n, us, O1, Oi, V', e, h1, h2, fun _ h => .inl h, fun _ h => .inr h, fun k p1 p2 => d k p1 (q1 k p2), q4⟩, q5⟩
  | .bor t :: ms, x, V, vals, O, ⟨O1, O2, h2, s1, s2, d, h⟩ => by
    obtain ⟨Oi, Ob, q1, q2, q3, q4, q5⟩ := Zh9 h
    refine ⟨Oi, fun k => O1 k ∨ Ob k, fun k q => s2 k (q1 k q), fun k q => q.elim (s1 k) (fun q => s2 k (q2 k q)), fun k p1 p2 => p2.elim (fun p2 => d k p2 (q1 k p1)) (fun p2 => q3 k p1 p2), q4, ⟨O1, Ob, h2, fun _ h => .inl h, fun _ h => .inr h, fun k p1 p2 => d k p1 (q2 k p2), q5⟩⟩
  | .val _ :: ms, x, V, vals, O, h => Zh9 (ms := ms) h
  | .rptr _ :: ms, x, V, vals, O, h => Zh9 (ms := ms) h
  | .own _ :: ms, x, V, vals, O, h => Zh9 (ms := ms) h
  | .fn _ :: ms, x, V, vals, O, h => Zh9 (ms := ms) h
  | .fnr _ _ :: ms, x, V, vals, O, h => Zh9 (ms := ms) h
def Backs (C : Ctx) (w' : World) (I : Zd) (W : List (Nat × Rw)) (B : List (Nat × Rw)) (O : Zd) : Prop :=
  ∃ G : Nat → Zd, (∀ b r, (b, r) ∈ B → Turned C w' I W G b r) ∧ (∀ b c, b ∈ keysB B → c ∈ keysB B → b ≠ c → Dis (G b) (G c)) ∧ ∀ b, b ∈ keysB B → Sub (G b) O
theorem Z6y {B : List (Nat × Rw)} {b : Nat} {r : Rw} (h : (b, r) ∈ B) : b ∈ keysB B := by
  induction B with
  | nil => cases h
  | cons p B ih =>
    obtain ⟨b', r'⟩ := p
    rcases List.mem_cons.1 h with h | h
    · cases h; exact List.mem_cons_self ..
    · exact List.mem_cons_of_mem _ (ih h)
theorem Zof (B B' : List (Nat × Rw)) : keysB (B ++ B') = keysB B ++ keysB B' := by
  induction B with
  | nil => rfl
  | cons p B ih => obtain ⟨b, r⟩ := p; simp only [List.cons_append, keysB, ih]
theorem Backs.append {I : Zd} {W B B' : List (Nat × Rw)} {O O' S : Zd} (h : Backs C w' I W B O) (k : Backs C w' I W B' O') (hd : Dis O O') (hs : Sub O S) (hs' : Sub O' S) (hn : ∀ b, b ∈ keysB B → b ∈ keysB B' → False) : Backs C w' I W (B ++ B') S := by
  obtain ⟨G, h1, h2, h3⟩ := h
  obtain ⟨G', k1, k2, k3⟩ := k
  have g1 : ∀ b, b ∈ keysB B → (fun b => if natIn b (keysB B) = true then G b else G' b) b = G b := fun b hb => by simp only [(Za7 _ _).2 hb, if_true]
  have g2 : ∀ b, b ∈ keysB B' → (fun b => if natIn b (keysB B) = true then G b else G' b) b = G' b := fun b hb => by
    have : natIn b (keysB B) = false := Bool.eq_false_iff.2 (fun q => hn b ((Za7 _ _).1 q) hb)
    simp only [this]; rfl
  refine ⟨fun b => if natIn b (keysB B) = true then G b else G' b, fun b r hm => ?_, fun b c hb hc hbc => ?_, fun b hb => ?_⟩
  · rcases List.mem_append.1 hm with hm | hm
    · obtain ⟨e, xs, ys, e1, e2, ho⟩ := h1 b r hm
      exact ⟨e, xs, ys, e1, e2, by rw [g1 b (Z6y hm)]; exact ho⟩
    · obtain ⟨e, xs, ys, e1, e2, ho⟩ := k1 b r hm
      exact ⟨e, xs, ys, e1, e2, by rw [g2 b (Z6y hm)]; exact ho⟩
  · rw [Zof] at hb hc
    rcases List.mem_append.1 hb with hb | hb <;> rcases List.mem_append.1 hc with hc | hc
    · rw [g1 b hb, g1 c hc]; exact h2 b c hb hc hbc
    · rw [g1 b hb, g2 c hc]; exact fun i p1 p2 => hd i (h3 b hb i p1) (k3 c hc i p2)
    · rw [g2 b hb, g1 c hc]; exact fun i p1 p2 => hd i (h3 c hc i p2) (k3 b hb i p1)
    · rw [g2 b hb, g2 c hc]; exact k2 b c hb hc hbc
  · rw [Zof] at hb
    rcases List.mem_append.1 hb with hb | hb
    · rw [g1 b hb]; exact fun i p => hs i (h3 b hb i p)
    · rw [g2 b hb]; exact fun i p => hs' i (k3 b hb i p)
theorem Backs.nil {I : Zd} {W : List (Nat × Rw)} {O : Zd} : Backs C w' I W [] O := ⟨fun _ _ => False, fun b r h => (by cases h), fun b c h => (by cases h), fun b h => (by cases h)⟩
theorem Z5s : ∀ {t : Ty} {us : List Value}, us.length = t.size → (rowsC t us).length = (rowsT t).size
  | .row true _, us, h => h
  | .pair p q, us, h => by
    simp only [Ty.size, Zq] at h
    simp only [rowsC, rowsT, List.length_append, Ty.size, Zq]
    rw [Z5s (t := p) (by simp; omega), Z5s (t := q) (by simp; omega)]
  | .row false _, us, h => rfl
  | .int _, us, h => rfl
  | .bool, us, h => rfl
  | .str, us, h => rfl
  | .arr _ _, us, h => rfl
  | .unit, us, h => rfl
  | .any, us, h => rfl
theorem Zad5 {I : Zd} (hrel : Rel X C st a w) : ∀ {t : Ty} {m : List A} {us : List Value} {x : (rowsT t).den} {O : Zd}, BorC st t m → RAs C w m us → m.length = t.size → once (keys (srcs m)) = true → RepO w' I (rowsT t) x none (rowsC t us) O →
    keysB (backL t x m) = keys (srcs m) ∧ Backs C w' I st.rows (backL t x m) O
  | .row true e, m, us, x, O, hb, hs, hl, ho, hr => by
    rcases hb with rfl | ⟨b, xs, rfl, hb⟩
    · exact ⟨rfl, Backs.nil⟩
    · obtain ⟨v, vs', rfl, h1, h2⟩ := hs
      have h2 : vs' = [] := h2
      subst h2
      refine ⟨rfl, fun _ => O, fun b' r' hm => ?_, fun b' c hb' hc hbc => ?_, fun _ _ _ h => h⟩
      · simp only [backL, List.mem_cons, Prod.mk.injEq, List.not_mem_nil, or_false] at hm
        obtain ⟨rfl, rfl⟩ := hm
        obtain ⟨H, sz, ⟨q1, q2⟩, q3⟩ := h1.2 _ (by rw [hrel.rowsEq]; exact hb)
        subst q1
        have q3 : v = .slice (C.hdr b').1 (C.hdr b').2.1 (C.hdr b').2.2 := q3
        obtain ⟨ad, n, c, e1, h | h⟩ := hr
        · cases h
        simp only [rowsC, List.cons.injEq, and_true] at e1
        rw [q3] at e1
        simp only [Value.slice.injEq] at e1
        obtain ⟨rfl, rfl, rfl⟩ := e1
        exact ⟨e, xs, x, rfl, hb, h⟩
      · simp only [backL, keysB, List.mem_cons, List.not_mem_nil, or_false] at hb' hc
        exact absurd (hb'.trans hc.symm) hbc
  | .pair p q, m, us, x, O, ⟨hb1, hb2⟩, hs, hl, ho, ⟨v1, v2, F1, F2, e, s1, s2, hd, h1, h2⟩ => by
    simp only [Ty.size, Zq] at hl
    have hul := hs.length
    have em : m = m.take p.size ++ m.drop p.size := (List.take_append_drop _ _).symm
    have n1 : (m.take p.size).length = p.size := by simp; omega
    have n2 : (m.drop p.size).length = q.size := by simp; omega
    rw [em, Zaw, Zal] at ho
    obtain ⟨o1, o2, o3⟩ := Zax ho
    simp only [rowsC] at e
    have hl1 := h1.length
    have hl2 := Z5s (t := p) (us := us.take p.size) (by simp; omega)
    obtain ⟨rfl, rfl⟩ := List.append_inj e (by rw [hl1, hl2])
    obtain ⟨k1, B1⟩ := Zad5 hrel (t := p) hb1 (hs.take p.size) n1 o1 h1
    obtain ⟨k2, B2⟩ := Zad5 hrel (t := q) hb2 (hs.drop p.size) n2 o2 h2
    simp only [backL, Zo, Zg3, Zho, Zof, k1, k2]
    refine ⟨by rw [← Zal, ← Zaw, List.take_append_drop], B1.append B2 hd s1 s2 (fun b q1 q2 => ?_)⟩
    rw [k1] at q1
    rw [k2] at q2
    exact o3 b q1 q2
  | .row false _, m, us, x, O, hb, hs, hl, ho, hr => by have hb : srcs m = [] := hb; exact ⟨by rw [hb]; rfl, Backs.nil⟩
  | .int _, m, us, x, O, hb, hs, hl, ho, hr => by have hb : srcs m = [] := hb; exact ⟨by rw [hb]; rfl, Backs.nil⟩
  | .bool, m, us, x, O, hb, hs, hl, ho, hr => by have hb : srcs m = [] := hb; exact ⟨by rw [hb]; rfl, Backs.nil⟩
  | .str, m, us, x, O, hb, hs, hl, ho, hr => by have hb : srcs m = [] := hb; exact ⟨by rw [hb]; rfl, Backs.nil⟩
  | .arr _ _, m, us, x, O, hb, hs, hl, ho, hr => by have hb : srcs m = [] := hb; exact ⟨by rw [hb]; rfl, Backs.nil⟩
  | .unit, m, us, x, O, hb, hs, hl, ho, hr => by have hb : srcs m = [] := hb; exact ⟨by rw [hb]; rfl, Backs.nil⟩
  | .any, m, us, x, O, hb, hs, hl, ho, hr => by have hb : srcs m = [] := hb; exact ⟨by rw [hb]; rfl, Backs.nil⟩
theorem Zll {I : Zd} (hrel : Rel X C st a w) : ∀ {ms : List Mode} {l : List A} {vals : List Value} {x : (Zdc ms).den} {O : Zd}, BorOk st ms l → RAs C w l vals → once (borR ms l) = true → BorAt w' I ms x vals O →
    keysB (Zkj ms l x) = borR ms l ∧ Backs C w' I st.rows (Zkj ms l x) O
  | .bor t :: ms, y :: l, vals, x, O, ⟨hlv, hn, hbc, hbo⟩, ⟨v, vs, e, hy, hs⟩, ho, ⟨O1, O2, hr, s1, s2, hd, h⟩ => by
    subst e
    simp only [borR, Zo] at ho
    obtain ⟨o1, o2, o3⟩ := Zax ho
    obtain ⟨k1, B1⟩ := Zad5 hrel hbc (Zgx hy hlv) hn o1 hr
    obtain ⟨k2, B2⟩ := Zll hrel hbo hs o2 h
    simp only [Zkj, borR, Zo, Zof]
    refine ⟨by rw [k1, k2], B1.append B2 hd s1 s2 (fun b q1 q2 => ?_)⟩
    rw [k1] at q1
    rw [k2] at q2
    exact o3 b q1 q2
  | .val t :: ms, y :: l, vals, x, O, hbo, ⟨v, vs, e, hy, hs⟩, ho, h => by subst e; exact Zll hrel (ms := ms) hbo hs ho h
  | .rptr t :: ms, y :: l, vals, x, O, hbo, ⟨v, vs, e, hy, hs⟩, ho, h => by subst e; exact Zll hrel (ms := ms) hbo hs ho h
  | .fnr f t :: ms, y :: l, vals, x, O, hbo, ⟨v, vs, e, hy, hs⟩, ho, h => by subst e; exact Zll hrel (ms := ms) hbo hs ho h
  | .own t :: ms, y :: l, vals, x, O, hbo, ⟨v, vs, e, hy, hs⟩, ho, h => by subst e; exact Zll hrel (ms := ms) hbo hs ho h
  | .io t :: ms, y :: l, vals, x, O, hbo, ⟨v, vs, e, hy, hs⟩, ho, h => by subst e; exact Zll hrel (ms := ms) hbo hs ho h
  | .fn t :: ms, y :: l, vals, x, O, hbo, ⟨v, vs, e, hy, hs⟩, ho, h => by subst e; exact Zll hrel (ms := ms) hbo hs ho h
  | [], l, vals, x, O, _, _, _, _ => ⟨by cases l <;> rfl, Backs.nil⟩
  | m :: ms, [], vals, x, O, _, _, _, _ => by cases m <;> exact ⟨rfl, Backs.nil⟩
theorem Zpw : ∀ {ms : List Mode} {l : List A} {x : (Zdc ms).den} {V : List (Nat × Nat × Nat)} {O : Zd} {name : Nat} {st : St} {C : Ctx} {k : St → Option R}, outsK ms l x name st k = some r → Zjj C st ms l V → Rel X C st a w → IoAt w C.I ms x V O → Loose X C st w O → 900 ≤ name →
    ∃ st' C', k st' = some r ∧ Rel X C' st' a w ∧ C'.I = C.I ∧ (∀ S, Apart C st S → Dis S O → Apart C' st' S) ∧ ∀ x v, RA C w x v → (∀ c, mR c x → c < name) → RA C' w x v
  | [], l, x, V, O, name, st, C, k, h, hm, hrel, hO, hL, hN => ⟨st, C, h, hrel, rfl, fun S q _ => q, fun _ _ q _ => q⟩
  | .val t :: ms, [], x, V, O, name, st, C, k, h, hm, hrel, hO, hL, hN => hm.elim
  | .rptr t :: ms, [], x, V, O, name, st, C, k, h, hm, hrel, hO, hL, hN => hm.elim
  | .fnr f t :: ms, [], x, V, O, name, st, C, k, h, hm, hrel, hO, hL, hN => hm.elim
  | .own t :: ms, [], x, V, O, name, st, C, k, h, hm, hrel, hO, hL, hN => hm.elim
  | .bor t :: ms, [], x, V, O, name, st, C, k, h, hm, hrel, hO, hL, hN => hm.elim
  | .fn t :: ms, [], x, V, O, name, st, C, k, h, hm, hrel, hO, hL, hN => hm.elim
  | .io t :: ms, [], x, V, O, name, st, C, k, h, hm, hrel, hO, hL, hN => hm.elim
  | .val t :: ms, _ :: l, x, V, O, name, st, C, k, h, hm, hrel, hO, hL, hN => Zpw (ms := ms) (l := l) h hm hrel hO hL hN
  | .rptr t :: ms, _ :: l, x, V, O, name, st, C, k, h, hm, hrel, hO, hL, hN => Zpw (ms := ms) (l := l) h hm hrel hO hL hN
  | .fnr f t :: ms, _ :: l, x, V, O, name, st, C, k, h, hm, hrel, hO, hL, hN => Zpw (ms := ms) (l := l) h hm hrel hO hL hN
  | .own t :: ms, _ :: l, x, V, O, name, st, C, k, h, hm, hrel, hO, hL, hN => Zpw (ms := ms) (l := l) h hm hrel hO hL hN
  | .bor t :: ms, _ :: l, x, V, O, name, st, C, k, h, hm, hrel, hO, hL, hN => Zpw (ms := ms) (l := l) h hm hrel hO hL hN
  | .fn t :: ms, _ :: l, x, V, O, name, st, C, k, h, hm, hrel, hO, hL, hN => Zpw (ms := ms) (l := l) h hm hrel hO hL hN
  | .io t :: ms, y :: l, x, V, O, name, st, C, k, h, ⟨b, o, c, V', e, h1, h2, h3, h4⟩, hrel, ⟨b', o', n', us, O1, O2, V2, e', hat, hx, s1, s2, hd, hO⟩, hL, hN => by
    subst e; subst h3
    simp only [List.cons.injEq, Prod.mk.injEq] at e'
    obtain ⟨⟨rfl, rfl, rfl⟩, rfl⟩ := e'
    simp only [outsK] at h
    obtain ⟨m, st1, C1, e1, r1, a1, m1, L1⟩ := Zhb (b := name) (k := fun r' st b' => match look st.vars b with
          | some c => Ze8 (putsL c o r') fun c => layK st.vars b c fun V => outsK ms l x.2 b' ⟨st.tmps, V, st.rows⟩ k
          | none => none) hrel hx (hL.sub s1) (PinR.free (fun c hc => X.lowR c (.inr (Nat.le_trans hN hc))))
    have h := e1.symm.trans h
    clear e1
    obtain ⟨T, VV, WW⟩ := st1
    simp only at h
    obtain ⟨c1, q1, q2⟩ := L1.vars2 b c h1
    simp only at q1
    rw [q1] at h
    simp only [Zc0, Z96, Zyv] at h
    have hml := a1.length
    have hul := hx.length
    have r2 := r1.setVar0 (q := o) q1 a1 (by rw [q2]; omega) (by
      rw [L1.var]
      obtain ⟨cs, et, fr, k1, k2, k3, k4⟩ := hat
      exact ⟨cs, et, fr, k1, k2, k4⟩)
    have hlen : Lens st.vars (lay VV b (sets c1 o m)) := fun d n hn => by
      obtain ⟨n1, p1, p2⟩ := L1.vars2 d n hn
      simp only at p1
      by_cases hb : b = d
      · subst hb
        rw [q1] at p1
        obtain rfl := Option.some.inj p1
        exact ⟨_, by rw [Zao, if_pos rfl], by rw [Zy]; exact p2⟩
      · exact ⟨n1, by rw [Zao, if_neg hb]; exact p1, p2⟩
    have hap : ∀ S, Apart C1 ⟨T, VV, WW⟩ S → Apart C1 ⟨T, lay VV b (sets c1 o m), WW⟩ S := fun S q => ⟨q.I, q.F, fun d n hn => by
      simp only [Zao] at hn
      by_cases hb : b = d
      · subst hb; exact q.V b c1 q1
      · rw [if_neg hb] at hn; exact q.V d n hn⟩
    have hl2 := L1.loose O2 (hL.sub s2) (fun k q1 q2 => hd k q2 q1)
    have hl3 := hap O2 hl2.apart
    obtain ⟨st', C', g1, g2, g3, g4, g5⟩ := Zpw (ms := ms) h (h4.mono (C' := C1) L1.var hlen) r2 (by rw [L1.I]; exact hO) ⟨hl3.I, hl3.F, hl3.V, hl2.lt, hl2.own⟩ (by simp only [Zq]; omega)
    exact ⟨st', C', g1, g2, g3.trans L1.I, fun S q d => g4 S (hap S (L1.apart S q (fun k p1 p2 => d k p1 (s1 k p2)))) (fun k p1 p2 => d k p1 (s2 k p2)), fun x v q hm => g5 x v (L1.keep x v q (fun c hc => .inl (hm c hc))) (fun c hc => by have := hm c hc; simp only [Zq]; omega)⟩
theorem Zabo : ∀ {res : List Ty} {vs us : List Value} {l : List A}, ResV res vs us → RAs C w l us → RAs C w (Zafh res l) vs
  | [], vs, us, l, ⟨h1, h2⟩, _ => h1
  | t :: ts, vs, us, l, ⟨v, vs', u1, u2, e1, e2, h1, h2, h3⟩, hs => by
    subst e1; subst e2
    simp only [Zafh, Zg3, Zho]
    have p1 := hs.take t.size
    have p2 := hs.drop t.size
    rw [List.take_left' h2] at p1
    rw [List.drop_left' h2] at p2
    exact ⟨v, vs', rfl, h1.RA p1, Zabo h3 p2⟩
theorem resA {res : List Ty} {vs us : List Value} {l : List A} (h : ResV res vs us) (hs : RAs C w l us) : RA C w (resOf res l) (oneOf vs) := by
  match res, h with
  | [], h =>
    obtain ⟨rfl, rfl⟩ := h
    exact ⟨[], rfl, rfl⟩
  | [t], ⟨v, vs', u1, u2, e1, e2, h1, h2, h3⟩ =>
    obtain ⟨rfl, rfl⟩ := h3
    rw [List.append_nil] at e2
    subst e1; subst e2
    exact h1.RA hs
  | t :: t' :: ts, h =>
    have hg := Zabo h hs
    obtain ⟨v, vs', u1, u2, e1, e2, h1, h2, ⟨v2, vs2, u3, u4, e3, e4, h3⟩⟩ := h
    subst e1; subst e3
    exact ⟨_, rfl, hg⟩
theorem Z8a : ∀ {l m : List Nat}, apart l m = true → ∀ b, b ∈ l → b ∈ m → False
  | [], m, _, b, hb, _ => by cases hb
  | i :: l, m, h, b, hb, hm => by
    simp only [apart, Bool.and_eq_true, Bool.not_eq_true'] at h
    rcases List.mem_cons.1 hb with rfl | hb
    · rw [(Za7 _ _).2 hm] at h; cases h.1
    · exact Z8a h.2 b hb hm
end
end Go.Proofs.YtcpecilmkkmaiaaGreat.V
namespace Go.Proofs.YtcpecilmkkmaiaaGreat.V
open Go Go.RowKit
section
variable {P : Program} {E : Env} {X : Fix} {C C' : Ctx} {st st' : St} {a : Act} {w w' : World} {R : Type} {k : St → Option R} {r : R} {o : Oper} {Q : Exit → Act → World → Prop} {ops : Array Oper}
def reb (X : Fix) (C : Ctx) (st : St) (w : World) : Fix :=
  { X with w0 := w, own := fun k => ∃ b r, look st.rows b = some r ∧ C.F b k, inp := C.I, rng := fun k i => ∃ b l, look st.vars b = some l ∧ (C.var b).1 = k ∧ (C.var b).2 ≤ i ∧ i < (C.var b).2 + l.length }
theorem Rel.reb_in (hrel : Rel X C st a w) : Rel (reb X C st w) C st a w := { hrel with
  Fown := fun b r h k hk => .inl ⟨b, r, h, hk⟩
  Vown := fun b l h i hi => .inl ⟨b, l, h, rfl, by omega, by omega⟩
  Iown := fun k hk => .inl hk
  frame := Keeps.refl _ _ _ }
theorem Rel.reb_out {a' : Act} (hrel : Rel X C st a w) (h : Rel (reb X C st w) C' st' a' w') : Rel X C' st' a' w' := by
  have hw0 := hrel.frame.size
  have hown : ∀ k, (reb X C st w).own k → X.own k ∨ X.w0.heap.size ≤ k := fun k ⟨b, r, e, q⟩ => hrel.Fown b r e k q
  exact { h with
    Fown := fun b r e k hk => (h.Fown b r e k hk).elim (hown k) (fun q => .inr (Nat.le_trans hw0 q))
    Vown := fun b l e i hi => by
      rcases h.Vown b l e i hi with ⟨c, m, e1, e2, e3, e4⟩ | q
      · have := hrel.Vown c m e1 ((C'.var b).2 + i - (C.var c).2) (by omega)
        rw [show (C.var c).2 + ((C'.var b).2 + i - (C.var c).2) = (C'.var b).2 + i by omega, e2] at this
        exact this
      · exact .inr (Nat.le_trans hw0 q)
    Iown := fun k hk => (h.Iown k hk).elim (hrel.Iown k) (fun q => q.elim (fun q => .inr (hown k q)) (fun q => .inr (.inr (Nat.le_trans hw0 q))))
    frame := hrel.frame.trans h.frame hown (fun k i ⟨b, l, e1, e2, e3, e4⟩ => by
      have := hrel.Vown b l e1 (i - (C.var b).2) (by omega)
      rw [show (C.var b).2 + (i - (C.var b).2) = i by omega, e2] at this
      exact this) }
structure Garb (X : Fix) (C : Ctx) (st : St) (w : World) (B : Nat) : Prop where
  I : ¬ C.I B
  F : ∀ c r, look st.rows c = some r → ¬ C.F c B
  V : ∀ c l, look st.vars c = some l → (C.var c).1 ≠ B
  lt : B < w.heap.size
  new : X.w0.heap.size ≤ B
theorem Zx4 : ∀ {V : List (Nat × List A)}, Zga V = true → ∀ b l, look V b = some l → 0 < l.length
  | (c, m) :: V, h, b, l, e => by
    simp only [Zga, Bool.and_eq_true] at h
    simp only [look] at e
    split at e
    · obtain rfl := Option.some.inj e
      cases m with
      | nil => simp at h
      | cons x m => simp
    · exact Zx4 h.2 b l e
theorem Garb.step {a' : Act} {B : Nat} (hg : Garb X C st w B) (hrel : Rel X C st a w) (h : Rel (reb X C st w) C' st' a' w') (hf : ∀ b l, look st'.vars b = some l → 0 < l.length) : Garb X C' st' w' B ∧ w'.heap[B]? = w.heap[B]? := by
  have hs := h.frame.size
  have no : ¬ (reb X C st w).own B := fun ⟨b, r, e, q⟩ => hg.F b r e q
  have nr : ∀ i, ¬ (reb X C st w).rng B i := fun i ⟨b, l, e1, e2, _⟩ => hg.V b l e1 e2
  refine ⟨⟨fun q => ?_, fun c r e q => ?_, fun c l e q => ?_, Nat.lt_of_lt_of_le hg.lt hs, hg.new⟩, h.frame.same B hg.lt no nr⟩
  · rcases h.Iown B q with q | q | q
    · exact hg.I q
    · exact no q
    · exact Nat.lt_irrefl _ (Nat.lt_of_lt_of_le hg.lt q)
  · rcases h.Fown c r e B q with q | q
    · exact no q
    · exact Nat.lt_irrefl _ (Nat.lt_of_lt_of_le hg.lt q)
  · rcases h.Vown c l e 0 (hf c l e) with q' | q'
    · rw [q] at q'; exact nr _ q'
    · rw [q] at q'; exact Nat.lt_irrefl _ (Nat.lt_of_lt_of_le hg.lt q')
theorem Zxu {all : List Oper} (hall : ops.toList = all) (h : operK E all o st k = some r) (hrel : Rel X C st a w) :
    (Region.wanted o (yielded ops a.tmps) = true ∧ insts E o st k = some r) ∨ (Region.wanted o (yielded ops a.tmps) = false ∧ Goes X k r (a.put o.dst undef) w) := by
  unfold operK at h
  cases hg : o.guard with
  | none =>
    rw [hg] at h
    exact .inl ⟨by simp [Region.wanted, hg], h⟩
  | some g =>
    obtain ⟨j, want⟩ := g
    rw [hg] at h
    simp only at h
    cases hd : (all[j]?).bind (·.dst) with
    | none => rw [hd] at h; cases h
    | some d =>
      rw [hd] at h
      have hd' : (ops[j]?).bind (·.dst) = some d := by rw [← Array.getElem?_toList, hall]; exact hd
      rcases Z3x h hrel with ⟨b, e1, h⟩ | ⟨e1, h⟩
      · have hy : yielded ops a.tmps j = some b := by
          have e2 : a.tmps[d]? = some (.bool b) := by
            rw [Array.getD_eq_getD_getElem?] at e1
            cases e3 : a.tmps[d]? with
            | none => rw [e3] at e1; cases e1
            | some v => rw [e3] at e1; simpa using e1
          unfold yielded
          rw [hd']
          simp [e2]
        by_cases hb : b = want
        · rw [if_pos hb] at h
          exact .inl ⟨by simp [Region.wanted, hg, hy, hb], h⟩
        · rw [if_neg hb, Zaa] at h
          exact .inr ⟨by simp [Region.wanted, hg, hy, hb], _, _, h, hrel.put o.dst Z5v⟩
      · rw [Zaa] at h
        exact .inr ⟨by simp [Region.wanted, hg, Zv3 hd' e1], _, _, h, hrel.put o.dst Z5v⟩
theorem oper_wp (hE : EnvOk P E) (hC : Zuo P E) {all : List Oper} (hall : ops.toList = all) (h : operK E all o st k = some r) (hrel : Rel X C st a w) :
    if Region.wanted o (yielded ops a.tmps) then o.wp P a w (fun a' w' => Goes X k r a' w' ∧ Frm C st w w' (tvOf E st o) (trOf E st o)) Q else (Goes X k r (a.put o.dst undef) w ∧ Frm C st w w (tvOf E st o) (trOf E st o)) := by
  rcases Zxu hall h hrel with ⟨h1, h2⟩ | ⟨h1, h2⟩
  · rw [if_pos h1]; exact Z61 hE hC h2 hrel
  · rw [if_neg (by rw [h1]; decide)]; exact ⟨h2, Frm.refl⟩
theorem oper_still (hE : EnvOk P E) {all : List Oper} (hall : ops.toList = all) (hs : Zwt E o.op = true) (h : operK E all o st k = some r) (hrel : Rel X C st a w) :
    ∃ v, ((Region.wanted o (yielded ops a.tmps) = true ∧ ∀ w1, Zaee a o w w1 → (execOp a.eval o).run P w1 = .ok (.value v) w1) ∨ (Region.wanted o (yielded ops a.tmps) = false ∧ v = undef)) ∧ Goes X k r (a.put o.dst v) w := by
  rcases Zxu hall h hrel with ⟨h1, h2⟩ | ⟨h1, h2⟩
  · rcases Zzy (X := X) (P := P) hE (fun c f ho hc => by rw [ho] at hs; simp [Zwt, hc] at hs) h2 hrel with ⟨v, g1, g2⟩ | ⟨g1, _⟩
    · exact ⟨v, .inl ⟨h1, g1⟩, g2⟩
    · rw [g1] at hs; cases hs
  · exact ⟨undef, .inr ⟨h1, rfl⟩, h2⟩
def unl (l : Array Bool) : Nat := l.toList.count false
theorem Zafn : ∀ {l : List Bool} {i : Nat}, l[i]? = some false → l.count false = (l.set i true).count false + 1
  | [], _, h => by simp at h
  | b :: l, 0, h => by
    simp only [List.getElem?_cons_zero, Option.some.injEq] at h
    subst h
    simp
  | b :: l, i + 1, h => by
    simp only [List.getElem?_cons_succ] at h
    simp only [List.set_cons_succ, List.count_cons, Zafn h]
    omega
theorem Zaek {l : Array Bool} {i : Nat} (h : l.getD i true = false) : unl l = unl (l.setIfInBounds i true) + 1 := by
  unfold unl
  rw [Array.toList_setIfInBounds]
  refine Zafn ?_
  rw [Array.getElem?_toList]
  rw [Array.getD_eq_getD_getElem?] at h
  cases e : l[i]? with
  | none => rw [e] at h; simp at h
  | some b => rw [e] at h; simp at h; rw [h]
theorem Zgw {l : Array Bool} {i n : Nat} (hn : l.size = n) : l.getD i true = if i < n then l.getD i false else true := by
  subst hn
  by_cases h : i < l.size
  · simp [h]
  · simp [h]
theorem Zlh {l : Array Bool} {i j n : Nat} (hn : l.size = n) : (l.setIfInBounds i true).getD j false = (l.getD j false || (decide (i = j) && decide (i < n))) := by
  subst hn
  by_cases hij : i = j
  · subst hij
    by_cases h : i < l.size
    · simp [h]
    · simp [h]
  · simp [Array.getElem?_setIfInBounds_ne hij, hij]
theorem Zadw : ∀ {l : List Oper} {i : Nat} {o : Oper} {d : Nat}, l[i]? = some o → o.dst = some d → d ∈ Zrw l
  | [], _, _, _, h, _ => by simp at h
  | o' :: l, 0, o, d, h, hd => by
    simp only [List.getElem?_cons_zero, Option.some.injEq] at h
    subst h
    simp [Zrw, hd]
  | o' :: l, i + 1, o, d, h, hd => by
    simp only [List.getElem?_cons_succ] at h
    have := Zadw h hd
    simp only [Zrw]
    split
    · exact List.mem_cons_of_mem _ this
    · exact this
theorem Z73 : ∀ {l : List Oper}, once (Zrw l) = true → ∀ {i j : Nat} {o o' : Oper} {d : Nat}, l[i]? = some o → l[j]? = some o' → o.dst = some d → o'.dst = some d → i = j
  | [], _, i, j, o, o', d, h, _, _, _ => by simp at h
  | q :: l, hon, 0, 0, o, o', d, h1, h2, d1, d2 => rfl
  | q :: l, hon, 0, j + 1, o, o', d, h1, h2, d1, d2 => by
    simp only [List.getElem?_cons_zero, Option.some.injEq] at h1
    subst h1
    simp only [List.getElem?_cons_succ] at h2
    simp only [Zrw, d1, once, Bool.and_eq_true, Bool.not_eq_true'] at hon
    rw [(Za7 _ _).2 (Zadw h2 d2)] at hon
    cases hon.1
  | q :: l, hon, i + 1, 0, o, o', d, h1, h2, d1, d2 => by
    simp only [List.getElem?_cons_zero, Option.some.injEq] at h2
    subst h2
    simp only [List.getElem?_cons_succ] at h1
    simp only [Zrw, d2, once, Bool.and_eq_true, Bool.not_eq_true'] at hon
    rw [(Za7 _ _).2 (Zadw h1 d1)] at hon
    cases hon.1
  | q :: l, hon, i + 1, j + 1, o, o', d, h1, h2, d1, d2 => by
    simp only [List.getElem?_cons_succ] at h1 h2
    have hon' : once (Zrw l) = true := by
      simp only [Zrw] at hon
      split at hon
      · simp only [once, Bool.and_eq_true] at hon; exact hon.2
      · exact hon
    rw [Z73 hon' h1 h2 d1 d2]
end
end Go.Proofs.YtcpecilmkkmaiaaGreat.V
namespace Go.Proofs.YtcpecilmkkmaiaaGreat.V
open Go Go.RowKit
def Qn (Q : Exit → Act → World → Prop) : Exit → Act → World → Prop
  | .normal, a, w => Q .normal a w
  | _, _, _ => False
def SZ (Z : Nat → Zd) (ρ : Nat → Option Obj) (w : World) : Prop := ∀ i B, Z i B → w.heap[B]? = ρ B
def Dep (ops : Array Oper) (j i : Nat) : Prop := ∃ o, ops[j]? = some o ∧ ∃ e ∈ o.after, Region.binds .any e = true ∧ e.on = i
def cutZ (ops : Array Oper) (Z : Nat → Zd) (j : Nat) : Nat → Zd := fun i B => Z i B ∧ ¬ Dep ops j i
def adOf : Value → Option Nat
  | .pointer (some ad) => some ad.block
  | .slice (some ad) n _ => if n = 0 then none else some ad.block
  | _ => none
section
variable {P : Program} {E : Env} {X : Fix} {C C' : Ctx} {st st' : St} {a : Act} {w w' : World} {R : Type} {k : St → Option R} {r : R} {o : Oper} {Q : Exit → Act → World → Prop} {ops : Array Oper}
def Zup (P : Program) (ops : Array Oper) (Q : Exit → Act → World → Prop) (ρ : Nat → Option Obj) : Nat → Array Bool → (Nat → Zd) → Act → World → Prop
  | 0, listed, _, a, w => Region.ready .any ops listed = [] ∧ Q .normal a w
  | fuel + 1, listed, Z, a, w => (Region.ready .any ops listed = [] → Q .normal a w) ∧
    ∀ i ∈ Region.ready .any ops listed, wpOp P ops Q i (fun a' w' => SZ (cutZ ops Z i) ρ w' ∧ Zup P ops Q ρ fuel (listed.setIfInBounds i true) (cutZ ops Z i) a' w') a w
theorem Z8f {ρ : Nat → Option Obj} : ∀ (fuel : Nat) (listed : Array Bool) (Z : Nat → Zd) (a : Act) (w : World), Zup P ops Q ρ fuel listed Z a w → wpAny P .any ops Q fuel listed a w
  | 0, _, _, _, _, h => h
  | fuel + 1, _, _, _, _, h => ⟨h.1, fun i hi => wpOp_mono (fun a' w' h' => Z8f fuel _ _ a' w' h'.2) (h.2 i hi)⟩
theorem Zx1 {ρ ρ' : Nat → Option Obj} : ∀ {n : Nat} {l : Array Bool} {Z Z' : Nat → Zd} {a : Act} {w : World}, (∀ i B, Z i B → Z' i B ∧ ρ' B = ρ B) → Zup P ops Q ρ' n l Z' a w → Zup P ops Q ρ n l Z a w
  | 0, _, _, _, _, _, _, q => q
  | n + 1, l, Z, Z', a, w, h, q => ⟨q.1, fun i hi => wpOp_mono (fun a' w' q => ⟨fun j B hB => by
      obtain ⟨h1, h2⟩ := h j B hB.1
      rw [← h2]
      exact q.1 j B ⟨h1, hB.2⟩, Zx1 (fun j B hB => ⟨⟨(h j B hB.1).1, hB.2⟩, (h j B hB.1).2⟩) q.2⟩) (q.2 i hi)⟩
theorem Zaj9 {ρ : Nat → Option Obj} {i : Nat} {oi : Oper} {v : Value} {Zi : Zd} (hi : ops[i]? = some oi) (hsel : ∀ (j : Nat) (o : Oper) cs b, ops[j]? = some o → o.op ≠ .select cs b)
    (hQ : ∀ c a w, Q (.panic c) (a.put oi.dst v) w → Q (.panic c) a w) :
    ∀ (fuel : Nat) (listed : Array Bool) (Z : Nat → Zd) (a : Act) (w : World),
      (∀ j oj, ops[j]? = some oj → j ≠ i → listed.getD j true = false → (∀ e ∈ oj.after, Region.binds .any e = true → e.on ≠ i) → oi.apart ops oj = true) →
      i ∈ Region.ready .any ops listed → YieldsIf P ops (fun w => ∀ B, Zi B → w.heap[B]? = ρ B) oi v a → (∀ B, Zi B → Z i B) → SZ Z ρ w →
      Zup P ops Q ρ fuel (listed.setIfInBounds i true) Z (a.put oi.dst v) w → Zup P ops Q ρ (fuel + 1) listed Z a w := by
  have hcut : ∀ {Z : Nat → Zd} {w : World} {n l a}, SZ Z ρ w → Zup P ops Q ρ n l Z a w → SZ (cutZ ops Z i) ρ w ∧ Zup P ops Q ρ n l (cutZ ops Z i) a w := fun h1 h2 => ⟨fun j B hB => h1 j B hB.1, Zx1 (fun j B hB => ⟨hB.1, rfl⟩) h2⟩
  intro fuel
  induction fuel with
  | zero =>
    intro listed Z a w _ hr hy hZi hS H
    refine ⟨fun h => (by rw [h] at hr; cases hr), fun j hj => ?_⟩
    by_cases hji : j = i
    · subst hji; exact hy.wpOp hi (fun B hB => hS j B (hZi B hB)) (hcut hS H)
    · have := ready_mono hj hji
      rw [H.1] at this
      cases this
  | succ fuel ih =>
    intro listed Z a w hfree hr hy hZi hS H
    refine ⟨fun h => (by rw [h] at hr; cases hr), fun j hj => ?_⟩
    by_cases hji : j = i
    · subst hji; exact hy.wpOp hi (fun B hB => hS j B (hZi B hB)) (hcut hS H)
    · have h1 := H.2 j (ready_mono hj hji)
      obtain ⟨hjun, oj, hoj, hall⟩ := mem_ready.1 hj
      have hnot : ∀ e ∈ oj.after, Region.binds .any e = true → e.on ≠ i := fun e he hb heq => by
        have h1 := hall e he hb
        have h0 := (mem_ready.1 hr).1
        rw [heq] at h1
        rcases Nat.lt_or_ge i listed.size with h' | h'
        · simp [h'] at h0 h1; rw [h0] at h1; cases h1
        · simp [Array.getElem?_eq_none h'] at h1
      have hndep : ¬ Dep ops j i := fun ⟨o, ho, e, he, hb, heq⟩ => by
        rw [hoj] at ho
        obtain rfl := Option.some.inj ho
        exact hnot e he hb heq
      have h2 := wpOp_putIf hoj (hfree j oj hoj hji hjun hnot) (fun cs b => hsel i oi cs b hi) (fun cs b => hsel j oj cs b hoj) hQ hy h1
      have hfree' : ∀ k ok, ops[k]? = some ok → k ≠ i → (listed.setIfInBounds j true).getD k true = false →
          (∀ e ∈ ok.after, Region.binds .any e = true → e.on ≠ i) → oi.apart ops ok = true := fun k ok hk hki hun hno => by
        refine hfree k ok hk hki ?_ hno
        by_cases hjk : j = k
        · subst hjk; exact hjun
        · rw [getD_set_ne true hjk] at hun; exact hun
      refine wpOp_mono (fun a' w' h3 => ⟨h3.2.1, ih (listed.setIfInBounds j true) _ a' w' hfree' (ready_mono hr (Ne.symm hji)) h3.1 (fun B hB => ⟨hZi B hB, hndep⟩) h3.2.1 ?_⟩) h2
      rw [Array.setIfInBounds_comm _ _ hji]
      exact h3.2.2
def LazyK (P : Program) (E : Env) (o : Oper) (z : Array Value) (id : TypeId) (val : Nat → Value) : Prop :=
  (∃ t, o.op = .alloc t ∧ E.ty t ≠ .unit ∧ (E.ty t).whole = true ∧ 0 < (E.ty t).size ∧ fits P (E.ty t) t = true ∧ z.toList = zeroV (E.ty t) ∧ id = t ∧ val = fun B => .pointer (some ⟨B, 0, none⟩)) ∨
  (∃ t b e, o.op = .buildSlice t 0 #[] ∧ E.ty t = .row b e ∧ e.whole = true ∧ val = fun B => .slice (some ⟨B, 0, none⟩) 0 0)
structure EarlyF (P : Program) (E : Env) (ops : Array Oper) (X : Fix) (C : Ctx) (st : St) (a : Act) (w : World) (e B : Nat) : Prop where
  lz : ∃ o d z id val, ops[e]? = some o ∧ o.dst = some d ∧ lazyB E o = true ∧ LazyK P E o z id val ∧ (d < a.tmps.size → a.tmps.getD d undef = val B) ∧ w.heap[B]? = some (.cells z id (0, 0))
  g : Garb X C st w B
theorem Zafb (hE : EnvOk P E) (h : lazyB E o = true) : ∃ d z id val, o.guard = none ∧ o.dst = some d ∧ d < 500 ∧ LazyK P E o z id val ∧ (∀ (a : Act) (w : World), (execOp a.eval o).run P w = .ok (.value (val w.heap.size)) { w with heap := w.heap.push (.cells z id (0, 0)) }) := by
  unfold lazyB at h
  split at h
  · rename_i t d ho hg hd
    split at h
    · cases h
    · rename_i hu
      simp only [Bool.and_eq_true] at h
      obtain ⟨⟨h1, h2⟩, h3⟩ := h
      have hf := (hE.ty t).resolve_left hu
      obtain ⟨i, v, e1, e2, e3, e4⟩ := Zxw hf (by intro q; rw [q] at h1; cases h1)
      refine ⟨d, v.cells, t, _, hg, hd, Nat.lt_of_succ_le (by simpa [Nat.blt] using h2), .inl ⟨t, ho, hu, h1, Nat.lt_of_succ_le (by simpa [Nat.blt] using h3), hf, e3, rfl, rfl⟩, fun a w => ?_⟩
      simp only [execOp, ho]
      exact run_v _ (by simp [Instr.alloc, zeroValue, typeInfo, e1, e2, newVar, Zjs])
  · rename_i t ps d ho hg hd
    split at h
    · rename_i b e hps eT
      simp only [Bool.and_eq_true] at h
      obtain ⟨h1, h2⟩ := h
      have hps' : ps = #[] := by cases ps; simp at hps; simp [hps]
      subst hps'
      have hf := (hE.ty t).resolve_left (by rw [eT]; simp)
      rw [eT] at hf
      obtain ⟨u, i, u1, u2, u3, u4, u5, u6⟩ := Ziy (Zg0 hf)
      refine ⟨d, #[], u, _, hg, hd, Nat.lt_of_succ_le (by simpa [Nat.blt] using h2), .inr ⟨t, b, e, ho, eT, h1, rfl⟩, fun a w => ?_⟩
      simp only [execOp, ho]
      refine run_v _ ?_
      have hz0 : 0 * i.size = 0 := Nat.zero_mul _
      simp [Instr.buildSlice, run_underlying u1, Zav u3, hz0, Zjs, Array.range_zero', Instr.fill]
    · cases h
  · cases h
theorem Zait (h : lazyB E o = true) : Zwt E o.op = false := by
  unfold lazyB at h
  split at h
  · rename_i t d ho hg hd
    rw [ho]; rfl
  · rename_i t ps d ho hg hd
    rw [ho]; rfl
  · cases h
theorem Rel.putAct {d : Nat} {v : Value} (hrel : Rel X C st a w) (hd : getL st.tmps d = .dead) : Rel X C st (a.put (some d) v) w := by
  refine { hrel with
    defers := hrel.defers
    tlen := by simp only [Act.put, Array.size_setIfInBounds]; exact hrel.tlen
    tmps := fun i => ?_ }
  by_cases hi : i = d
  · subst hi; rw [hd]; exact trivial
  · have := hrel.tmps i
    simp only [Act.put, Array.getD_eq_getD_getElem?]
    rw [Array.getElem?_setIfInBounds_ne (Ne.symm hi), ← Array.getD_eq_getD_getElem?]
    exact this
theorem Zaex {d i : Nat} {v u : Value} (h : d ≠ i) : (a.put (some d) v).tmps.getD i u = a.tmps.getD i u := by
  simp only [Act.put, Array.getD_eq_getD_getElem?]
  rw [Array.getElem?_setIfInBounds_ne h]
theorem put_this {d : Nat} {v u : Value} (h : d < a.tmps.size) : (a.put (some d) v).tmps.getD d u = v := by
  simp only [Act.put, Array.getD_eq_getD_getElem?]
  simp [h]
theorem Zacr {d : Option Nat} {v : Value} : (a.put d v).tmps.size = a.tmps.size := by
  cases d <;> simp [Act.put]
theorem Z3k {tv tr : List Nat} : ∀ {l : List (Nat × Nat)}, Zae3 st tv tr l = true → ∀ t i, (t, i) ∈ l → Z6b st tv tr (getL st.tmps t) = true
  | (t, i) :: l, h, u, j, hu => by
    simp only [Zae3, Bool.and_eq_true] at h
    rcases List.mem_cons.1 hu with q | hu
    · cases q; exact h.1
    · exact Z3k h.2 u j hu
theorem Zabv {i : Nat} : ∀ {l : List Edge}, Zajs i l = true ↔ ∃ e ∈ l, Region.binds .any e = true ∧ e.on = i
  | [] => by simp [Zajs]
  | e :: l => by
    simp only [Zajs, Bool.or_eq_true, Bool.and_eq_true, Zabv (l := l), List.mem_cons]
    constructor
    · rintro (⟨h1, h2⟩ | ⟨e', h1, h2⟩)
      · exact ⟨e, .inl rfl, h1, Nat.eq_of_beq_eq_true h2⟩
      · exact ⟨e', .inr h1, h2⟩
    · rintro ⟨e', rfl | h1, h2, h3⟩
      · exact .inl ⟨h2, by rw [h3]; exact Nat.beq_refl _⟩
      · exact .inr ⟨e', h1, h2, h3⟩
theorem Zx0 {i j t : Nat} (ho : ops[j]? = some o) : ∀ {l : List (Nat × Nat)}, (t, i) ∈ l → ¬ Dep ops j i → (t, i) ∈ cutTS o l
  | (t', i') :: l, h, hn => by
    unfold cutTS
    split
    · rename_i he
      rcases List.mem_cons.1 h with q | h
      · cases q
        obtain ⟨e, h1, h2, h3⟩ := Zabv.1 he
        exact absurd ⟨o, ho, e, by simpa using h1, h2, h3⟩ hn
      · exact Zx0 ho h hn
    · rcases List.mem_cons.1 h with q | h
      · rw [q]; exact List.mem_cons_self ..
      · exact List.mem_cons_of_mem _ (Zx0 ho h hn)
theorem Z74 {p : Nat × Nat} : ∀ {l : List (Nat × Nat)}, p ∈ cutTS o l → p ∈ l
  | (t', i') :: l, h => by
    unfold cutTS at h
    split at h
    · exact List.mem_cons_of_mem _ (Z74 h)
    · rcases List.mem_cons.1 h with q | h
      · rw [q]; exact List.mem_cons_self ..
      · exact List.mem_cons_of_mem _ (Z74 h)
theorem Zaft {tv tr : List Nat} {t B : Nat} (hrel : Rel X C st a w) (ho : Z6b st tv tr (getL st.tmps t) = true) (hB : adOf (a.tmps.getD t undef) = some B) : C.I B ∨ (∃ b l, look st.vars b = some l ∧ b ∉ tv ∧ (C.var b).1 = B) ∨ ∃ b r', look st.rows b = some r' ∧ b ∉ tr ∧ C.F b B := by
  have hx := hrel.tmps t
  have nin : ∀ {b : Nat} {l : List Nat}, (!natIn b l) = true → b ∉ l := fun h q => by
    rw [(Za7 _ _).2 q] at h; cases h
  cases e : getL st.tmps t <;> rw [e] at hx ho <;> simp only [Z6b] at ho <;> try (cases ho; done)
  case int => rw [show a.tmps.getD t undef = _ from hx] at hB; cases hB
  case str => rw [show a.tmps.getD t undef = _ from hx] at hB; cases hB
  case nil => rw [show a.tmps.getD t undef = _ from hx] at hB; cases hB
  case row =>
    obtain ⟨ad, n, c, hv, h1, h2, h3⟩ := hx
    rw [hv] at hB
    rcases h3 with h3 | ⟨ad', vs, q1, q2, q3, q4, q5⟩
    · have : n = 0 := by rw [h1, h3]; rfl
      subst this
      cases ad <;> simp [adOf] at hB
    · subst q1
      simp only [adOf] at hB
      split at hB
      · cases hB
      · obtain rfl := Option.some.inj hB
        exact .inl q3
  case ref b p cut =>
    cases p with
    | cons s p => simp only [Z6b] at ho; cases ho
    | nil =>
    simp only [Z6b] at ho
    split at ho
    rotate_left
    · cases ho
    rename_i rw' hb
    have hb' : look C.rows b = some rw' := by rw [hrel.rowsEq]; exact hb
    obtain ⟨H, sz, ⟨h1, h1'⟩, h2⟩ := hx.2 rw' hb'
    subst h1
    have hrow := hrel.rows b rw' hb
    have hblk : ∀ ad, (C.hdr b).1 = some ad → (C.hdr b).2.2 ≠ 0 → ad.spot = none ∧ C.F b ad.block := fun ad q1 q2 => by
      obtain ⟨_, _, h3 | ⟨ad', cs, et, fr, vs', G, e1, e2, e3, _⟩⟩ := hrow
      · exact absurd h3 q2
      · rw [e1] at q1
        obtain rfl := Option.some.inj q1
        exact ⟨e2, e3⟩
    have hfin : ∀ ad, (C.hdr b).1 = some ad → (C.hdr b).2.2 ≠ 0 → ad.block = B → C.I B ∨ (∃ b l, look st.vars b = some l ∧ b ∉ tv ∧ (C.var b).1 = B) ∨ ∃ b r', look st.rows b = some r' ∧ b ∉ tr ∧ C.F b B := fun ad q1 q2 q3 => by
      rw [← q3]; exact .inr (.inr ⟨b, rw', hb, nin ho, (hblk ad q1 q2).2⟩)
    have hl1 := hrow.1
    have hl2 := hrow.2.1
    cases cut with
    | none =>
      have h2 : a.tmps.getD t undef = .slice (C.hdr b).1 (C.hdr b).2.1 (C.hdr b).2.2 := h2
      rw [h2] at hB
      cases e3 : (C.hdr b).1 with
      | none => rw [e3] at hB; simp [adOf] at hB
      | some ad =>
        rw [e3] at hB
        simp only [adOf] at hB
        split at hB
        · cases hB
        · exact hfin ad e3 (by omega) (Option.some.inj hB)
    | some c =>
      obtain ⟨lo, hi⟩ := c
      obtain ⟨q1, q2, a', cap', hv, q3, q4, q5⟩ := h2
      rw [hv] at hB
      rcases q5 with q5 | ⟨ad, q5, q6⟩
      · have hz : hi - lo = 0 := by omega
        rw [hz] at hB
        cases a' <;> simp [adOf] at hB
      · subst q6
        simp only [adOf] at hB
        split at hB
        · cases hB
        · rename_i hn
          have hc : (C.hdr b).2.2 ≠ 0 := by omega
          refine hfin ad q5 hc ?_
          have := (hblk ad q5 hc).1
          rw [Zmv this, Z8b] at hB
          exact Option.some.inj hB
  case vptr b q =>
    split at ho
    rotate_left
    · cases ho
    rename_i l hl
    rw [show a.tmps.getD t undef = _ from hx] at hB
    obtain rfl := Option.some.inj hB
    exact .inr (.inl ⟨b, l, hl, nin ho, rfl⟩)
  case rptr b p =>
    split at ho
    rotate_left
    · cases ho
    rename_i rw' hb
    have hb' : look C.rows b = some rw' := by rw [hrel.rowsEq]; exact hb
    obtain ⟨M, u, h1, h2⟩ := hx.2 rw' hb'
    rw [h2] at hB
    obtain rfl := Option.some.inj hB
    exact .inr (.inr ⟨b, rw', hb, nin ho, h1.blk⟩)
  case sptr =>
    obtain ⟨ad, vs, h1, h2, h3, -⟩ := hx
    rw [h1] at hB
    obtain rfl := Option.some.inj hB
    exact .inl h3
theorem addr_same {tv tr : List Nat} {t B : Nat} (hrel : Rel X C st a w) (hf : Frm C st w w' tv tr) (ho : Z6b st tv tr (getL st.tmps t) = true) (hB : adOf (a.tmps.getD t undef) = some B) : w'.heap[B]? = w.heap[B]? := by
  rcases Zaft hrel ho hB with q | ⟨b, l, e, hn, rfl⟩ | ⟨b, r', e, hn, q⟩
  · exact hf.I _ q
  · exact hf.V b l e hn
  · exact hf.R b r' e hn _ q
theorem addr_lt {tv tr : List Nat} {t B : Nat} (hrel : Rel X C st a w) (ho : Z6b st tv tr (getL st.tmps t) = true) (hB : adOf (a.tmps.getD t undef) = some B) : B < w.heap.size := by
  rcases Zaft hrel ho hB with q | ⟨b, l, e, hn, rfl⟩ | ⟨b, r', e, hn, q⟩
  · exact hrel.Ilt _ q
  · exact hrel.varLt e
  · exact hrel.Flt b r' e _ q
end
end Go.Proofs.YtcpecilmkkmaiaaGreat.V
namespace Go.Proofs.YtcpecilmkkmaiaaGreat.V
open Go Go.RowKit
section
variable {P : Program} {E : Env} {X : Fix} {C C' : Ctx} {st st' : St} {a : Act} {w w' : World} {R : Type} {k : St → Option R} {r : R} {o : Oper} {Q : Exit → Act → World → Prop} {ops : Array Oper}
structure Run (P : Program) (E : Env) (ops : Array Oper) (X : Fix) (C : Ctx) (st : St) (a : Act) (w : World) (Lc L : Array Bool) (Ef : Nat → Option Nat) (TS : List (Nat × Nat)) (Z : Nat → Zd) (ρ : Nat → Option Obj) : Prop where
  sc : Lc.size = ops.size
  sl : L.size = ops.size
  hL : ∀ j, L.getD j false = (Lc.getD j false || (Ef j).isSome)
  un : ∀ j B, Ef j = some B → j < ops.size ∧ Lc.getD j false = false
  ear : ∀ j B, Ef j = some B → EarlyF P E ops X C st a w j B
  inj : ∀ i j B, Ef i = some B → Ef j = some B → i = j
  Zat : ∀ i B, Z i B → B < w.heap.size ∧ w.heap[B]? = ρ B ∧ ∃ t, (t, i) ∈ TS ∧ adOf (a.tmps.getD t undef) = some B
  full : Zga st.vars = true
  ts : ∀ t i, (t, i) ∈ TS → ∀ j o, ops[j]? = some o → Lc.getD j false = false → o.dst ≠ some t
theorem Z94 : ∀ {l : List Oper} {i j e : Nat} {listed : Array Bool}, (Z95 E ops listed e i l)[j]? = (l[j]?).map fun o => (listed.getD (i + j) true || (lazyB E o && !Nat.beq (i + j) e))
  | [], i, j, e, listed => by simp [Z95]
  | o :: l, i, 0, e, listed => by simp [Z95]
  | o :: l, i, j + 1, e, listed => by
    simp only [Z95, List.getElem?_cons_succ]
    rw [Z94 (l := l)]
    simp only [Nat.succ_eq_add_one, show i + 1 + j = i + (j + 1) by omega]
theorem Z3q {e j : Nat} {listed : Array Bool} : (Zy6 E ops listed e).getD j false = match ops[j]? with | some o => (listed.getD j true || (lazyB E o && !Nat.beq j e)) | none => false := by
  unfold Zy6
  rw [Array.getD_eq_getD_getElem?, List.getElem?_toArray, Z94, Array.getElem?_toList]
  cases ops[j]? with
  | none => rfl
  | some o => simp
theorem Zac9 {e : Nat} {listed : Array Bool} : (Zy6 E ops listed e).size = ops.size := by
  have : ∀ (l : List Oper) (i : Nat), (Z95 E ops listed e i l).length = l.length := by
    intro l
    induction l with
    | nil => intro i; rfl
    | cons o l ih => intro i; simp [Z95, ih]
  simp [Zy6, this]
theorem Run.ready {Lc L : Array Bool} {Ef : Nat → Option Nat} {TS : List (Nat × Nat)} {Z : Nat → Zd} {ρ : Nat → Option Obj} (hr : Run P E ops X C st a w Lc L Ef TS Z ρ) {e : Nat} (he : Ef e = none) {j : Nat} (hj : j ∈ Region.ready .any ops L) :
    ∃ oj, ops[j]? = some oj ∧ Ef j = none ∧ Lc.getD j false = false ∧ ((lazyB E oj = true ∧ j ≠ e) ∨ j ∈ Region.ready .any ops (Zy6 E ops Lc e)) := by
  obtain ⟨h0, oj, ho, hall⟩ := mem_ready.1 hj
  have hlt : j < ops.size := (Array.getElem?_eq_some_iff.1 ho).1
  rw [Zgw hr.sl, if_pos hlt, hr.hL j] at h0
  simp only [Bool.or_eq_false_iff] at h0
  have hE : Ef j = none := by
    cases q : Ef j with
    | none => rfl
    | some B => rw [q] at h0; simp at h0
  refine ⟨oj, ho, hE, h0.1, ?_⟩
  by_cases hz : lazyB E oj = true ∧ j ≠ e
  · exact .inl hz
  · right
    refine mem_ready.2 ⟨?_, oj, ho, fun ed hed hb => ?_⟩
    · rw [Zgw Zac9, if_pos hlt, Z3q, ho]
      simp only [Zgw hr.sc, if_pos hlt, h0.1, Bool.false_or]
      cases q : lazyB E oj with
      | false => rfl
      | true =>
        have : j = e := Classical.byContradiction fun q' => hz ⟨q, q'⟩
        simp [this]
    · have h1 := hall ed hed hb
      rw [hr.hL] at h1
      rw [Z3q]
      rcases Bool.or_eq_true_iff.1 h1 with h1 | h1
      · have hl : ed.on < ops.size := by
          rw [← hr.sc]
          rcases Nat.lt_or_ge ed.on Lc.size with q | q
          · exact q
          · simp [Array.getElem?_eq_none q] at h1
        obtain ⟨o', ho'⟩ : ∃ o', ops[ed.on]? = some o' := ⟨ops[ed.on], Array.getElem?_eq_getElem hl⟩
        rw [ho']
        simp only [Zgw hr.sc, if_pos hl, h1, Bool.true_or]
      · cases q : Ef ed.on with
        | none => rw [q] at h1; cases h1
        | some B =>
          obtain ⟨⟨o', d, z, id, val, q1, q3, q4, _⟩, _⟩ := hr.ear _ B q
          rw [q1]
          have hne : ed.on ≠ e := fun q' => by rw [q', he] at q; cases q
          have hb : Nat.beq ed.on e = false := Bool.eq_false_iff.2 (fun q => hne (Nat.eq_of_beq_eq_true q))
          simp [q4, hb]
theorem Z5z : ∀ {l : List Nat} {i : Nat} {all : List Oper}, pickS E all l = some i → i ∈ l ∧ ∃ o, all[i]? = some o ∧ Zwt E o.op = true
  | j :: l, i, all, h => by
    simp only [pickS] at h
    split at h
    · split at h
      · obtain rfl := Option.some.inj h
        exact ⟨List.mem_cons_self .., _, ‹_›, ‹_›⟩
      · obtain ⟨h1, h2⟩ := Z5z h
        exact ⟨List.mem_cons_of_mem _ h1, h2⟩
    · obtain ⟨h1, h2⟩ := Z5z h
      exact ⟨List.mem_cons_of_mem _ h1, h2⟩
theorem Z51 : ∀ {l : List Nat} {i : Nat} {all : List Oper}, pickN E all l = some i → i ∈ l ∧ ∀ o, all[i]? = some o → lazyB E o = false
  | j :: l, i, all, h => by
    simp only [pickN] at h
    split at h
    · rename_i o ho
      split at h
      · obtain ⟨h1, h2⟩ := Z51 h
        exact ⟨List.mem_cons_of_mem _ h1, h2⟩
      · rename_i hz
        obtain rfl := Option.some.inj h
        exact ⟨List.mem_cons_self .., fun o' h' => by rw [ho] at h'; obtain rfl := Option.some.inj h'; exact Bool.eq_false_iff.2 hz⟩
    · obtain ⟨h1, h2⟩ := Z51 h
      exact ⟨List.mem_cons_of_mem _ h1, h2⟩
theorem Z9s : ∀ {l : List Nat} {all : List Oper}, pickN E all l = none → ∀ j, j ∈ l → ∀ o, all[j]? = some o → lazyB E o = true
  | i :: l, all, h, j, hj, o, ho => by
    simp only [pickN] at h
    split at h
    · rename_i o' ho'
      split at h
      · rename_i hz
        rcases List.mem_cons.1 hj with rfl | hj
        · rw [ho'] at ho; obtain rfl := Option.some.inj ho; exact hz
        · exact Z9s h j hj o ho
      · cases h
    · rename_i hn
      rcases List.mem_cons.1 hj with rfl | hj
      · rw [hn] at ho; cases ho
      · exact Z9s h j hj o ho
theorem Zab3 : ∀ {l : List Nat} {i : Nat}, allNat i l = true → ∀ j, j ∈ l → j = i
  | k :: l, i, h, j, hj => by
    simp only [allNat, Bool.and_eq_true] at h
    rcases List.mem_cons.1 hj with rfl | hj
    · exact Nat.eq_of_beq_eq_true h.1
    · exact Zab3 h.2 j hj
theorem Z4d : ∀ {l : List Nat} {all : List Oper}, Zafr E all l = true → ∀ j, j ∈ l → ∀ o, all[j]? = some o → lazyB E o = true
  | k :: l, all, h, j, hj, o, ho => by
    simp only [Zafr, Bool.and_eq_true] at h
    rcases List.mem_cons.1 hj with rfl | hj
    · rw [ho] at h; exact h.1
    · exact Z4d h.2 j hj o ho
theorem Z3r {listed : Array Bool} : ∀ {l : List Oper} {i j : Nat} {o : Oper} {d : Nat}, Zwh E st listed i l = true → l[j]? = some o → o.dst = some d → lazyB E o = true → listed.getD (i + j) true = false → getL st.tmps d = .dead
  | [], _, _, _, _, _, ho, _, _, _ => by simp at ho
  | o' :: l, i, 0, o, d, h, ho, hd, hz, hn => by
    simp only [List.getElem?_cons_zero, Option.some.injEq] at ho
    subst ho
    simp only [Nat.add_zero] at hn
    simp only [Zwh, hn, hz, Bool.not_true, Bool.or_false, Bool.false_eq_true, if_false, hd, Bool.and_eq_true] at h
    have h := h.1
    split at h
    · assumption
    · cases h
  | o' :: l, i, j + 1, o, d, h, ho, hd, hz, hn => by
    simp only [List.getElem?_cons_succ] at ho
    simp only [Zwh, Bool.and_eq_true] at h
    exact Z3r (i := Nat.succ i) h.2 ho hd hz (by rw [show Nat.succ i + j = i + (j + 1) by omega]; exact hn)
theorem Zr9 {listed : Array Bool} {t : Nat} : ∀ {l : List Oper} {i j : Nat} {o : Oper}, Zx8 t listed i l = true → l[j]? = some o → listed.getD (i + j) true = false → o.dst ≠ some t
  | [], _, _, _, _, ho, _ => by simp at ho
  | o' :: l, i, 0, o, h, ho, hn => by
    simp only [List.getElem?_cons_zero, Option.some.injEq] at ho
    subst ho
    simp only [Nat.add_zero] at hn
    simp only [Zx8, hn, Bool.false_or, Bool.and_eq_true, Bool.not_eq_true'] at h
    intro q
    have := h.1
    simp [dstIn, q, natIn] at this
  | o' :: l, i, j + 1, o, h, ho, hn => by
    simp only [List.getElem?_cons_succ] at ho
    simp only [Zx8, Bool.and_eq_true] at h
    exact Zr9 (i := Nat.succ i) h.2 ho (by rw [show Nat.succ i + j = i + (j + 1) by omega]; exact hn)
theorem dstIn_ne {TS : List Nat} (h : dstIn TS o = false) : ∀ t, t ∈ TS → o.dst ≠ some t := by
  intro t ht q
  simp only [dstIn, q] at h
  rw [(Za7 _ _).2 ht] at h
  cases h
theorem Zyw {t : Nat} {v u : Value} (h : o.dst ≠ some t) : (a.put o.dst v).tmps.getD t u = a.tmps.getD t u := by
  cases e : o.dst with
  | none => rfl
  | some d => exact Zaex (fun q => h (by rw [e, q]))
theorem EarlyF.step {e B : Nat} {i : Nat} {v : Value} (hon : once (Zrw ops.toList) = true) (hi : ops[i]? = some o) (hie : i ≠ e) (h : EarlyF P E ops X C st a w e B) (hrel : Rel X C st a w) (hreb : Rel (reb X C st w) C' st' (a.put o.dst v) w') (hf : Zga st'.vars = true) : EarlyF P E ops X C' st' (a.put o.dst v) w' e B := by
  obtain ⟨⟨oe, d, z, id, val, q1, q3, q4, qk, q5, q6⟩, g⟩ := h
  obtain ⟨g1, g2⟩ := g.step hrel hreb (Zx4 hf)
  refine ⟨⟨oe, d, z, id, val, q1, q3, q4, qk, fun hd => ?_, g2.trans q6⟩, g1⟩
  rw [Zyw (fun q => hie (Z73 hon (by rw [Array.getElem?_toList]; exact hi) (by rw [Array.getElem?_toList]; exact q1) q q3))]
  exact q5 (by rw [Zacr] at hd; exact hd)
end
end Go.Proofs.YtcpecilmkkmaiaaGreat.V
namespace Go.Proofs.YtcpecilmkkmaiaaGreat.V
open Go Go.RowKit
section
variable {P : Program} {E : Env} {X : Fix} {C C' : Ctx} {st st' : St} {a : Act} {w w' : World} {R : Type} {k : St → Option R} {r : R} {o : Oper} {Q : Exit → Act → World → Prop} {ops : Array Oper}
variable {Lc L : Array Bool} {Ef : Nat → Option Nat} {TS : List (Nat × Nat)} {Z : Nat → Zd} {ρ : Nat → Option Obj}
theorem Run.lt (hr : Run P E ops X C st a w Lc L Ef TS Z ρ) {i : Nat} {o : Oper} (hi : ops[i]? = some o) : i < ops.size := (Array.getElem?_eq_some_iff.1 hi).1
theorem Run.early (hr : Run P E ops X C st a w Lc L Ef TS Z ρ) (hE : EnvOk P E) (hrel : Rel X C st a w) (hon : once (Zrw ops.toList) = true) {j : Nat} {oj : Oper} (hj : ops[j]? = some oj) (hz : lazyB E oj = true) (hEj : Ef j = none) (hLj : Lc.getD j false = false) (hld : Zwh E st Lc 0 ops.toList = true)
    {K : Act → World → Prop} (hK : ∀ a' w', Rel X C st a' w' → Run P E ops X C st a' w' Lc (L.setIfInBounds j true) (fun i => if i = j then some w.heap.size else Ef i) TS Z ρ → K a' w') : wpOp P ops Q j (fun a' w' => SZ Z ρ w' ∧ K a' w') a w := by
  obtain ⟨d, z, id, val, q2, q3, q4, q5, q10⟩ := Zafb (P := P) hE hz
  have hlt : j < ops.size := hr.lt hj
  have hdead : getL st.tmps d = .dead := Z3r hld (by rw [Array.getElem?_toList]; exact hj) q3 hz (by rw [Nat.zero_add, Zgw hr.sc, if_pos hlt]; exact hLj)
  unfold wpOp
  rw [hj]
  simp only
  rw [if_pos (by simp [Region.wanted, q2])]
  left
  unfold Oper.wp
  rw [q10 a w, Oper.upon_value]
  obtain ⟨g1, g2, g3, g4, g5, g6⟩ := hrel.push z id (0, 0)
  have hsame : ∀ B, B < w.heap.size → (w.heap.push (.cells z id (0, 0)))[B]? = w.heap[B]? := fun B hB => by
    rw [Array.getElem?_push, if_neg (by omega)]
  have hput : ∀ i oi, ops[i]? = some oi → i ≠ j → oi.dst ≠ some d := fun i oi hi hij q => hij (Z73 hon (by rw [Array.getElem?_toList]; exact hi) (by rw [Array.getElem?_toList]; exact hj) q q3)
  refine ⟨fun i B hB => ?_, hK _ _ (by rw [q3]; exact g1.putAct hdead) ?_⟩
  · obtain ⟨z1, z2, _⟩ := hr.Zat i B hB
    rw [← z2]
    exact hsame B z1
  · exact {
      sc := hr.sc
      sl := by rw [Array.size_setIfInBounds]; exact hr.sl
      hL := fun i => by
        rw [Zlh hr.sl, hr.hL i]
        by_cases hij : i = j
        · subst hij; simp [hlt]
        · simp [hij, Ne.symm hij]
      un := fun i B h => by
        by_cases hij : i = j
        · subst hij; exact ⟨hlt, hLj⟩
        · rw [if_neg hij] at h; exact hr.un i B h
      ear := fun i B h => by
        by_cases hij : i = j
        · subst hij
          rw [if_pos rfl] at h
          obtain rfl := Option.some.inj h
          exact ⟨⟨oj, d, z, id, val, hj, q3, hz, q5, fun hd => by rw [q3]; exact put_this (by rw [q3, Zacr] at hd; exact hd), g2⟩, ⟨g4, g5, fun c l e => g6 c l e, by simp, g3⟩⟩
        · rw [if_neg hij] at h
          obtain ⟨⟨oe, de, ze, ide, vale, p1, p3, p4, pk, p5, p6⟩, g⟩ := hr.ear i B h
          refine ⟨⟨oe, de, ze, ide, vale, p1, p3, p4, pk, fun hd => ?_, (hsame B g.lt).trans p6⟩, ⟨g.I, g.F, g.V, by simp; have := g.lt; omega, g.new⟩⟩
          rw [q3, Zaex (fun q => hput i oe p1 hij (by rw [p3, q]))]
          exact p5 (by rw [Zacr] at hd; exact hd)
      inj := fun i i' B h h' => by
        by_cases hij : i = j <;> by_cases hij' : i' = j
        · rw [hij, hij']
        · rw [if_pos hij] at h
          rw [if_neg hij'] at h'
          obtain rfl := Option.some.inj h
          exact absurd (hr.ear i' _ h').g.lt (Nat.lt_irrefl _)
        · rw [if_neg hij] at h
          rw [if_pos hij'] at h'
          obtain rfl := Option.some.inj h'
          exact absurd (hr.ear i _ h).g.lt (Nat.lt_irrefl _)
        · rw [if_neg hij] at h
          rw [if_neg hij'] at h'
          exact hr.inj i i' B h h'
      Zat := fun i B hB => by
        obtain ⟨z1, z2, t', z3, z4⟩ := hr.Zat i B hB
        refine ⟨by simp; omega, (hsame B z1).trans z2, t', z3, ?_⟩
        rw [Zyw (hr.ts t' i z3 j oj hj hLj)]
        exact z4
      full := hr.full
      ts := hr.ts }
theorem allB_get {l : Array Bool} (h : allB l.toList = true) {j : Nat} (hj : j < l.size) : l.getD j false = true := by
  have key : ∀ (m : List Bool) (i : Nat), allB m = true → i < m.length → m[i]? = some true := by
    intro m
    induction m with
    | nil => intro i _ h; simp at h
    | cons b m ih =>
      intro i h hi
      simp only [allB, Bool.and_eq_true] at h
      cases i with
      | zero => simp [h.1]
      | succ i => simp only [List.getElem?_cons_succ]; exact ih i h.2 (by simpa using hi)
  have := key l.toList j h (by simpa using hj)
  rw [Array.getElem?_toList] at this
  rw [Array.getD_eq_getD_getElem?, this]; rfl
theorem Run.done (hr : Run P E ops X C st a w Lc L Ef TS Z ρ) (hrel : Rel X C st a w) (hon : once (Zrw ops.toList) = true) {i : Nat} {o : Oper} (hi : ops[i]? = some o) (hEi : Ef i = none) (hLi : Lc.getD i false = false) {v : Value} {TS' : List (Nat × Nat)} {Z' : Nat → Zd} {ρ' : Nat → Option Obj}
    (hreb : Rel (reb X C st w) C' st' (a.put o.dst v) w') (hf : Zga st'.vars = true) (hZ : ∀ i B, Z' i B → B < w'.heap.size ∧ w'.heap[B]? = ρ' B ∧ ∃ t, (t, i) ∈ TS' ∧ adOf ((a.put o.dst v).tmps.getD t undef) = some B) (hts : ∀ t i, (t, i) ∈ TS' → ∀ j o, ops[j]? = some o → Lc.getD j false = false → o.dst ≠ some t) :
    Run P E ops X C' st' (a.put o.dst v) w' (Lc.setIfInBounds i true) (L.setIfInBounds i true) Ef TS' Z' ρ' where
  sc := by rw [Array.size_setIfInBounds]; exact hr.sc
  sl := by rw [Array.size_setIfInBounds]; exact hr.sl
  hL := fun j => by
    rw [Zlh hr.sl, Zlh hr.sc, hr.hL j]
    cases Lc.getD j false <;> cases (Ef j).isSome <;> simp
  un := fun j B h => by
    obtain ⟨h1, h2⟩ := hr.un j B h
    refine ⟨h1, ?_⟩
    have hij : i ≠ j := fun q => by rw [q, h] at hEi; cases hEi
    rw [Zlh hr.sc, h2]
    simp [hij]
  ear := fun j B h => (hr.ear j B h).step hon hi (fun q => by rw [q, h] at hEi; cases hEi) hrel hreb hf
  inj := hr.inj
  Zat := hZ
  full := hf
  ts := fun t q ht j o' hj hl => hts t q ht j o' hj (by
    rw [Zlh hr.sc] at hl
    simp only [Bool.or_eq_false_iff] at hl
    exact hl.1)
theorem load_live {t : TypeId} {x : Operand} (ho : o.op = .load t x) (h : insts E o st k = some r) : Zagm (evD st x) = false := by
  simp only [insts, ho, Zji, Zaa] at h
  cases e : evD st x <;> first | rfl | skip
  all_goals
    rw [e] at h
    simp only [loadK, Env.tyK] at h
    split at h <;> cases h
theorem elems_dead {f : (e : Ty) → List e.den → Option R} : Zg1 st true .dead f = none := rfl
theorem Zadz {s t : TypeId} {x : Operand} (ho : o.op = .convert s t x) (h : insts E o st k = some r) : Zagm (evD st x) = false := by
  simp only [insts, ho, Zji, Zaa] at h
  cases e : evD st x <;> first | rfl | skip
  all_goals
    rw [e] at h
    simp only [Env.tyK] at h
    split at h
    · cases h
    · split at h
      · cases h
      · split at h <;> first | (cases h; done) | (exfalso; simp_all; done) | skip
        all_goals (split at h <;> first | (cases h; done) | (exfalso; simp_all [Zg1]; done) | skip)
theorem Run.fin (hr : Run P E ops X C st a w Lc L Ef TS Z ρ) (hall : allB Lc.toList = true) (hq : Q .normal a w) : Zup P ops (Qn Q) ρ (unl L) L Z a w := by
  have hd : ∀ n, Region.ready .any ops L = [] → Zup P ops (Qn Q) ρ n L Z a w := fun n hr => by
    cases n with
    | zero => exact ⟨hr, hq⟩
    | succ n => exact ⟨fun _ => hq, by rw [hr]; simp⟩
  refine hd _ ?_
  cases e : Region.ready .any ops L with
  | nil => rfl
  | cons j l =>
    have hj : j ∈ Region.ready .any ops L := by rw [e]; exact List.mem_cons_self ..
    obtain ⟨h0, oj, ho, _⟩ := mem_ready.1 hj
    have hlt : j < ops.size := hr.lt ho
    rw [Zgw hr.sl, if_pos hlt, hr.hL j, allB_get hall (by rw [hr.sc]; exact hlt)] at h0
    cases h0
theorem Oper.wp_put {N : Act → World → Prop} (h : o.wp P a w N Q) : o.wp P a w (fun a' w' => N a' w' ∧ ((∃ v, a' = a.put o.dst v) ∨ a'.defers ≠ [])) Q := by
  unfold Oper.wp at h ⊢
  generalize (execOp a.eval o).run P w = x at h ⊢
  cases x with
  | ok n w' =>
    cases n <;> simp only [Oper.upon] at h ⊢
    case value v => exact ⟨h, .inl ⟨v, rfl⟩⟩
    case skip => exact ⟨h, .inl ⟨undef, rfl⟩⟩
    case defer d => exact ⟨h, .inr (by cases o.dst <;> simp [Act.put])⟩
    case enter f args =>
      refine h.mono fun e w'' he => ?_
      cases e with
      | returned u => exact ⟨he, .inl ⟨u, rfl⟩⟩
      | panicked c => exact he
      | outgrown => exact he
    case row row args => exact h.mono fun u w'' he => ⟨he, .inl ⟨u, rfl⟩⟩
  | halt x w' => cases x <;> exact h
theorem Run.laid (hr : Run P E ops X C st a w Lc L Ef TS Z ρ) (hE : EnvOk P E) (hrel : Rel X C st a w) (hon : once (Zrw ops.toList) = true) {e B : Nat} (ho : ops[e]? = some o) (hz : lazyB E o = true) (hLi : Lc.getD e false = false) (hEe : Ef e = some B) {k' : St → Option R} (h : insts E o st (fun st' => if Zga st'.vars = true then k' st' else none) = some r) :
    ∃ st1 C1, k' st1 = some r ∧ Rel X C1 st1 a w ∧ Run P E ops X C1 st1 a w (Lc.setIfInBounds e true) L (fun i => if i = e then none else Ef i) TS Z ρ := by
  obtain ⟨d, z0, id0, val0, q2, q3, q4, -, -⟩ := Zafb (P := P) hE hz
  obtain ⟨⟨o', d', z, id, val, p1, p3, p4, hk, p5, p6⟩, g⟩ := hr.ear e B hEe
  rw [ho] at p1
  obtain rfl := Option.some.inj p1
  rw [q3] at p3
  obtain rfl := Option.some.inj p3
  have hlt := hr.lt ho
  have hput : ∀ (st2 : St) (C2 : Ctx) (x : A), Rel X C2 st2 a w → RA C2 w x (val B) → Rel X C2 (st2.put (some d) x) a w := fun st2 C2 x g1 g2 => by
    by_cases hd : d < a.tmps.size
    · exact g1.putTmp (i := d) (x := x) (by rw [p5 hd]; exact g2)
    · have hl := g1.tlen
      have : st2.put (some d) x = st2 := by
        have hl : a.tmps.size = st2.tmps.length := hl
        simp only [St.put]
        rw [Zd4, List.set_eq_of_length_le (by rw [← hl]; exact Nat.le_of_not_lt hd)]
      rw [this]; exact g1
  have fin : ∀ (st2 : St) (C2 : Ctx) (x : A), Rel X C2 st2 a w → RA C2 w x (val B) → Zga (st2.put (some d) x).vars = true → (∀ B', B' ≠ B → Garb X C st w B' → Garb X C2 (st2.put (some d) x) w B') →
      Rel X C2 (st2.put (some d) x) a w ∧ Run P E ops X C2 (st2.put (some d) x) a w (Lc.setIfInBounds e true) L (fun i => if i = e then none else Ef i) TS Z ρ := fun st2 C2 x g1 g2 hfull hG => ⟨hput st2 C2 x g1 g2, {
    sc := by rw [Array.size_setIfInBounds]; exact hr.sc
    sl := hr.sl
    hL := fun j => by
      rw [hr.hL j, Zlh hr.sc]
      by_cases hj : j = e
      · subst hj; simp [hEe, hlt]
      · simp [hj, Ne.symm hj]
    un := fun j B' hj => by
      by_cases hje : j = e
      · rw [if_pos hje] at hj; cases hj
      · rw [if_neg hje] at hj
        obtain ⟨u1, u2⟩ := hr.un j B' hj
        refine ⟨u1, ?_⟩
        rw [Zlh hr.sc, u2]
        simp [Ne.symm hje]
    ear := fun j B' hj => by
      by_cases hje : j = e
      · rw [if_pos hje] at hj; cases hj
      · rw [if_neg hje] at hj
        obtain ⟨lz, g'⟩ := hr.ear j B' hj
        exact ⟨lz, hG B' (fun q => hje (hr.inj j e B' hj (by rw [hEe, q]))) g'⟩
    inj := fun i j B' hi hj => by
      by_cases hie : i = e
      · rw [if_pos hie] at hi; cases hi
      · by_cases hje : j = e
        · rw [if_pos hje] at hj; cases hj
        · rw [if_neg hie] at hi
          rw [if_neg hje] at hj
          exact hr.inj i j B' hi hj
    Zat := hr.Zat
    full := hfull
    ts := fun t' q ht j o' hj hl => hr.ts t' q ht j o' hj (by
      rw [Zlh hr.sc] at hl
      simp only [Bool.or_eq_false_iff] at hl
      exact hl.1) }⟩
  rcases hk with ⟨t, q1, q5, q6, q7, q8, p7, rfl, rfl⟩ | ⟨t, b, el, q1, eT, q6, rfl⟩
  · simp only [insts, q1, q3] at h
    obtain ⟨T, h2, eT, -⟩ := Ze7 hE h
    clear h
    subst eT
    split at h2
    rotate_left
    · cases h2
    rw [Ztu, Zaa] at h2
    split at h2
    rotate_left
    · cases h2
    rename_i hfull
    have hzl : (zeroV (E.ty id)).length = (E.ty id).size := Zed q6
    have hv : VarAt w (B, 0) (zeroV (E.ty id)) := ⟨z, id, (0, 0), p6, by rw [← p7]; simp, .inl (Nat.le_refl _), fun i v hv => by
      rw [← p7] at hv
      show z[0 + i]? = some v
      rw [Nat.zero_add, ← Array.getElem?_toList]; exact hv⟩
    obtain ⟨g1, g2⟩ := hrel.newVar d (zeroL (E.ty id)) (B, 0) (zeroV (E.ty id)) (Zhq hzl) hv (fun L' q => by rw [X.low d q4] at q; cases q) (fun _ _ => .inr g.new) (fun c m e _ => g.V c m e) g.I g.F
    obtain ⟨r1, r2⟩ := fin _ _ (.vptr d 0) g1 g2 hfull (fun B' hB' g' => ⟨g'.I, g'.F, fun c l hl q => by
      simp only at q
      split at q
      · exact hB' q.symm
      · rename_i hc
        have hl : look (lay (mapL (fun v => (v.1, Zl3 d v.2)) st.vars) d (Zl3 d (zeroL (E.ty id)))) c = some l := hl
        rw [Zao, if_neg (Ne.symm hc), Zcp] at hl
        cases e2 : look st.vars c with
        | none => rw [e2] at hl; cases hl
        | some m => exact g'.V c m e2 q, g'.lt, g'.new⟩)
    exact ⟨_, _, h2, r1, r2⟩
  · simp only [insts, q1, q3] at h
    obtain ⟨T, h2, eT2, -⟩ := Ze7 hE h
    clear h
    rw [eT] at eT2
    subst eT2
    simp only at h2
    split at h2
    rotate_left
    · cases h2
    simp only [Zaga] at h2
    split at h2
    rotate_left
    · cases h2
    rw [Zc0] at h2
    simp only [takeN] at h2
    obtain ⟨-, st', C', h2, hrel', hmv⟩ := Zrb (FZ := fun _ => False) h2 hrel (fun _ _ h => h.elim)
    rw [Zdf, Zaa] at h2
    split at h2
    rotate_left
    · cases h2
    rename_i hfull
    obtain ⟨g1, g2⟩ := hrel'.newRow d el [] (some ⟨B, 0, none⟩, 0, 0) (fun _ => False) ⟨rfl, Nat.le_refl _, .inl rfl⟩ (fun _ h => h.elim) (fun _ _ _ _ _ h => h.elim) (fun _ _ _ h => h) (fun _ h => h.elim) (fun _ h => h.elim) (fun H' q => by rw [X.lowR d (.inl q4)] at q; cases q)
    have hG : ∀ B', B' ≠ B → Garb X C st w B' → Garb X (C'.row d (some ⟨B, 0, none⟩, 0, 0) (fun _ => False) ⟨el, [], none⟩) ((Zci st' d el []).put (some d) (.ref d [] none)) w B' := fun B' hB' g' => by
     refine ⟨fun q => ?_, fun c r' hr' q => ?_, fun c l hl q => ?_, g'.lt, g'.new⟩
     · exact (hmv.I3 B' q).elim g'.I (fun q => q)
     · have hr' : look (lay st'.rows d ⟨el, [], none⟩) c = some r' := hr'
       rw [Zao] at hr'
       simp only [Ctx.row] at q
       split at hr'
       · rename_i hc
         rw [if_pos hc.symm] at q; exact q
       · rename_i hc
         rw [if_neg (Ne.symm hc), hmv.F] at q
         exact g'.F c r' (hmv.rows c r' hr').2 q
     · have hl : look (mapL (fun v => (v.1, killL d [] v.2)) st'.vars) c = some l := hl
       rw [Zcp, hmv.vars] at hl
       have q : (C'.var c).1 = B' := q
       rw [hmv.var] at q
       cases e2 : look st.vars c with
       | none => rw [e2] at hl; cases hl
       | some m => exact g'.V c m e2 q
    obtain ⟨r1, r2⟩ := fin _ _ (.ref d [] none) g1 g2 hfull hG
    exact ⟨_, _, h2, r1, r2⟩
theorem Run.unlisted (hr : Run P E ops X C st a w Lc L Ef TS Z ρ) {j : Nat} {oj : Oper} (ho : ops[j]? = some oj) (hc : Lc.getD j false = false) (he : Ef j = none) : L.getD j true = false := by
  rw [Zgw hr.sl, if_pos (hr.lt ho), hr.hL j, hc, he]; rfl
theorem Run.lc (hr : Run P E ops X C st a w Lc L Ef TS Z ρ) {j : Nat} {oj : Oper} (ho : ops[j]? = some oj) (h : L.getD j true = false) : Lc.getD j true = false := by
  rw [Zgw hr.sl, if_pos (hr.lt ho), hr.hL j] at h
  simp only [Bool.or_eq_false_iff] at h
  rw [Zgw hr.sc, if_pos (hr.lt ho)]; exact h.1
theorem addr_of (h : addrB o = true) {b : Nat} (hb : Zahy a o = some b) : ∃ t, Zab4 o = some t ∧ adOf (a.tmps.getD t undef) = some b := by
  unfold addrB at h
  unfold Zahy at hb
  split at h
  · rename_i t x ho
    rw [ho] at hb
    simp only [Act.eval] at hb
    refine ⟨x, by simp only [Zab4, ho], ?_⟩
    split at hb
    · rename_i ad e; rw [e]; exact hb
    · cases hb
  · rename_i t t' x ho
    rw [ho] at hb
    simp only [Act.eval] at hb
    refine ⟨x, by simp only [Zab4, ho], ?_⟩
    split at hb
    · rename_i ad m c e; rw [e]; exact hb
    · cases hb
  · cases h
  · cases h
  · rename_i q1 q2 q3 q4
    exfalso
    split at hb
    · rename_i t x ho
      cases x <;> simp_all
    · rename_i t t' x ho
      cases x <;> simp_all
    · cases hb
theorem draw_any (hE : EnvOk P E) (hC : Zuo P E) (hns : Region.noSelect ops = true) (hon : once (Zrw ops.toList) = true) (hQ : ∀ st C a w, k st = some r → Rel X C st a w → Q .normal a w) :
    ∀ (n fuel : Nat) (Lc : Array Bool) (TS : List (Nat × Nat)) (st : St) (C : Ctx) (a : Act) (w : World) (Ef : Nat → Option Nat) (L : Array Bool) (Z : Nat → Zd) (ρ : Nat → Option Obj), fuel + unl L ≤ n → drawK E ops fuel Lc TS st k = some r → Rel X C st a w → Run P E ops X C st a w Lc L Ef TS Z ρ →
      Zup P ops (Qn Q) ρ (unl L) L Z a w := by
  intro n
  induction n with
  | zero =>
    intro fuel Lc TS st C a w Ef L Z ρ hn h hrel hr
    obtain rfl : fuel = 0 := by omega
    simp only [drawK] at h
    split at h
    · exact hr.fin ‹_› (hQ _ _ _ _ h hrel)
    · cases h
  | succ n ih =>
    intro fuel Lc TS st C a w Ef L Z ρ hn h hrel hr
    cases fuel with
    | zero =>
      simp only [drawK] at h
      split at h
      · exact hr.fin ‹_› (hQ _ _ _ _ h hrel)
      · cases h
    | succ fuel =>
    have h0 := h
    simp only [drawK] at h
    split at h
    ·
      rename_i i hp
      obtain ⟨hri, o, hio, hst⟩ := Z5z hp
      rw [hio] at h
      simp only at h
      split at h
      rotate_left
      · cases h
      rename_i hc
      simp only [chkS, Bool.and_eq_true, Bool.not_eq_true'] at hc
      obtain ⟨⟨hfree, haddr⟩, hch⟩ := hc
      have ho : ops[i]? = some o := by rw [← Array.getElem?_toList]; exact hio
      have hlt := hr.lt ho
      obtain ⟨hl0, o', ho', hdeps⟩ := mem_ready.1 hri
      rw [ho] at ho'
      obtain rfl := Option.some.inj ho'
      have hLi : Lc.getD i false = false := by rw [Zgw hr.sc, if_pos hlt] at hl0; exact hl0
      have hEi : Ef i = none := by
        cases q : Ef i with
        | none => rfl
        | some B =>
          obtain ⟨⟨o2, d, z, id, val, q1, q3, q4, _⟩, _⟩ := hr.ear i B q
          rw [ho] at q1
          obtain rfl := Option.some.inj q1
          rw [Zait q4] at hst; cases hst
      have hLt : L.getD i true = false := hr.unlisted ho hLi hEi
      have hu := Zaek hLt
      let Z' : Nat → Zd := fun j B => Z j B ∨ (j = i ∧ ∃ t, Zab4 o = some t ∧ Zagm (getL st.tmps t) = false ∧ adOf (a.tmps.getD t undef) = some B)
      let ρ' : Nat → Option Obj := fun B => w.heap[B]?
      have key : ∃ v st1 C1, YieldsIf P ops (fun w1 => ∀ B, Z' i B → w1.heap[B]? = ρ' B) o v a ∧ (if Zga st1.vars = true then drawK E ops fuel (Lc.setIfInBounds i true) (tsOf st i o TS) st1 k else none) = some r ∧ Rel (reb X C st w) C1 st1 (a.put o.dst v) w := by
        rcases Zxu rfl h hrel.reb_in with ⟨hw, h⟩ | ⟨hw, st1, C1, h, hrel1⟩
        · have hlive : ∀ t, Zab4 o = some t → Zagm (getL st.tmps t) = false := fun t ht => by
            unfold Zab4 at ht
            split at ht
            · rename_i t' x hop
              obtain rfl := Option.some.inj ht
              exact load_live hop h
            · rename_i t1 t2 x hop
              obtain rfl := Option.some.inj ht
              exact Zadz hop h
            · cases ht
          rcases Zzy (X := reb X C st w) (P := P) hE (fun c f q hc => by rw [q] at hst; simp [Zwt, hc] at hst) h hrel.reb_in with ⟨v, g1, st1, C1, g2, g3⟩ | ⟨g1, _⟩
          · refine ⟨v, st1, C1, .inl ⟨hw, fun w1 hw1 => g1 w1 (fun b hb => ?_)⟩, g2, g3⟩
            obtain ⟨t, ht, hab⟩ := addr_of haddr hb
            exact hw1 b (.inr ⟨rfl, t, ht, hlive t ht, hab⟩)
          · rw [g1] at hst; cases hst
        · exact ⟨undef, st1, C1, .inr ⟨hw, rfl⟩, h, hrel1⟩
      obtain ⟨v, st1, C1, hy, h, hrel1⟩ := key
      split at h
      rotate_left
      · cases h
      rename_i hfull
      have hts' : ∀ t q, (t, q) ∈ (tsOf st i o TS) → ∀ j o, ops[j]? = some o → Lc.getD j false = false → o.dst ≠ some t := by
        intro t q ht j oj hj hlj
        unfold tsOf at ht
        split at ht
        · rename_i t0 e0
          split at ht
          · exact hr.ts t q ht j oj hj hlj
          · rcases List.mem_cons.1 ht with e | ht
            · cases e
              simp only [Zajw, e0, Bool.and_eq_true] at hch
              exact Zr9 hch.1 (by rw [Array.getElem?_toList]; exact hj) (by rw [Nat.zero_add, Zgw hr.sc, if_pos (hr.lt hj)]; exact hlj)
            · exact hr.ts t q ht j oj hj hlj
        · exact hr.ts t q ht j oj hj hlj
      have hZ' : ∀ q B, Z' q B → B < w.heap.size ∧ w.heap[B]? = ρ' B ∧ ∃ t, (t, q) ∈ (tsOf st i o TS) ∧ adOf ((a.put o.dst v).tmps.getD t undef) = some B := by
        intro q B hB
        rcases hB with hB | ⟨rfl, t, e0, hd, hab⟩
        · obtain ⟨z1, z2, t, z3, z4⟩ := hr.Zat q B hB
          refine ⟨z1, rfl, t, ?_, by rw [Zyw (hr.ts t q z3 i o ho hLi)]; exact z4⟩
          unfold tsOf
          split
          · split
            · exact z3
            · exact List.mem_cons_of_mem _ z3
          · exact z3
        · simp only [Zajw, e0, Bool.and_eq_true, hd, Bool.false_or] at hch
          refine ⟨addr_lt hrel hch.2 hab, rfl, t, ?_, ?_⟩
          · simp only [tsOf, e0, hd, Bool.false_eq_true, if_false]
            exact List.mem_cons_self ..
          · rw [Zyw]
            · exact hab
            · exact Zr9 hch.1 (by rw [Array.getElem?_toList]; exact ho) (by rw [Nat.zero_add, Zgw hr.sc, if_pos hlt]; exact hLi)
      have tree := ih fuel _ _ st1 C1 (a.put o.dst v) w Ef (L.setIfInBounds i true) Z' ρ' (by omega) h (hrel.reb_out hrel1) (hr.done hrel hon ho hEi hLi hrel1 hfull hZ' hts')
      rw [hu]
      refine Zx1 (fun q B hB => ⟨.inl hB, (hr.Zat q B hB).2.1⟩) (Zaj9 (Zi := Z' i) ho (Region.noSelect_spec hns) (fun c a w q => q.elim) _ L Z' a w (fun j oj hj hji hun hno => Region.free_spec ho hfree j oj hj hji (hr.lc hj hun) hno) ?_ hy (fun B hB => hB) (fun q B hB => rfl) tree)
      · refine mem_ready.2 ⟨hLt, o, ho, fun e he hb => ?_⟩
        rw [hr.hL, hdeps e he hb]; rfl
    · rename_i hpS
      have early : ∀ (j : Nat) (oj : Oper), ops[j]? = some oj → lazyB E oj = true → Ef j = none → Lc.getD j false = false → Zwh E st Lc 0 ops.toList = true → ∀ m, unl L = m + 1 →
          wpOp P ops (Qn Q) j (fun a' w' => SZ (cutZ ops Z j) ρ w' ∧ Zup P ops (Qn Q) ρ m (L.setIfInBounds j true) (cutZ ops Z j) a' w') a w := fun j oj hoj hz hEj hLj hld m hm => by
        have hu := Zaek (hr.unlisted hoj hLj hEj)
        obtain rfl : m = unl (L.setIfInBounds j true) := by omega
        exact wpOp_mono (fun a' w' q => ⟨fun i B hB => q.1 i B hB.1, Zx1 (fun i B hB => ⟨hB.1, rfl⟩) q.2⟩) (hr.early hE hrel hon hoj hz hEj hLj hld (fun a' w' g1 g2 => ih (fuel + 1) Lc TS st C a' w' _ _ Z ρ (by omega) h0 g1 g2))
      split at h
      ·
        rename_i i hp
        obtain ⟨hri, hnl⟩ := Z51 hp
        split at h
        rotate_left
        · cases h
        rename_i o hio
        split at h
        rotate_left
        · cases h
        rename_i hc
        simp only [chkN, Bool.and_eq_true, Bool.not_eq_true'] at hc
        obtain ⟨⟨hall, hok⟩, hld⟩ := hc
        have ho : ops[i]? = some o := by rw [← Array.getElem?_toList]; exact hio
        have hlt := hr.lt ho
        obtain ⟨hl0, o', ho', hdeps⟩ := mem_ready.1 hri
        have hLi : Lc.getD i false = false := by rw [Zgw hr.sc, if_pos hlt] at hl0; exact hl0
        have hEi : Ef i = none := by
          cases q : Ef i with
          | none => rfl
          | some B =>
            obtain ⟨⟨o2, d, z, id, val, q1, q3, q4, _⟩, _⟩ := hr.ear i B q
            rw [hnl o2 (by rw [Array.getElem?_toList]; exact q1)] at q4; cases q4
        have hLt : L.getD i true = false := hr.unlisted ho hLi hEi
        have hu := Zaek hLt
        have hrL : i ∈ Region.ready .any ops L := by
          rw [ho] at ho'
          obtain rfl := Option.some.inj ho'
          exact mem_ready.2 ⟨hLt, o, ho, fun e he hb => by rw [hr.hL, hdeps e he hb]; rfl⟩
        rw [hu]
        refine ⟨fun q => (by rw [q] at hrL; cases hrL), fun j hj => ?_⟩
        have hnone : Ef ops.size = none := by
          cases q : Ef ops.size with
          | none => rfl
          | some B => exact absurd (hr.un _ B q).1 (Nat.lt_irrefl _)
        obtain ⟨oj, hoj, hEj, hLj, hcase⟩ := hr.ready hnone hj
        rcases hcase with ⟨hz, _⟩ | hj2
        · exact early j oj hoj hz hEj hLj hld _ hu
        · obtain rfl := Zab3 hall j hj2
          rw [ho] at hoj
          obtain rfl := Option.some.inj hoj
          have step : ∀ a' w', (∃ v, a' = a.put o.dst v) → (Goes (reb X C st w) (fun st => if Zga st.vars = true then drawK E ops fuel (Lc.setIfInBounds j true) (cutTS o TS) st k else none) r a' w' ∧ Frm C st w w' (tvOf E st o) (trOf E st o)) → SZ (cutZ ops Z j) ρ w' ∧ Zup P ops (Qn Q) ρ (unl (L.setIfInBounds j true)) (L.setIfInBounds j true) (cutZ ops Z j) a' w' := by
            rintro a' w' ⟨v, rfl⟩ ⟨⟨st1, C1, h, hrel1⟩, hfr⟩
            simp only at h
            split at h
            rotate_left
            · cases h
            rename_i hfull
            have hsz := hrel1.frame.size
            have hZs : ∀ i B, cutZ ops Z j i B → w'.heap[B]? = ρ B := fun i B hB => by
              obtain ⟨z1, z2, t, z3, z4⟩ := hr.Zat i B hB.1
              rw [← z2]
              exact addr_same hrel hfr (Z3k hok t i (Zx0 ho z3 hB.2)) z4
            refine ⟨hZs, ih fuel _ _ st1 C1 (a.put o.dst v) w' Ef (L.setIfInBounds j true) (cutZ ops Z j) ρ (by omega) h (hrel.reb_out hrel1) (hr.done hrel hon ho hEi hLi hrel1 hfull (fun i B hB => ?_) (fun t i ht => hr.ts t i (Z74 ht)))⟩
            obtain ⟨z1, z2, t, z3, z4⟩ := hr.Zat i B hB.1
            exact ⟨Nat.lt_of_lt_of_le z1 hsz, hZs i B hB, t, Zx0 ho z3 hB.2, by rw [Zyw (hr.ts t i z3 j o ho hLi)]; exact z4⟩
          unfold wpOp
          rw [ho]
          simp only
          rcases Zxu rfl h hrel.reb_in with ⟨hw, h⟩ | ⟨hw, hgo⟩
          · rw [if_pos hw]
            left
            refine Oper.wp_mono (fun a' w' hn => ?_) (Oper.wp_put (Z61 (Q := Qn Q) hE hC h hrel.reb_in))
            obtain ⟨hn, hv | hd⟩ := hn
            · exact step a' w' hv hn
            · obtain ⟨⟨st1, C1, _, hrel1⟩, _⟩ := hn
              exact absurd hrel1.defers hd
          · rw [if_neg (by rw [hw]; decide)]
            exact step _ _ ⟨undef, rfl⟩ ⟨hgo, Frm.refl⟩
      · rename_i hpN
        split at h
        · split at h
          · exact hr.fin ‹_› (hQ _ _ _ _ h hrel)
          · cases h
        · rename_i e l hrd
          split at h
          rotate_left
          · cases h
          rename_i o hio
          split at h
          rotate_left
          · cases h
          rename_i hc
          simp only [chkL, Bool.and_eq_true, Bool.not_eq_true'] at hc
          obtain ⟨⟨hz, hall⟩, hld⟩ := hc
          have ho : ops[e]? = some o := by rw [← Array.getElem?_toList]; exact hio
          have hlt := hr.lt ho
          have hri : e ∈ Region.ready .any ops Lc := by rw [hrd]; exact List.mem_cons_self ..
          obtain ⟨hl0, o', ho', hdeps⟩ := mem_ready.1 hri
          have hLi : Lc.getD e false = false := by rw [Zgw hr.sc, if_pos hlt] at hl0; exact hl0
          cases hEe : Ef e with
          | some B =>
            obtain ⟨st1, C1, h, hrel1, hr1⟩ := hr.laid hE hrel hon ho hz hLi hEe h
            exact ih fuel _ TS st1 C1 a w _ L Z ρ (by omega) h hrel1 hr1
          | none =>
            have hLt : L.getD e true = false := hr.unlisted ho hLi hEe
            have hu := Zaek hLt
            have hrL : e ∈ Region.ready .any ops L := by
              rw [ho] at ho'
              obtain rfl := Option.some.inj ho'
              exact mem_ready.2 ⟨hLt, o, ho, fun d he hb => by rw [hr.hL, hdeps d he hb]; rfl⟩
            rw [hu]
            refine ⟨fun q => (by rw [q] at hrL; cases hrL), fun j hj => ?_⟩
            obtain ⟨oj, hoj, hEj, hLj, hcase⟩ := hr.ready hEe hj
            rcases hcase with ⟨hzj, _⟩ | hj2
            · exact early j oj hoj hzj hEj hLj hld _ hu
            · exact early j oj hoj (Z4d hall j hj2 oj (by rw [Array.getElem?_toList]; exact hoj)) hEj hLj hld _ hu
theorem Zajt (hE : EnvOk P E) (hC : Zuo P E) {id : Nat} (h : Zahu E ops st k = some r) (hrel : Rel X C st a w) (hQ : ∀ st C a w, k st = some r → Rel X C st a w → Q .normal a w) : (Code.region id ops true).wp P Q a w := by
  unfold Zahu at h
  split at h
  rotate_left
  · cases h
  rename_i hc
  simp only [Bool.and_eq_true] at hc
  obtain ⟨⟨hns, hon⟩, hfull⟩ := hc
  have hrel' : Rel X C st a { w with drawn := w.drawn + 1 } := hrel.grow (Grow.drawn w (w.drawn + 1))
  have hun : unl (Array.replicate ops.size false) = ops.size := by simp [unl]
  have hgf : ∀ j, (Array.replicate ops.size false).getD j false = false := fun j => by
    by_cases hj : j < ops.size <;> simp [hj]
  have tree := draw_any (Q := Q) hE hC hns hon hQ (ops.size + ops.size) ops.size (Array.replicate ops.size false) [] st C a { w with drawn := w.drawn + 1 } (fun _ => none) (Array.replicate ops.size false) (fun _ _ => False) (fun _ => none) (by rw [hun]; exact Nat.le_refl _) h hrel' {
    sc := by simp
    sl := by simp
    hL := fun j => by rw [hgf j]; rfl
    un := fun j B h => by cases h
    ear := fun j B h => by cases h
    inj := fun i j B h => by cases h
    Zat := fun i B h => h.elim
    full := hfull
    ts := fun t i ht => by cases ht }
  rw [hun] at tree
  have := wp_region_any (id := id) hE.mixed (Z8f _ _ _ _ _ tree)
  intro b kk cs
  obtain ⟨e, a', w', q1, q2⟩ := this b kk cs
  cases e with
  | normal => exact ⟨.normal, a', w', q1, q2⟩
  | _ => exact q1.elim
end
end Go.Proofs.YtcpecilmkkmaiaaGreat.V
namespace Go.Proofs.YtcpecilmkkmaiaaGreat.V
open Go Go.RowKit
def ofEx : Ex → Exit
  | .normal => .normal
  | .exit i => .exit i
section
variable {P : Program} {E : Env} {R : Type} {r : R} {F : Fun R} {X : Fix} {L : List (Nat × Code)}
theorem Zacy {C : Ctx} {st : St} {a : Act} {w : World} {b : Nat} {e : Ty} {x : A} {v : Value} {k : St → Option R} (h : ownK st b e x k = some r) (hrel : Rel X C st a w) (hx : RA C w x v) :
    ∃ st' C', k st' = some r ∧ Rel X C' st' a w ∧ RA C' w (.ref b [] none) v ∧ C'.var = C.var ∧ Lens st.vars st'.vars ∧ st'.tmps.length = st.tmps.length := by
  unfold ownK at h
  split at h
  rotate_left
  · cases h
  rename_i hb9
  have hb9 : 900 ≤ b := Nat.le_of_ble_eq_true hb9
  have hlen : ∀ (st : St) (e : Ty) (xs : List e.den), Lens st.vars (Zci st b e xs).vars := fun st e xs c m hm => ⟨killL b [] m, by simp only [Zci, killS, Zcp, hm]; rfl, Zds _ _ _⟩
  split at h
  · have hx : v = .slice none 0 0 := hx
    subst hx
    rw [Zdf] at h
    obtain ⟨g1, g2⟩ := hrel.newRow b e [] (none, 0, 0) (fun _ => False) ⟨rfl, Nat.le_refl _, .inl rfl⟩ (fun _ h => h.elim) (fun _ _ _ _ _ h => h.elim) (fun _ _ _ h => h) (fun _ h => h.elim) (fun _ h => h.elim) (fun H' q => by rw [X.lowR b (.inr hb9)] at q; cases q)
    exact ⟨_, _, h, g1, g2, rfl, hlen st e [], by simp only [Zci, killS, Zds]⟩
  · rename_i c
    split at h
    · rename_i hc
      obtain rfl := Nat.eq_of_beq_eq_true hc
      exact ⟨st, C, h, hrel, hx, rfl, (Dims.refl _).lens, rfl⟩
    · rename_i hcb
      split at h
      rotate_left
      · cases h
      rename_i e' xs hc
      rw [Zcz, Zdf] at h
      obtain ⟨H, sz, ⟨q1, q2⟩, q3⟩ := hx.2 _ (by rw [hrel.rowsEq]; exact hc)
      subst q1
      have q3 : v = .slice (C.hdr c).1 (C.hdr c).2.1 (C.hdr c).2.2 := q3
      have h1 := hrel.dropRow c (fun _ => False) (fun k h => h.elim)
      have hrow := hrel.rows c _ hc
      have hd : ∀ d r, look (drop st.rows c) d = some r → c ≠ d ∧ look st.rows d = some r := fun d r e => by
        rw [Zi5] at e
        split at e
        · cases e
        · rename_i q; exact ⟨q, e⟩
      obtain ⟨g1, g2⟩ := h1.newRow b e' xs (C.hdr c) (C.F c) (by
          obtain ⟨l1, l2, l3⟩ := hrow
          exact ⟨l1, l2, l3.imp id fun ⟨ad, cs, et, fr, vs', G, e1, e2, e3, e4, e5, e6, e7, e8, e9, e10⟩ =>
            ⟨ad, cs, et, fr, vs', G, e1, e2, e3, e4, e5, e6, e7, e8, e9, e10.imp (fun _ h => h) (fun _ _ _ _ _ r => r.frame (Zg _ _) (fun _ h => .inl h) (Zg _ _) (fun _ h => h))⟩⟩)
        (fun k q1 q2 => q2.elim (fun q2 => hrel.rI c _ hc k q1 q2) (fun q => q.elim)) (fun d r _ e => hrel.rdis c d _ r (hd d r e).1 hc (hd d r e).2) (fun d l e => hrel.vF d l c _ e hc) (hrel.Flt c _ hc) (hrel.Fown c _ hc) (fun H' q => by rw [X.lowR b (.inr hb9)] at q; cases q)
      exact ⟨_, _, h, g1, by rw [q3]; exact g2, rfl, hlen { st with rows := drop st.rows c } e' xs, by simp only [Zci, killS, Zds]⟩
  · rename_i c cu
    split at h
    rotate_left
    · cases h
    rename_i e' xs hc
    rw [Zcz, Zdf] at h
    obtain ⟨H, sz, ⟨q1, q2⟩, q3⟩ := hx.2 _ (by rw [hrel.rowsEq]; exact hc)
    subst q1
    rw [q2] at q3
    have h1 := hrel.dropRow c (fun _ => False) (fun k h => h.elim)
    obtain ⟨a', len, cap, hv, hrow⟩ := (hrel.rows c _ hc).cut q3
    have hd : ∀ d r, look (drop st.rows c) d = some r → c ≠ d ∧ look st.rows d = some r := fun d r e => by
      rw [Zi5] at e
      split at e
      · cases e
      · rename_i q; exact ⟨q, e⟩
    obtain ⟨g1, g2⟩ := h1.newRow b e' (cutL xs (some cu)) (a', len, cap) (C.F c) (by
        obtain ⟨l1, l2, l3⟩ := hrow
        exact ⟨l1, l2, l3.imp id fun ⟨ad, cs, et, fr, vs', G, e1, e2, e3, e4, e5, e6, e7, e8, e9, e10⟩ =>
          ⟨ad, cs, et, fr, vs', G, e1, e2, e3, e4, e5, e6, e7, e8, e9, e10.imp (fun _ h => h) (fun _ _ _ _ _ r => r.frame (Zg _ _) (fun _ h => .inl h) (Zg _ _) (fun _ h => h))⟩⟩)
      (fun k q1 q2 => q2.elim (fun q2 => hrel.rI c _ hc k q1 q2) (fun q => q.elim)) (fun d r _ e => hrel.rdis c d _ r (hd d r e).1 hc (hd d r e).2) (fun d l e => hrel.vF d l c _ e hc) (hrel.Flt c _ hc) (hrel.Fown c _ hc) (fun H' q => by rw [X.lowR b (.inr hb9)] at q; cases q)
    exact ⟨_, _, h, g1, by rw [hv]; exact g2, rfl, hlen { st with rows := drop st.rows c } e' _, by simp only [Zci, killS, Zds]⟩
  · cases h
theorem Zju : ∀ {l : List Slot} {st : St} {C : Ctx} {a : Act} {w : World} {k : St → Option R}, normK l st k = some r → Rel X C st a w → ∃ st' C', k st' = some r ∧ Rel X C' st' a w
  | [], st, C, a, w, k, h, hrel => ⟨st, C, h, hrel⟩
  | .tmp i b e :: l, st, C, a, w, k, h, hrel => by
    simp only [normK, Zgv] at h
    obtain ⟨st1, C1, h, hrel1, hx, -, -, -⟩ := Zacy h hrel (hrel.tmps i)
    simp only [Znv] at h
    exact Zju h (hrel1.putTmp (i := i) hx)
  | .part i j b e :: l, st, C, a, w, k, h, hrel => by
    simp only [normK, Zgv] at h
    have h0 := hrel.tmps i
    split at h
    rotate_left
    · cases h
    rename_i m hm
    rw [hm] at h0
    obtain ⟨vs, hv, hs⟩ := h0
    have hj : RA C w (getL m j) ((vs[j]?).getD undef) := by
      rw [Zr7]
      cases e : m[j]? with
      | none => exact trivial
      | some x =>
        obtain ⟨u, q1, q2⟩ := hs.get e
        rw [q1]; exact q2
    obtain ⟨st1, C1, h, hrel1, hx, -, -, -⟩ := Zacy h hrel hj
    split at h
    rotate_left
    · cases h
    rename_i m1 hm1
    simp only [Znv, Zd4] at h
    have h1 := hrel1.tmps i
    rw [hm1] at h1
    obtain ⟨vs1, hv1, hs1⟩ := h1
    rw [hv] at hv1
    have hv1 : vs = vs1 := by simpa using hv1
    subst hv1
    have hs2 : RAs C1 w (m1.set j (.ref b [] none)) vs := by
      by_cases hjl : j < m1.length
      · have hl1 := hs1.length
        have hx' := hs1.set j (a := .ref b [] none) (v := (vs[j]?).getD undef) hx
        have e : vs.set j ((vs[j]?).getD undef) = vs := by
          rw [List.getElem?_eq_getElem (by omega)]
          simp
        rw [e] at hx'
        exact hx'
      · rw [List.set_eq_of_length_le (by omega)]; exact hs1
    exact Zju (by simpa only [Zd4] using h) (hrel1.putTmp (i := i) (x := .agg (m1.set j (.ref b [] none))) (by rw [hv]; exact ⟨vs, rfl, hs2⟩))
  | .cell v j b e :: l, st, C, a, w, k, h, hrel => by
    simp only [normK] at h
    split at h
    rotate_left
    · cases h
    rename_i m hm
    simp only [Zgv] at h
    obtain ⟨vs, hvs, hat⟩ := hrel.vars v m hm
    have hj : RA C w (getL m j) ((vs[j]?).getD undef) := by
      rw [Zr7]
      cases e : m[j]? with
      | none => exact trivial
      | some x =>
        obtain ⟨u, q1, q2⟩ := hvs.get e
        rw [q1]; exact q2
    obtain ⟨st1, C1, h, hrel1, hx, hvar, hlen, -⟩ := Zacy h hrel hj
    split at h
    rotate_left
    · cases h
    rename_i m1 hm1
    simp only [Znv, Zd4, Z96] at h
    obtain ⟨m2, n1, n2⟩ := hlen v m hm
    rw [hm1] at n1
    obtain rfl := Option.some.inj n1
    have hvl := hvs.length
    by_cases hjl : j < m1.length
    · have hjv : j < vs.length := by omega
      have hxj : RA C1 w (.ref b [] none) vs[j] := by
        rw [List.getElem?_eq_getElem hjv] at hx; exact hx
      have hcut := hat.cut j 1 (by omega)
      have e1 : (vs.drop j).take 1 = [vs[j]] := by
        rw [List.drop_eq_getElem_cons hjv]; rfl
      rw [e1] at hcut
      have hr2 := hrel1.setVar0 (q := j) (m := [.ref b [] none]) (us := [vs[j]]) hm1 ⟨_, [], rfl, hxj, rfl⟩ (by simp; omega) (by
        rw [hvar]
        obtain ⟨cs, et, fr, k1, k2, k3, k4⟩ := hcut
        exact ⟨cs, et, fr, k1, k2, k4⟩)
      exact Zju h (by simpa only [sets] using hr2)
    · rw [List.set_eq_of_length_le (by omega)] at h
      have hr2 := hrel1.setVar0 (q := m1.length) (m := []) (us := []) hm1 rfl (by simp) (by
        obtain ⟨vs1, hvs1, cs, et, fr, k1, k2, k3, k4⟩ := hrel1.vars v m1 hm1
        have := hvs1.length
        exact ⟨cs, et, fr, k1, by simp; omega, fun i u hu => by simp at hu⟩)
      exact Zju h (by simpa only [sets] using hr2)
  | .froz i :: l, st, C, a, w, k, h, hrel => by
    simp only [normK, Zgv] at h
    have h0 := hrel.tmps i
    split at h
    · rename_i b cut hm
      rw [hm] at h0
      simp only [Zg1] at h
      obtain ⟨rw', e', xs, h', F', H, hrw, h, hH, hC, hor, hF, hd, _⟩ := Zwd (k := fun e' xs => Zft { st with rows := drop st.rows b } fun st' => putLK st'.tmps i (.row e' (cutL xs cut)) fun T => normK l ⟨T, st'.vars, st'.rows⟩ k) hrel h h0
      simp only [Zcz, Znv] at h
      rw [hd rfl] at hor
      obtain ⟨a', len, cap, hv, ho⟩ := hor.cut hC
      have h1 := hrel.dropRow b F' (fun k hk => ⟨rw', hrw, hF k hk⟩)
      have hS := RepO.toS (I := C.I) (J := fun k => C.I k ∨ F' k) (fun _ h => .inl h) (t := .row true e') (x := cutL xs cut) (F := F') (fun _ h => .inr h) ⟨a', len, cap, rfl, .inr ho⟩
      obtain ⟨a2, len2, cap2, e2, hsr⟩ := hS
      simp only [List.cons.injEq, Value.slice.injEq, and_true] at e2
      obtain ⟨rfl, rfl, rfl⟩ := e2
      exact Zju h (h1.putTmp (i := i) (x := .row e' (cutL xs cut)) ⟨a', len, cap, hv, hsr⟩)
    · exact Zju h hrel
    · exact Zju h hrel
    · cases h
  | .peel :: l, st, C, a, w, k, h, hrel => Zju (l := l) h hrel
def Zakd (E : Env) (F : Fun R) (L : List (Nat × Code)) : Prop :=
  ∀ id b S, (id, b) ∈ L → F.seg id = some S → (∀ out x, S.f 0 out x = none) ∧ ∀ n out x, S.f (n + 1) out x = roundB E F b id S (S.f n out) out x
def CodeOk (P : Program) (E : Env) (F : Fun R) (X : Fix) (L : List (Nat × Code)) (r : R) (c : Code) : Prop :=
  (∀ p ∈ Za3 c, p ∈ L) → ∀ (st : St) (C : Ctx) (a : Act) (w : World) (k : Ex → St → Option R) (Q : Exit → Act → World → Prop), codeK E F c st k = some r → Rel X C st a w →
    (∀ e st C a w, k e st = some r → Rel X C st a w → Q (ofEx e) a w) → (∀ st C a w, F.ret st = some r → Rel X C st a w → Q .ret a w) → c.wp P Q a w
theorem Ziw {id : Nat} {c : Code} (ih : CodeOk P E F X L r c) (hl : Za3 (.block id c) = Za3 c) (hc : ∀ st k, codeK E F (.block id c) st k = codeK E F c st fun e st => match e with | .exit i => (if Nat.beq i id = true then k .normal st else k (.exit i) st) | e => k e st) : CodeOk P E F X L r (.block id c) := by
  intro hL st C a w k Q h hrel hk hret
  rw [hc] at h
  refine wp_block (ih (fun p hp => hL p (by rw [hl]; exact hp)) st C a w _ _ h hrel (fun e st C a w he hrel => ?_) hret)
  cases e with
  | normal => exact hk .normal st C a w he hrel
  | exit i =>
    simp only at he
    simp only [ofEx, Exit.inBlock]
    by_cases hi : i = id
    · subst hi
      rw [if_pos (Nat.beq_refl _)] at he
      rw [if_pos rfl]
      exact hk .normal st C a w he hrel
    · rw [if_neg (fun q => hi (Nat.eq_of_beq_eq_true q))] at he
      rw [if_neg hi]
      exact hk (.exit i) st C a w he hrel
theorem Zbg (hE : EnvOk P E) (hC : Zuo P E) (hR : Zakd E F L) : ∀ c : Code, CodeOk P E F X L r c
  | .skip => fun _ st C a w k Q h hrel hk _ => wp_skip (hk .normal st C a w h hrel)
  | .region id ops draw => fun _ st C a w k Q h hrel hk _ => by
    cases draw with
    | true =>
      simp only [codeK, if_true] at h
      exact Zajt hE hC h hrel (fun st C a w h1 h2 => hk .normal st C a w h1 h2)
    | false =>
      simp only [codeK, Bool.false_eq_true, if_false, if_true] at h
      exact wp_region_list (Zq9 hE hC (fun st C a w h1 h2 => hk .normal st C a w h1 h2) rfl h hrel)
  | .seq x y => fun hL st C a w k Q h hrel hk hret => by
    simp only [Za3, Zo, List.mem_append] at hL
    simp only [codeK] at h
    refine wp_seq (Zbg hE hC hR x (fun p hp => hL p (.inl hp)) st C a w _ _ h hrel (fun e st C a w he hrel => ?_) hret)
    cases e with
    | normal => exact Zbg hE hC hR y (fun p hp => hL p (.inr hp)) st C a w _ _ he hrel hk hret
    | exit i => exact hk (.exit i) st C a w he hrel
  | .cond c x y => fun hL st C a w k Q h hrel hk hret => by
    simp only [Za3, Zo, List.mem_append] at hL
    simp only [codeK] at h
    obtain ⟨b, e1, h⟩ := Z4l h hrel
    refine wp_cond e1 ?_
    cases b with
    | true => exact Zbg hE hC hR x (fun p hp => hL p (.inl hp)) st C a w _ _ h hrel hk hret
    | false => exact Zbg hE hC hR y (fun p hp => hL p (.inr hp)) st C a w _ _ h hrel hk hret
  | .block id (.loop b) => fun hL st C a w k Q h hrel hk hret => by
    simp only [Za3, List.mem_cons] at hL
    simp only [codeK] at h
    split at h
    rotate_left
    · cases h
    rename_i S hS
    obtain ⟨h0, h1⟩ := hR id b S (hL _ (.inl rfl)) hS
    have key : ∀ (n : Nat) (x : S.pin.ty.den) (C : Ctx) (a : Act) (w : World), S.f n (fun y => Zft (S.pout.head F.ntmps y) fun st => k .normal st) x = some r → Rel X C (S.pin.head F.ntmps x) a w → Code.rounds P b (Exit.inBlock id Q) n a w := by
      intro n
      induction n with
      | zero => intro x C a w h _; rw [h0] at h; cases h
      | succ n ihn =>
        intro x C a w h hrel
        rw [h1] at h
        simp only [roundB, Zcz] at h
        refine Zbg hE hC hR b (fun p hp => hL p (.inr hp)) _ C a w _ _ h hrel (fun e st C a w he hrel => ?_) hret
        cases e with
        | normal =>
          obtain ⟨st, C, he, hrel⟩ := Zju he hrel
          obtain ⟨x', h', C'', hrel'⟩ := Zaca hrel he
          exact ihn x' C'' a w (by simp only [Zcz]; exact h') hrel'
        | exit i =>
          simp only at he
          simp only [ofEx, Exit.then, Exit.inBlock]
          by_cases hi : i = id
          · subst hi
            rw [if_pos (Nat.beq_refl _)] at he
            rw [if_pos rfl]
            obtain ⟨st, C, he, hrel⟩ := Zju he hrel
            obtain ⟨y, h', C'', hrel'⟩ := Zaca hrel he
            exact hk .normal _ C'' a w h' hrel'
          · rw [if_neg (fun q => hi (Nat.eq_of_beq_eq_true q))] at he
            cases he
    have go : ∀ (st : St) (C : Ctx) (a : Act) (w : World), segK S F id st (fun _ st => k .normal st) = some r → Rel X C st a w → Code.rounds P b (Exit.inBlock id Q) F.fuel a w := by
      intro st C a w h hrel
      unfold segK at h
      obtain ⟨st, C, h, hrel⟩ := Zju h hrel
      obtain ⟨x, h, C', hrel⟩ := Zaca hrel h
      exact key _ x C' a w h hrel
    split at h
    · refine wp_block (wp_loop_rounds (F.fuel + 1) ?_)
      refine Zbg hE hC hR b (fun p hp => hL p (.inr hp)) _ C a w _ _ h hrel (fun e st C a w he hrel => ?_) hret
      cases e with
      | normal => exact go st C a w he hrel
      | exit i =>
        simp only at he
        simp only [ofEx, Exit.then, Exit.inBlock]
        by_cases hi : i = id
        · subst hi
          rw [if_pos (Nat.beq_refl _)] at he
          rw [if_pos rfl]
          exact hk .normal _ C a w he hrel
        · rw [if_neg (fun q => hi (Nat.eq_of_beq_eq_true q))] at he
          rw [if_neg hi]
          exact hk (.exit i) st C a w he hrel
    · exact wp_block (wp_loop_rounds F.fuel (go st C a w h hrel))
  | .exit id => fun _ st C a w k Q h hrel hk _ => wp_exit (hk (.exit id) st C a w h hrel)
  | .ret => fun _ st C a w k Q h hrel _ hret => wp_ret (hret st C a w h hrel)
  | .block id .skip => Ziw (Zbg hE hC hR _) rfl (fun _ _ => rfl)
  | .block id (.region _ _ _) => Ziw (Zbg hE hC hR _) rfl (fun _ _ => rfl)
  | .block id (.seq _ _) => Ziw (Zbg hE hC hR _) rfl (fun _ _ => rfl)
  | .block id (.cond _ _ _) => Ziw (Zbg hE hC hR _) rfl (fun _ _ => rfl)
  | .block id (.block _ _) => Ziw (Zbg hE hC hR _) rfl (fun _ _ => rfl)
  | .block id (.exit _) => Ziw (Zbg hE hC hR _) rfl (fun _ _ => rfl)
  | .block id .ret => Ziw (Zbg hE hC hR _) rfl (fun _ _ => rfl)
  | .block id (.rangeFunc _ _ _ _) => Ziw (Zbg hE hC hR _) rfl (fun _ _ => rfl)
  | .block id (.scope _) => Ziw (Zbg hE hC hR _) rfl (fun _ _ => rfl)
  | .block id (.label _) => Ziw (Zbg hE hC hR _) rfl (fun _ _ => rfl)
  | .block id (.goto _) => Ziw (Zbg hE hC hR _) rfl (fun _ _ => rfl)
  | .block id (.refuse _) => Ziw (Zbg hE hC hR _) rfl (fun _ _ => rfl)
  | .loop _ => fun _ st C a w k Q h _ _ _ => by simp only [codeK] at h; cases h
  | .rangeFunc _ _ _ _ => fun _ st C a w k Q h _ _ _ => by simp only [codeK] at h; cases h
  | .scope _ => fun _ st C a w k Q h _ _ _ => by simp only [codeK] at h; cases h
  | .label _ => fun _ st C a w k Q h _ _ _ => by simp only [codeK] at h; cases h
  | .goto _ => fun _ st C a w k Q h _ _ _ => by simp only [codeK] at h; cases h
  | .refuse _ => fun _ st C a w k Q h _ _ _ => by simp only [codeK] at h; cases h
end
end Go.Proofs.YtcpecilmkkmaiaaGreat.V
namespace Go.Proofs.YtcpecilmkkmaiaaGreat.V
open Go Go.RowKit
def Came (c : Con) (r : (Zdc c.ms).den × c.rt.den) (w : World) (I OW : Zd) (V : List (Nat × Nat × Nat)) (vals : List Value) (e : Ending) (w' : World) : Prop :=
  ∃ v, e = .returned v ∧ Keeps w OW (RngOf V) w' ∧ ∃ vs us I' O1 O2, v = oneOf vs ∧ Back w w' I OW V c.ms c.res c.rt r vals vs us I' O1 O2
def ConOk (P : Program) (f : Nat) (c : Con) : Prop :=
  ∀ (w : World) (I OW : Zd) (V : List (Nat × Nat × Nat)) (x : (Zkk c.ms).den) (vals : List Value) (r : (Zdc c.ms).den × c.rt.den),
    Zs2 w I c.ms x vals OW V → Dis OW I → (∀ k, I k ∨ OW k → k < w.heap.size) → (∀ v ∈ V, ¬ I v.1 ∧ ¬ OW v.1) → c.f x = some r → Calls P f vals.toArray w (Came c r w I OW V vals)
def pinOf : List Mode → Nat → List (Nat × Nat × Nat) → Nat → Option (Nat × Nat)
  | .io _ :: ms, i, (b, o, _) :: V, m => if m = Nat.add 900 i then some (b, o) else pinOf ms (Nat.succ i) V m
  | .io _ :: ms, i, [], m => none
  | .val _ :: ms, i, V, m | .rptr _ :: ms, i, V, m | .own _ :: ms, i, V, m | .bor _ :: ms, i, V, m | .fn _ :: ms, i, V, m | .fnr _ _ :: ms, i, V, m => pinOf ms (Nat.succ i) V m
  | [], _, _, _ => none
theorem Zkv : ∀ {ms : List Mode} {i : Nat} {V : List (Nat × Nat × Nat)} {m : Nat}, m < 900 + i → pinOf ms i V m = none
  | .io _ :: ms, i, (b, o, _) :: V, m, h => by
    simp only [pinOf, Zq]
    rw [if_neg (by omega)]
    exact Zkv (ms := ms) (by omega)
  | .io _ :: ms, i, [], m, h => rfl
  | .val _ :: ms, i, V, m, h => Zkv (ms := ms) (i := Nat.succ i) (by omega)
  | .rptr _ :: ms, i, V, m, h => Zkv (ms := ms) (i := Nat.succ i) (by omega)
  | .own _ :: ms, i, V, m, h => Zkv (ms := ms) (i := Nat.succ i) (by omega)
  | .bor _ :: ms, i, V, m, h => Zkv (ms := ms) (i := Nat.succ i) (by omega)
  | .fn _ :: ms, i, V, m, h => Zkv (ms := ms) (i := Nat.succ i) (by omega)
  | .fnr _ _ :: ms, i, V, m, h => Zkv (ms := ms) (i := Nat.succ i) (by omega)
  | [], _, _, _, _ => rfl
def hdrAt (us : List Value) (j : Nat) : Option (Option Addr × Nat × Nat) := match us[j]? with | some (.slice a n c) => some (a, n, c) | _ => none
def Z9r : List Mode → Nat → List Value → Nat → Option (Option Addr × Nat × Nat)
  | .bor t :: ms, i, vals, m => if 500 + i * 20 ≤ m ∧ m < 500 + i * 20 + 20 then hdrAt (rowsC t (vals.headD undef).cells.toList) (m - (500 + i * 20)) else Z9r ms (Nat.succ i) vals.tail m
  | .val _ :: ms, i, vals, m | .rptr _ :: ms, i, vals, m | .own _ :: ms, i, vals, m | .io _ :: ms, i, vals, m | .fn _ :: ms, i, vals, m | .fnr _ _ :: ms, i, vals, m => Z9r ms (Nat.succ i) vals.tail m
  | [], _, _, _ => none
theorem Zc2 : ∀ {ms : List Mode} {i : Nat} {vals : List Value} {m : Nat}, m < 500 + i * 20 → Z9r ms i vals m = none
  | .bor t :: ms, i, vals, m, h => by
    simp only [Z9r]
    rw [if_neg (by omega)]
    exact Zc2 (ms := ms) (by rw [Nat.succ_mul]; omega)
  | .val _ :: ms, i, vals, m, h => Zc2 (ms := ms) (i := Nat.succ i) (by rw [Nat.succ_mul]; omega)
  | .rptr _ :: ms, i, vals, m, h => Zc2 (ms := ms) (i := Nat.succ i) (by rw [Nat.succ_mul]; omega)
  | .own _ :: ms, i, vals, m, h => Zc2 (ms := ms) (i := Nat.succ i) (by rw [Nat.succ_mul]; omega)
  | .io _ :: ms, i, vals, m, h => Zc2 (ms := ms) (i := Nat.succ i) (by rw [Nat.succ_mul]; omega)
  | .fn _ :: ms, i, vals, m, h => Zc2 (ms := ms) (i := Nat.succ i) (by rw [Nat.succ_mul]; omega)
  | .fnr _ _ :: ms, i, vals, m, h => Zc2 (ms := ms) (i := Nat.succ i) (by rw [Nat.succ_mul]; omega)
  | [], _, _, _, _ => rfl
section
variable {P : Program} {E : Env} {X : Fix} {C C' : Ctx} {st st' : St} {a : Act} {w w' : World} {R : Type} {r : R}
theorem Zii {I : Zd} : ∀ {ms : List Mode} {x : (Zkk ms).den} {vals : List Value} {O : Zd} {V : List (Nat × Nat × Nat)}, Zs2 w I ms x vals O V → vals.length = ms.length ∧ V.length = (ms.filter (fun m => match m with | .io _ => true | _ => false)).length
  | [], _, _, _, _, ⟨h1, h2⟩ => by subst h1; subst h2; exact ⟨rfl, rfl⟩
  | .val t :: ms, x, vals, O, V, ⟨v, us, vs', e, hv, hx, h⟩ => by
    obtain ⟨h1, h2⟩ := Zii h
    exact ⟨by simp [e, h1], by simpa using h2⟩
  | .rptr t :: ms, x, vals, O, V, ⟨ad, us, vs', e, _, _, _, _, h⟩ => by
    obtain ⟨h1, h2⟩ := Zii h
    exact ⟨by simp [e, h1], by simpa using h2⟩
  | .fnr f t :: ms, x, vals, O, V, ⟨ad, us, vs', e, _, _, _, _, h⟩ => by
    obtain ⟨h1, h2⟩ := Zii h
    exact ⟨by simp [e, h1], by simpa using h2⟩
  | .fn f :: ms, x, vals, O, V, ⟨vs', e, h⟩ => by
    obtain ⟨h1, h2⟩ := Zii h
    exact ⟨by simp [e, h1], by simpa using h2⟩
  | .own t :: ms, x, vals, O, V, ⟨v, us, vs', O1, O2, e, _, _, _, _, _, h⟩ => by
    obtain ⟨h1, h2⟩ := Zii h
    exact ⟨by simp [e, h1], by simpa using h2⟩
  | .bor t :: ms, x, vals, O, V, ⟨v, us, vs', O1, O2, e, _, _, _, _, _, h⟩ => by
    obtain ⟨h1, h2⟩ := Zii h
    exact ⟨by simp [e, h1], by simpa using h2⟩
  | .io t :: ms, x, vals, O, V, ⟨b, o, us, vs', O1, O2, V', e, eV, _, _, _, _, _, _, h⟩ => by
    obtain ⟨h1, h2⟩ := Zii h
    exact ⟨by simp [e, h1], by simp [eV, h2]⟩
theorem Zyq {I : Zd} : ∀ {t : Ty} {x : t.den} {us : List Value} {O : Zd}, RepO w I t x none us O → (rowsC t us).length = nrows t ∧ ∀ v ∈ rowsC t us, ∃ a n c, v = .slice a n c
  | .row true e, xs, us, O, ⟨a, n, c, h, _⟩ => by
    subst h
    exact ⟨rfl, fun v hv => ⟨a, n, c, by simpa [rowsC] using hv⟩⟩
  | .pair p q, x, us, O, ⟨v1, v2, F1, F2, e, s1, s2, d, h1, h2⟩ => by
    subst e
    have hl := h1.length
    simp only [rowsC]
    rw [List.take_left' hl, List.drop_left' hl]
    obtain ⟨p1, p2⟩ := Zyq h1
    obtain ⟨q1, q2⟩ := Zyq h2
    exact ⟨by simp [p1, q1, nrows, Zq], fun v hv => (List.mem_append.1 hv).elim (p2 v) (q2 v)⟩
  | .row false _, _, _, _, _ => ⟨rfl, fun v hv => by simp [rowsC] at hv⟩
  | .int _, _, _, _, _ => ⟨rfl, fun v hv => by simp [rowsC] at hv⟩
  | .bool, _, _, _, _ => ⟨rfl, fun v hv => by simp [rowsC] at hv⟩
  | .str, _, _, _, _ => ⟨rfl, fun v hv => by simp [rowsC] at hv⟩
  | .arr _ _, _, _, _, _ => ⟨rfl, fun v hv => by simp [rowsC] at hv⟩
  | .unit, _, _, _, _ => ⟨rfl, fun v hv => by simp [rowsC] at hv⟩
  | .any, _, _, _, h => h.elim
theorem Zah1 {I : Zd} : ∀ {t : Ty} {x : t.den} {us : List Value} {O : Zd} {b : Nat}, RepO w I t x none us O → (∀ j, j < nrows t → X.pinR (b + j) = hdrAt (rowsC t us) j) → PinE X t b us
  | .row true e, xs, us, O, b, ⟨a, n, c, h, _⟩, hp => by
    subst h
    exact ⟨(a, n, c), hp 0 (by simp [nrows]), rfl⟩
  | .pair p q, x, us, O, b, ⟨v1, v2, F1, F2, e, s1, s2, d, h1, h2⟩, hp => by
    subst e
    have hl := h1.length
    obtain ⟨n1, _⟩ := Zyq h1
    simp only [rowsC, nrows, Zq] at hp
    rw [List.take_left' hl, List.drop_left' hl] at hp
    simp only [PinE]
    rw [List.take_left' hl, List.drop_left' hl]
    refine ⟨Zah1 h1 (fun j hj => ?_), Zah1 h2 (fun j hj => ?_)⟩
    · rw [hp j (by omega)]
      simp only [hdrAt]
      rw [List.getElem?_append_left (by omega)]
    · rw [show Nat.add b (nrows p) + j = b + (nrows p + j) by simp only [Zq]; omega, hp (nrows p + j) (by omega)]
      simp only [hdrAt]
      rw [List.getElem?_append_right (by omega), n1, Nat.add_sub_cancel_left]
  | .row false _, _, _, _, _, _, _ => trivial
  | .int _, _, _, _, _, _, _ => trivial
  | .bool, _, _, _, _, _, _ => trivial
  | .str, _, _, _, _, _, _ => trivial
  | .arr _ _, _, _, _, _, _, _ => trivial
  | .unit, _, _, _, _, _, _ => trivial
  | .any, _, _, _, _, _, _ => trivial
theorem Zwe {I : Zd} : ∀ {ms : List Mode} {x : (Zkk ms).den} {vals : List Value} {O : Zd} {V : List (Nat × Nat × Nat)} {i : Nat}, Zs2 w I ms x vals O V → (∀ m, 900 + i ≤ m → X.pin m = pinOf ms i V m) → (∀ m, 500 + i * 20 ≤ m → m < 900 → X.pinR m = Z9r ms i vals m) → i + ms.length ≤ 20 → (∀ t, Mode.bor t ∈ ms → nrows t ≤ 20) → (∀ v ∈ V, ∀ j, j < v.2.2 → X.rng v.1 (v.2.1 + j)) → Z8c X ms i V vals
  | [], _, _, _, _, _, _, _, _, _, _, _ => trivial
  | .val t :: ms, x, vals, O, V, i, ⟨v, us, vs', e, hv, hx, h⟩, hp, hq, hi, hn, hr => by
    subst e
    simp only [List.length_cons] at hi
    exact ⟨fun c h1 h2 => by rw [hq c h1 (by omega)]; exact Zc2 (ms := ms) (by rw [Nat.succ_mul]; omega), Zwe (ms := ms) (i := Nat.succ i) h (fun m hm => hp m (by omega)) (fun m h1 h2 => hq m (by rw [Nat.succ_mul] at h1; omega) h2) (by omega) (fun t ht => hn t (List.mem_cons_of_mem _ ht)) hr⟩
  | .rptr t :: ms, x, vals, O, V, i, ⟨ad, us, vs', e, _, _, _, _, h⟩, hp, hq, hi, hn, hr => by
    subst e
    simp only [List.length_cons] at hi
    exact ⟨fun c h1 h2 => by rw [hq c h1 (by omega)]; exact Zc2 (ms := ms) (by rw [Nat.succ_mul]; omega), Zwe (ms := ms) (i := Nat.succ i) h (fun m hm => hp m (by omega)) (fun m h1 h2 => hq m (by rw [Nat.succ_mul] at h1; omega) h2) (by omega) (fun t ht => hn t (List.mem_cons_of_mem _ ht)) hr⟩
  | .fnr f t :: ms, x, vals, O, V, i, ⟨ad, us, vs', e, _, _, _, _, h⟩, hp, hq, hi, hn, hr => by
    subst e
    simp only [List.length_cons] at hi
    exact ⟨fun c h1 h2 => by rw [hq c h1 (by omega)]; exact Zc2 (ms := ms) (by rw [Nat.succ_mul]; omega), Zwe (ms := ms) (i := Nat.succ i) h (fun m hm => hp m (by omega)) (fun m h1 h2 => hq m (by rw [Nat.succ_mul] at h1; omega) h2) (by omega) (fun t ht => hn t (List.mem_cons_of_mem _ ht)) hr⟩
  | .fn f :: ms, x, vals, O, V, i, ⟨vs', e, h⟩, hp, hq, hi, hn, hr => by
    subst e
    simp only [List.length_cons] at hi
    exact ⟨fun c h1 h2 => by rw [hq c h1 (by omega)]; exact Zc2 (ms := ms) (by rw [Nat.succ_mul]; omega), Zwe (ms := ms) (i := Nat.succ i) h (fun m hm => hp m (by omega)) (fun m h1 h2 => hq m (by rw [Nat.succ_mul] at h1; omega) h2) (by omega) (fun t ht => hn t (List.mem_cons_of_mem _ ht)) hr⟩
  | .own t :: ms, x, vals, O, V, i, ⟨v, us, vs', O1, O2, e, _, _, _, _, _, h⟩, hp, hq, hi, hn, hr => by
    subst e
    simp only [List.length_cons] at hi
    exact ⟨fun c h1 h2 => by rw [hq c h1 (by omega)]; exact Zc2 (ms := ms) (by rw [Nat.succ_mul]; omega), Zwe (ms := ms) (i := Nat.succ i) h (fun m hm => hp m (by omega)) (fun m h1 h2 => hq m (by rw [Nat.succ_mul] at h1; omega) h2) (by omega) (fun t ht => hn t (List.mem_cons_of_mem _ ht)) hr⟩
  | .bor t :: ms, x, vals, O, V, i, ⟨v, us, vs', O1, O2, e, hv, hx, _, _, _, h⟩, hp, hq, hi, hn, hr => by
    subst e
    simp only [List.length_cons] at hi
    have hnt := hn t (List.mem_cons_self ..)
    refine ⟨?_, Zwe (ms := ms) (i := Nat.succ i) h (fun m hm => hp m (by omega)) (fun m h1 h2 => ?_) (by omega) (fun t ht => hn t (List.mem_cons_of_mem _ ht)) hr⟩
    · simp only [List.headD_cons]
      rw [hv.cells hx.length (Zsy hx)]
      refine Zah1 hx (fun j hj => ?_)
      simp only [Zq, Zkh]
      rw [hq _ (by omega) (by omega)]
      simp only [Z9r, List.headD_cons]
      rw [if_pos (by omega), hv.cells hx.length (Zsy hx), Nat.add_sub_cancel_left]
    · rw [Nat.succ_mul] at h1
      rw [hq m (by omega) h2]
      simp only [Z9r]
      rw [if_neg (by omega)]
  | .io t :: ms, x, vals, O, V, i, ⟨b, o, us, vs', O1, O2, V', e, eV, _, _, _, _, _, _, h⟩, hp, hq, hi, hn, hr => by
    subst eV; subst e
    simp only [List.length_cons] at hi
    refine ⟨?_, fun j hj => hr _ (List.mem_cons_self ..) j hj, fun c h1 h2 => by rw [hq c h1 (by omega)]; exact Zc2 (ms := ms) (by rw [Nat.succ_mul]; omega), Zwe (ms := ms) (i := Nat.succ i) h (fun m hm => ?_) (fun m h1 h2 => hq m (by rw [Nat.succ_mul] at h1; omega) h2) (by omega) (fun t ht => hn t (List.mem_cons_of_mem _ ht)) (fun v hv => hr v (List.mem_cons_of_mem _ hv))⟩
    · rw [show Nat.add 900 i = 900 + i from rfl, hp _ (Nat.le_refl _)]
      simp only [pinOf, Zq, if_true]
    · have hm : 900 + i + 1 ≤ m := hm
      rw [hp m (by omega)]
      simp only [pinOf, Zq]
      rw [if_neg (by omega)]
theorem Zabz : ∀ {ms : List Mode}, Zagv ms = true → ∀ t, Mode.bor t ∈ ms → nrows t ≤ 20
  | m :: ms, h, t, ht => by
    rcases List.mem_cons.1 ht with rfl | ht
    · simp only [Zagv, Bool.and_eq_true] at h
      exact Nat.le_of_ble_eq_true h.1
    · refine Zabz (ms := ms) ?_ t ht
      cases m <;> simp only [Zagv, Bool.and_eq_true] at h
      all_goals first | exact h | exact h.2
theorem Zacx : ∀ (n : Nat) (l : List A) (i : Nat), l.length ≤ n → getL (padL n l) i = getL l i
  | 0, l, i, h => by
    have : l = [] := List.eq_nil_of_length_eq_zero (by omega)
    subst this
    rfl
  | n + 1, [], 0, h => rfl
  | n + 1, [], i + 1, h => by
    have := Zacx n [] i (Nat.zero_le _)
    simp only [padL, getL] at this ⊢
    exact this
  | n + 1, x :: l, 0, h => rfl
  | n + 1, x :: l, i + 1, h => Zacx n l i (by simpa using h)
theorem Rel.pad {tm : Array Value} (n : Nat) (hrel : Rel X C st ⟨tm, []⟩ w) (hn : st.tmps.length ≤ n) : Rel X C { st with tmps := padL n st.tmps } ⟨tm ++ Array.replicate (n - tm.size) undef, []⟩ w := by
  have hl := hrel.tlen
  simp only at hl
  refine { hrel with
    tlen := by simp only [Array.size_append, Array.size_replicate, Z3j]; omega
    tmps := fun i => ?_ }
  rw [Zacx _ _ _ hn]
  have h0 := hrel.tmps i
  simp only [Array.getD_eq_getD_getElem?] at h0 ⊢
  by_cases hi : i < tm.size
  · rw [Array.getElem?_append_left hi]; exact h0
  · rw [Zr7, List.getElem?_eq_none (by omega)]
    exact trivial
theorem Zaf6 {fn : Func} {tmps : Array Value} {vs : List Value} (h : (fn.results.toList.mapM (Zaf8 tmps)).run P w = .ok vs w) : (results fn tmps).run P w = .ok (oneOf vs) w := by
  have e : results fn tmps = (do let vs ← fn.results.mapM (Zaf8 tmps); pure (if h : vs.size = 1 then vs[0] else .tuple vs)) := by
    unfold results
    congr 1
  rw [e, Array.mapM_eq_mapM_toList]
  simp only [map_eq_pure_bind, bind_assoc, pure_bind, Sem.run_bind, h, Result.andThen_ok, Sem.run_pure]
  congr 1
  match vs with
  | [] => rfl
  | [v] => rfl
  | v :: u :: vs => simp [oneOf]
theorem fun_sound {f : Nat} {fn : Func} {c : Con} {seg : Nat → Option (Seg ((Zdc c.ms).den × c.rt.den))} {n : Nat} {body : Code} (hE : EnvOk P E) (hC : Zuo P E) (hf : P.funcs[f]? = some fn) (hb : fn.body = some body)
    (hR : Zakd E ⟨fn.ntmps, n, seg, retK E fn c.ms c.res c.rt⟩ (Za3 body)) {x : (Zkk c.ms).den} {r : (Zdc c.ms).den × c.rt.den} (hx : funK E fn c.ms c.res c.rt seg n x = some r)
    {w : World} {I OW : Zd} {V : List (Nat × Nat × Nat)} {vals : List Value} (hA : Zs2 w I c.ms x vals OW V) (hd : Dis OW I) (hlt : ∀ k, I k ∨ OW k → k < w.heap.size) (hV : ∀ v ∈ V, ¬ I v.1 ∧ ¬ OW v.1) :
    Calls P f vals.toArray w (Came c r w I OW V vals) := by
  let X : Fix := ⟨w, OW, I, RngOf V, pinOf c.ms 0 V, fun b hb => Zkv (by omega), fun m => if m < 900 then Z9r c.ms 0 vals m else none, fun b hb => by
    split
    · exact Zc2 (by omega)
    · rfl⟩
  obtain ⟨hl1, hl2⟩ := Zii hA
  let C0 : Ctx := ⟨I, fun _ => (0, 0), fun _ => (none, 0, 0), fun _ _ => False, []⟩
  have h0 : Rel X C0 ⟨[], [], []⟩ ⟨([] : List Value).toArray, []⟩ w := {
    rowsEq := rfl
    defers := rfl
    tlen := rfl
    tmps := fun i => trivial
    vars := fun b l h => by simp [look] at h
    vdis := fun b c l m _ h => by simp [look] at h
    vI := fun b l h => by simp [look] at h
    vF := fun b l c r h => by simp [look] at h
    rows := fun b r h => by simp [look] at h
    rdis := fun b c r s _ h => by simp [look] at h
    rI := fun b r h => by simp [look] at h
    Ilt := fun k hk => hlt k (.inl hk)
    Flt := fun b r h => by simp [look] at h
    Fown := fun b r h => by simp [look] at h
    Vown := fun b l h => by simp [look] at h
    pins := fun b L _ h => by simp [look] at h
    pinsR := fun b L _ h => by simp [look] at h
    Iown := fun k hk => .inl hk
    frame := Keeps.refl _ _ _ }
  have hL : Loose X C0 ⟨[], [], []⟩ w OW := ⟨hd, fun c r h => by simp [look] at h, fun c l h => by simp [look] at h, fun k hk => hlt k (.inr hk), fun k hk => .inl hk⟩
  unfold funK at hx
  rw [hb] at hx
  simp only at hx
  split at hx
  rotate_left
  · cases hx
  rename_i hms
  simp only [Bool.and_eq_true, Zky] at hms
  have hp : Z8c X c.ms 0 V vals := Zwe hA (fun m _ => rfl) (fun m _ hm => if_pos hm) (by have := Nat.le_of_ble_eq_true hms.1; omega) (Zabz hms.2) (fun v hv j hj => ⟨v, hv, rfl, by omega, by omega⟩)
  have hx' := hx
  clear hx
  obtain ⟨st, C, hx, hrel, -⟩ := Zkm (tm := []) hA h0 hL (fun v hv => ⟨⟨fun k q1 q2 => (hV v hv).1 (q1 ▸ q2), fun c r h => by simp [look] at h, fun c l h => by simp [look] at h⟩, (hV v hv).2⟩) hp hx'
  obtain ⟨T, VV, WW⟩ := st
  simp only at hx
  split at hx
  rotate_left
  · cases hx
  rename_i hT
  rw [Zky] at hT
  have hT : T.length ≤ fn.ntmps := Nat.le_of_ble_eq_true hT
  rw [Zuk] at hx
  have hrel1 := hrel.pad fn.ntmps hT
  simp only [List.nil_append] at hrel1
  have done : ∀ {st : St} {C : Ctx} {a : Act} {w' : World}, retK E fn c.ms c.res c.rt st = some r → Rel X C st a w' → a.defers = [] ∧ ∃ v, (results fn a.tmps).run P w' = .ok v w' ∧ Came c r w I OW V vals (.returned v) w' := by
    intro st C a w' h hrel
    obtain ⟨vs, us, I', O1, O2, h1, h2⟩ := end_out hE hrel hp hl2 (fun _ => Iff.rfl) h
    exact ⟨hrel.defers, _, Zaf6 h1, _, rfl, hrel.frame, vs, us, I', O1, O2, rfl, h2⟩
  refine calls_of_wp hf hb (Zbg hE hC hR body (fun _ h => h) _ C _ w _ _ hx hrel1 (fun e st C a w' he hrel => ?_) (fun st C a w' he hrel => done he hrel))
  cases e with
  | normal => exact done he hrel
  | exit i => cases he
end
end Go.Proofs.YtcpecilmkkmaiaaGreat.V
namespace Go.Proofs.YtcpecilmkkmaiaaGreat.V
open Go Go.RowKit
def Zq1 (P : Program) (f : Nat) : Prop := ∃ fn, P.funcs[f]? = some fn ∧ fn.body.isNone = false ∧ (fn.name == "runtime.NumGoroutine") = false
def ConsOk (P : Program) (E : Env) : Prop := ∀ f c, E.con f = some c → Zq1 P f ∧ ConOk P f c
section
variable {P : Program} {E : Env} {X : Fix} {C C' : Ctx} {st st' : St} {a : Act} {w w' : World} {R : Type} {r : R}
theorem Rel.evs (hrel : Rel X C st a w) : ∀ m : List Operand, RAs C w (m.map (evD st)) (m.map a.eval)
  | [] => rfl
  | x :: m => ⟨_, _, rfl, hrel.ev x, hrel.evs m⟩
theorem Nam.I {bs : List Nat} {S : Zd} (hrel : Rel X C st a w) (h : Nam C st bs S) : Dis S C.I := fun k hk hi => by
  obtain ⟨b, q1, q2, q3⟩ := h k hk
  cases e : look st.rows b with
  | none => exact q2 e
  | some r => exact hrel.rI b r e k q3 hi
theorem Nam.lt {bs : List Nat} {S : Zd} (hrel : Rel X C st a w) (h : Nam C st bs S) : ∀ k, S k → k < w.heap.size := fun k hk => by
  obtain ⟨b, q1, q2, q3⟩ := h k hk
  cases e : look st.rows b with
  | none => exact absurd e q2
  | some r => exact hrel.Flt b r e k q3
theorem Nam.own {bs : List Nat} {S : Zd} (hrel : Rel X C st a w) (h : Nam C st bs S) : ∀ k, S k → X.own k ∨ X.w0.heap.size ≤ k := fun k hk => by
  obtain ⟨b, q1, q2, q3⟩ := h k hk
  cases e : look st.rows b with
  | none => exact absurd e q2
  | some r => exact hrel.Fown b r e k q3
theorem Nam.V {bs : List Nat} {S : Zd} (hrel : Rel X C st a w) (h : Nam C st bs S) : ∀ c l, look st.vars c = some l → ¬ S (C.var c).1 := fun c l hl hk => by
  obtain ⟨b, q1, q2, q3⟩ := h _ hk
  cases e : look st.rows b with
  | none => exact q2 e
  | some r => exact hrel.vF c l b r hl e q3
theorem Zig : ∀ {ms : List Mode} {l : List A} (b : Nat), b ∈ Za5 st ms l → b ∈ movR st ms l ∨ b ∈ borR ms l
  | .own _ :: ms, x :: l, b, h => by
    simp only [movR, Za5, borR, Zo, List.mem_append] at h ⊢
    exact h.elim (fun h => .inl (.inl h)) (fun h => (Zig b h).imp .inr id)
  | .bor _ :: ms, x :: l, b, h => by
    simp only [movR, Za5, borR, Zo, List.mem_append] at h ⊢
    exact h.elim (fun h => .inr (.inl h)) (fun h => (Zig b h).imp id .inr)
  | .io _ :: ms, x :: l, b, h => by
    simp only [movR, Za5, borR, Zo, List.mem_append] at h ⊢
    exact h.elim (fun h => .inl (.inl h)) (fun h => (Zig b h).imp .inr id)
  | .val _ :: ms, x :: l, b, h => Zig (ms := ms) b h
  | .rptr _ :: ms, x :: l, b, h => Zig (ms := ms) b h
  | .fn _ :: ms, x :: l, b, h => Zig (ms := ms) b h
  | .fnr _ _ :: ms, x :: l, b, h => Zig (ms := ms) b h
  | [], _, b, h => by simp [Za5] at h
  | m :: _, [], b, h => by simp [Za5] at h
theorem Zkg : ∀ {ms : List Mode} {l : List A} (b : Nat), b ∈ borR ms l → b ∈ Za5 st ms l
  | .own _ :: ms, x :: l, b, h => by
    simp only [Za5, Zo, List.mem_append]
    exact .inr (Zkg (ms := ms) b h)
  | .bor _ :: ms, x :: l, b, h => by
    simp only [Za5, borR, Zo, List.mem_append] at h ⊢
    exact h.imp id (Zkg b)
  | .io _ :: ms, x :: l, b, h => by
    simp only [Za5, Zo, List.mem_append]
    exact .inr (Zkg (ms := ms) b h)
  | .val _ :: ms, x :: l, b, h => Zkg (ms := ms) b h
  | .rptr _ :: ms, x :: l, b, h => Zkg (ms := ms) b h
  | .fn _ :: ms, x :: l, b, h => Zkg (ms := ms) b h
  | .fnr _ _ :: ms, x :: l, b, h => Zkg (ms := ms) b h
  | [], _, b, h => by simp [borR] at h
  | m :: _, [], b, h => by simp [borR] at h
theorem Zae2 : ∀ {l m : List Nat}, once l = true → once m = true → (∀ i, i ∈ l → i ∈ m → False) → once (l ++ m) = true
  | [], m, _, h, _ => h
  | i :: l, m, h1, h2, h3 => by
    simp only [once, Bool.and_eq_true, Bool.not_eq_true'] at h1
    simp only [List.cons_append, once, Bool.and_eq_true, Bool.not_eq_true']
    refine ⟨Bool.eq_false_iff.2 (fun q => ?_), Zae2 h1.2 h2 (fun j p q => h3 j (List.mem_cons_of_mem _ p) q)⟩
    rcases List.mem_append.1 ((Za7 _ _).1 q) with q | q
    · rw [(Za7 _ _).2 q] at h1; cases h1.1
    · exact h3 i (List.mem_cons_self ..) q
theorem Zlk : ∀ {ms : List Mode} {l : List A}, once (Za5 st ms l) = true → once (borR ms l) = true ∧ ∀ b, b ∈ borR ms l → b ∉ movR st ms l
  | .own _ :: ms, x :: l, h => by
    simp only [Za5, Zo] at h
    obtain ⟨o1, o2, o3⟩ := Zax h
    obtain ⟨h1, h2⟩ := Zlk o2
    refine ⟨h1, fun b hb hm => ?_⟩
    simp only [movR, Zo, List.mem_append] at hm
    exact hm.elim (fun q => o3 b q (Zkg (ms := ms) b hb)) (h2 b hb)
  | .bor _ :: ms, x :: l, h => by
    simp only [Za5, Zo] at h
    obtain ⟨o1, o2, o3⟩ := Zax h
    obtain ⟨h1, h2⟩ := Zlk o2
    simp only [borR, Zo]
    refine ⟨Zae2 o1 h1 (fun b q1 q2 => o3 b q1 (Zkg (ms := ms) b q2)), fun b hb hm => ?_⟩
    rcases List.mem_append.1 hb with hb | hb
    · exact o3 b hb (Zjw (ms := ms) b hm)
    · exact h2 b hb hm
  | .io _ :: ms, x :: l, h => by
    simp only [Za5, Zo] at h
    obtain ⟨o1, o2, o3⟩ := Zax h
    obtain ⟨h1, h2⟩ := Zlk o2
    refine ⟨h1, fun b hb hm => ?_⟩
    simp only [movR, Zo, List.mem_append] at hm
    exact hm.elim (fun q => o3 b q (Zkg (ms := ms) b hb)) (h2 b hb)
  | .val _ :: ms, x :: l, h => Zlk (ms := ms) h
  | .rptr _ :: ms, x :: l, h => Zlk (ms := ms) h
  | .fn _ :: ms, x :: l, h => Zlk (ms := ms) h
  | .fnr _ _ :: ms, x :: l, h => Zlk (ms := ms) h
  | [], l, h => ⟨by cases l <;> rfl, fun b hb => by simp [borR] at hb⟩
  | m :: _, [], h => ⟨by cases m <;> rfl, fun b hb => by cases m <;> simp [borR] at hb⟩
theorem Zai4 (ms : List Mode) (l : List A) (st : St) (k : St → R) : Zai5 ms l st k = k { st with vars := Zgu ms l st.vars } := by
  obtain ⟨T, V, W⟩ := st
  simp only [Zai5, Z8n]
theorem Rel.varlt (hrel : Rel X C st a w) {b : Nat} {l : List A} (h : look st.vars b = some l) : (C.var b).1 < w.heap.size := by
  obtain ⟨vs, hvs, cs, et, fr, h1, _⟩ := hrel.vars b l h
  exact (Array.getElem?_eq_some_iff.1 h1).1
def leadB : A → Bool
  | .ref _ _ _ | .rptr _ _ => true
  | _ => false
theorem Moved.lead {FZ : Zd} {g : List Nat} (hm : Moved C C' st st' FZ g) (hrel : Rel X C st a w) (hrel' : Rel X C' st' a w) {x : A} {v : Value} (hl : leadB x = true) (h : RA C w x v) : RA C' w x v := by
  cases x <;> first | (simp only [leadB] at hl; cases hl; done) | skip
  · refine ⟨h.1, fun r hr => ?_⟩
    have := hm.rows _ r (by rw [← hrel'.rowsEq]; exact hr)
    rw [hm.F, hm.hdr]
    exact h.2 r (by rw [hrel.rowsEq]; exact this.2)
  · exact hm.rptr hrel hrel' h
theorem Zagl {bs : List Nat} {x : A} (hl : leadB x = true) {c : Nat} (h : mR c (Zgz bs x)) : mR c x := by
  cases x <;> first | (simp only [leadB] at hl; cases hl; done) | skip
  all_goals
    unfold Zgz at h
    split at h
    · exact h.elim
    · exact h
theorem Zafo {o : Oper} {Q : Exit → Act → World → Prop} {g : Nat} {fn : Func} {con : Con} {la : List A} {lv : List Value} {name : Nat} {kk : A → St → Option R} (f1 : P.funcs[g]? = some fn) (f2 : fn.body.isNone = false) (f3 : (fn.name == "runtime.NumGoroutine") = false) (hcon : ConOk P g con)
    (hrun : (execOp a.eval o).run P w = .ok (.enter g lv.toArray) w) (hargs : RAs C w la lv) (hname : 1000 ≤ name) (h : callK con la name con.res st kk = some r) (hrel : Rel X C st a w) :
    o.wp P a w (fun a' w' => (∃ x st' C' v, kk x st' = some r ∧ a' = a.put o.dst v ∧ Rel X C' st' a w' ∧ RA C' w' x v ∧ ∀ x v, leadB x = true → RA C w x v → (∀ c, mR c x → c < name) → RA C' w' (Zgz (borR con.ms la) x) v) ∧ Frm C st w w' (Zki con.ms la) (Za5 st con.ms la)) Q := by
  unfold callK at h
  split at h
  rotate_left
  · cases h
  rename_i hfair
  simp only [fairB, Bool.and_eq_true] at hfair
  obtain ⟨⟨o1, p1⟩, ⟨⟨o2, p2⟩, hfree⟩⟩ := hfair
  obtain ⟨x, g', h, hg, hbo, hall⟩ := Zix hrel h hargs
  obtain ⟨O, FZ, V, n1, n2, d1, hm, hA⟩ := hall o1 o2
  obtain ⟨out, hout, h⟩ := Zhw h
  let I : Zd := fun k => (C.I k ∨ FZ k) ∨ ((∃ b, b ∈ lentR st con.ms la ∧ look st.rows b ≠ none ∧ C.F b k) ∨ (∃ b, b ∈ lentV con.ms la ∧ look st.vars b ≠ none ∧ k = (C.var b).1))
  have hAI := hA I ⟨fun k q => .inl (.inl q), fun b hb hn k q => .inr (.inl ⟨b, hb, hn, q⟩), fun b hb hn => .inr (.inr ⟨b, hb, hn, rfl⟩), fun k q => .inl (.inr q)⟩
  have hdis : Dis O I := by
    rintro k hk ((q | q) | (q | ⟨b, q1, q2, q3⟩))
    · exact n1.I hrel k hk q
    · exact d1 k hk q
    · exact Nam.dis hrel (Z8a p1) n1 (T := fun k => ∃ b, b ∈ lentR st con.ms la ∧ look st.rows b ≠ none ∧ C.F b k) (fun _ h => h) k hk q
    · cases e : look st.vars b with
      | none => exact q2 e
      | some l => exact n1.V hrel b l e (q3 ▸ hk)
  have hlt : ∀ k, I k ∨ O k → k < w.heap.size := by
    rintro k (((q | q) | (q | ⟨b, q1, q2, q3⟩)) | q)
    · exact hrel.Ilt k q
    · exact n2.lt hrel k q
    · exact Nam.lt hrel (bs := lentR st con.ms la) (S := fun k => ∃ b, b ∈ lentR st con.ms la ∧ look st.rows b ≠ none ∧ C.F b k) (fun _ h => h) k q
    · cases e : look st.vars b with
      | none => exact absurd e q2
      | some l => rw [q3]; exact hrel.varlt e
    · exact n1.lt hrel k q
  have hVb : ∀ v ∈ V, ¬ I v.1 ∧ ¬ O v.1 := by
    intro v hv
    obtain ⟨b, o, c', m1, m2, m3, m4, m5⟩ := hm.mem v hv
    rw [m3]
    refine ⟨?_, n1.V hrel b c' m2⟩
    rintro ((q | q) | (q | ⟨b', q1, q2, q3⟩))
    · exact hrel.vI b c' m2 q
    · exact n2.V hrel b c' m2 q
    · exact Nam.V hrel (bs := lentR st con.ms la) (S := fun k => ∃ b, b ∈ lentR st con.ms la ∧ look st.rows b ≠ none ∧ C.F b k) (fun _ h => h) b c' m2 q
    · cases e : look st.vars b' with
      | none => exact q2 e
      | some l => exact hrel.vdis b b' c' l (fun q => Z8a p2 b m1 (q ▸ q1)) m2 e q3
  have hcall := hcon w I O V x lv out hAI hdis hlt hVb hout
  have hfr : ∀ w', Keeps w O (RngOf V) w' → Frm C st w w' (Zki con.ms la) (Za5 st con.ms la) := fun w' hk => by
    refine ⟨fun b l hl hb => hk.same _ (hrel.varLt hl) (n1.V hrel b l hl) (fun i ⟨v, hv, q1, _⟩ => ?_), fun b r' hr hb k hkk => hk.same k (hrel.Flt b r' hr k hkk) (fun q => ?_) (fun i ⟨v, hv, q1, _⟩ => ?_), fun k hkk => hk.same k (hrel.Ilt k hkk) (fun q => n1.I hrel k q hkk) (fun i ⟨v, hv, q1, _⟩ => ?_)⟩
    · obtain ⟨b', o', c', m1, m2, m3, -⟩ := hm.mem v hv
      exact hrel.vdis b' b c' l (fun q => hb (q ▸ m1)) m2 hl (by rw [← m3, q1])
    · obtain ⟨b', p1, p2, p3⟩ := n1 k q
      cases eb : look st.rows b' with
      | none => exact p2 eb
      | some rb => exact hrel.rdis b' b rb r' (fun q => hb (q ▸ p1)) eb hr k p3 hkk
    · obtain ⟨b', o', c', m1, m2, m3, -⟩ := hm.mem v hv
      exact hrel.vF b' c' b r' m2 hr (by rw [← m3, q1]; exact hkk)
    · obtain ⟨b', o', c', m1, m2, m3, -⟩ := hm.mem v hv
      exact hrel.vI b' c' m2 (by rw [← m3, q1]; exact hkk)
  unfold Oper.wp
  rw [hrun, Oper.upon_enter]
  refine hcall.mono (fun e w' hcame => ?_)
  obtain ⟨v, rfl, hk, vs', us, I', O1, O2, rfl, hb⟩ := hcame
  simp only
  clear hcall hcon hA
  obtain ⟨-, st1, C1, h, hrel1, hmv⟩ := Zrb (FZ := FZ) h hrel (fun _ => by rw [hg]; exact n2)
  rw [hg] at hmv
  rw [Zai4] at h
  have hm1 : Zjj C1 st1 con.ms la V := hm.mono hmv.var (by rw [hmv.vars]; exact (Dims.refl _).lens)
  obtain ⟨hrel2, hdims, hdead⟩ := Zif hm1 hrel1
  have hv12 : ∀ c l, look (Zgu con.ms la st1.vars) c = some l → ∃ l', look st1.vars c = some l' := fun c l e => by
    rcases hdims c with ⟨_, q⟩ | ⟨d, d', q, _⟩
    · rw [e] at q; cases q
    · exact ⟨d, q⟩
  have hOI : Dis O C1.I := fun k q1 q2 => by
    rcases hmv.I3 k q2 with q | q
    · exact n1.I hrel k q1 q
    · exact d1 k q1 q
  have hOV : ∀ c l, look (Zgu con.ms la st1.vars) c = some l → ¬ O (C1.var c).1 := fun c l e => by
    obtain ⟨l', e'⟩ := hv12 c l e
    rw [hmv.var]
    exact n1.V hrel c l' (hmv.vars ▸ e')
  have hOown := n1.own hrel
  have hw0 := hrel.frame.size
  obtain ⟨ob, obm⟩ := Zlk o1
  have key : ∃ J : Zd, (∀ k, J k → C1.I k ∨ O k ∨ w.heap.size ≤ k) ∧ (∀ k, J k → I' k) ∧ RepO w' (fun k => C1.I k ∨ J k) con.rt out.2 none us O1 ∧ Zo7 w' (fun k => C1.I k ∨ J k) con.ms out.1 V lv O2 := by
    by_cases hl : lentR st con.ms la = [] ∧ lentV con.ms la = []
    · refine ⟨I', fun k q => ?_, fun _ h => h, hb.val.frame (Zg _ _) (fun _ h => .inr h) (Zg _ _) (fun _ h => h), hb.outs.sub (fun _ h => .inr h) (fun _ h => h)⟩
      rcases hb.I2 k q with ((q | q) | (⟨b, q1, _⟩ | ⟨b, q1, _⟩)) | q | q
      · exact .inl (hmv.I1 k q)
      · exact .inl (hmv.I2 k q)
      · rw [hl.1] at q1; cases q1
      · rw [hl.2] at q1; cases q1
      · exact .inr (.inl q)
      · exact .inr (.inr q)
    · have hfr : con.rt.free = true ∧ (Zdc con.ms).free = true := by
        split at hfree
        · rename_i e1 e2; exact absurd ⟨e1, e2⟩ hl
        · simpa using hfree
      exact ⟨fun _ => False, fun k q => q.elim, fun k q => q.elim, Zrp hfr.1 hb.val, Zli hfr.2 hb.outs⟩
  obtain ⟨J, j1, j2, hval, houts⟩ := key
  obtain ⟨Oi, Ob, u1, u2, u3, hio, hbor⟩ := Zh9 houts
  obtain ⟨hkB, G, g1, g2, g3⟩ := Zll hrel hbo hargs ob hbor
  have hGB : ∀ b r, (b, r) ∈ Zkj con.ms la out.1 → Turned C1 w' (fun k => C1.I k ∨ J k) st1.rows G b r := fun b r hm => by
    obtain ⟨e, xs, ys, e1, e2, ho⟩ := g1 b r hm
    have hbm : b ∉ movR st con.ms la := obm b (by rw [← hkB]; exact Z6y hm)
    exact ⟨e, xs, ys, e1, by rw [hmv.rows2 b hbm]; exact e2, by rw [hmv.hdr]; exact ho⟩
  have hOF : ∀ c r, look st1.rows c = some r → c ∉ keysB (Zkj con.ms la out.1) → Dis O (C1.F c) := fun c r e hc k q1 q2 => by
    obtain ⟨b, p1, p2, p3⟩ := n1 k q1
    obtain ⟨m1, m2⟩ := hmv.rows c r e
    rw [hmv.F] at q2
    have hbc : b ≠ c := fun q => by
      subst q
      rcases Zig b p1 with p | p
      · exact m1 p
      · exact hc (by rw [hkB]; exact p)
    cases eb : look st.rows b with
    | none => exact p2 eb
    | some rb => exact hrel.rdis b c rb r hbc eb m2 k p3 q2
  have hGO : ∀ b, b ∈ keysB (Zkj con.ms la out.1) → ∀ k, G b k → O k ∨ w.heap.size ≤ k := fun b hbk k q => hb.O k (.inr (u2 k (g3 b hbk k q)))
  obtain ⟨hrel4, hkeep⟩ := hrel2.after (B := Zkj con.ms la out.1) (G := G) (J := J) hOI hOF hOV hOown hdead (fun k i ⟨v, hv, e1, e2, e3⟩ => by
    obtain ⟨b, o', c', m1, m2, m3, m4, m5⟩ := hm.mem v hv
    have := hrel.Vown b c' m2 (i - (C.var b).2) (by omega)
    rw [show (C.var b).2 + (i - (C.var b).2) = i by omega, ← m3, e1] at this
    exact this) hk j1 (fun k q => hb.lt k (.inl (j2 k q))) hGB g2 hGO (fun b hbk k q1 q2 => hb.d3 k (u2 k (g3 b hbk k q1)) (j2 k q2)) (fun b hbk k q => hb.lt k (.inr (.inr (u2 k (g3 b hbk k q)))))
  have hsv : ∀ c l, look (swapS (Zkj con.ms la out.1) { st1 with vars := Zgu con.ms la st1.vars }).vars c = some l → ∃ l', look (Zgu con.ms la st1.vars) c = some l' ∧ l.length = l'.length := fun c l e => by
    rw [Z4j] at e
    simp only [Zcp] at e
    cases q : look (Zgu con.ms la st1.vars) c with
    | none => rw [q] at e; cases e
    | some l' => rw [q] at e; exact ⟨l', rfl, by rw [← Option.some.inj e, Zf4]⟩
  have hloose : ∀ S : Zd, (∀ k, S k → O1 k ∨ O2 k) → Dis S I' → (∀ b, b ∈ keysB (Zkj con.ms la out.1) → Dis S (G b)) → Loose X { C1 with I := fun k => C1.I k ∨ J k, F := fun c => if natIn c (keysB (Zkj con.ms la out.1)) = true then G c else C1.F c, rows := Ztw C1.rows (Zkj con.ms la out.1) } (swapS (Zkj con.ms la out.1) { st1 with vars := Zgu con.ms la st1.vars }) w' S := fun S hS hd hG => by
    refine ⟨fun k q1 q2 => ?_, fun c r e k q1 q2 => ?_, fun c l e q => ?_, fun k q => hb.lt k (.inr (hS k q)), fun k q => ?_⟩
    · rcases q2 with q2 | q2
      · rcases hb.O k (hS k q1) with q | q
        · exact hOI k q q2
        · exact absurd (hrel2.Ilt k q2) (by omega)
      · exact hd k q1 (j2 k q2)
    · rw [Z4j] at e
      simp only at e q2
      by_cases hc : c ∈ keysB (Zkj con.ms la out.1)
      · rw [if_pos ((Za7 _ _).2 hc)] at q2
        exact hG c hc k q1 q2
      · rw [(Zf3 _ _ c).1 hc] at e
        rw [if_neg (fun q => hc ((Za7 _ _).1 q))] at q2
        rcases hb.O k (hS k q1) with q | q
        · exact hOF c r e hc k q q2
        · exact absurd (hrel2.Flt c r e k q2) (by omega)
    · obtain ⟨l', e', _⟩ := hsv c l e
      rcases hb.O _ (hS _ q) with q | q
      · exact hOV c l' e' q
      · exact Nat.lt_irrefl _ (Nat.lt_of_lt_of_le (hrel2.varlt e') q)
    · rcases hb.O k (hS k q) with q | q
      · exact hOown k q
      · exact .inr (Nat.le_trans hw0 q)
  have hl1 := hloose O1 (fun k q => .inl q) hb.d2 (fun b hbk k q1 q2 => hb.d1 k q1 (u2 k (g3 b hbk k q2)))
  have hl2 := hloose Oi (fun k q => .inr (u1 k q)) (fun k q1 q2 => hb.d3 k (u1 k q1) q2) (fun b hbk k q1 q2 => u3 k q1 (g3 b hbk k q2))
  unfold swapK at h
  rw [Zcz] at h
  obtain ⟨st5, C5, h, hrel5, hI5, hap, hkp⟩ := Zpw h (hm1.mono (C' := { C1 with I := fun k => C1.I k ∨ J k, F := fun c => if natIn c (keysB (Zkj con.ms la out.1)) = true then G c else C1.F c, rows := Ztw C1.rows (Zkj con.ms la out.1) }) (st' := swapS (Zkj con.ms la out.1) { st1 with vars := Zgu con.ms la st1.vars }) rfl (fun c l e => by
    obtain ⟨l1, e1, n1⟩ := hdims.lens c l e
    refine ⟨Zio (keysB (Zkj con.ms la out.1)) l1, ?_, by rw [Zf4, n1]⟩
    rw [Z4j]
    simp only [Zcp, e1]; rfl)) hrel4 hio hl2 (by omega)
  have ha1 := hap O1 hl1.apart (fun k q1 q2 => hb.d1 k q1 (u1 k q2))
  obtain ⟨l, st6, C6, e6, hrel6, hs6, -, hL6⟩ := Zhb (b := Nat.add name 100) (k := fun l st _ => Ze8 l fun l =>
          Zmf (resOf con.res l) fun a => kk a st) hrel5 (by rw [hI5]; exact hval) ⟨ha1.I, ha1.F, ha1.V, hl1.lt, hl1.own⟩ (PinR.free (fun c hc => X.lowR c (.inr (by simp only [Zq] at hc; omega))))
  have h := e6.symm.trans h
  rw [Zc0, Zgb] at h
  refine ⟨⟨_, _, C6, _, h, rfl, hrel6, resA hb.res hs6, fun x v hl hx hm => ?_⟩, hfr w' hk⟩
  rw [← hkB]
  have h1 : RA C1 w x v := hmv.lead hrel hrel1 hl hx
  have h2 := hkeep x v h1
  have hm' : ∀ c, mR c (Zgz (keysB (Zkj con.ms la out.1)) x) → c < name := fun c hc => hm c (Zagl hl hc)
  exact hL6.keep _ _ (hkp _ _ h2 hm') (fun c hc => .inl (by have := hm' c hc; simp only [Zq]; omega))
theorem nestA_out : ∀ {ms : List Mode} {l : List A} {j j0 b : Nat} {p : Path}, nestA ms l j0 = some (j, b, p) → j0 ≤ j ∧ l[j - j0]? = some (.ref b p none) ∧ (∃ i q, p = .idx i :: q ∧ flds q = true) ∧ ∀ st, b ∈ Za5 st ms l := by
  intro ms
  induction ms with
  | nil => intro l j j0 b p h; simp [nestA] at h
  | cons m ms ih =>
    intro l j j0 b p h
    cases l with
    | nil => cases m <;> simp [nestA] at h
    | cons x l =>
      have step : nestA ms l (Nat.succ j0) = some (j, b, p) → j0 ≤ j ∧ (x :: l)[j - j0]? = some (.ref b p none) ∧ (∃ i q, p = .idx i :: q ∧ flds q = true) ∧ ∀ st, b ∈ Za5 st ms l := fun h => by
        obtain ⟨h1, h2, h3, h4⟩ := ih h
        refine ⟨by omega, ?_, h3, h4⟩
        rw [show j - j0 = (j - Nat.succ j0) + 1 by omega, List.getElem?_cons_succ]
        exact h2
      cases m
      case bor t =>
        simp only [nestA] at h
        split at h
        · split at h
          · rename_i b' i p' hq
            simp only [Option.some.injEq, Prod.mk.injEq] at h
            obtain ⟨rfl, rfl, rfl⟩ := h
            exact ⟨Nat.le_refl _, by simp, ⟨_, _, rfl, hq⟩, fun st => by simp [Za5, Zo, flat, srcs, keys]⟩
          · cases h
        · obtain ⟨h1, h2, h3, h4⟩ := step h
          exact ⟨h1, h2, h3, fun st => by simp only [Za5, Zo, List.mem_append]; exact .inr (h4 st)⟩
      case own t =>
        obtain ⟨h1, h2, h3, h4⟩ := step h
        exact ⟨h1, h2, h3, fun st => by simp only [Za5, Zo, List.mem_append]; exact .inr (h4 st)⟩
      case io t =>
        obtain ⟨h1, h2, h3, h4⟩ := step h
        exact ⟨h1, h2, h3, fun st => by simp only [Za5, Zo, List.mem_append]; exact .inr (h4 st)⟩
      all_goals exact step h
theorem Zbu (d b : Nat) : ∀ l : List A, ∀ c, c ∈ keys (srcs (killL d [] (Zbh b l))) → c ∈ keys (srcs l)
  | [], c, h => h
  | .ref b' p cut :: l, c, h => by
    simp only [Zbh, killL] at h
    simp only [srcs, keys, List.mem_cons]
    unfold Zea at h
    split at h
    · exact .inr (Zbu d b l c (by simpa only [killA, srcs] using h))
    · unfold killA at h
      split at h
      · exact .inr (Zbu d b l c (by simpa only [srcs] using h))
      · simp only [srcs, keys, List.mem_cons] at h
        exact h.imp id (Zbu d b l c)
  | .rptr b' p :: l, c, h => by
    simp only [Zbh, killL] at h
    unfold Zea at h
    split at h
    · exact Zbu d b l c (by simpa only [killA, srcs] using h)
    · unfold killA at h
      split at h
      · exact Zbu d b l c (by simpa only [srcs] using h)
      · exact Zbu d b l c (by simpa only [srcs] using h)
  | .int _ _ :: l, c, h => Zbu d b l c (by simpa only [Zbh, Zea, killL, killA, srcs] using h)
  | .bool _ :: l, c, h => Zbu d b l c (by simpa only [Zbh, Zea, killL, killA, srcs] using h)
  | .str _ :: l, c, h => Zbu d b l c (by simpa only [Zbh, Zea, killL, killA, srcs] using h)
  | .nil :: l, c, h => Zbu d b l c (by simpa only [Zbh, Zea, killL, killA, srcs] using h)
  | .row _ _ :: l, c, h => Zbu d b l c (by simpa only [Zbh, Zea, killL, killA, srcs] using h)
  | .vptr _ _ :: l, c, h => Zbu d b l c (by simpa only [Zbh, Zea, killL, killA, srcs] using h)
  | .sptr _ _ :: l, c, h => Zbu d b l c (by simpa only [Zbh, Zea, killL, killA, srcs] using h)
  | .fn _ _ :: l, c, h => Zbu d b l c (by simpa only [Zbh, Zea, killL, killA, srcs] using h)
  | .agg _ :: l, c, h => Zbu d b l c (by simpa only [Zbh, Zea, killL, killA, srcs] using h)
  | .tup _ :: l, c, h => Zbu d b l c (by simpa only [Zbh, Zea, killL, killA, srcs] using h)
  | .dead :: l, c, h => Zbu d b l c (by simpa only [Zbh, Zea, killL, killA, srcs] using h)
theorem Zafk (d b : Nat) (y : A) (c : Nat) (h : c ∈ keys (srcs (flat (killA d [] (Zea b y))))) : c ∈ keys (srcs (flat y)) := by
  cases y
  case agg l => exact Zbu d b l c (by simpa only [Zea, killA, flat] using h)
  case ref b' p cut =>
    have := Zbu d b [.ref b' p cut] c
    simp only [Zbh, killL] at this
    refine this ?_
    revert h
    unfold Zea
    split
    · exact fun h => h
    · unfold killA
      split <;> exact fun h => h
  case rptr b' p =>
    have := Zbu d b [.rptr b' p] c
    simp only [Zbh, killL] at this
    refine this ?_
    revert h
    unfold Zea
    split
    · exact fun h => h
    · unfold killA
      split <;> exact fun h => h
  all_goals simpa only [Zea, killA, flat, srcs] using h
theorem kill_cut (d b : Nat) : ∀ (l : List A) (o n : Nat), ((killL d [] (Zbh b l)).drop o).take n = killL d [] (Zbh b ((l.drop o).take n)) := by
  have hd : ∀ (l : List A) (o : Nat), (killL d [] (Zbh b l)).drop o = killL d [] (Zbh b (l.drop o)) := by
    intro l
    induction l with
    | nil => intro o; simp [Zbh, killL]
    | cons x l ih =>
      intro o
      cases o with
      | zero => rfl
      | succ o => simp only [Zbh, killL, List.drop_succ_cons]; exact ih o
  have ht : ∀ (l : List A) (o : Nat), (killL d [] (Zbh b l)).take o = killL d [] (Zbh b (l.take o)) := by
    intro l
    induction l with
    | nil => intro o; simp [Zbh, killL]
    | cons x l ih =>
      intro o
      cases o with
      | zero => rfl
      | succ o => simp only [Zbh, killL, List.take_succ_cons, ih o]
  intro l o n
  rw [hd, ht]
theorem Zaef {d b : Nat} {y : A} {c o : Nat} (h : killA d [] (Zea b y) = .vptr c o) : y = .vptr c o := by
  cases y
  case vptr => simpa only [Zea, killA] using h
  case ref =>
    revert h
    unfold Zea
    split
    · intro h; simp [killA] at h
    · unfold killA; split <;> exact fun h => by cases h
  case rptr =>
    revert h
    unfold Zea
    split
    · intro h; simp [killA] at h
    · unfold killA; split <;> exact fun h => by cases h
  all_goals (simp only [Zea, killA] at h; cases h)
theorem Zf7 {st st1 : St} {d b : Nat} (hv : ∀ c, look st1.vars c = (look st.vars c).map (fun l => killL d [] (Zbh b l))) : ∀ {ms : List Mode} {l : List A} (c : Nat), c ∈ Za5 st1 ms (killL d [] (Zbh b l)) → c ∈ Za5 st ms l
  | .own _ :: ms, y :: l, c, h => by
    simp only [Zbh, killL, Za5, Zo, List.mem_append] at h ⊢
    exact h.imp (Zafk d b y c) (Zf7 hv c)
  | .bor _ :: ms, y :: l, c, h => by
    simp only [Zbh, killL, Za5, Zo, List.mem_append] at h ⊢
    exact h.imp (Zafk d b y c) (Zf7 hv c)
  | .io t :: ms, y :: l, c, h => by
    simp only [Zbh, killL, Za5, Zo, List.mem_append] at h ⊢
    rcases h with h | h
    rotate_left
    · exact .inr (Zf7 hv c h)
    refine .inl ?_
    split at h
    · rename_i b' o e
      obtain rfl := Zaef e
      simp only
      rw [hv] at h
      cases q : look st.vars b' with
      | none => rw [q] at h; cases h
      | some m =>
        rw [q] at h
        simp only [Option.map_some, Zg3, Zho, kill_cut] at h
        simp only [Zg3, Zho]
        exact Zbu d b _ c h
    · cases h
  | .val _ :: ms, y :: l, c, h => Zf7 hv (ms := ms) (l := l) c h
  | .rptr _ :: ms, y :: l, c, h => Zf7 hv (ms := ms) (l := l) c h
  | .fn _ :: ms, y :: l, c, h => Zf7 hv (ms := ms) (l := l) c h
  | .fnr _ _ :: ms, y :: l, c, h => Zf7 hv (ms := ms) (l := l) c h
  | [], _, c, h => by simp [Za5] at h
  | m :: _, [], c, h => by simp [Zbh, killL, Za5] at h
theorem Ze3 {d b : Nat} : ∀ {ms : List Mode} {l : List A} (c : Nat), c ∈ Zki ms (killL d [] (Zbh b l)) → c ∈ Zki ms l
  | .io t :: ms, y :: l, c, h => by
    simp only [Zbh, killL, Zki] at h ⊢
    split at h
    · rename_i b' o e
      obtain rfl := Zaef e
      simp only [List.mem_cons] at h ⊢
      exact h.imp id (Ze3 c)
    · have := Ze3 (ms := ms) (l := l) c h
      split
      · exact List.mem_cons_of_mem _ this
      · exact this
  | .own _ :: ms, y :: l, c, h => Ze3 (ms := ms) (l := l) c h
  | .bor _ :: ms, y :: l, c, h => Ze3 (ms := ms) (l := l) c h
  | .val _ :: ms, y :: l, c, h => Ze3 (ms := ms) (l := l) c h
  | .rptr _ :: ms, y :: l, c, h => Ze3 (ms := ms) (l := l) c h
  | .fn _ :: ms, y :: l, c, h => Ze3 (ms := ms) (l := l) c h
  | .fnr _ _ :: ms, y :: l, c, h => Ze3 (ms := ms) (l := l) c h
  | [], _, c, h => by simp [Zki] at h
  | m :: _, [], c, h => by simp [Zbh, killL, Zki] at h
theorem Zqv {st : St} {d : Nat} : ∀ {ms : List Mode} {l : List A} {j : Nat} (c : Nat), c ∈ Za5 st ms (l.set j (.ref d [] none)) → c = d ∨ c ∈ Za5 st ms l
  | [], l, j, c, h => by simp [Za5] at h
  | m :: _, [], j, c, h => .inr (by simpa using h)
  | m :: ms, y :: l, 0, c, h => by
    rw [List.set_cons_zero] at h
    cases m
    case own => simp only [Za5, Zo, List.mem_append, flat, srcs, keys, List.mem_singleton] at h ⊢; exact h.imp id .inr
    case bor => simp only [Za5, Zo, List.mem_append, flat, srcs, keys, List.mem_singleton] at h ⊢; exact h.imp id .inr
    case io => simp only [Za5, Zo, List.mem_append, List.not_mem_nil, false_or] at h ⊢; exact .inr (.inr h)
    all_goals exact .inr h
  | m :: ms, y :: l, j + 1, c, h => by
    rw [List.set_cons_succ] at h
    cases m
    case own => simp only [Za5, Zo, List.mem_append] at h ⊢; exact h.elim (fun h => .inr (.inl h)) (fun h => (Zqv c h).imp id .inr)
    case bor => simp only [Za5, Zo, List.mem_append] at h ⊢; exact h.elim (fun h => .inr (.inl h)) (fun h => (Zqv c h).imp id .inr)
    case io => simp only [Za5, Zo, List.mem_append] at h ⊢; exact h.elim (fun h => .inr (.inl h)) (fun h => (Zqv c h).imp id .inr)
    all_goals exact Zqv (ms := ms) c h
theorem Zuh {d : Nat} : ∀ {ms : List Mode} {l : List A} {j : Nat} (c : Nat), c ∈ Zki ms (l.set j (.ref d [] none)) → c ∈ Zki ms l
  | [], l, j, c, h => by simp [Zki] at h
  | m :: _, [], j, c, h => (by simpa using h)
  | m :: ms, y :: l, 0, c, h => by
    rw [List.set_cons_zero] at h
    cases m
    case io =>
      simp only [Zki] at h ⊢
      split
      · exact List.mem_cons_of_mem _ h
      · exact h
    all_goals exact h
  | m :: ms, y :: l, j + 1, c, h => by
    rw [List.set_cons_succ] at h
    cases m
    case io =>
      simp only [Zki] at h ⊢
      split at h
      · simp only [List.mem_cons] at h ⊢; exact h.imp id (Zuh c)
      · exact Zuh (ms := ms) c h
    all_goals exact Zuh (ms := ms) c h
theorem plugS_out {b d : Nat} {p : Path} {vp v : Value} {k : St → Option R} (hrel : Rel X C st a w) (h : plugS st b p d k = some r) (hv : RA C w (.rptr b p) vp) (hd : RA C w (.ref d [] none) v) (hcell : ∀ M : Nat × Nat, vp = .pointer (some ⟨M.1, M.2, none⟩) → w.cell? ⟨M.1, M.2, none⟩ = some v) : Goes X k r a w := by
  unfold plugS at h
  split at h
  rotate_left
  · cases h
  rename_i rd hrd
  obtain ⟨x', h2, hT⟩ := Zeq hrel h (show RAs C w [.ref d [] none] [v] from ⟨v, [], rfl, hd, rfl⟩)
  obtain ⟨OW, FZ, o1, o2, o3, o4⟩ := hT (Zae1 h2)
  obtain ⟨-, st', C', h2, hrel', hmv⟩ := Zrb (FZ := FZ) h2 hrel (fun _ => o2)
  have hlo := Zra hrel hmv o1 o3
  have hyO : RepO w C'.I (.row true rd.e) x' none [v] OW := o4.frame (Zg _ _) (fun k hk => hk.elim (hmv.I1 k) (hmv.I2 k)) (Zg _ _) (fun _ h => h)
  obtain ⟨e, xs, ys, M, cs, et, fr, ⟨gg, g0⟩, g1, g2, g3, g4, g5, g6, g7⟩ := Zye hrel' h2 (hmv.rptr hrel hrel' hv) hyO hlo
  have hc := hcell M g2
  have hp : Poked w w M.1 (sets cs.toList M.2 [v]).toArray et fr := by
    refine ⟨rfl, rfl, rfl, rfl, ?_, fun _ _ => rfl⟩
    have hM : cs[M.2]? = some v := by
      simpa [World.cell?, g3] using hc
    rw [Zaeq (fun i u hu => ?_)]
    · exact g3
    · cases i with
      | zero => simp at hu; subst hu; simpa using hM
      | succ i => simp at hu
  exact ⟨_, _, g1, g7 w hp⟩
theorem calls_ok (hK : ConsOk P E) : Zuo P E := by
  intro R X C st a w k r o Q c f ho hc h hrel
  simp only [insts, ho, hc, Zwr, Zji] at h
  have hf := hrel.ev f
  split at h
  rotate_left
  · cases h
  rename_i g caps eg
  split at h
  rotate_left
  · cases h
  rename_i con hcon
  rw [Zuk, Zo] at h
  rw [eg] at hf
  obtain ⟨cvs, hv, hcs⟩ := hf
  have hcon' := hcon
  obtain ⟨⟨fn, f1, f2, f3⟩, hcon⟩ := hK g con hcon
  have hargs := (hrel.evs c.args.toList).append hcs
  have hTV : tvOf E st o = Zki con.ms (c.args.toList.map (evD st) ++ caps) := by
    simp only [tvOf, ho, hc, eg, hcon', Zo, mapL_eq]
  have hTR : trOf E st o = Za5 st con.ms (c.args.toList.map (evD st) ++ caps) := by
    simp only [trOf, ho, hc, eg, hcon', Zo, mapL_eq]
  rw [hTV, hTR]
  clear hTV hTR
  have hrun : (execOp a.eval o).run P w = .ok (.enter g (c.args.toList.map a.eval ++ cvs).toArray) w := by
    have e1 : (#[] : Array Value) ++ c.args.map a.eval ++ cvs.toArray = (c.args.toList.map a.eval ++ cvs).toArray := by
      apply Array.ext'
      simp
    simp only [execOp, ho, resolve, hc, hv, Deferred.ofValue, pure_bind, invoke, callFunc, Sem.run_bind, run_program, Result.andThen_ok, f1, f2, f3, Bool.false_eq_true, if_false, e1, Sem.run_pure]
  generalize hla : c.args.toList.map (evD st) ++ caps = la at h hargs
  generalize hlv : c.args.toList.map a.eval ++ cvs = lv at hargs hrun
  have hN : 1000 ≤ Nat.mul 1000 (Nat.succ (o.dst.getD 0)) := by simp only [Zkh]; omega
  unfold callN at h
  split at h
  · refine Oper.wp_mono (fun a' w' hh => ?_) (Zafo f1 f2 f3 hcon hrun hargs hN h hrel)
    obtain ⟨⟨x, st', C', v, h1, rfl, h3, h4, -⟩, hfrm⟩ := hh
    rw [Zaa] at h1
    exact ⟨⟨_, _, h1, h3.put o.dst h4⟩, hfrm⟩
  · rename_i j b p hnest
    obtain ⟨-, hj, ⟨i, q, rfl, hfl⟩, hbg⟩ := nestA_out hnest
    obtain ⟨vb, hvb, hx⟩ := hargs.get (by simpa using hj)
    obtain ⟨st1, C1, h, hrel1, hd1, hfr, htr, hbd, ⟨rb, hrb⟩, ⟨rb1, hrb1⟩, hvars1⟩ := Z8i hrel (X.lowR _ (.inr (by omega))) h hx
    rw [Znv, Zuk, Zd4] at h
    split at h
    · cases h
    rename_i hnb
    simp only [Bool.or_eq_true, not_or] at hnb
    obtain ⟨hnb, hbn⟩ := hnb
    have hbn : b < Nat.mul 1000 (Nat.succ (o.dst.getD 0)) := by
      by_cases hq : b < Nat.mul 1000 (Nat.succ (o.dst.getD 0))
      · exact hq
      · exact absurd (Nat.ble_eq_true_of_le (by omega)) hbn
    have hnb : b ∉ Za5 st1 con.ms ((killL 999 [] (Zbh b la)).set j (.ref 999 [] none)) := fun q => hnb ((Za7 _ _).2 q)
    have hargs1 : RAs C1 w ((killL 999 [] (Zbh b la)).set j (.ref 999 [] none)) lv := by
      have h1 : ∀ {l : List A} {vs : List Value}, RAs C w l vs → RAs C1 w (killL 999 [] (Zbh b l)) vs := by
        intro l
        induction l with
        | nil => intro vs h; exact h
        | cons y l ih =>
          intro vs ⟨v, vs', e, h1, h2⟩
          exact ⟨v, vs', e, htr y v h1, ih h2⟩
      have h2 := (h1 hargs).set j hd1
      rwa [show lv.set j vb = lv by
        apply List.ext_getElem?
        intro n
        rw [List.getElem?_set]
        split
        · rename_i e
          subst e
          split
          · exact hvb.symm
          · rename_i hlt; rw [List.getElem?_eq_none (by omega)]
        · rfl] at h2
    obtain ⟨H, sz, ⟨M, o', e', m1, m2, m3⟩, hC⟩ := hx.2 rb (by rw [hrel.rowsEq]; exact hrb)
    have hC : vb = .slice H.1 H.2.1 H.2.2 := hC
    rw [← hC] at m3
    have hp : RA C w (.rptr b (.idx i :: q)) (.pointer (some ⟨M.1, M.2, none⟩)) := ⟨⟨_, rfl⟩, fun r' hr' => by
      rw [hrel.rowsEq, hrb] at hr'
      obtain rfl := Option.some.inj hr'
      exact ⟨M, _, m1, rfl⟩⟩
    have hp1 := htr _ _ hp
    have ek : killA 999 [] (Zea b (.rptr b (.idx i :: q))) = .rptr b (.idx i :: q) := by
      have e1 : Zea b (.rptr b (.idx i :: q)) = .rptr b (.idx i :: q) := by
        unfold Zea
        rw [if_neg (by simp [shallow, hfl])]
      rw [e1]
      unfold killA
      rw [if_neg (by
        have : Nat.beq 999 b = false := Bool.eq_false_iff.2 (fun q => hbd (Nat.eq_of_beq_eq_true q).symm)
        simp [this])]
    rw [ek] at hp1
    have hMF : C1.F b M.1 := by
      obtain ⟨M', u', n1, n2⟩ := hp1.2 rb1 (by rw [hrel1.rowsEq]; exact hrb1)
      obtain ⟨ad, t1, t2, t3, t4⟩ := n1
      simp only [Value.pointer.injEq, Option.some.injEq, Addr.mk.injEq, and_true] at n2
      rw [n2.1]; exact t3
    refine Oper.wp_mono (fun a' w' hh => ?_) (Zafo f1 f2 f3 hcon hrun hargs1 hN h hrel1)
    obtain ⟨⟨x, st', C', v, h1, rfl, h3, h4, hkeep⟩, hfrm⟩ := hh
    rw [Zaa] at h1
    have hbb : natIn b (borR con.ms ((killL 999 [] (Zbh b la)).set j (.ref 999 [] none))) = false := Bool.eq_false_iff.2 (fun hc => hnb (Zkg (ms := con.ms) b ((Za7 _ _).1 hc)))
    have hp2 := hkeep (.rptr b (.idx i :: q)) _ rfl hp1 (fun c hc => by have hc : b = c := hc; omega)
    have hd2 := hkeep (.ref 999 [] none) _ rfl hd1 (fun c hc => by have hc : 999 = c := hc; omega)
    have e1 : Zgz (borR con.ms ((killL 999 [] (Zbh b la)).set j (.ref 999 [] none))) (.rptr b (.idx i :: q)) = .rptr b (.idx i :: q) := by
      unfold Zgz; rw [hbb]; rfl
    have e2 : Zgz (borR con.ms ((killL 999 [] (Zbh b la)).set j (.ref 999 [] none))) (.ref 999 [] none) = .ref 999 [] none := by
      unfold Zgz; simp [isNil]
    rw [e1] at hp2
    rw [e2] at hd2
    refine ⟨plugS_out (h3.put o.dst h4) h1 hp2 hd2 (fun M' hM' => ?_), hfr w' _ _ _ _ (fun c hc hc1 => hc (Ze3 c (Zuh c hc1))) (fun c hc => ⟨fun q => hc (q ▸ hbg st), fun hcd hc1 => hc (Zf7 hvars1 c ((Zqv c hc1).resolve_left hcd))⟩) hfrm⟩
    simp only [Value.pointer.injEq, Option.some.injEq, Addr.mk.injEq, and_true] at hM'
    rw [← hM'.1, ← hM'.2]
    exact (Z76 (hfrm.R b rb1 hrb1 hnb _ hMF)).trans m3
end
end Go.Proofs.YtcpecilmkkmaiaaGreat.V
namespace Go.Proofs.YtcpecilmkkmaiaaGreat.V
open Go Go.RowKit
def Known (P : Program) (f : Nat) (c : Con) : Prop := Zq1 P f ∧ ConOk P f c
def ConsL (P : Program) (l : List (Nat × Con)) : Prop := ∀ f c, look l f = some c → Known P f c
theorem ConsL.nil {P : Program} : ConsL P [] := fun f c h => by simp [look] at h
theorem ConsL.cons {P : Program} {f : Nat} {c : Con} {l : List (Nat × Con)} (h : Known P f c) (hl : ConsL P l) : ConsL P ((f, c) :: l) := by
  intro g d hg
  simp only [look] at hg
  split at hg
  · rename_i e
    have : f = g := Nat.eq_of_beq_eq_true e
    subst this
    cases hg
    exact h
  · exact hl g d hg
def tabOk (P : Program) : List (Nat × Ty) → Bool
  | [] => true
  | (i, t) :: l => fits P t i && (match t with | .pair a b => eqOk P (.pair a b) i | _ => true) && tabOk P l
theorem Zahg {P : Program} : ∀ {tab : List (Nat × Ty)}, tabOk P tab = true → ∀ id, (look tab id).getD .unit = .unit ∨ (fits P ((look tab id).getD .unit) id = true ∧ ∀ a b, (look tab id).getD .unit = .pair a b → eqOk P (.pair a b) id = true)
  | [], _, id => .inl rfl
  | (i, t) :: l, h, id => by
    simp only [tabOk, Bool.and_eq_true] at h
    simp only [look]
    split
    · rename_i e
      have : i = id := Nat.eq_of_beq_eq_true e
      subst this
      refine .inr ⟨h.1.1, fun a b e => ?_⟩
      have e : t = .pair a b := e
      subst e
      exact h.1.2
    · exact Zahg h.2 id
theorem env_ok {P : Program} {tab : List (Nat × Ty)} {con : Nat → Option Con} (hm : P.follows .mixedOrders = true) (h : tabOk P tab = true) : EnvOk P ⟨fun i => (look tab i).getD .unit, con⟩ :=
  ⟨hm, fun id a b e => by
    rcases Zahg h id with q | q
    · rw [show (look tab id).getD .unit = _ from e] at q; cases q
    · exact q.2 a b e, fun id => (Zahg h id).imp (fun q => q) (fun q => q.1)⟩
def Zco : Code → List Nat
  | .block id a => id :: Zco a
  | .seq a b => appL (Zco a) (Zco b)
  | .cond _ a b => appL (Zco a) (Zco b)
  | .loop a => Zco a
  | _ => []
theorem Zwg {i : Nat} {a : Code} : Za3 (.block i a) = (match a with | .loop b => (i, b) :: Za3 b | a => Za3 a) := by
  cases a <;> rfl
theorem Zd5 : ∀ {c : Code} {id : Nat} {b : Code}, (id, b) ∈ Za3 c → id ∈ Zco c
  | .block i a, id, b, h => by
    rw [Zwg] at h
    simp only [Zco, List.mem_cons]
    split at h
    · rename_i d
      rcases List.mem_cons.1 h with h | h
      · cases h; exact .inl rfl
      · exact .inr (Zd5 (c := d) h)
    · exact .inr (Zd5 h)
  | .seq x y, id, b, h => by
    simp only [Za3, Zco, Zo, List.mem_append] at h ⊢
    exact h.imp Zd5 Zd5
  | .cond _ x y, id, b, h => by
    simp only [Za3, Zco, Zo, List.mem_append] at h ⊢
    exact h.imp Zd5 Zd5
  | .skip, _, _, h => by simp [Za3] at h
  | .region _ _ _, _, _, h => by simp [Za3] at h
  | .loop _, _, _, h => by simp [Za3] at h
  | .exit _, _, _, h => by simp [Za3] at h
  | .ret, _, _, h => by simp [Za3] at h
  | .rangeFunc _ _ _ _, _, _, h => by simp [Za3] at h
  | .scope _, _, _, h => by simp [Za3] at h
  | .label _, _, _, h => by simp [Za3] at h
  | .goto _, _, _, h => by simp [Za3] at h
  | .refuse _, _, _, h => by simp [Za3] at h
theorem Zf2 : ∀ {c : Code} {id : Nat}, id ∉ Zco c → Zpc c id = none
  | .block i a, id, h => by
    simp only [Zco, List.mem_cons, not_or] at h
    simp only [Zpc]
    rw [if_neg (fun q => h.1 (Nat.eq_of_beq_eq_true q).symm)]
    exact Zf2 h.2
  | .seq x y, id, h => by
    simp only [Zco, Zo, List.mem_append, not_or] at h
    simp only [Zpc, Zf2 h.1, Zf2 h.2]
  | .cond _ x y, id, h => by
    simp only [Zco, Zo, List.mem_append, not_or] at h
    simp only [Zpc, Zf2 h.1, Zf2 h.2]
  | .loop a, id, h => by simp only [Zpc]; exact Zf2 h
  | .skip, _, _ => rfl
  | .region _ _ _, _, _ => rfl
  | .exit _, _, _ => rfl
  | .ret, _, _ => rfl
  | .rangeFunc _ _ _ _, _, _ => rfl
  | .scope _, _, _ => rfl
  | .label _, _, _ => rfl
  | .goto _, _, _ => rfl
  | .refuse _, _, _ => rfl
theorem Zn1 : ∀ {c : Code} {id : Nat} {b : Code}, once (Zco c) = true → (id, b) ∈ Za3 c → Zpc c id = some b
  | .block i a, id, b, ho, h => by
    simp only [Zco, once, Bool.and_eq_true, Bool.not_eq_true'] at ho
    have hi : i ∉ Zco a := fun q => by rw [(Za7 _ _).2 q] at ho; cases ho.1
    rw [Zwg] at h
    split at h
    · rename_i d
      rcases List.mem_cons.1 h with h | h
      · cases h
        simp only [Zpc]
        rw [if_pos (Nat.beq_refl _)]
      · have hs := Zd5 (c := d) h
        simp only [Zpc]
        rw [if_neg (fun q => hi (by rw [Nat.eq_of_beq_eq_true q]; exact hs))]
        exact Zn1 (c := d) ho.2 h
    · have hs := Zd5 h
      simp only [Zpc]
      rw [if_neg (fun q => hi (by rw [Nat.eq_of_beq_eq_true q]; exact hs))]
      exact Zn1 ho.2 h
  | .seq x y, id, b, ho, h => by
    simp only [Zco, Zo] at ho
    obtain ⟨o1, o2, o3⟩ := Zax ho
    simp only [Za3, Zo, List.mem_append] at h
    simp only [Zpc]
    rcases h with h | h
    · rw [Zn1 o1 h]
    · rw [Zf2 (fun q => o3 id q (Zd5 h)), Zn1 o2 h]
  | .cond _ x y, id, b, ho, h => by
    simp only [Zco, Zo] at ho
    obtain ⟨o1, o2, o3⟩ := Zax ho
    simp only [Za3, Zo, List.mem_append] at h
    simp only [Zpc]
    rcases h with h | h
    · rw [Zn1 o1 h]
    · rw [Zf2 (fun q => o3 id q (Zd5 h)), Zn1 o2 h]
  | .skip, _, _, _, h => by simp [Za3] at h
  | .region _ _ _, _, _, _, h => by simp [Za3] at h
  | .loop _, _, _, _, h => by simp [Za3] at h
  | .exit _, _, _, _, h => by simp [Za3] at h
  | .ret, _, _, _, h => by simp [Za3] at h
  | .rangeFunc _ _ _ _, _, _, _, h => by simp [Za3] at h
  | .scope _, _, _, _, h => by simp [Za3] at h
  | .label _, _, _, _, h => by simp [Za3] at h
  | .goto _, _, _, _, h => by simp [Za3] at h
  | .refuse _, _, _, _, h => by simp [Za3] at h
def Zaed {R : Type} (E : Env) (F : Fun R) (c : Code) : List (Nat × Seg R) → Prop
  | [] => True
  | (id, S) :: l => ((∀ out x, S.f 0 out x = none) ∧ ∀ n out x, roundK E F c id S (S.f n out) out x = S.f (n + 1) out x) ∧ Zaed E F c l
theorem Zaed.out {R : Type} {E : Env} {F : Fun R} {c : Code} : ∀ {l : List (Nat × Seg R)}, Zaed E F c l → ∀ {id S}, look l id = some S → (∀ out x, S.f 0 out x = none) ∧ ∀ n out x, roundK E F c id S (S.f n out) out x = S.f (n + 1) out x
  | [], _, id, S, h => by simp [look] at h
  | (i, T) :: l, ⟨h1, h2⟩, id, S, h => by
    simp only [look] at h
    split at h
    · rename_i e
      have : i = id := Nat.eq_of_beq_eq_true e
      subst this
      cases h
      exact h1
    · exact Zaed.out h2 h
theorem known_of {P : Program} {tab : List (Nat × Ty)} {cons : List (Nat × Con)} {f : Nat} {fn : Func} {c : Con} {segs : List (Nat × Seg ((Zdc c.ms).den × c.rt.den))} {n : Nat}
    (hm : P.follows .mixedOrders = true) (ht : tabOk P tab = true) (hK : ConsL P cons) (hf : P.funcs[f]? = some fn)
    (h1 : (fn.body.isSome && !(fn.name == "runtime.NumGoroutine") && once (Zco (fn.body.getD .skip))) = true)
    (hs : Zaed ⟨fun i => (look tab i).getD .unit, fun i => look cons i⟩ ⟨fn.ntmps, n, fun i => look segs i, retK ⟨fun i => (look tab i).getD .unit, fun i => look cons i⟩ fn c.ms c.res c.rt⟩ (fn.body.getD .skip) segs)
    (he : ∀ x, funK ⟨fun i => (look tab i).getD .unit, fun i => look cons i⟩ fn c.ms c.res c.rt (fun i => look segs i) n x = c.f x) : Known P f c := by
  simp only [Bool.and_eq_true, Bool.not_eq_true'] at h1
  obtain ⟨⟨hb, hn⟩, ho⟩ := h1
  obtain ⟨body, hb⟩ := Option.isSome_iff_exists.1 hb
  refine ⟨⟨fn, hf, by simp [hb], hn⟩, ?_⟩
  intro w I OW V x vals r hA hd hlt hV hx
  rw [hb, Option.getD_some] at hs ho
  refine fun_sound (E := ⟨fun i => (look tab i).getD .unit, fun i => look cons i⟩) (seg := fun i => look segs i) (n := n) (env_ok hm ht) (calls_ok (fun g d h => hK g d h)) hf hb ?_ (by rw [he]; exact hx) hA hd hlt hV
  intro id b S hL hS
  obtain ⟨q1, q2⟩ := hs.out hS
  refine ⟨q1, fun n' out x => ?_⟩
  rw [← q2]
  simp only [roundK, Zn1 ho hL]
end Go.Proofs.YtcpecilmkkmaiaaGreat.V
namespace Go.Proofs.YtcpecilmkkmaiaaGreat.V
open Go Go.RowKit Go.ChangeShapes Go.WideShapes
def Lt (W : World) : Zd := fun k => k < W.heap.size
def AllL {α : Type} (B : α → Prop) (xs : List α) : Prop := ∀ x ∈ xs, B x
def Bnd : (t : Ty) → t.den → Prop
  | .int k, n => (Lit.int k n).wf = true
  | .bool, _ => True
  | .str, s => ByteArray.size s ≤ 140737488351232
  | .row _ e, xs => List.length (α := e.den) xs ≤ 140737488351232 ∧ AllL (α := e.den) (Bnd e) xs
  | .pair a b, x => Bnd a x.1 ∧ Bnd b x.2
  | .arr _ _, _ => True
  | .unit, _ => True
  | .any, _ => True
def openM (P : Program) : Ty → Option (List Field) → TypeId → Bool
  | .int _, _, _ => true
  | .bool, _, _ => true
  | .str, _, _ => true
  | .row _ e, _, id => (match P.underlying id with | some (.slice u) => decide (1 ≤ P.bytesOf u) && openM P e none u | _ => false)
  | .pair a b, s, id => (match s with
    | none => (match P.underlying id with
      | some (.struct fs) => (match fs.toList with
        | f :: l => openM P a none f.type && b.chain && openM P b (some l) 0
        | [] => false)
      | _ => false)
    | some (f :: l) => openM P a none f.type && openM P b (some l) 0
    | some [] => false)
  | .unit, _, _ => true
  | _, _, _ => false
def OpnV (P : Program) (t : Ty) (id : TypeId) : Prop :=
  ∀ {H : Type} (enc : TypeId × Value → H) (W : World) (base : Nat) (spare : Nat → Bool) (held : Bool) (fuel : Nat) (cs : List Value) (D : DataW H) (ps : List MemPlace),
    P.cellsOf id = t.size → DataW.trod enc P W base spare held fuel id cs = some (D, ps) → (D.weights P id).all (· ≤ reachBytes) = true → ∃ x : t.den, RepS W (Lt W) t x cs ∧ Bnd t x
def OpnFsV (P : Program) (t : Ty) (fl : List Field) (off : Nat) : Prop :=
  ∀ {H : Type} (enc : TypeId × Value → H) (W : World) (base : Nat) (spare : Nat → Bool) (held : Bool) (n : Nat) (cs : List Value) (xs : List (DataW H × List MemPlace)),
    xs.length = fl.length → (∀ (i : Nat) (f : Field), fl[i]? = some f → DataW.trod enc P W base spare held n f.type ((cs.drop f.offset).take (P.cellsOf f.type)) = xs[i]?) →
    (DataW.weightsEach P (fl.map (·.type)) (xs.map (·.1))).all (· ≤ reachBytes) = true → ∃ x : t.den, RepS W (Lt W) t x ((cs.drop off).take t.size) ∧ Bnd t x
theorem Zs3 {H : Type} {P : Program} {e : TypeId} : ∀ {ds : List (DataW H)} {d : DataW H}, d ∈ ds → ∀ n ∈ d.weights P e, n ∈ DataW.weightsAll P e ds
  | [], _, hd, _, _ => by simp at hd
  | d0 :: ds, d, hd, n, hn => by
    simp only [DataW.weightsAll, List.mem_append]
    rcases List.mem_cons.1 hd with rfl | hd
    · exact Or.inl hn
    · exact Or.inr (Zs3 hd n hn)
theorem Z4a {α : Type} {R : α → List Value → Prop} {B : α → Prop} {n off : Nat} {cells : Array Value} : ∀ (m i0 : Nat), (∀ i, i0 ≤ i → i < i0 + m → ∃ x c, c.length = n ∧ R x c ∧ B x ∧ ∀ j u, c[j]? = some u → cells[off + i * n + j]? = some u) →
    ∃ xs vs, List.length (α := α) xs = m ∧ vs.length = m * n ∧ RepN R xs vs ∧ (∀ q v, vs[q]? = some v → cells[off + i0 * n + q]? = some v) ∧ ∀ x ∈ xs, B x
  | 0, i0, _ => ⟨[], [], rfl, by simp, rfl, by simp, by simp⟩
  | m + 1, i0, h => by
    obtain ⟨x, c, h1, h2, h3, h4⟩ := h i0 (Nat.le_refl _) (by omega)
    obtain ⟨xs, vs, q1, q2, q3, q4, q5⟩ := Z4a m (i0 + 1) (fun i p1 p2 => h i (by omega) (by omega))
    refine ⟨x :: xs, c ++ vs, by simp [q1], by simp [h1, q2, Nat.succ_mul]; omega, ⟨c, vs, rfl, h2, q3⟩, fun q v hq => ?_, fun y hy => ?_⟩
    · by_cases hc : q < n
      · rw [List.getElem?_append_left (by omega)] at hq
        exact h4 q v hq
      · rw [List.getElem?_append_right (by omega), h1] at hq
        have := q4 (q - n) v hq
        rw [Nat.succ_mul] at this
        rw [show off + i0 * n + q = off + (i0 * n + n) + (q - n) by omega]
        exact this
    · rcases List.mem_cons.1 hy with rfl | hy
      · exact h3
      · exact q5 y hy
theorem Zajx {W : World} {a : Addr} {i : Nat} {v : Value} (h : W.cell? (a.add i) = some v) : (a.add i).spot = none ∧ ∃ cs et fr, W.heap[a.block]? = some (.cells cs et fr) ∧ cs[a.off + i]? = some v := by
  have e1 : (a.add i).block = a.block := by unfold Addr.add; split <;> rfl
  have e2 : (a.add i).off = a.off + i := by unfold Addr.add; split <;> simp_all
  unfold World.cell? at h
  rw [e1] at h
  split at h
  · rename_i cs et fr e
    split at h
    · cases h
    · rename_i hs
      refine ⟨by simpa using hs, cs, et, fr, e, ?_⟩
      rw [← e2]; exact h
  · cases h
theorem opens {P : Program} : ∀ t : Ty, (∀ id, fitsM P t none id = true → openM P t none id = true → OpnV P t id) ∧ (∀ fl off, fitsM P t (some (fl, off)) 0 = true → openM P t (some fl) 0 = true → t.chain = true → OpnFsV P t fl off)
  | .int k => by
    refine ⟨fun id hf ho => ?_, fun fl off _ _ hc => by cases hc⟩
    intro H enc W base spare held fuel cs D ps hs h _
    obtain ⟨n, rfl, _, hw⟩ := DataW.trod_int (Zv4 hf) h
    exact ⟨n, rfl, hw⟩
  | .bool => by
    refine ⟨fun id hf ho => ?_, fun fl off _ _ hc => by cases hc⟩
    intro H enc W base spare held fuel cs D ps hs h _
    obtain ⟨b, rfl, _⟩ := DataW.trod_bool (Z4h hf) h
    exact ⟨b, rfl, trivial⟩
  | .str => by
    refine ⟨fun id hf ho => ?_, fun fl off _ _ hc => by cases hc⟩
    intro H enc W base spare held fuel cs D ps hs h hw
    obtain ⟨s, rfl, hx, _⟩ := DataW.trod_string (Zme hf) h
    obtain ⟨rfl, _⟩ := Prod.mk.inj hx
    refine ⟨s, rfl, ?_⟩
    have := List.all_eq_true.1 hw s.data.toList.length (by simp [DataW.weights])
    have h2 : s.data.toList.length ≤ reachBytes := by simpa using this
    rw [Array.length_toList] at h2
    exact h2
  | .any => ⟨fun id _ ho => (by simp only [openM] at ho; cases ho), fun fl off _ _ hc => (by cases hc)⟩
  | .arr _ _ => ⟨fun id _ ho => (by simp only [openM] at ho; cases ho), fun fl off _ _ hc => (by cases hc)⟩
  | .unit => by
    refine ⟨fun id hf _ => (by simp only [fitsM] at hf; cases hf), fun fl off hf ho hc => ?_⟩
    intro H enc W base spare held n cs xs hl hx hw
    exact ⟨(), by simp [RepS, Ty.size], trivial⟩
  | .pair ta tb => by
    have iha := opens (P := P) ta
    have ihb := opens (P := P) tb
    have h2 : ∀ fl off, fitsM P (.pair ta tb) (some (fl, off)) 0 = true → openM P (.pair ta tb) (some fl) 0 = true → tb.chain = true → OpnFsV P (.pair ta tb) fl off := by
      intro fl off hf ho hc
      intro H enc W base spare held n cs xs hl hx hw
      cases fl with
      | nil => simp only [fitsM] at hf; cases hf
      | cons f fl =>
        simp only [fitsM, Bool.and_eq_true, beq_iff_eq, decide_eq_true_eq] at hf
        obtain ⟨⟨⟨⟨f1, f2⟩, f3⟩, f4⟩, f5⟩ := hf
        simp only [openM, Bool.and_eq_true] at ho
        split at f4
        rotate_left
        · cases f4
        rename_i inf ei
        have f4 : inf.size = ta.size := by simpa using f4
        have hsz : P.cellsOf f.type = ta.size := by simp [Program.cellsOf, ei, f4]
        match xs, hl with
        | y :: ys, hl =>
          have h0 := hx 0 f rfl
          rw [f1, hsz] at h0
          simp only [List.map_cons, DataW.weightsEach, List.all_append, Bool.and_eq_true] at hw
          obtain ⟨x0, hk0, hA⟩ := iha.1 f.type f2 ho.1 enc W base spare held n _ y.1 y.2 hsz (by simpa using h0) hw.1
          obtain ⟨x1, hk1, hB⟩ := ihb.2 fl (off + ta.size) f5 ho.2 hc enc W base spare held n cs ys (by simpa using hl) (fun i g hg => by simpa using hx (i + 1) g (by simpa using hg)) hw.2
          refine ⟨(x0, x1), ⟨_, _, ?_, hk0, hk1⟩, hA, hB⟩
          show (cs.drop off).take (ta.size + tb.size) = _
          rw [List.take_add, List.drop_drop]
    refine ⟨fun id hf ho => ?_, fun fl off hf ho hc => h2 fl off hf ho hc⟩
    intro H enc W base spare held fuel cs D ps hs h hw
    obtain ⟨fs, f, l', e, el, hs'⟩ := Zuq hf
    simp only [openM, e, el, Bool.and_eq_true] at ho
    obtain ⟨⟨o1, oc⟩, o2⟩ := ho
    obtain ⟨xs, n, _, hx, hl, hlen, hff⟩ := DataW.trod_struct e h
    obtain ⟨rfl, _⟩ := Prod.mk.inj hx
    obtain ⟨y, hy, hB⟩ := h2 fs.toList 0 (by rw [el]; simpa only [fitsM] using hs') (by rw [el]; simp only [openM, Bool.and_eq_true]; exact ⟨o1, o2⟩) oc enc W base spare held n cs xs (by simpa using hlen) (fun i f hi => hff i f (by simpa using hi)) (by simpa [DataW.weights, e] using hw)
    refine ⟨y, ?_, hB⟩
    rwa [List.drop_zero, List.take_of_length_le (by omega)] at hy
  | .row b te => by
    have ih := opens (P := P) te
    refine ⟨fun id hf ho => ?_, fun fl off _ _ hc => by cases hc⟩
    obtain ⟨u, inf, q1, q2, q3, q4, q5, q6⟩ := Ziy hf
    simp only [openM, q1, Bool.and_eq_true, decide_eq_true_eq] at ho
    have hsz : P.cellsOf u = te.size := by simp [Program.cellsOf, q3, q4]
    intro H enc W base spare held fuel cs D ps hs h1 hw
    rcases Deep.open_slice q1 h1 with ⟨rfl, hx⟩ | ⟨a, len, cap, m, n, D', Pl, rfl, hba, hlc, hcm, hm, hx, hel⟩
    · exact ⟨([] : List te.den), ⟨none, 0, 0, rfl, rfl, Nat.le_refl _, .inl rfl⟩, Nat.zero_le _, fun x hx => by cases hx⟩
    · obtain ⟨rfl, _⟩ := Prod.mk.inj hx
      have hlm : len ≤ m := by rw [hm]; split <;> omega
      have hall : ∀ q ∈ (DataW.slice ((List.range len).map D') ((List.range (m - len)).map fun j => D' (len + j))).weights P id, q ≤ reachBytes := by
        intro q hq
        simpa using List.all_eq_true.1 hw q hq
      have hone : ∀ i, i < len → ∃ x : te.den, ∃ c, c.length = te.size ∧ RepS W (Lt W) te x c ∧ Bnd te x ∧ ∀ j u, c[j]? = some u → W.cell? (a.add (i * te.size + j)) = some u := by
        intro i hi
        obtain ⟨c, hc, htr⟩ := hel i (by omega)
        obtain ⟨x, hk, hB⟩ := ih.1 u q2 ho.2 enc W base spare held n c (D' i) (Pl i) hsz htr (by
          rw [List.all_eq_true]
          intro q hq
          have : q ∈ (DataW.slice ((List.range len).map D') ((List.range (m - len)).map fun j => D' (len + j))).weights P id := by
            simp only [DataW.weights, q1, List.mem_cons, List.mem_append]
            exact Or.inr (Or.inl (Zs3 (List.mem_map.2 ⟨i, List.mem_range.2 hi, rfl⟩) q hq))
          simpa using hall q this)
        have hcl := (World.cells?_some hc).2.1
        rw [hsz] at hcl
        refine ⟨x, c, hcl, hk, hB, fun j u hu => ?_⟩
        rw [hsz] at hc
        have hjl : j < te.size := by
          have := (List.getElem?_eq_some_iff.1 hu).1
          rwa [hcl] at this
        have z := (World.cells?_some hc).2.2 j hjl
        rw [Deep.add_add] at z
        rw [z]
        exact hu
      have hbound : len ≤ 140737488351232 := by
        have := hall ((((List.range len).map D').length + ((List.range (m - len)).map fun j => D' (len + j)).length) * P.bytesOf u) (by simp [DataW.weights, q1])
        simp only [List.length_map, List.length_range] at this
        have h3 : len * 1 ≤ (len + (m - len)) * P.bytesOf u := Nat.mul_le_mul (by omega) ho.1
        have h4 : reachBytes = 140737488351232 := by decide
        omega
      rcases Nat.eq_zero_or_pos len with h0 | h0
      · subst h0
        exact ⟨([] : List te.den), ⟨some a, 0, cap, rfl, rfl, Nat.zero_le _, .inl rfl⟩, Nat.zero_le _, fun x hx => by cases hx⟩
      obtain ⟨x0, c0, hc0, _, _, hcell0⟩ := hone 0 h0
      have hpos : 0 < c0.length := by omega
      have hz := hcell0 0 c0[0] (by simp [hpos])
      obtain ⟨sp, cells, et, fr, hblk, _⟩ := Zajx hz
      have hsp : a.spot = none := by simpa [Addr.add] using sp
      obtain ⟨xs, vs, p1, p2, p3, p4, p5⟩ := Z4a (R := RepS W (Lt W) te) (B := Bnd te) (n := te.size) (off := a.off) (cells := cells) len 0 (fun i _ hi => by
        obtain ⟨x, c, r1, r2, r3, r4⟩ := hone i (by omega)
        refine ⟨x, c, r1, r2, r3, fun j u hu => ?_⟩
        obtain ⟨_, cells', et', fr', e1, e2⟩ := Zajx (r4 j u hu)
        rw [hblk] at e1
        cases e1
        rw [← Nat.add_assoc] at e2
        exact e2)
      refine ⟨xs, ⟨some a, len, cap, rfl, p1.symm, hlc, .inr ⟨a, vs, rfl, hsp, ?_, ⟨cells, et, fr, hblk, ?_, fun i v hv => ?_⟩, p3⟩⟩, by rw [p1]; exact hbound, p5⟩
      · exact (Array.getElem?_eq_some_iff.1 hblk).1
      · have hlv : 0 < vs.length := by rw [p2]; exact Nat.mul_pos h0 q6
        have := p4 (vs.length - 1) (vs[vs.length - 1]'(by omega)) (by simp [List.getElem?_eq_getElem (show vs.length - 1 < vs.length by omega)])
        have := (Array.getElem?_eq_some_iff.1 this).1
        omega
      · have := p4 i v hv
        simpa using this
section
variable {H : Type} {enc : TypeId × Value → H} {P : Program} {W : World} {base : Nat} {spare : Nat → Bool} {held : Bool} {ts : List TypeId} {ds : List (DataW H)}
theorem Zafq {t : Ty} {id : TypeId} {r : Reach} {b : Nat} (hf : (fits P t id && openM P t none id) = true) {v : Value} {D : DataW H} {ps : List MemPlace} {j : Nat}
    (hsz : (DataW.weightsEach P ts ds).all (· ≤ reachBytes) = true) (ht : ts[j]? = some id) (hd : ds[j]? = some D) (hok : Value.okWide P W r b id v) (h : DataW.Trod enc P W base spare held id v D ps) : ∃ x : t.den, ValOf t v v.cells.toList ∧ RepS W (Lt W) t x v.cells.toList ∧ Bnd t x := by
  obtain ⟨fuel, h⟩ := h
  simp only [Bool.and_eq_true] at hf
  have hc : P.cellsOf id = t.size := by
    have := hf.1
    simp only [fits, Bool.and_eq_true] at this
    have := this.2
    split at this
    · rename_i i e
      simp only [Bool.and_eq_true, beq_iff_eq] at this
      simp [Program.cellsOf, e, this.1]
    · cases this
  have hM := Zg0 hf.1
  obtain ⟨x, h1, h2⟩ := (opens t).1 id hM hf.2 enc W base spare held fuel _ D ps hc h (by
    rw [List.all_eq_true]
    intro q hq
    exact List.all_eq_true.1 hsz q (DataW.weights_mem_each ht hd q hq))
  refine ⟨x, ?_, h1, h2⟩
  cases t with
  | int k => obtain ⟨n, rfl⟩ := okWide_int (Zv4 hM) hok; exact ⟨fun q => (by cases q), fun _ => rfl⟩
  | bool => obtain ⟨n, rfl⟩ := okWide_bool (Z4h hM) hok; exact ⟨fun q => (by cases q), fun _ => rfl⟩
  | str => obtain ⟨n, rfl⟩ := okWide_string (Zme hM) hok; exact ⟨fun q => (by cases q), fun _ => rfl⟩
  | row o e =>
    obtain ⟨u, i, q1, _⟩ := Ziy hM
    obtain ⟨a', l', c', rfl⟩ := okWide_slice q1 hok
    exact ⟨fun q => (by cases q), fun _ => rfl⟩
  | pair ta tb =>
    obtain ⟨fs, f, l', e, el, hs'⟩ := Zuq hM
    simp only [Value.okWide, e] at hok
    obtain ⟨c, rfl, _⟩ := hok
    exact ⟨fun _ => by simp [Value.cells], fun q => by cases q⟩
  | unit => simp only [fitsM] at hM; cases hM
  | any => simp [openM] at hf
  | arr n e => simp [openM] at hf
end
theorem Zahf {H : Type} {enc : TypeId × Value → H} {P : Program} {W : World} {base : Nat} {spare : Nat → Bool} {held : Bool} {t : TypeId} {v : Value} {D : DataW H} {ps : List MemPlace} (h : DataW.Trod enc P W base spare held t v D ps) : ∀ x ∈ ps, x.block < W.heap.size := by
  obtain ⟨m, hm⟩ := h
  exact DataW.trod_lt m _ _ _ hm
theorem law_calls {P : Program} {f : Nat} {ms : List Mode} {g : (Zkk ms).den → Option ((Zdc ms).den × (Ty.pair .bool .unit).den)} (hK : Known P f ⟨ms, [.bool], .pair .bool .unit, g⟩) {W : World} {x : (Zkk ms).den} {vals : Array Value} {o : (Zdc ms).den} {b : Bool}
    (hA : Zs2 W (Lt W) ms x vals.toList (fun _ => False) []) (hg : g x = some (o, (b, ()))) : Calls P f vals W (fun e W' => e = .returned (.bool b) ∧ Below W.heap.size W W') := by
  have := hK.2 W (Lt W) (fun _ => False) [] x vals.toList (o, (b, ())) hA (fun k h => h.elim) (fun k h => h.elim (fun h => h) (fun h => h.elim)) (fun v h => by cases h) hg
  rw [Array.toArray_toList] at this
  refine this.mono fun e W' he => ?_
  obtain ⟨v, rfl, hk, vs, us, I', O1, O2, hv, hb⟩ := he
  refine ⟨?_, hk.os, hk.tape, hk.output, hk.size, fun k hk' => hk.same k hk' (fun h => h) (fun i h => ?_)⟩
  · obtain ⟨v', vs', u1, u2, e1, e2, e3, e4, e5, e6⟩ := hb.res
    obtain ⟨w1, w2, F1, F2, r1, _, _, _, r2, r3⟩ := hb.val
    subst e1; subst e5; subst e6
    have r2 : w1 = [.bool b] := r2
    have r3 : w2 = [] := r3
    subst r2; subst r3
    rw [e2] at r1
    simp only [List.append_nil] at r1
    have := e3.2 rfl
    rw [hv]
    simp only [oneOf]
    rw [r1] at this
    rw [← (List.cons.inj this).1]
  · obtain ⟨u, q, _⟩ := h
    cases q
end Go.Proofs.YtcpecilmkkmaiaaGreat.V
namespace Go.Proofs.YtcpecilmkkmaiaaGreat.V
open Go Go.RowKit
theorem Keeps.of_below {w w' : World} (h : Below w.heap.size w w') (own : Zd) (rng : Nat → Nat → Prop) : Keeps w own rng w' :=
  ⟨h.os, h.tape, h.output, h.size, fun k hk _ _ => h.block k hk, fun k hk _ cs et fr e => ⟨cs, by rw [h.block k hk]; exact e, rfl, fun _ _ => rfl⟩⟩
theorem Z3t {P : Program} {f : Nat} {ms : List Mode} {res : List Ty} {rt : Ty} {g : (Zkk ms).den → Option ((Zdc ms).den × rt.den)} (hE : Zq1 P f)
    (hm : ∀ (w : World) (I : Zd) (o : (Zdc ms).den) (V : List (Nat × Nat × Nat)) (vals : List Value), Zo7 w I ms o V vals (fun _ => False))
    (h : ∀ (w : World) (I O : Zd) (V : List (Nat × Nat × Nat)) (x : (Zkk ms).den) (vals : List Value) (r : (Zdc ms).den × rt.den), Zs2 w I ms x vals O V → g x = some r →
      Calls P f vals.toArray w (fun e w' => ∃ vs us, e = .returned (oneOf vs) ∧ Below w.heap.size w w' ∧ ResV res vs us ∧ RepO w' I rt r.2 none us (fun _ => False))) : Known P f ⟨ms, res, rt, g⟩ := by
  refine ⟨hE, ?_⟩
  intro w I OW V x vals r hA hd hlt hV hx
  refine (h w I OW V x vals r hA hx).mono fun e w' he => ?_
  obtain ⟨vs, us, rfl, hb, h1, h2⟩ := he
  refine ⟨_, rfl, Keeps.of_below hb _ _, vs, us, I, fun _ => False, fun _ => False, rfl, ?_⟩
  exact {
    I2 := fun k hk => .inl hk
    O := fun k hk => by rcases hk with hk | hk <;> exact hk.elim
    lt := fun k hk => by
      rcases hk with hk | hk | hk
      · exact Nat.lt_of_lt_of_le (hlt k (.inl hk)) hb.size
      · exact hk.elim
      · exact hk.elim
    d1 := fun k hk => hk.elim
    d2 := fun k hk => hk.elim
    d3 := fun k hk => hk.elim
    dV := fun u hu => ⟨(hV u hu).1, fun h => h, fun h => h⟩
    res := h1
    val := h2
    outs := hm _ _ _ _ _ }
theorem Zih {P : Program} {f : Nat} {fn : Func} (hf : P.funcs[f]? = some fn) (h1 : (fn.body.isSome && !(fn.name == "runtime.NumGoroutine")) = true) : Zq1 P f := by
  simp only [Bool.and_eq_true, Bool.not_eq_true'] at h1
  obtain ⟨hb, hn⟩ := h1
  obtain ⟨body, hb⟩ := Option.isSome_iff_exists.1 hb
  exact ⟨fn, hf, by simp [hb], hn⟩
def Z9l (x : ByteArray × Int × Unit) : Option (Unit × (ByteArray × Unit)) :=
  if 0 ≤ x.2.1 ∧ x.2.1 ≤ 9223372036854775807 ∧ (x.1.size : Int) * x.2.1 ≤ 140737488355328 then some ((), ⟨(Lib.repeatL x.1.data.toList x.2.1.toNat).toArray⟩, ()) else none
theorem Zadg {P : Program} {f : Nat} (hE : Zq1 P f) (h : ∀ (s : ByteArray) (c : Nat) (w : World), c ≤ 9223372036854775807 → s.size * c ≤ 140737488355328 →
    Calls P f #[.string s, .int .i64 c] w fun e w' => e = .returned (.string ⟨(Lib.repeatL s.data.toList c).toArray⟩) ∧ Below w.heap.size w w') :
    Known P f ⟨[.val .str, .val (.int .i64)], [.str], .pair .str .unit, Z9l⟩ := by
  refine Z3t hE (fun w I o V vals => trivial) ?_
  intro w I O V x vals r hA hx
  obtain ⟨v0, u0, l0, rfl, q0, r0, v1, u1, l1, rfl, q1, r1, rfl, _⟩ := hA
  have r0 : u0 = [.string x.1] := r0
  have r1 : u1 = [.int .i64 x.2.1] := r1
  subst r0; subst r1
  obtain rfl := (List.cons.inj (q0.2 rfl)).1
  obtain rfl := (List.cons.inj (q1.2 rfl)).1
  unfold Z9l at hx
  split at hx
  rotate_left
  · cases hx
  rename_i hc
  obtain ⟨h0, h1, h2⟩ := hc
  obtain ⟨c, hc⟩ := Int.eq_ofNat_of_zero_le h0
  rw [hc] at h1 h2 hx ⊢
  have h4 : ((x.1.size * c : Nat) : Int) ≤ 140737488355328 := by
    rw [Int.natCast_mul]
    exact h2
  cases hx
  refine (h x.1 c w (by omega) (by omega)).mono fun e w' he => ?_
  obtain ⟨rfl, hb⟩ := he
  exact ⟨[_], [_], rfl, hb, ⟨_, [], [_], [], rfl, rfl, ⟨fun q => (by cases q), fun _ => rfl⟩, rfl, rfl, rfl⟩, [_], [], fun _ => False, fun _ => False, rfl, fun _ h => h, fun _ h => h, fun _ h => h.elim, rfl, rfl⟩
open Classical in
def mulF (x : Int × Int × Unit) : Option (Unit × (Int × Int × Unit)) :=
  if (0 ≤ x.1 ∧ x.1 < 18446744073709551616) ∧ (0 ≤ x.2.1 ∧ x.2.1 < 18446744073709551616) then some ((), ((x.1.toNat * x.2.1.toNat / 18446744073709551616 : Nat) : Int), ((x.1.toNat * x.2.1.toNat % 18446744073709551616 : Nat) : Int), ()) else none
theorem known_mul {P : Program} {f : Nat} (hE : Zq1 P f) (h : ∀ (x y : Nat) (w : World), x < 18446744073709551616 → y < 18446744073709551616 →
    Calls P f #[.int .u64 x, .int .u64 y] w fun e w' => e = .returned (.tuple #[.int .u64 ((x * y / 18446744073709551616 : Nat) : Int), .int .u64 ((x * y % 18446744073709551616 : Nat) : Int)]) ∧ w' = w) :
    Known P f ⟨[.val (.int .u64), .val (.int .u64)], [.int .u64, .int .u64], .pair (.int .u64) (.pair (.int .u64) .unit), mulF⟩ := by
  refine Z3t hE (fun w I o V vals => trivial) ?_
  intro w I O V x vals r hA hx
  obtain ⟨v0, u0, l0, rfl, q0, r0, v1, u1, l1, rfl, q1, r1, rfl, _⟩ := hA
  have r0 : u0 = [.int .u64 x.1] := r0
  have r1 : u1 = [.int .u64 x.2.1] := r1
  subst r0; subst r1
  obtain rfl := (List.cons.inj (q0.2 rfl)).1
  obtain rfl := (List.cons.inj (q1.2 rfl)).1
  unfold mulF at hx
  split at hx
  rotate_left
  · cases hx
  rename_i hc
  obtain ⟨⟨h0, h1⟩, h2, h3⟩ := hc
  obtain ⟨n, hn⟩ := Int.eq_ofNat_of_zero_le h0
  obtain ⟨m, hm⟩ := Int.eq_ofNat_of_zero_le h2
  rw [hn] at h1 hx ⊢
  rw [hm] at h3 hx ⊢
  rw [Int.toNat_natCast, Int.toNat_natCast] at hx
  cases hx
  refine (h n m w (by omega) (by omega)).mono fun e w' he => ?_
  obtain ⟨rfl, rfl⟩ := he
  refine ⟨[_, _], [_, _], rfl, Below.refl _ _, ⟨_, [_], [_], [_], rfl, rfl, ⟨fun q => (by cases q), fun _ => rfl⟩, rfl, _, [], [_], [], rfl, rfl, ⟨fun q => (by cases q), fun _ => rfl⟩, rfl, rfl, rfl⟩, ?_⟩
  exact ⟨[_], [_], fun _ => False, fun _ => False, rfl, fun _ h => h, fun _ h => h, fun _ h => h.elim, rfl, [_], [], fun _ => False, fun _ => False, rfl, fun _ h => h, fun _ h => h, fun _ h => h.elim, rfl, rfl⟩
theorem mul_ex : ∃ g : Int × Int × Unit → Option (Unit × (Int × Int × Unit)), g = mulF := ⟨_, rfl⟩
def mulG : Int × Int × Unit → Option (Unit × (Int × Int × Unit)) := Classical.choose mul_ex
theorem mulG_eq : mulG = mulF := Classical.choose_spec mul_ex
theorem known_mulG {P : Program} {f : Nat} (hE : Zq1 P f) (h : ∀ (x y : Nat) (w : World), x < 18446744073709551616 → y < 18446744073709551616 →
    Calls P f #[.int .u64 x, .int .u64 y] w fun e w' => e = .returned (.tuple #[.int .u64 ((x * y / 18446744073709551616 : Nat) : Int), .int .u64 ((x * y % 18446744073709551616 : Nat) : Int)]) ∧ w' = w) :
    Known P f ⟨[.val (.int .u64), .val (.int .u64)], [.int .u64, .int .u64], .pair (.int .u64) (.pair (.int .u64) .unit), mulG⟩ := by
  rw [mulG_eq]; exact known_mul hE h
end Go.Proofs.YtcpecilmkkmaiaaGreat.V
namespace Go.Proofs.YtcpecilmkkmaiaaGreat.V
open Go Go.RowKit
theorem Zdx {α β : Type} (x : α) (f : α → Option β) : obind (some x) f = f x := rfl
theorem Zn {α : Type} {c : Prop} [Decidable c] (h : c) (a b : Option α) : chk c a b = a := if_pos h
theorem Zpb {α : Type} {c : Prop} [Decidable c] (h : ¬ c) (a b : Option α) : chk c a b = b := if_neg h
theorem tb_t {α : Type} (x y : Option α) : tb true x y = x := rfl
theorem tb_f {α : Type} (x y : Option α) : tb false x y = y := rfl
theorem tb_nt {α : Type} (x y : Option α) : tb (bnot true) x y = y := rfl
theorem tb_nf {α : Type} (x y : Option α) : tb (bnot false) x y = x := rfl
theorem Zac {α : Type} {b : Bool} (h : b = true) (x y : Option α) : tb b x y = x := by rw [h]; rfl
theorem Zak {α : Type} {b : Bool} (h : b = false) (x y : Option α) : tb b x y = y := by rw [h]; rfl
theorem Za {α β : Type} {x : Option α} {y : α} (h : x = some y) (f : α → Option β) : obind x f = f y := by rw [h]; rfl
theorem wr64 {n : Int} (h1 : -9223372036854775808 ≤ n) (h2 : n < 9223372036854775808) : wr .i64 n = n := by
  show wrap64 n = n
  unfold wrap64; omega
theorem wr8 {n : Int} (h1 : 0 ≤ n) (h2 : n < 256) : wr .u8 n = n := by
  show n % 256 = n
  omega
theorem ilt_t {a b : Int} (h : a < b) : ilt a b = true := by simpa [ilt] using h
theorem ilt_f {a b : Int} (h : b ≤ a) : ilt a b = false := by simpa [ilt] using h
theorem ile_t {a b : Int} (h : a ≤ b) : ile a b = true := by simpa [ile] using h
theorem ile_f {a b : Int} (h : b < a) : ile a b = false := by simpa [ile] using h
theorem ieq_t {a b : Int} (h : a = b) : ieq a b = true := by simpa [ieq] using h
theorem ieq_f {a b : Int} (h : a ≠ b) : ieq a b = false := by simpa [ieq] using h
theorem Zo4 (a : Int) : ieq a a = true := ieq_t rfl
theorem Zg8 (a : ByteArray) : seq a a = true := by simp [seq]
theorem Zaj3 (a : Bool) : beq a a = true := by simp [beq]
theorem Za8 {α : Type} {xs : List α} {i : Nat} {x : α} (h : xs[i]? = some x) : at? xs ((i : Int)).toNat = some x := by simpa [at?] using h
theorem Ze4 {i : Nat} (h : i < 4611686018427387904) : wr .i64 ((i : Int) + 1) = ((i + 1 : Nat) : Int) := by
  rw [wr64 (by omega) (by omega)]; rfl
structure Hid (p : Prop) : Prop where
  out : p
theorem wrn {x : Int} {n : Nat} (h : x = (n : Int)) (hn : n < 9223372036854775808) : wr .i64 x = (n : Int) := by subst h; exact wr64 (by omega) (by omega)
theorem mn_nat (a b : Nat) : mn (a : Int) (b : Int) = ((min a b : Nat) : Int) := by
  unfold mn
  by_cases h : (b : Int) < a
  · rw [if_pos h]; omega
  · rw [if_neg h]; omega
def sumL {α : Type} (w : α → Nat) : List α → Nat
  | [] => 0
  | x :: l => w x + sumL w l
def wL {α : Type} (w : α → Nat) (xs : List α) : Nat := xs.length + sumL w xs
def SzOk {α : Type} (e : α → Int → Option (Unit × (Int × Unit))) (B : α → Prop) (w : α → Nat) : Prop :=
  ∀ v s, B v → 0 ≤ s → s ≤ 1048576 → ∃ r, e v s = some ((), r, ()) ∧ (r < 0 ∨ (0 ≤ r ∧ r + w v = s))
def SzStep {α R : Type} (k : Nat → (((Int × Unit) × (Unit × Unit)) → Option R) → ((List α × Int × Int × Unit) × (Unit × Unit)) → Option R) (bad : Option R) (e : α → Int → Option (Unit × (Int × Unit))) : Prop :=
  ∀ n K x, k (n + 1) K x = tb (ilt x.1.2.2.1 (((llen x.1.1) : Nat) : Int)) (chk (0 ≤ x.1.2.2.1) (obind (at? x.1.1 (Int.toNat x.1.2.2.1)) fun v0 => obind (e v0 x.1.2.1) fun v1 => tb (ilt v1.2.1 0) bad (k n K ((x.1.1, v1.2.1, wr .i64 (x.1.2.2.1 + 1), ()), (), ()))) none) (K ((x.1.2.1, ()), (), ()))
theorem Zjh {α : Type} : ∀ (pre : List α) (x : α) (post : List α), (pre ++ x :: post)[pre.length]? = some x := fun pre x post => by simp
theorem sz_loop {α R : Type} {k : Nat → (((Int × Unit) × (Unit × Unit)) → Option R) → ((List α × Int × Int × Unit) × (Unit × Unit)) → Option R} {bad : Option R} {e : α → Int → Option (Unit × (Int × Unit))} {B : α → Prop} {w : α → Nat}
    (hk : SzStep k bad e) (he : SzOk e B w) (K) : ∀ (post pre : List α) (s : Int) (n : Nat), (∀ x ∈ post, B x) → 0 ≤ s → s ≤ 1048576 → (pre ++ post).length ≤ 140737488351232 → post.length < n →
      k n K ((pre ++ post, s, (pre.length : Int), ()), (), ()) = bad ∨ ∃ r, k n K ((pre ++ post, s, (pre.length : Int), ()), (), ()) = K ((r, ()), (), ()) ∧ 0 ≤ r ∧ r + sumL w post = s
  | [], pre, s, n, hB, h0, h1, hl, hn => by
    obtain ⟨m, rfl⟩ : ∃ m, n = m + 1 := ⟨n - 1, by simp at hn; omega⟩
    refine .inr ⟨s, ?_, h0, by simp [sumL]⟩
    rw [hk]
    simp only [List.append_nil] at hl ⊢
    rw [Zak (ilt_f (show ((llen pre : Nat) : Int) ≤ (pre.length : Int) from Int.le_refl _))]
  | x :: post, pre, s, n, hB, h0, h1, hl, hn => by
    obtain ⟨m, rfl⟩ : ∃ m, n = m + 1 := ⟨n - 1, by simp at hn; omega⟩
    have hl' : pre.length + (post.length + 1) ≤ 140737488351232 := by simpa using hl
    obtain ⟨r, e1, e2⟩ := he x s (hB x (List.mem_cons_self ..)) h0 h1
    have hs : k (m + 1) K ((pre ++ x :: post, s, (pre.length : Int), ()), (), ()) = tb (ilt r 0) bad (k m K (((pre ++ [x]) ++ post, r, ((pre ++ [x]).length : Int), ()), (), ())) := by
      rw [hk]
      simp only
      rw [Zac (ilt_t (by simp [llen]; omega)), Zn (by omega), Za (Za8 (Zjh pre x post)), Za e1, Ze4 (by omega)]
      simp
    rw [hs]
    rcases e2 with e2 | ⟨e2, e3⟩
    · exact .inl (Zac (ilt_t e2) _ _)
    · rw [Zak (ilt_f e2)]
      rcases sz_loop hk he K post (pre ++ [x]) r m (fun y hy => hB y (List.mem_cons_of_mem _ hy)) e2 (by omega) (by simpa using hl) (by simp at hn; omega) with h | ⟨r', h, h2, h3⟩
      · exact .inl h
      · exact .inr ⟨r', h, h2, by simp only [sumL]; omega⟩
def BL {α : Type} (B : α → Prop) (xs : List α) : Prop := xs.length ≤ 140737488351232 ∧ ∀ x ∈ xs, B x
theorem szS_ok {α : Type} {c : (List α × Int × Unit) → Option (Unit × (Int × Unit))} {k : Nat → (((Int × Unit) × (Unit × Unit)) → Option (Unit × (Int × Unit))) → ((List α × Int × Int × Unit) × (Unit × Unit)) → Option (Unit × (Int × Unit))} {e : α → Int → Option (Unit × (Int × Unit))} {B : α → Prop} {w : α → Nat} {N : Nat} (hN : 140737488351232 < N)
    (hc : ∀ xs s, c (xs, s, ()) = tb (ilt (wr .i64 (s - ((llen xs : Nat) : Int))) 0) (some ((), -1, ())) (k N (fun v0 => some ((), v0.1.1, ())) ((xs, wr .i64 (s - ((llen xs : Nat) : Int)), 0, ()), (), ())))
    (hk : SzStep k (some ((), -1, ())) e) (he : SzOk e B w) : SzOk (fun xs s => c (xs, s, ())) (BL B) (wL w) := by
  intro xs s hB h0 h1
  have hw : wr .i64 (s - ((llen xs : Nat) : Int)) = s - (xs.length : Int) := wr64 (by have := hB.1; simp only [llen]; omega) (by simp only [llen]; omega)
  simp only [hc, hw]
  by_cases hn : s - (xs.length : Int) < 0
  · exact ⟨-1, by rw [Zac (ilt_t hn)], .inl (by omega)⟩
  · rw [Zak (ilt_f (by omega))]
    rcases sz_loop hk he (fun v0 => some ((), v0.1.1, ())) xs [] (s - xs.length) N hB.2 (by omega) (by omega) (by simpa using hB.1) (by have := hB.1; omega) with h | ⟨r, h, h2, h3⟩
    · exact ⟨-1, h, .inl (by omega)⟩
    · exact ⟨r, h, .inr ⟨h2, by simp only [wL]; omega⟩⟩
theorem szStr_ok : SzOk (fun v s => some ((), wr .i64 (s - ((slen v : Nat) : Int)), ())) (fun v => ByteArray.size v ≤ 140737488351232) (fun v => ByteArray.size v) := by
  intro v s hB h0 h1
  have hw : wr .i64 (s - ((slen v : Nat) : Int)) = s - (v.size : Int) := wr64 (by simp only [slen]; omega) (by simp only [slen]; omega)
  refine ⟨_, rfl, ?_⟩
  rw [hw]
  simp only
  omega
def ToOk {α : Type} (e : α → Option (Unit × (α × Unit))) (B : α → Prop) : Prop := ∀ v, B v → e v = some ((), v, ())
def ToStep {α R : Type} (k : Nat → ((Unit × (Unit × (List α × Unit))) → Option R) → ((List α × Int × Unit) × (Unit × (List α × Unit))) → Option R) (e : α → Option (Unit × (α × Unit))) : Prop :=
  ∀ n K x, k (n + 1) K x = tb (ilt x.1.2.1 (((llen x.1.1) : Nat) : Int)) (chk (0 ≤ x.1.2.1) (obind (at? x.1.1 (Int.toNat x.1.2.1)) fun v0 => obind (e v0) fun v1 => chk ((0 ≤ x.1.2.1) ∧ (x.1.2.1 < (((llen x.2.2.1) : Nat) : Int))) (obind (at? x.2.2.1 (Int.toNat x.1.2.1)) fun _ => k n K ((x.1.1, wr .i64 (x.1.2.1 + 1), ()), (), lset x.2.2.1 (Int.toNat x.1.2.1) v1.2.1, ())) none) none) (K ((), (), x.2.2.1, ()))
theorem to_loop {α R : Type} {k : Nat → ((Unit × (Unit × (List α × Unit))) → Option R) → ((List α × Int × Unit) × (Unit × (List α × Unit))) → Option R} {e : α → Option (Unit × (α × Unit))} {B : α → Prop} (hk : ToStep k e) (he : ToOk e B) (K) :
    ∀ (post pre zs : List α) (n : Nat), (∀ x ∈ post, B x) → zs.length = post.length → (pre ++ post).length ≤ 140737488351232 → post.length < n → k n K ((pre ++ post, (pre.length : Int), ()), (), pre ++ zs, ()) = K ((), (), pre ++ post, ())
  | [], pre, zs, n, hB, hz, hl, hn => by
    obtain ⟨m, rfl⟩ : ∃ m, n = m + 1 := ⟨n - 1, by simp at hn; omega⟩
    obtain rfl : zs = [] := List.eq_nil_of_length_eq_zero hz
    rw [hk]
    simp only [List.append_nil] at hl ⊢
    rw [Zak (ilt_f (show ((llen pre : Nat) : Int) ≤ (pre.length : Int) from Int.le_refl _))]
  | x :: post, pre, z :: zs, n, hB, hz, hl, hn => by
    obtain ⟨m, rfl⟩ : ∃ m, n = m + 1 := ⟨n - 1, by simp at hn; omega⟩
    have hl' : pre.length + (post.length + 1) ≤ 140737488351232 := by simpa using hl
    have hz' : zs.length = post.length := by simpa using hz
    have hs : k (m + 1) K ((pre ++ x :: post, (pre.length : Int), ()), (), pre ++ z :: zs, ()) = k m K (((pre ++ [x]) ++ post, ((pre ++ [x]).length : Int), ()), (), (pre ++ [x]) ++ zs, ()) := by
      rw [hk]
      simp only
      rw [Zac (ilt_t (by simp [llen]; omega)), Zn (by omega), Za (Za8 (Zjh pre x post)), Za (he x (hB x (List.mem_cons_self ..))), Zn (by simp [llen]; omega), Za (Za8 (Zjh pre z zs)), Ze4 (by omega)]
      simp [lset]
    rw [hs, to_loop hk he K post (pre ++ [x]) zs m (fun y hy => hB y (List.mem_cons_of_mem _ hy)) hz' (by simpa using hl) (by simp at hn; omega)]
    simp
theorem toS_ok {α : Type} {c : (List α × Unit) → Option (Unit × (List α × Unit))} {k : Nat → ((Unit × (Unit × (List α × Unit))) → Option (Unit × (List α × Unit))) → ((List α × Int × Unit) × (Unit × (List α × Unit))) → Option (Unit × (List α × Unit))} {e : α → Option (Unit × (α × Unit))} {B : α → Prop} {N L : Nat} {z : α} (hN : 140737488351232 < N) (hL : 1048576 ≤ L)
    (hc : ∀ xs, c (xs, ()) = chk (0 ≤ ((llen xs : Nat) : Int) ∧ (((llen xs : Nat) : Int) ≤ ((llen xs : Nat) : Int) ∧ Int.toNat ((llen xs : Nat) : Int) ≤ L)) (k N (fun v0 => some ((), v0.2.2.1, ())) ((xs, 0, ()), (), lrep (Int.toNat ((llen xs : Nat) : Int)) z, ())) none)
    (hk : ToStep k e) (he : ToOk e B) : ToOk (fun xs => c (xs, ())) (fun xs => xs.length ≤ 1048576 ∧ ∀ x ∈ xs, B x) := by
  intro xs hB
  have h1 := hB.1
  simp only [hc]
  rw [Zn ⟨by omega, Int.le_refl _, by simp only [llen]; omega⟩]
  have := to_loop hk he (fun v0 => some ((), v0.2.2.1, ())) xs [] (lrep (Int.toNat ((llen xs : Nat) : Int)) z) N hB.2 (by simp [lrep, llen]) (by simp; omega) (by omega)
  simpa using this
def EqOk {α : Type} (e : α → α → Option (Unit × (Bool × Unit))) (B : α → Prop) : Prop := ∀ v, B v → e v v = some ((), true, ())
def EqStep {α R : Type} (k : Nat → ((Unit × (Unit × Unit)) → Option R) → ((List α × List α × Int × Unit) × (Unit × Unit)) → Option R) (bad : Option R) (e : α → α → Option (Unit × (Bool × Unit))) : Prop :=
  ∀ n K x, k (n + 1) K x = tb (ilt x.1.2.2.1 (((llen x.1.1) : Nat) : Int)) (chk (0 ≤ x.1.2.2.1) (obind (at? x.1.1 (Int.toNat x.1.2.2.1)) fun v0 => chk (0 ≤ x.1.2.2.1) (obind (at? x.1.2.1 (Int.toNat x.1.2.2.1)) fun v1 => obind (e v0 v1) fun v2 => tb (bnot v2.2.1) bad (k n K ((x.1.1, x.1.2.1, wr .i64 (x.1.2.2.1 + 1), ()), (), ()))) none) none) (K ((), (), ()))
theorem eq_loop {α R : Type} {k : Nat → ((Unit × (Unit × Unit)) → Option R) → ((List α × List α × Int × Unit) × (Unit × Unit)) → Option R} {bad : Option R} {e : α → α → Option (Unit × (Bool × Unit))} {B : α → Prop} (hk : EqStep k bad e) (he : EqOk e B) (K) :
    ∀ (post pre : List α) (n : Nat), (∀ x ∈ post, B x) → (pre ++ post).length ≤ 140737488351232 → post.length < n → k n K ((pre ++ post, pre ++ post, (pre.length : Int), ()), (), ()) = K ((), (), ())
  | [], pre, n, hB, hl, hn => by
    obtain ⟨m, rfl⟩ : ∃ m, n = m + 1 := ⟨n - 1, by simp at hn; omega⟩
    rw [hk]
    simp only [List.append_nil] at hl ⊢
    rw [Zak (ilt_f (show ((llen pre : Nat) : Int) ≤ (pre.length : Int) from Int.le_refl _))]
  | x :: post, pre, n, hB, hl, hn => by
    obtain ⟨m, rfl⟩ : ∃ m, n = m + 1 := ⟨n - 1, by simp at hn; omega⟩
    have hl' : pre.length + (post.length + 1) ≤ 140737488351232 := by simpa using hl
    have hs : k (m + 1) K ((pre ++ x :: post, pre ++ x :: post, (pre.length : Int), ()), (), ()) = k m K (((pre ++ [x]) ++ post, (pre ++ [x]) ++ post, ((pre ++ [x]).length : Int), ()), (), ()) := by
      rw [hk]
      simp only
      rw [Zac (ilt_t (by simp [llen]; omega)), Zn (by omega), Za (Za8 (Zjh pre x post)), Zn (by omega), Za (Za8 (Zjh pre x post)), Za (he x (hB x (List.mem_cons_self ..)))]
      dsimp only
      rw [Zak (show bnot true = false from rfl), Ze4 (by omega)]
      simp
    rw [hs, eq_loop hk he K post (pre ++ [x]) m (fun y hy => hB y (List.mem_cons_of_mem _ hy)) (by simpa using hl) (by simp at hn; omega)]
theorem Zagq {α : Type} {c : (List α × List α × Unit) → Option (Unit × (Bool × Unit))} {k : Nat → ((Unit × (Unit × Unit)) → Option (Unit × (Bool × Unit))) → ((List α × List α × Int × Unit) × (Unit × Unit)) → Option (Unit × (Bool × Unit))} {e : α → α → Option (Unit × (Bool × Unit))} {B : α → Prop} {N : Nat} (hN : 140737488351232 < N)
    (hc : ∀ xs ys, c (xs, ys, ()) = tb (bnot (ieq ((llen xs : Nat) : Int) ((llen ys : Nat) : Int))) (some ((), false, ())) (k N (fun _ => some ((), true, ())) ((xs, ys, 0, ()), (), ())))
    (hk : EqStep k (some ((), false, ())) e) (he : EqOk e B) : EqOk (fun xs ys => c (xs, ys, ())) (BL B) := by
  intro xs hB
  have h1 := hB.1
  simp only [hc]
  rw [Zo4, Zak (show bnot true = false from rfl)]
  have := eq_loop hk he (fun _ => some ((), true, ())) xs [] N hB.2 (by simpa using h1) (by omega)
  simpa using this
theorem eqStr_ok : EqOk (fun v u => some ((), seq v u, ())) (fun _ => True) := fun v _ => by simp only [Zg8]
def Zs0 {α R : Type} (k : Nat → (((Int × Unit) × (Unit × (List α × Unit))) → Option R) → ((Int × Int × Unit) × (Unit × (List α × Unit))) → Option R) (f : α → Int → α × Int) (B : α → Prop) (w : α → Nat) : Prop :=
  (∀ n K (m : Int) (i : Nat) (xs : List α), xs.length ≤ i → k (n + 1) K ((m, (i : Int), ()), (), xs, ()) = K ((m, ()), (), xs, ())) ∧
  ∀ n K (m : Int) (i : Nat) xs x, xs[i]? = some x → xs.length ≤ 140737488351232 → B x → 0 ≤ m → m + w x ≤ 1099511627776 → k (n + 1) K ((m, (i : Int), ()), (), xs, ()) = k n K (((f x m).2, ((i + 1 : Nat) : Int), ()), (), xs.set i (f x m).1, ())
def Zan {α : Type} (f : α → Int → α × Int) : List α → Int → List α × Int
  | [], m => ([], m)
  | x :: l, m => ((f x m).1 :: (Zan f l (f x m).2).1, (Zan f l (f x m).2).2)
theorem Zwf {α : Type} (f : α → Int → α × Int) : ∀ (l : List α) (m : Int), (Zan f l m).1.length = l.length
  | [], _ => rfl
  | x :: l, m => by simp [Zan, Zwf f l]
theorem Zn0 {α R : Type} {k : Nat → (((Int × Unit) × (Unit × (List α × Unit))) → Option R) → ((Int × Int × Unit) × (Unit × (List α × Unit))) → Option R} {f : α → Int → α × Int} {B : α → Prop} {w : α → Nat} (hk : Zs0 k f B w)
    (hf : ∀ x (m : Int), B x → 0 ≤ m → m + w x ≤ 1099511627776 → m ≤ (f x m).2 ∧ (f x m).2 ≤ m + w x) (K) :
    ∀ (post pre : List α) (m : Int) (n : Nat), (∀ x ∈ post, B x) → 0 ≤ m → m + sumL w post ≤ 1099511627776 → (pre ++ post).length ≤ 140737488351232 → post.length < n →
      k n K ((m, (pre.length : Int), ()), (), pre ++ post, ()) = K (((Zan f post m).2, ()), (), pre ++ (Zan f post m).1, ())
  | [], pre, m, n, hB, h0, h1, hl, hn => by
    obtain ⟨n, rfl⟩ : ∃ m, n = m + 1 := ⟨n - 1, by simp at hn; omega⟩
    simp only [List.append_nil, Zan]
    exact hk.1 n K m _ pre (Nat.le_refl _)
  | x :: post, pre, m, n, hB, h0, h1, hl, hn => by
    obtain ⟨n, rfl⟩ : ∃ m, n = m + 1 := ⟨n - 1, by simp at hn; omega⟩
    simp only [sumL] at h1
    have hbx := hB x (List.mem_cons_self ..)
    obtain ⟨q1, q2⟩ := hf x m hbx h0 (by omega)
    rw [hk.2 n K m pre.length (pre ++ x :: post) x (Zjh pre x post) hl hbx h0 (by omega)]
    have e1 : (pre ++ x :: post).set pre.length (f x m).1 = (pre ++ [(f x m).1]) ++ post := by simp
    have e2 : ((pre.length + 1 : Nat) : Int) = ((pre ++ [(f x m).1]).length : Int) := by simp
    rw [e1, e2, Zn0 hk hf K post (pre ++ [(f x m).1]) (f x m).2 n (fun y hy => hB y (List.mem_cons_of_mem _ hy)) (by omega) (by omega) (by simpa using hl) (by simp at hn; omega)]
    simp [Zan]
theorem Znz {α : Type} {f : α → Int → α × Int} {B : α → Prop} {w : α → Nat} (hf : ∀ x (m : Int), B x → 0 ≤ m → m + w x ≤ 1099511627776 → m ≤ (f x m).2 ∧ (f x m).2 ≤ m + w x) :
    ∀ (l : List α) (m : Int), (∀ x ∈ l, B x) → 0 ≤ m → m + sumL w l ≤ 1099511627776 → m ≤ (Zan f l m).2 ∧ (Zan f l m).2 ≤ m + sumL w l
  | [], m, _, _, _ => by simp [Zan, sumL]
  | x :: l, m, hB, h0, h1 => by
    simp only [sumL, Zan] at h1 ⊢
    obtain ⟨q1, q2⟩ := hf x m (hB x (List.mem_cons_self ..)) h0 (by omega)
    obtain ⟨q3, q4⟩ := Znz hf l (f x m).2 (fun y hy => hB y (List.mem_cons_of_mem _ hy)) (by omega) (by omega)
    omega
def Z8d {α R : Type} (k : Nat → (((Int × Unit) × (Unit × Unit)) → Option R) → ((List α × Int × Int × Unit) × (Unit × Unit)) → Option R) (f : α → Int → α × Int) (B : α → Prop) (w : α → Nat) : Prop :=
  (∀ n K (m : Int) (i : Nat) (xs : List α), xs.length ≤ i → k (n + 1) K ((xs, m, (i : Int), ()), (), ()) = K ((m, ()), (), ())) ∧
  ∀ n K (m : Int) (i : Nat) xs x, xs[i]? = some (f x m).1 → xs.length ≤ 140737488351232 → B x → 0 ≤ m → m + w x ≤ 1099511627776 → k (n + 1) K ((xs, m, (i : Int), ()), (), ()) = k n K ((xs, (f x m).2, ((i + 1 : Nat) : Int), ()), (), ())
theorem Zxt {α R : Type} {k : Nat → (((Int × Unit) × (Unit × Unit)) → Option R) → ((List α × Int × Int × Unit) × (Unit × Unit)) → Option R} {f : α → Int → α × Int} {B : α → Prop} {w : α → Nat} (hk : Z8d k f B w)
    (hf : ∀ x (m : Int), B x → 0 ≤ m → m + w x ≤ 1099511627776 → m ≤ (f x m).2 ∧ (f x m).2 ≤ m + w x) (K) :
    ∀ (post pre : List α) (m : Int) (n : Nat), (∀ x ∈ post, B x) → 0 ≤ m → m + sumL w post ≤ 1099511627776 → (pre ++ post).length ≤ 140737488351232 → post.length < n →
      k n K ((pre ++ (Zan f post m).1, m, (pre.length : Int), ()), (), ()) = K (((Zan f post m).2, ()), (), ())
  | [], pre, m, n, hB, h0, h1, hl, hn => by
    obtain ⟨n, rfl⟩ : ∃ m, n = m + 1 := ⟨n - 1, by simp at hn; omega⟩
    simp only [List.append_nil, Zan]
    exact hk.1 n K m _ pre (Nat.le_refl _)
  | x :: post, pre, m, n, hB, h0, h1, hl, hn => by
    obtain ⟨n, rfl⟩ : ∃ m, n = m + 1 := ⟨n - 1, by simp at hn; omega⟩
    simp only [sumL] at h1
    have hbx := hB x (List.mem_cons_self ..)
    obtain ⟨q1, q2⟩ := hf x m hbx h0 (by omega)
    simp only [Zan]
    rw [hk.2 n K m pre.length _ x (Zjh pre _ _) (by simp [Zwf]; simpa using hl) hbx h0 (by omega)]
    have e1 : pre ++ (f x m).1 :: (Zan f post (f x m).2).1 = (pre ++ [(f x m).1]) ++ (Zan f post (f x m).2).1 := by simp
    have e2 : ((pre.length + 1 : Nat) : Int) = ((pre ++ [(f x m).1]).length : Int) := by simp
    rw [e1, e2]
    exact Zxt hk hf K post (pre ++ [(f x m).1]) (f x m).2 n (fun y hy => hB y (List.mem_cons_of_mem _ hy)) (by omega) (by omega) (by simpa using hl) (by simp at hn; omega)
end Go.Proofs.YtcpecilmkkmaiaaGreat.V
